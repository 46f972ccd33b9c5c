/- Parts of one proof, merged: XJO XJQ XJR XAV XJS XTb XHb. -/
import Derived.Test.YtckbnjipecclaaaGreatDoorNQ
import Derived.Test.YtckbnjipecclaaaGreatDoorNM
import Derived.Test.YtckbnjipecclaaaGreatDoorNA
import Derived.Deep.Slices
import Derived.OpenShut
import Derived.SizedLaws
import Derived.Test.YtckbnjipecclaaaGreatDoorNI
import Derived.Test.YtckbnjipecclaaaGreatDoorNG
import Derived.Test.YtckbnjipecclaaaGreatDoorRows
import Derived.LaidMore
import Derived.Stop.LaidErr
import Derived.MakeChecks
import Derived.Lib.LaidTab
import Derived.Lib.LaidU8T
import Derived.PinnedBridge
import Derived.Handed
set_option linter.all false
set_option maxHeartbeats 12800000
set_option maxRecDepth 10000
set_option linter.unusedVariables false
set_option linter.unusedSimpArgs false
set_option linter.unnecessarySimpa false
namespace Go.Proofs.YtckbnjipecclaaaGreatDoor
open Go.RowKit
theorem lives_any {w : World} (ht : Tabs w) (hks : KsAt w) (hm : MaxW w) : Calls Tryz.prog 7 #[] w fun e w' => e = .returned (.bool true) ∧ Kept [] w w' := by
 have Mq : Hid ((keyIdS key7).size = 64) := qI (idS_size key7_may)
 have CKI : Hid (∀ w1, Kept [] w w1 → Calls Tryz.prog 14 #[.agg (keyA key7)] w1 fun e w' => e = .returned (.string (keyIdS key7)) ∧ Kept [] w1 w') := qI (fun w1 hk => keyId_any key7 (may_wf key7_may).1 key7_len w1 (ht.kept0 hk) (hks.kept0 hk))
 have CKV : Hid (∀ w1, Calls Tryz.prog 8 #[.agg (keyA key7)] w1 fun e w' => New 3 w1 w' e (keyV key7) ∧ Kept [] w1 w') := qI (fun w1 => (keyValue_any key7 (may_wf key7_may).1 key7_len w1).mono fun e w' ⟨h1, h2⟩ => ⟨by unfold KeyAns at h1; rw [if_pos key7_may] at h1; exact h1, h2⟩)
 have CRK : Hid (∀ w1 cs1, Rep 3 (fun _ => True) w1 cs1 (keyV key7) → Calls Tryz.prog 9 #[.agg cs1.toArray] w1 fun e w' => e = .returned (.tuple #[.agg (keyA key7), .int .i64 0]) ∧ Kept [] w1 w') := qI (fun w1 cs1 h1 => (readKey_any (n := 1) h1 (small_key key7 key7_len)).mono fun e w' ⟨h2, h3⟩ => ⟨by rw [readKey_keyV key7_may key7_len] at h2; exact h2, h3⟩)
 have CSV : Hid (∀ w1 g o c, Kept [] w w1 → w1.rangeAt g o (rowL (keyIdS key7) key7) → Calls Tryz.prog 32 #[.slice (some ⟨g, o, none⟩) 1 c] w1 fun e w' => New 4 w1 w' e (rowsV (keyIdS key7) (keyV key7)) ∧ Kept [] w1 w') := qI (fun w1 g o c hk h => keysValue1_any h key7_may key7_len (ht.kept0 hk) (hks.kept0 hk))
 have CRS : Hid (∀ w1 cs1, Kept [] w w1 → Rep 4 (fun _ => True) w1 cs1 (rowsV (keyIdS key7) (keyV key7)) → Calls Tryz.prog 33 #[.agg cs1.toArray] w1 fun e w' => (∃ g o c, e = .returned (.tuple #[.slice (some ⟨g, o, none⟩) 1 c, .int .i64 0]) ∧ w'.rangeAt g o (rowL (keyIdS key7) key7)) ∧ Kept [] w1 w') := qI (fun w1 cs1 hk h => readKeys1_any h key7_may key7_len (ht.kept0 hk) (hks.kept0 hk))
 have CMK : Hid (∀ w1 g o c, Kept [] w w1 → w1.rangeAt g o (rowL (keyIdS key7) key7) → Calls Tryz.prog 38 #[.slice (some ⟨g, o, none⟩) 1 c] w1 fun e w' => e = .returned (.bool true) ∧ Kept [] w1 w') := qI (fun w1 g o c hk h => mayKeys1_any h key7_may key7_len (ht.kept0 hk) (hks.kept0 hk))
 have Gx : Hid (mayRole (oneRole (keyIdS key7)) = true) := qI (may_oneRole (isId_key key7_may))
 have Gp : ∀ k, k ∈ (oneRole (keyIdS key7)).keys → k.size ≤ 140737488355328 := fun k hk => by
  obtain rfl : k = keyIdS key7 := by simpa [oneRole] using hk
  rw [Mq.o]; decide
 have CRV : Hid (∀ w1 a c, Texts w1 (.slice a 1 c) [keyIdS key7] → Calls Tryz.prog 16 #[.agg #[.slice a 1 c, .int .i64 1]] w1 fun e w' => New 3 w1 w' e (roleV (oneRole (keyIdS key7))) ∧ Kept [] w1 w') := qI (fun w1 a c h => (roleValue_any (r := oneRole (keyIdS key7)) h Gp (by decide : 1 ≤ 1000000000000)).mono fun e w' ⟨h1, h2⟩ => ⟨by unfold RoleAns at h1; rw [if_pos Gx.o] at h1; exact h1, h2⟩)
 have CRR : Hid (∀ w1 cs1, Rep 3 (fun _ => True) w1 cs1 (roleV (oneRole (keyIdS key7))) → Calls Tryz.prog 17 #[.agg cs1.toArray] w1 fun e w' => (∃ a c, e = .returned (.tuple #[.agg #[.slice a 1 c, .int .i64 1], .int .i64 0]) ∧ Texts w' (.slice a 1 c) [keyIdS key7]) ∧ Kept [] w1 w') := qI (fun w1 cs1 h1 => (readRole_any (n := 1) h1 (small_role Gx.o)).mono fun e w' ⟨h2, h3⟩ => ⟨by rw [readRole_roleV Gx.o] at h2; exact h2, h3⟩)
 have CMR : Hid (∀ w1 a c, Texts w1 (.slice a 1 c) [keyIdS key7] → Calls Tryz.prog 19 #[.agg #[.slice a 1 c, .int .i64 1]] w1 fun e w' => e = .returned (.bool true) ∧ Kept [] w1 w') := qI (fun w1 a c h => (mayRole_any (r := oneRole (keyIdS key7)) h Gp (by decide : 1 ≤ 1000000000000)).mono fun e w' ⟨h1, h2⟩ => ⟨by rw [Gx.o] at h1; exact h1, h2⟩)
 have CSR : Hid (∀ w1 a c b d, Texts w1 (.slice a 1 c) [keyIdS key7] → Texts w1 (.slice b 1 d) [keyIdS key7] → Calls Tryz.prog 22 #[.agg #[.slice a 1 c, .int .i64 1], .agg #[.slice b 1 d, .int .i64 1]] w1 fun e w' => e = .returned (.bool true) ∧ Kept [] w1 w') := qI (fun w1 a c b d h1 h2 => (sameRole_any (r := oneRole (keyIdS key7)) (s := oneRole (keyIdS key7)) h1 h2 (by decide : 1 ≤ 1000000000000) (by decide : 1 ≤ 1000000000000)).mono fun e w' ⟨h3, h4⟩ => ⟨by rw [show sameRoleB (oneRole (keyIdS key7)) (oneRole (keyIdS key7)) = true by simp [sameRoleB]] at h3; exact h3, h4⟩)
 have CHV : Hid (∀ w1, Kept [] w w1 → Calls Tryz.prog 35 #[.string ⟨#[114, 111, 111, 116]⟩, .int .i64 3, .int .i64 86400] w1 fun e w' => New 2 w1 w' e headV ∧ Kept [] w1 w') := qI (fun w1 hk => headValue_any (ht.kept0 hk))
 have CH1 : Hid (∀ w1 cs1, Kept [] w w1 → Rep 2 (fun _ => True) w1 cs1 headV → Calls Tryz.prog 34 #[.agg cs1.toArray, .string ⟨#[114, 111, 111, 116]⟩] w1 fun e w' => e = .returned (.tuple #[.int .i64 3, .int .i64 86400, .int .i64 0]) ∧ Kept [] w1 w') := qI (fun w1 cs1 hk h => readHead_root h (hm.kept0 hk))
 have CH2 : Hid (∀ w1 cs1, Kept [] w w1 → Rep 2 (fun _ => True) w1 cs1 headV → Calls Tryz.prog 34 #[.agg cs1.toArray, .string ⟨#[111, 116, 104, 101, 114]⟩] w1 fun e w' => e = .returned (.tuple #[.int .i64 0, .int .i64 0, .int .i64 130]) ∧ Kept [] w1 w') := qI (fun w1 cs1 hk h => readHead_other h (hm.kept0 hk))
 have COF : Hid (∀ w1 cs1, Rep 3 (fun _ => True) w1 cs1 (keyV key7) → Calls Tryz.prog 37 #[.agg cs1.toArray] w1 fun e w' => (∃ g, w1.heap.size ≤ g ∧ e = .returned (.pointer (some ⟨g, 0, none⟩)) ∧ Fld 2 w' g (keyV key7) false) ∧ Kept [] w1 w') := qI (fun w1 cs1 h => roleOf_any (n := 2) h)
 have CTX : Hid (∀ w1 g, Fld 2 w1 g (keyV key7) false → Calls Tryz.prog 24 #[.pointer (some ⟨g, 0, none⟩), .string ⟨#[115, 99, 104, 101, 109, 101]⟩, .int .i64 9] w1 fun e w' => e = .returned (.string ⟨#[115, 104, 97, 50, 53, 54]⟩) ∧ Fld 2 w' g (keyV key7) false ∧ Kept [g] w1 w') := qI (fun w1 g h => by
  have h1 := ftext_any h (small_key key7 key7_len) ⟨#[115, 99, 104, 101, 109, 101]⟩ 9
  rw [show ftext (n := 2) (keyV key7) false ⟨#[115, 99, 104, 101, 109, 101]⟩ 9 = (⟨#[115, 104, 97, 50, 53, 54]⟩, false) from ftext_pos (n := 2) (x := (textV ⟨#[115, 104, 97, 50, 53, 54]⟩ : VS (V 1))) (by kernel_rfl) rfl (by decide)] at h1
  exact h1)
 have CHS : Hid (∀ w1 g, Fld 2 w1 g (keyV key7) false → Calls Tryz.prog 29 #[.pointer (some ⟨g, 0, none⟩), .string ⟨#[107, 101, 121, 118, 97, 108]⟩] w1 fun e w' => e = .returned (.bool true) ∧ Kept [] w1 w') := qI (fun w1 g h => by
  have h1 := fhas_any h (small_key key7 key7_len) ⟨#[107, 101, 121, 118, 97, 108]⟩
  rw [show hasV (n := 2) (keyV key7) false ⟨#[107, 101, 121, 118, 97, 108]⟩ = true by kernel_rfl] at h1
  exact h1)
 have CDN : Hid (∀ w1 g, Fld 2 w1 g (keyV key7) false → Calls Tryz.prog 30 #[.pointer (some ⟨g, 0, none⟩)] w1 fun e w' => e = .returned (.int .i64 0) ∧ w1 = w') := qI (fun w1 g h => fdone_any h)
 have CFI : Hid (∀ w1 g o c, w1.rangeAt g o (rowL (keyIdS key7) key7) → Calls Tryz.prog 36 #[.slice (some ⟨g, o, none⟩) 1 c, .string (keyIdS key7)] w1 fun e w' => e = .returned (.tuple #[.agg (keyA key7), .bool true]) ∧ Kept [] w1 w') := qI (fun w1 g o c h => find1_any key7_len h)
 obtain ⟨FX, Jl⟩ : ∃ FX : World → Nat → Prop, Hid ((∀ w1 g, FX w1 g = Fld 2 w1 g (keyV key7) false)) := ⟨fun w1 g => Fld 2 w1 g (keyV key7) false, qI (fun _ _ => rfl)⟩
 have Mr : Hid (∀ w1 w2 g, FX w1 g → Kept [] w1 w2 → FX w2 g) := qI (fun w1 w2 g h k => by rw [Jl.o] at h ⊢; exact h.kept0 k)
 simp only [← Jl.o] at COF CTX CHS CDN
 clear ht hks hm Gx Gp Jl
 generalize roleV (oneRole (keyIdS key7)) = Y at CRV CRR
 generalize keyV key7 = X at CKV CRK CSV CRS COF
 generalize keyIdS key7 = id at *
 go_enter Tryz.func7, Tryz.ntmps7
 go_upto_region 2 with first
  | (refine wpList_root7 (by rfl) _ (by rfl) (by rfl) ?_)
  | (refine wpList_key7 (by rfl) _ _ _ (by rfl) (by rfl) (by rfl) (by rfl) ?_)
  | (refine wpList_store34 (by rfl) (.tmp 1) (.tmp 22) (by rfl) (g := w.heap.size) (k := key7) (k0 := zeroKey) (block_alloc rfl) (by rfl) key7_len (by rfl) (by rfl) ?_; intro w1 h hk; have H1 := qI h; have Gg : Hid (Kept [] w w1) := qI (((Kept.refl [] w).alloc _).trans hk (by intro i hi; simp at hi; subst hi; exact .inr (Nat.le_refl _))); clear h hk; simp only [Act.put])
 have Ms := Gg
 generalize hg1 : w.heap.size = g1 at H1
 go_upto_region 3 with first
  | (refine wpList_load34 (by rfl) (.tmp 1) (by rfl) H1.o key7_len (by rfl) ?_)
  | (go_at_call 14; refine (CKI.o _ Ms.o).mono ?_; rintro e w2 ⟨rfl, hk⟩; have Ya := qI (Ms.o.then hk); have H1b := qI (KeyAt.kept0 H1.o hk); clear hk)
 go_upto_region 4 with first
  | (refine wpList_load34 (by rfl) (.tmp 1) (by rfl) H1b.o key7_len (by rfl) ?_)
  | (go_at_call 8; refine (CKV.o _).mono ?_; rintro e w3 ⟨hn, hk⟩; obtain ⟨k3, m3, s3, p3, i3, c3, q3, j3, e3, rfl, ho3⟩ := new_fact hn; have Yb := qI (Rep.mono (T := fun _ => True) ho3.rep (fun _ _ _ => trivial)); have Yc := qI (Ya.o.then hk); have H1c := qI (KeyAt.kept0 H1b.o hk); clear hk ho3 hn)
  | (refine wpList_store5 (by rfl) (.tmp 3) (.tmp 26) (by rfl) (g := w3.heap.size) (block_alloc rfl) (by rfl) (by rfl) ?_; intro w4 h hk; have H3 := qI h; have Jm : Hid (Kept [] w3 w4) := qI (((Kept.refl [] w3).alloc _).trans hk (by intro i hi; simp at hi; subst hi; exact .inr (Nat.le_refl _))); clear h hk; simp only [Act.put])
 have Yd := qI (Yc.o.then Jm.o)
 have H1d := qI (KeyAt.kept0 H1c.o Jm.o)
 have Mt := qI (Rep.kept0 Yb.o Jm.o)
 generalize hg3 : w3.heap.size = g3 at H3
 obtain ⟨y0, y1, y2, y3, y4⟩ := box_of H3.o
 go_upto_region 5 with first
  | (go_at_call 9; refine (CRK.o _ [.int .i64 k3, .int .i64 m3, .string s3, .slice p3 i3 c3, .slice q3 j3 e3] Mt.o).mono ?_; rintro e w5 ⟨rfl, hk⟩; have Ye := qI (Yd.o.then hk); have Jn := qI hk; clear hk)
  | (refine wpList_store34 (by rfl) (.tmp 4) (.tmp 30) (by rfl) (g := w5.heap.size) (k := key7) (k0 := zeroKey) (block_alloc rfl) (by rfl) key7_len (by rfl) (by rfl) ?_; intro w6 h hk; have H4 := qI h; have Mu : Hid (Kept [] w5 w6) := qI (((Kept.refl [] w5).alloc _).trans hk (by intro i hi; simp at hi; subst hi; exact .inr (Nat.le_refl _))); clear h hk; simp only [Act.put])
 have Mv := qI (Ye.o.then Mu.o)
 have Gq := qI (Jn.o.then Mu.o)
 have H1e := qI (KeyAt.kept0 H1d.o Gq.o)
 have Yf := qI (Rep.kept0 Mt.o Gq.o)
 have H3b : Hid (ValAt w6 g3 k3 m3 s3 (.slice p3 i3 c3) (.slice q3 j3 e3)) := qI (Gq.o.heap H3.o (by simp))
 generalize hg4 : w5.heap.size = g4 at H4
 clear y0 y1 y2 y3 y4
 go_upto_region 6 with first
  | (refine wpList_load34 (by rfl) (.tmp 1) (by rfl) H1e.o key7_len (by rfl) ?_)
  | (refine wpList_buildRow (by rfl) (.tmp 32) (.tmp 33) (by rfl) key7_len (by rfl) (by rfl) ?_)
  | (refine wpList_sliceRow (by rfl) (.tmp 34) (by rfl) key7_len (by rfl) ?_)
  | (go_at_call 32; refine (CSV.o _ _ 0 1 (Mv.o.alloc _) (fun j v hv => by rw [Nat.zero_add]; exact cell_head (block_alloc rfl) (by simpa using hv))).mono ?_; rintro e w7 ⟨hn, hk⟩; obtain ⟨k6, m6, s6, p6, i6, c6, q6, j6, e6, rfl, ho6⟩ := new_fact hn; have Yg := qI (Rep.mono (T := fun _ => True) ho6.rep (fun _ _ _ => trivial)); have Jo : Hid (Kept [] w6 w7) := qI (((Kept.refl [] w6).alloc _).then hk); clear hk ho6 hn)
  | (refine wpList_store5 (by rfl) (.tmp 6) (.tmp 36) (by rfl) (g := w7.heap.size) (block_alloc rfl) (by rfl) (by rfl) ?_; intro w8 h hk; have H6 := qI h; have Mw : Hid (Kept [] w7 w8) := qI (((Kept.refl [] w7).alloc _).trans hk (by intro i hi; simp at hi; subst hi; exact .inr (Nat.le_refl _))); clear h hk; simp only [Act.put])
 have Gy := qI (Jo.o.then Mw.o)
 have Mx := qI (Mv.o.then Gy.o)
 have Jp := qI (Rep.kept0 Yg.o Mw.o)
 generalize hg6 : w7.heap.size = g6 at H6
 obtain ⟨y0, y1, y2, y3, y4⟩ := box_of H6.o
 go_upto_region 7 with first
  | (go_at_call 33; refine (CRS.o _ [.int .i64 k6, .int .i64 m6, .string s6, .slice p6 i6 c6, .slice q6 j6 e6] Mx.o Jp.o).mono ?_; rintro e w9 ⟨⟨g9, o9, c9, rfl, hrow⟩, hk⟩; have Jq := qI hrow; have Gz := qI hk; clear hk hrow)
 clear y0 y1 y2 y3 y4
 have Yh := qI (Mx.o.then Gz.o)
 go_upto_region 8 with first
  | (refine wpList_store2 (by rfl) (.tmp 9) (.tmp 44) (by rfl) (g := w9.heap.size + 1) (block_alloc (by simp)) (by rfl) (by rfl) ?_; intro w10 h hk; have H9 := qI h; have Ja : Hid (Texts w10 (.slice (some ⟨w9.heap.size, 0, none⟩) 1 1) [id]) := qI (Slc.kept (Slc.kept0 (slc_one w9 (.string id) _ _ rfl) ((Kept.refl [] _).alloc _)) hk (by intro g hg; simp [vblk] at hg; subst hg; simp)); have Jr : Hid (Kept [] w9 w10) := qI ((((Kept.refl [] w9).alloc _).alloc _).trans hk (by intro i hi; simp at hi; subst hi; exact .inr (by simp))); clear h hk; simp only [Act.put])
 have Js := qI (Yh.o.then Jr.o)
 have y0 := cell_head (o := 0) (v := .slice (some ⟨w9.heap.size, 0, none⟩) 1 1) H9.o rfl
 have y1 := cell_head (o := 1) (v := .int .i64 1) H9.o rfl
 go_upto_region 9 with first
  | (go_at_call 17; refine (CRR.o _ [.int .i64 k11, .int .i64 m11, .string s11, .slice p11 i11 c11, .slice q11 j11 e11] Jt.o).mono ?_; rintro e w12 ⟨⟨a12, c12, rfl, ht12⟩, hk⟩; have Ju := qI ht12; have Gr := qI (Gs.o.then hk); clear hk ht12)
  | (go_at_call 16; refine (CRV.o _ _ 1 Ja.o).mono ?_; rintro e w11 ⟨hn, hk⟩; obtain ⟨k11, m11, s11, p11, i11, c11, q11, j11, e11, rfl, ho⟩ := new_fact hn; have Jt := qI (Rep.mono (T := fun _ => True) ho.rep (fun _ _ _ => trivial)); have Gs := qI hk; clear hk ho hn)
  | (refine wpList_store2 (by rfl) (.tmp 10) (.tmp 49) (by rfl) (g := w12.heap.size) (block_alloc rfl) (by rfl) (by rfl) ?_; intro w13 h hk; have H10 := qI h; have Gk : Hid (Kept [] w12 w13) := qI (((Kept.refl [] w12).alloc _).trans hk (by intro i hi; simp at hi; subst hi; exact .inr (Nat.le_refl _))); clear h hk; simp only [Act.put])
 clear y0 y1
 have HKh13 : Hid (Kept [] w13 w13) := qI (Kept.refl _ _)
 have Gc := qI (Gr.o.then Gk.o)
 have Gl := qI (Js.o.then Gc.o)
 have Jv := qI (Ju.o.kept0 Gk.o)
 generalize hg10 : w12.heap.size = g10 at H10
 go_upto_region 10 with first
  | (go_at_call 34; refine (CH1.o _ [.int .i64 k14, .int .i64 m14, .string s14, .slice p14 i14 c14, .slice q14 j14 e14] Jb.o Jw.o).mono ?_; rintro e w15 ⟨rfl, hk⟩; have Jc := qI (Jb.o.then hk); have HKh15 := qI (HKh14.o.then hk); clear hk)
  | (go_at_call 35; refine (CHV.o _ Gl.o).mono ?_; rintro e w14 ⟨hn, hk⟩; obtain ⟨k14, m14, s14, p14, i14, c14, q14, j14, e14, rfl, ho⟩ := new_fact hn; have Jw := qI (Rep.mono (T := fun _ => True) ho.rep (fun _ _ _ => trivial)); have Jb := qI (Gl.o.then hk); have HKh14 := qI (HKh13.o.then hk); clear hk ho hn)
 go_upto_region 11 with first
  | (go_at_call 34; refine (CH2.o _ [.int .i64 k16, .int .i64 m16, .string s16, .slice p16 i16 c16, .slice q16 j16 e16] Jd.o Jx.o).mono ?_; rintro e w17 ⟨rfl, hk⟩; have Yi := qI (Jd.o.then hk); have HKh17 := qI (HKh16.o.then hk); clear hk)
  | (go_at_call 35; refine (CHV.o _ Jc.o).mono ?_; rintro e w16 ⟨hn, hk⟩; obtain ⟨k16, m16, s16, p16, i16, c16, q16, j16, e16, rfl, ho⟩ := new_fact hn; have Jx := qI (Rep.mono (T := fun _ => True) ho.rep (fun _ _ _ => trivial)); have Jd := qI (Jc.o.then hk); have HKh16 := qI (HKh15.o.then hk); clear hk ho hn)
 have Je := qI ((((Gz.o.then Jr.o).then Gc.o)).then HKh17.o)
 have Jf := qI ((Jr.o.then Gc.o).then HKh17.o)
 have Gt : Hid (w17.rangeAt g9 o9 (rowL id key7)) := qI (fun j v hv => Jf.o.cell (Jq.o j v hv) (by simp))
 go_upto_region 12 with first
  | (go_at_call 36; refine (CFI.o _ _ _ _ Gt.o).mono ?_; rintro e w18 ⟨rfl, hk⟩; have Gu := qI hk; clear hk)
  | (refine wpList_store34 (by rfl) (.tmp 18) (.tmp 67) (by rfl) (g := w18.heap.size) (k := key7) (k0 := zeroKey) (block_alloc rfl) (by rfl) key7_len (by rfl) (by rfl) ?_; intro w19 h hk; have H18 := qI h; have Jy : Hid (Kept [] w18 w19) := qI (((Kept.refl [] w18).alloc _).trans hk (by intro i hi; simp at hi; subst hi; exact .inr (Nat.le_refl _))); clear h hk; simp only [Act.put])
 generalize hg18 : w18.heap.size = g18 at H18
 have Ga := qI (Gu.o.then Jy.o)
 have Gh := qI ((Gy.o.then Je.o).then Ga.o)
 have H3c := qI (Gh.o.heap H3b.o (by simp))
 have Jz := qI (Rep.kept0 Yf.o Gh.o)
 obtain ⟨y0, y1, y2, y3, y4⟩ := box_of H3c.o
 go_upto_region 13 with first
  | (go_at_call 37; refine (COF.o _ [.int .i64 k3, .int .i64 m3, .string s3, .slice p3 i3 c3, .slice q3 j3 e3] Jz.o).mono ?_; rintro e w20 ⟨⟨gf, hgf, rfl, hf⟩, hk⟩; have Ma := qI hf; have Mb := qI hgf; have Gb := qI hk; clear hk hf hgf)
 clear y0 y1 y2 y3 y4
 have Gn := qI (Gh.o.then Gb.o)
 go_upto_region 15 with fail
 have H1z := qI (KeyAt.kept0 H1e.o Gn.o)
 have H4z := qI (KeyAt.kept0 H4.o Gn.o)
 have H18z := qI (KeyAt.kept0 H18.o Gb.o)
 have Gi := qI (((Gc.o.then HKh17.o).then Ga.o).then Gb.o)
 have Gj := qI ((HKh17.o.then Ga.o).then Gb.o)
 have H9z := qI (Gi.o.heap H9.o (by simp))
 have H10z := qI (Gj.o.heap H10.o (by simp))
 have HT9z := qI (Ja.o.kept0 Gi.o)
 have HT10z := qI (Jv.o.kept0 Gj.o)
 have HRz : Hid (w20.rangeAt g9 o9 (rowL id key7)) := qI (fun j v hv => (Ga.o.then Gb.o).cell (Gt.o j v hv) (by simp))
 have Mc := qI ((Gl.o.then HKh17.o).then Ga.o)
 have Jg : Hid (w9.heap.size + 1 < w19.heap.size) := qI (by
  have h1 := lt_of_block H9.o
  have h2 := ((Gc.o.then HKh17.o).then Ga.o).size
  omega)
 have Jh : Hid (g9 < w19.heap.size) := qI (by
  have h1 := World.block_lt_of_cell? _ _ (Gt.o 0 _ (show (rowL id key7)[0]? = some (.string id) from rfl))
  have h2 := Ga.o.size
  simp only at h1
  omega)
 have Md := qI (((Gl.o.then HKh17.o).then Ga.o).then Gb.o)
 have y0 := cell_head (o := 0) (v := .slice (some ⟨w9.heap.size, 0, none⟩) 1 1) H9z.o rfl
 have y1 := cell_head (o := 1) (v := .int .i64 1) H9z.o rfl
 have y2 := cell_head (o := 0) (v := .slice a12 1 c12) H10z.o rfl
 have y3 := cell_head (o := 1) (v := .int .i64 1) H10z.o rfl
 have hsz := Mq.o
 refine wp_region_list ?_
 refine wpList_at 8 ?_
 change wpList _ _ _ [_, _, _, _, _, _, _, _] _ _
 go_wp2_with fail
 try refine ⟨rfl, ?_⟩
 refine qI ?_
 refine wpList_at 1 ?_
 change wpList _ _ _ [_] _ _
 refine wpList_load34g (by rfl) (.tmp 4) (by rfl) H4z.o key7_len (by rfl) ?_
 refine ⟨rfl, qI ?_⟩
 refine wpList_at 1 ?_
 change wpList _ _ _ [_] _ _
 refine wpList_load34g (by rfl) (.tmp 1) (by rfl) H1z.o key7_len (by rfl) ?_
 refine ⟨rfl, qI ?_⟩
 refine wpList_at 1 ?_
 change wpList _ _ _ [_] _ _
 refine wpList_eql7 (by rfl) 81 82 (by rfl) (by rfl) (by rfl) ?_
 refine ⟨rfl, qI ?_⟩
 simp only [Act.put, List.setIfInBounds_toArray, List.set_cons_zero, List.set_cons_succ]
 refine wpList_at 14 ?_
 change wpList _ _ _ [_, _, _, _, _, _, _, _, _, _, _, _, _, _] _ _
 go_wp2_with fail
 try refine ⟨rfl, ?_⟩
 refine qI ?_
 refine wpList_at 1 ?_
 change wpList _ _ _ [_] _ _
 refine wpList_load34g (by rfl) (.tmp 18) (by rfl) H18z.o key7_len (by rfl) ?_
 refine ⟨rfl, qI ?_⟩
 refine wpList_at 1 ?_
 change wpList _ _ _ [_] _ _
 refine wpList_load34g (by rfl) (.tmp 1) (by rfl) H1z.o key7_len (by rfl) ?_
 refine ⟨rfl, qI ?_⟩
 refine wpList_at 1 ?_
 change wpList _ _ _ [_] _ _
 refine wpList_eql7 (by rfl) 98 99 (by rfl) (by rfl) (by rfl) ?_
 refine ⟨rfl, qI ?_⟩
 simp only [Act.put, List.setIfInBounds_toArray, List.set_cons_zero, List.set_cons_succ]
 change wpList _ _ _ [_, _, _, _, _, _, _, _, _, _, _, _, _, _, _, _, _, _, _, _, _, _, _, _, _, _, _, _, _, _, _, _, _, _, _, _, _, _, _, _, _, _, _, _, _, _, _, _, _] _ _
 go_wp2_with first
  | (go_at_call 38; refine (CMK.o _ _ _ _ Ji.o Me.o).mono ?_; rintro e w25 ⟨rfl, hk⟩; have Mf := qI (Ji.o.then hk); clear hk)
  | (go_at_call 19; refine (CMR.o _ _ _ Mg.o).mono ?_; rintro e w24 ⟨rfl, hk⟩; have Ji := qI (Mh.o.then hk); have Me : Hid (w24.rangeAt g9 o9 (rowL id key7)) := qI (fun j v hv => hk.cell (Mi.o j v hv) (by simp)); clear hk)
  | (go_at_call 30; refine (CDN.o _ _ Mj.o).mono ?_; rintro e w23' ⟨rfl, rfl⟩)
  | (go_at_call 29; refine (CHS.o _ _ Jj.o).mono ?_; rintro e w23 ⟨rfl, hk⟩; have Mj := qI (Mr.o _ _ _ Jj.o hk); have Mh := qI (Mk.o.then hk); have Mg := qI (Ml.o.kept0 hk); have Mi : Hid (w23.rangeAt g9 o9 (rowL id key7)) := qI (fun j v hv => hk.cell (Mm.o j v hv) (by simp)); clear y0 y1; have y0 := cell_head (o := 0) (v := .slice (some ⟨w9.heap.size, 0, none⟩) 1 1) (hk.heap H922.o (by simp)) rfl; have y1 := cell_head (o := 1) (v := .int .i64 1) (hk.heap H922.o (by simp)) rfl; clear hk)
  | (go_at_call 24; refine (CTX.o _ _ Mn.o).mono ?_; rintro e w22 ⟨rfl, hf, hk⟩; have Jj := qI hf; have Mk := qI ((Md.o.then Ge.o).trans hk (by have := Mb.o; have := Mc.o.size; intro i hi; simp at hi; subst hi; exact .inr (by omega))); have Mo : Hid (w9.heap.size + 1 < gf ∧ g9 < gf) := qI ⟨by have := Mb.o; have := Jg.o; omega, by have := Mb.o; have := Jh.o; omega⟩; have Ml : Hid (Texts w22 (.slice (some ⟨w9.heap.size, 0, none⟩) 1 1) [id]) := qI (Slc.kept (HT9z.o.kept0 Ge.o) hk (by have := Mo.o; intro g hg; simp [vblk] at hg; subst hg; simp; omega)); have Mm : Hid (w22.rangeAt g9 o9 (rowL id key7)) := qI (fun j v hv => hk.cell (Ge.o.cell (HRz.o j v hv) (by simp)) (by have := Mo.o; simp; omega)); have H922 := qI (hk.heap (Ge.o.heap H9z.o (by simp)) (by have := Mo.o; simp; omega)); clear hf hk)
  | (go_at_call 22; refine (CSR.o _ _ _ _ _ HT10z.o HT9z.o).mono ?_; rintro e w21 ⟨rfl, hk⟩; have Ge := qI hk; have Mn := qI (Mr.o _ _ _ Ma.o hk); clear hk)
 go_ret
 exact ⟨rfl, Mf.o⟩
theorem getNil_any (s : ByteArray) (kd : Int) (f : Fn) (xs ys : Array Value) (w : World) : Calls Tryz.prog 70 #[.pointer none, .string s, .int .i64 kd, .func f xs ys] w fun e w' => e = .returned zero5 ∧ Kept [] w w' := by
 obtain ⟨W0, Gd⟩ : ∃ W0, Hid (W0 = w.alloc (.cells #[.int .i64 0, .int .i64 0, .string ⟨#[]⟩, .slice none 0 0, .slice none 0 0] 28)) := ⟨_, qI rfl⟩
 have Gf : Hid (Kept [] w W0) := qI (by rw [Gd.o]; exact (Kept.refl _ w).alloc _)
 have Jk : Hid (W0.heap[w.heap.size]? = some (.cells #[.int .i64 0, .int .i64 0, .string ⟨#[]⟩, .slice none 0 0, .slice none 0 0] 28 (0, 0))) := qI (by rw [Gd.o]; exact block_alloc rfl)
 have CO := qI fokNil_any
 obtain ⟨r0, r1, r2, r3, r4⟩ := box_of Jk.o
 have z : ∀ j, W0.frozen? ⟨w.heap.size, j, none⟩ = false := fun j => free_head Jk.o
 go_enter Tryz.func70, Tryz.ntmps70
 go_upto_region 1 with fail
 rw [← Gd.o]
 go_wp2_with (go_at_call 75; refine (CO.o _).mono ?_; rintro e w1 ⟨rfl, rfl⟩)
 change bodyPost _ _ _ _ _ (put5 _ w.heap.size 0 0 ⟨#[]⟩ (.slice none 0 0) (.slice none 0 0))
 have Gv := put5_kept W0 w.heap.size 0 0 ⟨#[]⟩ (.slice none 0 0) (.slice none 0 0)
 have Gw := put5_at Jk.o 0 0 ⟨#[]⟩ (.slice none 0 0) (.slice none 0 0)
 revert Gv Gw
 generalize put5 W0 w.heap.size 0 0 ⟨#[]⟩ (.slice none 0 0) (.slice none 0 0) = WF
 intro Gv Gw
 obtain ⟨y0, y1, y2, y3, y4⟩ := box_of Gw
 exact bodyPost_ret (v := zero5) (by simp [results, Tryz.results70, go_sem, y0, y1, y2, y3, y4, zero5]) rfl ⟨rfl, Gf.o.trans Gv (by intro i hi; simp at hi; subst hi; exact .inr (Nat.le_refl _))⟩
theorem intNil_any (s : ByteArray) (a b : Int) (w : World) : Calls Tryz.prog 23 #[.pointer none, .string s, .int .i64 a, .int .i64 b] w fun e w' => e = .returned (.int .i64 0) ∧ Kept [] w w' := by
 obtain ⟨W0, Gd⟩ : ∃ W0, Hid (W0 = (w.alloc (.cells #[.int .i64 a] 3)).alloc (.cells #[.int .i64 b] 3)) := ⟨_, qI rfl⟩
 have Gf : Hid (Kept [] w W0) := qI (by rw [Gd.o]; exact ((Kept.refl _ w).alloc _).alloc _)
 have CG := qI getNil_any
 have hfld := fieldNum
 go_enter Tryz.func23, Tryz.ntmps23
 go_upto_region 1 with fail
 rw [← Gd.o]
 go_wp2_with (go_at_call 70; refine (CG.o _ _ _ _ _ _).mono ?_; rintro e w1 ⟨rfl, hk1⟩; have Gg := qI hk1; clear hk1; simp only [zero5])
 go_ret
 exact ⟨rfl, Gf.o.then Gg.o⟩
theorem textNil_any (s : ByteArray) (a : Int) (w : World) : Calls Tryz.prog 24 #[.pointer none, .string s, .int .i64 a] w fun e w' => e = .returned (.string ⟨#[]⟩) ∧ Kept [] w w' := by
 obtain ⟨W0, Gd⟩ : ∃ W0, Hid (W0 = w.alloc (.cells #[.int .i64 a] 3)) := ⟨_, qI rfl⟩
 have Gf : Hid (Kept [] w W0) := qI (by rw [Gd.o]; exact (Kept.refl _ w).alloc _)
 have CG := qI getNil_any
 have hfld := fieldStr
 go_enter Tryz.func24, Tryz.ntmps24
 go_upto_region 1 with fail
 rw [← Gd.o]
 go_wp2_with (go_at_call 70; refine (CG.o _ _ _ _ _ _).mono ?_; rintro e w1 ⟨rfl, hk1⟩; have Gg := qI hk1; clear hk1; simp only [zero5])
 go_ret
 exact ⟨rfl, Gf.o.then Gg.o⟩
theorem listNil_any (s : ByteArray) (a : Int) (w : World) : Calls Tryz.prog 27 #[.pointer none, .string s, .int .i64 a] w fun e w' => e = .returned (.slice none 0 0) ∧ Kept [] w w' := by
 obtain ⟨W0, Gd⟩ : ∃ W0, Hid (W0 = w.alloc (.cells #[.int .i64 a] 3)) := ⟨_, qI rfl⟩
 have Gf : Hid (Kept [] w W0) := qI (by rw [Gd.o]; exact (Kept.refl _ w).alloc _)
 have CG := qI getNil_any
 have hfld := fieldLst
 go_enter Tryz.func27, Tryz.ntmps27
 go_upto_region 1 with fail
 rw [← Gd.o]
 go_wp2_with (go_at_call 70; refine (CG.o _ _ _ _ _ _).mono ?_; rintro e w1 ⟨rfl, hk1⟩; have Gg := qI hk1; clear hk1; simp only [zero5])
 go_ret
 exact ⟨rfl, Gf.o.then Gg.o⟩
theorem flagNil_any (s : ByteArray) (w : World) : Calls Tryz.prog 25 #[.pointer none, .string s] w fun e w' => e = .returned (.bool false) ∧ Kept [] w w' := by
 have CG := qI getNil_any
 have hfld := fieldNum
 go_enter Tryz.func25, Tryz.ntmps25
 go_wp2_with (go_at_call 70; refine (CG.o _ _ _ _ _ _).mono ?_; rintro e w1 ⟨rfl, hk1⟩; have Gg := qI hk1; clear hk1; simp only [zero5])
 go_ret
 exact ⟨rfl, Gg.o⟩
theorem mapNil_any (s : ByteArray) (w : World) : Calls Tryz.prog 26 #[.pointer none, .string s] w fun e w' => e = .returned zero5 ∧ Kept [] w w' := by
 obtain ⟨W0, Gd⟩ : ∃ W0, Hid (W0 = w.alloc (.cells #[.int .i64 0, .int .i64 0, .string ⟨#[]⟩, .slice none 0 0, .slice none 0 0] 28)) := ⟨_, qI rfl⟩
 have Gf : Hid (Kept [] w W0) := qI (by rw [Gd.o]; exact (Kept.refl _ w).alloc _)
 have Jk : Hid (W0.heap[w.heap.size]? = some (.cells #[.int .i64 0, .int .i64 0, .string ⟨#[]⟩, .slice none 0 0, .slice none 0 0] 28 (0, 0))) := qI (by rw [Gd.o]; exact block_alloc rfl)
 have CG := qI getNil_any
 go_enter Tryz.func26, Tryz.ntmps26
 go_upto_region 1 with fail
 rw [← Gd.o]
 go_wp2_with (go_at_call 70; refine (CG.o _ _ _ _ _ _).mono ?_; rintro e w1 ⟨rfl, hk1⟩; have Gg := qI hk1; have Mp := qI (hk1.heap Jk.o (by simp)); obtain ⟨r0, r1, r2, r3, r4⟩ := box_of Mp.o; have z : ∀ j, w1.frozen? ⟨w.heap.size, j, none⟩ = false := fun j => free_head Mp.o; clear hk1; simp only [zero5])
 change bodyPost _ _ _ _ _ (put5 w1 w.heap.size 0 0 ⟨#[]⟩ (.slice none 0 0) (.slice none 0 0))
 have Gv := put5_kept w1 w.heap.size 0 0 ⟨#[]⟩ (.slice none 0 0) (.slice none 0 0)
 have Gw := put5_at Mp.o 0 0 ⟨#[]⟩ (.slice none 0 0) (.slice none 0 0)
 revert Gv Gw
 generalize put5 w1 w.heap.size 0 0 ⟨#[]⟩ (.slice none 0 0) (.slice none 0 0) = WF
 intro Gv Gw
 obtain ⟨y0, y1, y2, y3, y4⟩ := box_of Gw
 exact bodyPost_ret (v := zero5) (by simp [results, Tryz.results26, go_sem, y0, y1, y2, y3, y4, zero5]) rfl ⟨rfl, (Gf.o.then Gg.o).trans Gv (by intro i hi; simp at hi; subst hi; exact .inr (Nat.le_refl _))⟩
theorem nobody_any {w : World} (ht : Tabs w) (hks : KsAt w) (hm : MaxW w) (kd lo hi : Int) (key : ByteArray) : Calls Tryz.prog 5 #[.agg #[.int .i64 kd, .string key, .int .i64 lo, .int .i64 hi]] w fun e w' => e = .returned (.bool true) ∧ Kept [] w w' := by
 obtain ⟨W0, Gd⟩ : ∃ W0, Hid (W0 = w.alloc (.cells #[.int .i64 kd, .string key, .int .i64 lo, .int .i64 hi] 53)) := ⟨_, qI rfl⟩
 have Gf : Hid (Kept [] w W0) := qI (by rw [Gd.o]; exact (Kept.refl _ w).alloc _)
 have HB : Hid (W0.heap[w.heap.size]? = some (.cells #[.int .i64 kd, .string key, .int .i64 lo, .int .i64 hi] 53 (0, 0))) := qI (by rw [Gd.o]; exact block_alloc rfl)
 have CL : Hid (∀ w1, Kept [] w w1 → Calls Tryz.prog 7 #[] w1 fun e w' => e = .returned (.bool true) ∧ Kept [] w1 w') := qI (fun w1 hk => lives_any (ht.kept0 hk) (hks.kept0 hk) (hm.kept0 hk))
 clear ht hks hm
 go_enter Tryz.func5, Tryz.ntmps5
 go_upto_region 2 with fail
 rw [← Gd.o]
 generalize hrb : w.heap.size = rb at HB
 refine wp_grows (n := 74) 29 [Fact.is (.pointer none),
  Fact.is (.pointer (some ⟨rb, 1, none⟩)),
  Fact.is (.string key),
  Fact.is (.pointer (some ⟨rb, 2, none⟩)),
  Fact.is (.int .i64 lo),
  Fact.is (.pointer (some ⟨rb, 3, none⟩)),
  Fact.is (.int .i64 hi),
  Fact.is (.int .i64 0),
  Fact.is (.pointer none),
  Fact.is (.pointer (some ⟨rb, 1, none⟩)),
  Fact.is (.string key),
  Fact.is (.pointer (some ⟨rb, 3, none⟩)),
  Fact.is (.int .i64 hi),
  Fact.is (.string ⟨#[]⟩),
  Fact.is (.pointer none),
  Fact.is (.pointer (some ⟨rb, 1, none⟩)),
  Fact.is (.string key),
  Fact.is (.bool false),
  Fact.is (.pointer none),
  Fact.is (.pointer (some ⟨rb, 1, none⟩)),
  Fact.is (.string key),
  Fact.is (zero5),
  Fact.is (.pointer none),
  Fact.is (.pointer (some ⟨rb, 1, none⟩)),
  Fact.is (.string key),
  Fact.is (.pointer (some ⟨rb, 3, none⟩)),
  Fact.is (.int .i64 hi),
  Fact.is (.slice none 0 0),
  boxFact 28] (by kernel_rfl) rfl (by kernel_rfl) (fun x => by simp only [List.map, puts, Act.put, List.setIfInBounds_toArray, List.set_cons_zero, List.set_cons_succ]; rfl) ?_ ?_
 ·refine ⟨fun x w2 hkw b hd => ?_, fun x w2 hkw b hd => ?_, fun x w2 hkw b hd => ?_, fun x w2 hkw b hd => ?_, fun x w2 hkw b hd => ?_, fun x w2 hkw b hd => ?_, fun x w2 hkw b hd => ?_, fun x w2 hkw b hd => ?_, fun x w2 hkw b hd => ?_, fun x w2 hkw b hd => ?_, fun x w2 hkw b hd => ?_, fun x w2 hkw b hd => ?_, fun x w2 hkw b hd => ?_, fun x w2 hkw b hd => ?_, fun x w2 hkw b hd => ?_, fun x w2 hkw b hd => ?_, fun x w2 hkw b hd => ?_, fun x w2 hkw b hd => ?_, fun x w2 hkw b hd => ?_, fun x w2 hkw b hd => ?_, fun x w2 hkw b hd => ?_, fun x w2 hkw b hd => ?_, fun x w2 hkw b hd => ?_, fun x w2 hkw b hd => ?_, fun x w2 hkw b hd => ?_, fun x w2 hkw b hd => ?_, fun x w2 hkw b hd => ?_, fun x w2 hkw b hd => ?_, fun x w2 hkw b hd => ?_, trivial⟩
  ·go_wp2_with fail
   exact ⟨rfl, Kept.refl _ _⟩
  ·go_wp2_with fail
   exact ⟨rfl, Kept.refl _ _⟩
  ·have y0 := cell_head (o := 1) (v := .string key) (hkw.heap HB.o (by simp)) rfl
   have d1 : x 1 = _ := hd 1 (by kernel_rfl)
   go_wp2_with fail
   exact ⟨rfl, Kept.refl _ _⟩
  ·go_wp2_with fail
   exact ⟨rfl, Kept.refl _ _⟩
  ·have y0 := cell_head (o := 2) (v := .int .i64 lo) (hkw.heap HB.o (by simp)) rfl
   have d3 : x 3 = _ := hd 3 (by kernel_rfl)
   go_wp2_with fail
   exact ⟨rfl, Kept.refl _ _⟩
  ·go_wp2_with fail
   exact ⟨rfl, Kept.refl _ _⟩
  ·have y0 := cell_head (o := 3) (v := .int .i64 hi) (hkw.heap HB.o (by simp)) rfl
   have d5 : x 5 = _ := hd 5 (by kernel_rfl)
   go_wp2_with fail
   exact ⟨rfl, Kept.refl _ _⟩
  ·have d0 : x 0 = _ := hd 0 (by kernel_rfl)
   have d2 : x 2 = _ := hd 2 (by kernel_rfl)
   have d4 : x 4 = _ := hd 4 (by kernel_rfl)
   have d6 : x 6 = _ := hd 6 (by kernel_rfl)
   have CX := intNil_any key lo hi w2
   go_wp2_with (go_at_call 23; refine CX.mono ?_; rintro e w5 ⟨rfl, hk5⟩; have Gm := qI hk5; clear hk5)
   exact ⟨rfl, Gm.o⟩
  ·go_wp2_with fail
   exact ⟨rfl, Kept.refl _ _⟩
  ·go_wp2_with fail
   exact ⟨rfl, Kept.refl _ _⟩
  ·have y0 := cell_head (o := 1) (v := .string key) (hkw.heap HB.o (by simp)) rfl
   have d9 : x 9 = _ := hd 9 (by kernel_rfl)
   go_wp2_with fail
   exact ⟨rfl, Kept.refl _ _⟩
  ·go_wp2_with fail
   exact ⟨rfl, Kept.refl _ _⟩
  ·have y0 := cell_head (o := 3) (v := .int .i64 hi) (hkw.heap HB.o (by simp)) rfl
   have d11 : x 11 = _ := hd 11 (by kernel_rfl)
   go_wp2_with fail
   exact ⟨rfl, Kept.refl _ _⟩
  ·have d8 : x 8 = _ := hd 8 (by kernel_rfl)
   have d10 : x 10 = _ := hd 10 (by kernel_rfl)
   have d12 : x 12 = _ := hd 12 (by kernel_rfl)
   have CX := textNil_any key hi w2
   go_wp2_with (go_at_call 24; refine CX.mono ?_; rintro e w5 ⟨rfl, hk5⟩; have Gm := qI hk5; clear hk5)
   exact ⟨rfl, Gm.o⟩
  ·go_wp2_with fail
   exact ⟨rfl, Kept.refl _ _⟩
  ·go_wp2_with fail
   exact ⟨rfl, Kept.refl _ _⟩
  ·have y0 := cell_head (o := 1) (v := .string key) (hkw.heap HB.o (by simp)) rfl
   have d15 : x 15 = _ := hd 15 (by kernel_rfl)
   go_wp2_with fail
   exact ⟨rfl, Kept.refl _ _⟩
  ·have d14 : x 14 = _ := hd 14 (by kernel_rfl)
   have d16 : x 16 = _ := hd 16 (by kernel_rfl)
   have CX := flagNil_any key w2
   go_wp2_with (go_at_call 25; refine CX.mono ?_; rintro e w5 ⟨rfl, hk5⟩; have Gm := qI hk5; clear hk5)
   exact ⟨rfl, Gm.o⟩
  ·go_wp2_with fail
   exact ⟨rfl, Kept.refl _ _⟩
  ·go_wp2_with fail
   exact ⟨rfl, Kept.refl _ _⟩
  ·have y0 := cell_head (o := 1) (v := .string key) (hkw.heap HB.o (by simp)) rfl
   have d19 : x 19 = _ := hd 19 (by kernel_rfl)
   go_wp2_with fail
   exact ⟨rfl, Kept.refl _ _⟩
  ·have d18 : x 18 = _ := hd 18 (by kernel_rfl)
   have d20 : x 20 = _ := hd 20 (by kernel_rfl)
   have CX := mapNil_any key w2
   go_wp2_with (go_at_call 26; refine CX.mono ?_; rintro e w5 ⟨rfl, hk5⟩; have Gm := qI hk5; clear hk5)
   exact ⟨rfl, Gm.o⟩
  ·go_wp2_with fail
   exact ⟨rfl, Kept.refl _ _⟩
  ·go_wp2_with fail
   exact ⟨rfl, Kept.refl _ _⟩
  ·have y0 := cell_head (o := 1) (v := .string key) (hkw.heap HB.o (by simp)) rfl
   have d23 : x 23 = _ := hd 23 (by kernel_rfl)
   go_wp2_with fail
   exact ⟨rfl, Kept.refl _ _⟩
  ·go_wp2_with fail
   exact ⟨rfl, Kept.refl _ _⟩
  ·have y0 := cell_head (o := 3) (v := .int .i64 hi) (hkw.heap HB.o (by simp)) rfl
   have d25 : x 25 = _ := hd 25 (by kernel_rfl)
   go_wp2_with fail
   exact ⟨rfl, Kept.refl _ _⟩
  ·have d22 : x 22 = _ := hd 22 (by kernel_rfl)
   have d24 : x 24 = _ := hd 24 (by kernel_rfl)
   have d26 : x 26 = _ := hd 26 (by kernel_rfl)
   have CX := listNil_any key hi w2
   go_wp2_with (go_at_call 27; refine CX.mono ?_; rintro e w5 ⟨rfl, hk5⟩; have Gm := qI hk5; clear hk5)
   exact ⟨rfl, Gm.o⟩
  ·go_wp2_with fail
   exact ⟨⟨w2.heap.size, Nat.le_refl _, by simp, rfl, block_alloc rfl⟩, (Kept.refl _ _).alloc _⟩
 ·intro x w7 hkw b hd hwin
  have d7 : x 7 = _ := hd 7 (by decide)
  have d13 : x 13 = _ := hd 13 (by decide)
  have d17 : x 17 = _ := hd 17 (by decide)
  have d21 : x 21 = _ := hd 21 (by decide)
  have d27 : x 27 = _ := hd 27 (by decide)
  obtain ⟨g, hg1, -, d28, hb⟩ := hd 28 (by decide)
  have hw28 := (hwin.1 28 (by decide)).1
  have My : Hid (W0.heap.size ≤ g) := qI (Nat.le_trans hw28 hg1)
  have Yj : Hid (rb < W0.heap.size) := qI (lt_of_block HB.o)
  have Yk := qI (hkw.heap HB.o (by simp))
  have Yl := qI hb
  have Ym := qI hkw
  have CS := qI spoilNil_any
  have CH := qI fhasNil_any
  have CD := qI fdoneNil_any
  clear hd hwin hkw hb hg1 hw28
  change wpList _ _ _ [_, _, _, _, _] _ _
  go_upto_region 4 with first
   | (refine wpList_store5 (by rfl) (.tmp 7) (.tmp 30) (by rfl) (g := g) Yl.o d28 d21 ?_; intro w8 h hk; have Yn := qI h; have Mz : Hid (Kept [] W0 w8) := qI (Ym.o.trans hk (by intro i hi; simp at hi; subst hi; exact .inr My.o)); have Yo := qI (hk.heap Yk.o (by have := My.o; have := Yj.o; simp; omega)); clear h hk; simp only [Act.put])
   | (go_at_call 28; refine (CS.o _).mono ?_; rintro e w9 ⟨rfl, rfl⟩)
  have CLL := qI (CL.o _ (Gf.o.then Mz.o))
  go_wp2_with first
   | (go_at_call 7; refine CLL.o.mono ?_; rintro e w10 ⟨rfl, hk⟩; have Gk := qI hk; have y0 := cell_head (o := 0) (v := .int .i64 0) (hk.heap Yn.o (by simp)) rfl; have y1 := cell_head (o := 1) (v := .string key) (hk.heap Yo.o (by simp)) rfl; clear hk)
   | (go_at_call 29; refine (CH.o _ _).mono ?_; rintro e w11 ⟨rfl, rfl⟩)
   | (go_at_call 30; refine (CD.o _).mono ?_; rintro e w12 ⟨rfl, rfl⟩)
  go_ret
  exact ⟨rfl, (Gf.o.then Mz.o).then Gk.o⟩
section
variable {H : Type} {enc : TypeId × Value → H} {w : World} {held : Bool}
end
section
variable {H : Type} {enc : TypeId × Value → H} {w : World} {held : Bool}
theorem four_cells {α : Type} {l : List α} (h : l.length = 4) : ∃ a b c d, l = [a, b, c, d] := by
 rcases l with _ | ⟨a, _ | ⟨b, _ | ⟨c, _ | ⟨d, _ | ⟨e, l⟩⟩⟩⟩⟩ <;> simp at h
 exact ⟨a, b, c, d, rfl⟩
theorem trod_op13 {fuel : Nat} {cs : List Value} {x : DataW H × List MemPlace} (h : DataW.trod enc Tryz.prog w 0 (fun _ => true) held fuel 53 cs = some x) : ∃ (kd lo hi : Int) (key : ByteArray), cs = [.int .i64 kd, .string key, .int .i64 lo, .int .i64 hi] := by
 obtain ⟨xs, n, _, _, hl, hlen, hf⟩ := DataW.trod_struct Tryz.underlying53 h
 rw [show Tryz.prog.cellsOf 53 = 4 by kernel_rfl] at hl
 obtain ⟨c0, c1, c2, c3, rfl⟩ := four_cells hl
 obtain ⟨y0, y1, y2, y3, rfl⟩ := four_cells hlen
 have h0 : DataW.trod enc Tryz.prog w 0 (fun _ => true) held n 3 (([c0, c1, c2, c3].drop 0).take (Tryz.prog.cellsOf 3)) = some y0 := hf 0 _ rfl
 have h1 : DataW.trod enc Tryz.prog w 0 (fun _ => true) held n 9 (([c0, c1, c2, c3].drop 1).take (Tryz.prog.cellsOf 9)) = some y1 := hf 1 _ rfl
 have h2 : DataW.trod enc Tryz.prog w 0 (fun _ => true) held n 3 (([c0, c1, c2, c3].drop 2).take (Tryz.prog.cellsOf 3)) = some y2 := hf 2 _ rfl
 have h3 : DataW.trod enc Tryz.prog w 0 (fun _ => true) held n 3 (([c0, c1, c2, c3].drop 3).take (Tryz.prog.cellsOf 3)) = some y3 := hf 3 _ rfl
 rw [show Tryz.prog.cellsOf 3 = 1 by kernel_rfl] at h0 h2 h3
 rw [show Tryz.prog.cellsOf 9 = 1 by kernel_rfl] at h1
 obtain ⟨i, e0, _, w0⟩ := DataW.trod_int Tryz.underlying3 (x := y0) h0
 obtain ⟨s, e1, _, w1⟩ := DataW.trod_string Tryz.underlying9 (x := y1) h1
 obtain ⟨j, e2, _, w2⟩ := DataW.trod_int Tryz.underlying3 (x := y2) h2
 obtain ⟨k, e3, _, w3⟩ := DataW.trod_int Tryz.underlying3 (x := y3) h3
 simp at e0 e1 e2 e3
 exact ⟨i, j, k, s, by rw [e0, e1, e2, e3]⟩
end
def laid6 : List (String × DataW Unit) := [("math/bits.deBruijn32tab", Rows.laid_math_bits_deBruijn32tab), ("math/bits.deBruijn64tab", Rows.laid_math_bits_deBruijn64tab), ("internal/strconv.uint64pow10", Rows.laid_internal_strconv_uint64pow10), ("unicode/utf8.acceptRanges", Rows.laid_unicode_utf8_acceptRanges), ("pursuivant/sha.constants", Rows.laid_pursuivant_sha_constants), ("unicode/utf8.first", Rows.laid_unicode_utf8_first)]
theorem gPow : Tryz.prog.globalNamed "internal/strconv.uint64pow10" = some 4 := by kernel_rfl
theorem gKs : Tryz.prog.globalNamed "pursuivant/sha.constants" = some 2 := by kernel_rfl
theorem first_eq : Rows.laid_unicode_utf8_first = Lib.firstData := Pinned.utf8First_eq
theorem accept_eq : Rows.laid_unicode_utf8_acceptRanges = Lib.acceptData := by kernel_rfl
theorem pow_eq : (Rows.laid_internal_strconv_uint64pow10 : DataW Unit) = Lib.tabData .u64 Lib.pow10Tab := by kernel_rfl
theorem ks_eq : (Rows.laid_pursuivant_sha_constants : DataW Unit) = Lib.tabData .u32 KS := by kernel_rfl
theorem tabs_of_laid {W : World} (hL : laidMetH Tryz.prog laid6 W) : Tabs W := by
 rw [MakeChecks.laidMetH_plain _ _ _ (by kernel_rfl)] at hL
 have r1 : ("unicode/utf8.first", Lib.firstData) ∈ laid6 := by rw [← first_eq]; simp [laid6]
 have r2 : ("unicode/utf8.acceptRanges", Lib.acceptData) ∈ laid6 := by rw [← accept_eq]; simp [laid6]
 refine ⟨utf8Tabs_of_readsT (U8Types.of260 { Tryz.shDecode with }) ⟨by kernel_rfl, by kernel_rfl, by kernel_rfl, by kernel_rfl, by kernel_rfl, by kernel_rfl, by kernel_rfl⟩ (Lib.laidMet.reads hL r1) (Lib.laidMet.reads hL r2), ?_⟩
 have h3 := hL.tail.tail
 rw [show (Rows.laid_internal_strconv_uint64pow10 : DataW Unit) = Lib.tabData .u64 Lib.pow10Tab from pow_eq] at h3
 exact Lib.tabIs_of_head gPow (by kernel_rfl) Tryz.underlying262 Tryz.underlying225 (by kernel_rfl) (by kernel_rfl) h3
theorem ksIs_of_laid {W : World} (hL : laidMetH Tryz.prog laid6 W) : Lib.TabIs Tryz.prog W "pursuivant/sha.constants" .u32 KS := by
 rw [MakeChecks.laidMetH_plain _ _ _ (by kernel_rfl)] at hL
 have h3 := hL.tail.tail.tail.tail
 rw [show (Rows.laid_pursuivant_sha_constants : DataW Unit) = Lib.tabData .u32 KS from ks_eq] at h3
 exact Lib.tabIs_of_head gKs (by kernel_rfl) Tryz.underlying179 Tryz.underlying139 (by kernel_rfl) (by kernel_rfl) h3
theorem ks_of_laid {W : World} (hL : laidMetH Tryz.prog laid6 W) : KsAt W := by
 have h := ksIs_of_laid hL
 unfold Lib.TabIs World.var? at h
 rw [gKs] at h
 simp only [Option.bind_some] at h
 split at h
 ·rename_i cs t f hb
  have hc := Option.some.inj h
  subst hc
  intro j v hv
  rw [Nat.zero_add]
  refine cell_head hb ?_
  rw [List.getElem?_toArray]
  have e : wordsL KS 0 = KS.map (fun z => Value.int .u32 z) := by unfold wordsL; rw [List.replicate_zero, List.append_nil]; rfl
  rw [e] at hv
  exact hv
 ·cases h
section
variable {H : Type} {enc : TypeId × Value → H}
theorem handed_shaped {a : Assume} {C : Checked} {os : Os} {f : FuncId} {fn : Func} {s : ChangeSpec} {conds : List PathCond} {apart fresh handsOn again : Bool} {X : World → Array Value → Prop}
  (hX : ∀ (w w' : World) (args : Array Value), w.heap = w'.heap → X w args → X w' args)
  (own : ownKnob C.prog.godebug = none) (started : os.Started) (noInit : C.prog.inits.idxOf? f = none) (hfn : C.prog.funcs[f]? = some fn)
  (witness : ∃ (w : World) (tape : Tape) (i : Input), w.os = os ∧ (w.forCall tape i).Shaped C.prog ∧ i.vars = [] ∧ Input.okWide C.prog (w.forCall tape i) .any w.heap.size f i ∧
   ((s.pre enc C.prog fn conds apart (w.forCall tape i).memory i.args ∧ X (w.forCall tape i).memory i.args) ∧ sizedMet enc C.prog fn (OpenSpec.ofChange s) apart (w.forCall tape i).memory i.args) ∧ a.holds C.prog (lone (Frame.enter C.prog f i.args .normal) [] (w.forCall tape i)))
  (contract : ∀ (W : World) (base : Nat) (args : Array Value) (ds gs : List (DataW H)) (before : List MemPlace),
   (∀ (j : Nat) t v, fn.params[j]? = some t → args[j]? = some v → Value.okWide C.prog W .any base t v) →
   DataW.Whole enc C.prog fn.params.toList s.vars apart W args.toList ds gs before →
   (DataW.weightsEach C.prog (fn.params.toList ++ s.plain.varTypes C.prog) (ds ++ gs)).all (· ≤ reachBytes) = true → X W args →
   W.ShapedOpen C.prog →
   Calls C.prog f args W fun e W' => ∃ v, e = .returned v ∧ s.post enc C.prog fn apart fresh handsOn again W args v W') :
  ReturnsInHanded a C os f .any (fun w args => (s.pre enc C.prog fn conds apart w args ∧ X w args) ∧ sizedMet enc C.prog fn (OpenSpec.ofChange s) apart w args) (s.post enc C.prog fn apart fresh handsOn again) := by
 refine returnsInHanded_of_calls own started noInit witness ?_
 intro w tape i _ hsh _ hok hpre _
 obtain ⟨_, _, _, fn', hfn', _, _, _, _, hval⟩ := hok
 obtain rfl : fn' = fn := Option.some.inj (hfn'.symm.trans hfn)
 obtain ⟨⟨⟨ds, gs, before, hw, -⟩, hx⟩, hz⟩ := hpre
 refine (contract (w.forCall tape i) w.heap.size i.args ds gs before hval (DataW.Whole.of_heap (by rfl) hw) (hz.weights hw) (hX _ _ _ (by rfl) hx) hsh).mono fun e W' h9 => ?_
 obtain ⟨v, rfl, hp⟩ := h9
 exact ChangeSpec.post_blind hp
end
end Go.Proofs.YtckbnjipecclaaaGreatDoor
