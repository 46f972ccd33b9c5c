/- Parts of one proof, merged: XJO XGT. -/
import Derived.Test.YtckbnjipecclaaaGreatDoorHkAA
import Derived.Test.YtckbnjipecclaaaGreatDoorHkAE
set_option linter.all false
set_option maxHeartbeats 12800000
set_option maxRecDepth 10000
set_option linter.unusedVariables false
set_option linter.unusedSimpArgs false
set_option linter.unnecessarySimpa false
namespace Go.Proofs.YtckbnjipecclaaaGreatDoor
open Go.RowKit
theorem lives_any {w : World} (ht : Tabs w) (hks : KsAt w) (hm : MaxW w) : Calls Tryz.prog 7 #[] w fun e w' => e = .returned (.bool true) ∧ Kept [] w w' := by
 have Mi : Hid ((keyIdS key7).size = 64) := qI (idS_size key7_may)
 have CKI : Hid (∀ w1, Kept [] w w1 → Calls Tryz.prog 14 #[.agg (keyA key7)] w1 fun e w' => e = .returned (.string (keyIdS key7)) ∧ Kept [] w1 w') := qI (fun w1 hk => keyId_any key7 (may_wf key7_may).1 key7_len w1 (ht.kept0 hk) (hks.kept0 hk))
 have CKV : Hid (∀ w1, Calls Tryz.prog 8 #[.agg (keyA key7)] w1 fun e w' => New 3 w1 w' e (keyV key7) ∧ Kept [] w1 w') := qI (fun w1 => (keyValue_any key7 (may_wf key7_may).1 key7_len w1).mono fun e w' ⟨h1, h2⟩ => ⟨by unfold KeyAns at h1; rw [if_pos key7_may] at h1; exact h1, h2⟩)
 have CRK : Hid (∀ w1 cs1, Rep 3 (fun _ => True) w1 cs1 (keyV key7) → Calls Tryz.prog 9 #[.agg cs1.toArray] w1 fun e w' => e = .returned (.tuple #[.agg (keyA key7), .int .i64 0]) ∧ Kept [] w1 w') := qI (fun w1 cs1 h1 => (readKey_any (n := 1) h1 (small_key key7 key7_len)).mono fun e w' ⟨h2, h3⟩ => ⟨by rw [readKey_keyV key7_may key7_len] at h2; exact h2, h3⟩)
 have CSV : Hid (∀ w1 g o c, Kept [] w w1 → w1.rangeAt g o (rowL (keyIdS key7) key7) → Calls Tryz.prog 32 #[.slice (some ⟨g, o, none⟩) 1 c] w1 fun e w' => New 4 w1 w' e (rowsV (keyIdS key7) (keyV key7)) ∧ Kept [] w1 w') := qI (fun w1 g o c hk h => keysValue1_any h key7_may key7_len (ht.kept0 hk) (hks.kept0 hk))
 have CRS : Hid (∀ w1 cs1, Kept [] w w1 → Rep 4 (fun _ => True) w1 cs1 (rowsV (keyIdS key7) (keyV key7)) → Calls Tryz.prog 33 #[.agg cs1.toArray] w1 fun e w' => (∃ g o c, e = .returned (.tuple #[.slice (some ⟨g, o, none⟩) 1 c, .int .i64 0]) ∧ w'.rangeAt g o (rowL (keyIdS key7) key7)) ∧ Kept [] w1 w') := qI (fun w1 cs1 hk h => readKeys1_any h key7_may key7_len (ht.kept0 hk) (hks.kept0 hk))
 have CMK : Hid (∀ w1 g o c, Kept [] w w1 → w1.rangeAt g o (rowL (keyIdS key7) key7) → Calls Tryz.prog 38 #[.slice (some ⟨g, o, none⟩) 1 c] w1 fun e w' => e = .returned (.bool true) ∧ Kept [] w1 w') := qI (fun w1 g o c hk h => mayKeys1_any h key7_may key7_len (ht.kept0 hk) (hks.kept0 hk))
 have Gq : Hid (mayRole (oneRole (keyIdS key7)) = true) := qI (may_oneRole (isId_key key7_may))
 have Gj : ∀ k, k ∈ (oneRole (keyIdS key7)).keys → k.size ≤ 140737488355328 := fun k hk => by
  obtain rfl : k = keyIdS key7 := by simpa [oneRole] using hk
  rw [Mi.o]; decide
 have CRV : Hid (∀ w1 a c, Texts w1 (.slice a 1 c) [keyIdS key7] → Calls Tryz.prog 16 #[.agg #[.slice a 1 c, .int .i64 1]] w1 fun e w' => New 3 w1 w' e (roleV (oneRole (keyIdS key7))) ∧ Kept [] w1 w') := qI (fun w1 a c h => (roleValue_any (r := oneRole (keyIdS key7)) h Gj (by decide : 1 ≤ 1000000000000)).mono fun e w' ⟨h1, h2⟩ => ⟨by unfold RoleAns at h1; rw [if_pos Gq.o] at h1; exact h1, h2⟩)
 have CRR : Hid (∀ w1 cs1, Rep 3 (fun _ => True) w1 cs1 (roleV (oneRole (keyIdS key7))) → Calls Tryz.prog 17 #[.agg cs1.toArray] w1 fun e w' => (∃ a c, e = .returned (.tuple #[.agg #[.slice a 1 c, .int .i64 1], .int .i64 0]) ∧ Texts w' (.slice a 1 c) [keyIdS key7]) ∧ Kept [] w1 w') := qI (fun w1 cs1 h1 => (readRole_any (n := 1) h1 (small_role Gq.o)).mono fun e w' ⟨h2, h3⟩ => ⟨by rw [readRole_roleV Gq.o] at h2; exact h2, h3⟩)
 have CMR : Hid (∀ w1 a c, Texts w1 (.slice a 1 c) [keyIdS key7] → Calls Tryz.prog 19 #[.agg #[.slice a 1 c, .int .i64 1]] w1 fun e w' => e = .returned (.bool true) ∧ Kept [] w1 w') := qI (fun w1 a c h => (mayRole_any (r := oneRole (keyIdS key7)) h Gj (by decide : 1 ≤ 1000000000000)).mono fun e w' ⟨h1, h2⟩ => ⟨by rw [Gq.o] at h1; exact h1, h2⟩)
 have CSR : Hid (∀ w1 a c b d, Texts w1 (.slice a 1 c) [keyIdS key7] → Texts w1 (.slice b 1 d) [keyIdS key7] → Calls Tryz.prog 22 #[.agg #[.slice a 1 c, .int .i64 1], .agg #[.slice b 1 d, .int .i64 1]] w1 fun e w' => e = .returned (.bool true) ∧ Kept [] w1 w') := qI (fun w1 a c b d h1 h2 => (sameRole_any (r := oneRole (keyIdS key7)) (s := oneRole (keyIdS key7)) h1 h2 (by decide : 1 ≤ 1000000000000) (by decide : 1 ≤ 1000000000000)).mono fun e w' ⟨h3, h4⟩ => ⟨by rw [show sameRoleB (oneRole (keyIdS key7)) (oneRole (keyIdS key7)) = true by simp [sameRoleB]] at h3; exact h3, h4⟩)
 have CHV : Hid (∀ w1, Kept [] w w1 → Calls Tryz.prog 35 #[.string ⟨#[114, 111, 111, 116]⟩, .int .i64 3, .int .i64 86400] w1 fun e w' => New 2 w1 w' e headV ∧ Kept [] w1 w') := qI (fun w1 hk => headValue_any (ht.kept0 hk))
 have CH1 : Hid (∀ w1 cs1, Kept [] w w1 → Rep 2 (fun _ => True) w1 cs1 headV → Calls Tryz.prog 34 #[.agg cs1.toArray, .string ⟨#[114, 111, 111, 116]⟩] w1 fun e w' => e = .returned (.tuple #[.int .i64 3, .int .i64 86400, .int .i64 0]) ∧ Kept [] w1 w') := qI (fun w1 cs1 hk h => readHead_root h (hm.kept0 hk))
 have CH2 : Hid (∀ w1 cs1, Kept [] w w1 → Rep 2 (fun _ => True) w1 cs1 headV → Calls Tryz.prog 34 #[.agg cs1.toArray, .string ⟨#[111, 116, 104, 101, 114]⟩] w1 fun e w' => e = .returned (.tuple #[.int .i64 0, .int .i64 0, .int .i64 130]) ∧ Kept [] w1 w') := qI (fun w1 cs1 hk h => readHead_other h (hm.kept0 hk))
 have COF : Hid (∀ w1 cs1, Rep 3 (fun _ => True) w1 cs1 (keyV key7) → Calls Tryz.prog 37 #[.agg cs1.toArray] w1 fun e w' => (∃ g, w1.heap.size ≤ g ∧ e = .returned (.pointer (some ⟨g, 0, none⟩)) ∧ Fld 2 w' g (keyV key7) false) ∧ Kept [] w1 w') := qI (fun w1 cs1 h => roleOf_any (n := 2) h)
 have CTX : Hid (∀ w1 g, Fld 2 w1 g (keyV key7) false → Calls Tryz.prog 24 #[.pointer (some ⟨g, 0, none⟩), .string ⟨#[115, 99, 104, 101, 109, 101]⟩, .int .i64 9] w1 fun e w' => e = .returned (.string ⟨#[115, 104, 97, 50, 53, 54]⟩) ∧ Fld 2 w' g (keyV key7) false ∧ Kept [g] w1 w') := qI (fun w1 g h => by
  have h1 := ftext_any h (small_key key7 key7_len) ⟨#[115, 99, 104, 101, 109, 101]⟩ 9
  rw [show ftext (n := 2) (keyV key7) false ⟨#[115, 99, 104, 101, 109, 101]⟩ 9 = (⟨#[115, 104, 97, 50, 53, 54]⟩, false) from ftext_pos (n := 2) (x := (textV ⟨#[115, 104, 97, 50, 53, 54]⟩ : VS (V 1))) (by kernel_rfl) rfl (by decide)] at h1
  exact h1)
 have CHS : Hid (∀ w1 g, Fld 2 w1 g (keyV key7) false → Calls Tryz.prog 29 #[.pointer (some ⟨g, 0, none⟩), .string ⟨#[107, 101, 121, 118, 97, 108]⟩] w1 fun e w' => e = .returned (.bool true) ∧ Kept [] w1 w') := qI (fun w1 g h => by
  have h1 := fhas_any h (small_key key7 key7_len) ⟨#[107, 101, 121, 118, 97, 108]⟩
  rw [show hasV (n := 2) (keyV key7) false ⟨#[107, 101, 121, 118, 97, 108]⟩ = true by kernel_rfl] at h1
  exact h1)
 have CDN : Hid (∀ w1 g, Fld 2 w1 g (keyV key7) false → Calls Tryz.prog 30 #[.pointer (some ⟨g, 0, none⟩)] w1 fun e w' => e = .returned (.int .i64 0) ∧ w1 = w') := qI (fun w1 g h => fdone_any h)
 have CFI : Hid (∀ w1 g o c, w1.rangeAt g o (rowL (keyIdS key7) key7) → Calls Tryz.prog 36 #[.slice (some ⟨g, o, none⟩) 1 c, .string (keyIdS key7)] w1 fun e w' => e = .returned (.tuple #[.agg (keyA key7), .bool true]) ∧ Kept [] w1 w') := qI (fun w1 g o c h => find1_any key7_len h)
 obtain ⟨FX, Je⟩ : ∃ FX : World → Nat → Prop, Hid ((∀ w1 g, FX w1 g = Fld 2 w1 g (keyV key7) false)) := ⟨fun w1 g => Fld 2 w1 g (keyV key7) false, qI (fun _ _ => rfl)⟩
 have Mj : Hid (∀ w1 w2 g, FX w1 g → Kept [] w1 w2 → FX w2 g) := qI (fun w1 w2 g h k => by rw [Je.o] at h ⊢; exact h.kept0 k)
 simp only [← Je.o] at COF CTX CHS CDN
 clear ht hks hm Gq Gj Je
 generalize roleV (oneRole (keyIdS key7)) = Y at CRV CRR
 generalize keyV key7 = X at CKV CRK CSV CRS COF
 generalize keyIdS key7 = id at *
 go_enter Tryz.func7, Tryz.ntmps7
 go_upto_region 2 with first
  | (refine wpList_root7 (by rfl) _ (by rfl) (by rfl) ?_)
  | (refine wpList_key7 (by rfl) _ _ _ (by rfl) (by rfl) (by rfl) (by rfl) ?_)
  | (refine wpList_store34 (by rfl) (.tmp 1) (.tmp 22) (by rfl) (g := w.heap.size) (k := key7) (k0 := zeroKey) (block_alloc rfl) (by rfl) key7_len (by rfl) (by rfl) ?_; intro w1 h hk; have H1 := qI h; have Mq : Hid (Kept [] w w1) := qI (((Kept.refl [] w).alloc _).trans hk (by intro i hi; simp at hi; subst hi; exact .inr (Nat.le_refl _))); clear h hk; simp only [Act.put])
 have Mk := Mq
 generalize hg1 : w.heap.size = g1 at H1
 go_upto_region 3 with first
  | (refine wpList_load34 (by rfl) (.tmp 1) (by rfl) H1.o key7_len (by rfl) ?_)
  | (go_at_call 14; refine (CKI.o _ Mk.o).mono ?_; rintro e w2 ⟨rfl, hk⟩; have Mr := qI (Mk.o.then hk); have H1b := qI (KeyAt.kept0 H1.o hk); clear hk)
 go_upto_region 4 with first
  | (refine wpList_load34 (by rfl) (.tmp 1) (by rfl) H1b.o key7_len (by rfl) ?_)
  | (go_at_call 8; refine (CKV.o _).mono ?_; rintro e w3 ⟨hn, hk⟩; obtain ⟨k3, m3, s3, p3, i3, c3, q3, j3, e3, rfl, ho3⟩ := new_fact hn; have Ms := qI (Rep.mono (T := fun _ => True) ho3.rep (fun _ _ _ => trivial)); have Mt := qI (Mr.o.then hk); have H1c := qI (KeyAt.kept0 H1b.o hk); clear hk ho3 hn)
  | (refine wpList_store5 (by rfl) (.tmp 3) (.tmp 26) (by rfl) (g := w3.heap.size) (block_alloc rfl) (by rfl) (by rfl) ?_; intro w4 h hk; have H3 := qI h; have Jf : Hid (Kept [] w3 w4) := qI (((Kept.refl [] w3).alloc _).trans hk (by intro i hi; simp at hi; subst hi; exact .inr (Nat.le_refl _))); clear h hk; simp only [Act.put])
 have Mu := qI (Mt.o.then Jf.o)
 have H1d := qI (KeyAt.kept0 H1c.o Jf.o)
 have Ml := qI (Rep.kept0 Ms.o Jf.o)
 generalize hg3 : w3.heap.size = g3 at H3
 obtain ⟨y0, y1, y2, y3, y4⟩ := box_of H3.o
 go_upto_region 5 with first
  | (go_at_call 9; refine (CRK.o _ [.int .i64 k3, .int .i64 m3, .string s3, .slice p3 i3 c3, .slice q3 j3 e3] Ml.o).mono ?_; rintro e w5 ⟨rfl, hk⟩; have Mv := qI (Mu.o.then hk); have Jg := qI hk; clear hk)
  | (refine wpList_store34 (by rfl) (.tmp 4) (.tmp 30) (by rfl) (g := w5.heap.size) (k := key7) (k0 := zeroKey) (block_alloc rfl) (by rfl) key7_len (by rfl) (by rfl) ?_; intro w6 h hk; have H4 := qI h; have Mm : Hid (Kept [] w5 w6) := qI (((Kept.refl [] w5).alloc _).trans hk (by intro i hi; simp at hi; subst hi; exact .inr (Nat.le_refl _))); clear h hk; simp only [Act.put])
 have Mn := qI (Mv.o.then Mm.o)
 have Gk := qI (Jg.o.then Mm.o)
 have H1e := qI (KeyAt.kept0 H1d.o Gk.o)
 have Mw := qI (Rep.kept0 Ml.o Gk.o)
 have H3b : Hid (ValAt w6 g3 k3 m3 s3 (.slice p3 i3 c3) (.slice q3 j3 e3)) := qI (Gk.o.heap H3.o (by simp))
 generalize hg4 : w5.heap.size = g4 at H4
 clear y0 y1 y2 y3 y4
 go_upto_region 6 with first
  | (refine wpList_load34 (by rfl) (.tmp 1) (by rfl) H1e.o key7_len (by rfl) ?_)
  | (refine wpList_buildRow (by rfl) (.tmp 32) (.tmp 33) (by rfl) key7_len (by rfl) (by rfl) ?_)
  | (refine wpList_sliceRow (by rfl) (.tmp 34) (by rfl) key7_len (by rfl) ?_)
  | (go_at_call 32; refine (CSV.o _ _ 0 1 (Mn.o.alloc _) (fun j v hv => by rw [Nat.zero_add]; exact cell_head (block_alloc rfl) (by simpa using hv))).mono ?_; rintro e w7 ⟨hn, hk⟩; obtain ⟨k6, m6, s6, p6, i6, c6, q6, j6, e6, rfl, ho6⟩ := new_fact hn; have Mx := qI (Rep.mono (T := fun _ => True) ho6.rep (fun _ _ _ => trivial)); have Jh : Hid (Kept [] w6 w7) := qI (((Kept.refl [] w6).alloc _).then hk); clear hk ho6 hn)
  | (refine wpList_store5 (by rfl) (.tmp 6) (.tmp 36) (by rfl) (g := w7.heap.size) (block_alloc rfl) (by rfl) (by rfl) ?_; intro w8 h hk; have H6 := qI h; have Mo : Hid (Kept [] w7 w8) := qI (((Kept.refl [] w7).alloc _).trans hk (by intro i hi; simp at hi; subst hi; exact .inr (Nat.le_refl _))); clear h hk; simp only [Act.put])
 have Gr := qI (Jh.o.then Mo.o)
 have Mp := qI (Mn.o.then Gr.o)
 have Ji := qI (Rep.kept0 Mx.o Mo.o)
 generalize hg6 : w7.heap.size = g6 at H6
 obtain ⟨y0, y1, y2, y3, y4⟩ := box_of H6.o
 go_upto_region 7 with first
  | (go_at_call 33; refine (CRS.o _ [.int .i64 k6, .int .i64 m6, .string s6, .slice p6 i6 c6, .slice q6 j6 e6] Mp.o Ji.o).mono ?_; rintro e w9 ⟨⟨g9, o9, c9, rfl, hrow⟩, hk⟩; have Jj := qI hrow; have Gs := qI hk; clear hk hrow)
 clear y0 y1 y2 y3 y4
 have My := qI (Mp.o.then Gs.o)
 go_upto_region 8 with first
  | (refine wpList_store2 (by rfl) (.tmp 9) (.tmp 44) (by rfl) (g := w9.heap.size + 1) (block_alloc (by simp)) (by rfl) (by rfl) ?_; intro w10 h hk; have H9 := qI h; have Gt : Hid (Texts w10 (.slice (some ⟨w9.heap.size, 0, none⟩) 1 1) [id]) := qI (Slc.kept (Slc.kept0 (slc_one w9 (.string id) _ _ rfl) ((Kept.refl [] _).alloc _)) hk (by intro g hg; simp [vblk] at hg; subst hg; simp)); have Jk : Hid (Kept [] w9 w10) := qI ((((Kept.refl [] w9).alloc _).alloc _).trans hk (by intro i hi; simp at hi; subst hi; exact .inr (by simp))); clear h hk; simp only [Act.put])
 have Jl := qI (My.o.then Jk.o)
 have y0 := cell_head (o := 0) (v := .slice (some ⟨w9.heap.size, 0, none⟩) 1 1) H9.o rfl
 have y1 := cell_head (o := 1) (v := .int .i64 1) H9.o rfl
 go_upto_region 9 with first
  | (go_at_call 17; refine (CRR.o _ [.int .i64 k11, .int .i64 m11, .string s11, .slice p11 i11 c11, .slice q11 j11 e11] Jm.o).mono ?_; rintro e w12 ⟨⟨a12, c12, rfl, ht12⟩, hk⟩; have Jn := qI ht12; have Gl := qI (Gm.o.then hk); clear hk ht12)
  | (go_at_call 16; refine (CRV.o _ _ 1 Gt.o).mono ?_; rintro e w11 ⟨hn, hk⟩; obtain ⟨k11, m11, s11, p11, i11, c11, q11, j11, e11, rfl, ho⟩ := new_fact hn; have Jm := qI (Rep.mono (T := fun _ => True) ho.rep (fun _ _ _ => trivial)); have Gm := qI hk; clear hk ho hn)
  | (refine wpList_store2 (by rfl) (.tmp 10) (.tmp 49) (by rfl) (g := w12.heap.size) (block_alloc rfl) (by rfl) (by rfl) ?_; intro w13 h hk; have H10 := qI h; have Gu : Hid (Kept [] w12 w13) := qI (((Kept.refl [] w12).alloc _).trans hk (by intro i hi; simp at hi; subst hi; exact .inr (Nat.le_refl _))); clear h hk; simp only [Act.put])
 clear y0 y1
 have HKh13 : Hid (Kept [] w13 w13) := qI (Kept.refl _ _)
 have Gc := qI (Gl.o.then Gu.o)
 have Gh := qI (Jl.o.then Gc.o)
 have Jo := qI (Jn.o.kept0 Gu.o)
 generalize hg10 : w12.heap.size = g10 at H10
 go_upto_region 10 with first
  | (go_at_call 34; refine (CH1.o _ [.int .i64 k14, .int .i64 m14, .string s14, .slice p14 i14 c14, .slice q14 j14 e14] Gv.o Jp.o).mono ?_; rintro e w15 ⟨rfl, hk⟩; have Gw := qI (Gv.o.then hk); have HKh15 := qI (HKh14.o.then hk); clear hk)
  | (go_at_call 35; refine (CHV.o _ Gh.o).mono ?_; rintro e w14 ⟨hn, hk⟩; obtain ⟨k14, m14, s14, p14, i14, c14, q14, j14, e14, rfl, ho⟩ := new_fact hn; have Jp := qI (Rep.mono (T := fun _ => True) ho.rep (fun _ _ _ => trivial)); have Gv := qI (Gh.o.then hk); have HKh14 := qI (HKh13.o.then hk); clear hk ho hn)
 go_upto_region 11 with first
  | (go_at_call 34; refine (CH2.o _ [.int .i64 k16, .int .i64 m16, .string s16, .slice p16 i16 c16, .slice q16 j16 e16] Gx.o Jq.o).mono ?_; rintro e w17 ⟨rfl, hk⟩; have Mz := qI (Gx.o.then hk); have HKh17 := qI (HKh16.o.then hk); clear hk)
  | (go_at_call 35; refine (CHV.o _ Gw.o).mono ?_; rintro e w16 ⟨hn, hk⟩; obtain ⟨k16, m16, s16, p16, i16, c16, q16, j16, e16, rfl, ho⟩ := new_fact hn; have Jq := qI (Rep.mono (T := fun _ => True) ho.rep (fun _ _ _ => trivial)); have Gx := qI (Gw.o.then hk); have HKh16 := qI (HKh15.o.then hk); clear hk ho hn)
 have Gy := qI ((((Gs.o.then Jk.o).then Gc.o)).then HKh17.o)
 have Gz := qI ((Jk.o.then Gc.o).then HKh17.o)
 have Gn : Hid (w17.rangeAt g9 o9 (rowL id key7)) := qI (fun j v hv => Gz.o.cell (Jj.o j v hv) (by simp))
 go_upto_region 12 with first
  | (go_at_call 36; refine (CFI.o _ _ _ _ Gn.o).mono ?_; rintro e w18 ⟨rfl, hk⟩; have Gp := qI hk; clear hk)
  | (refine wpList_store34 (by rfl) (.tmp 18) (.tmp 67) (by rfl) (g := w18.heap.size) (k := key7) (k0 := zeroKey) (block_alloc rfl) (by rfl) key7_len (by rfl) (by rfl) ?_; intro w19 h hk; have H18 := qI h; have Jr : Hid (Kept [] w18 w19) := qI (((Kept.refl [] w18).alloc _).trans hk (by intro i hi; simp at hi; subst hi; exact .inr (Nat.le_refl _))); clear h hk; simp only [Act.put])
 generalize hg18 : w18.heap.size = g18 at H18
 have Ga := qI (Gp.o.then Jr.o)
 have Ge := qI ((Gr.o.then Gy.o).then Ga.o)
 have H3c := qI (Ge.o.heap H3b.o (by simp))
 have Js := qI (Rep.kept0 Mw.o Ge.o)
 obtain ⟨y0, y1, y2, y3, y4⟩ := box_of H3c.o
 go_upto_region 13 with first
  | (go_at_call 37; refine (COF.o _ [.int .i64 k3, .int .i64 m3, .string s3, .slice p3 i3 c3, .slice q3 j3 e3] Js.o).mono ?_; rintro e w20 ⟨⟨gf, hgf, rfl, hf⟩, hk⟩; have Jt := qI hf; have Ju := qI hgf; have Gb := qI hk; clear hk hf hgf)
 clear y0 y1 y2 y3 y4
 have Gi := qI (Ge.o.then Gb.o)
 go_upto_region 15 with fail
 have H1z := qI (KeyAt.kept0 H1e.o Gi.o)
 have H4z := qI (KeyAt.kept0 H4.o Gi.o)
 have H18z := qI (KeyAt.kept0 H18.o Gb.o)
 have Gf := qI (((Gc.o.then HKh17.o).then Ga.o).then Gb.o)
 have Gg := qI ((HKh17.o.then Ga.o).then Gb.o)
 have H9z := qI (Gf.o.heap H9.o (by simp))
 have H10z := qI (Gg.o.heap H10.o (by simp))
 have HT9z := qI (Gt.o.kept0 Gf.o)
 have HT10z := qI (Jo.o.kept0 Gg.o)
 have HRz : Hid (w20.rangeAt g9 o9 (rowL id key7)) := qI (fun j v hv => (Ga.o.then Gb.o).cell (Gn.o j v hv) (by simp))
 have Jv := qI ((Gh.o.then HKh17.o).then Ga.o)
 have Ja : Hid (w9.heap.size + 1 < w19.heap.size) := qI (by
  have h1 := lt_of_block H9.o
  have h2 := ((Gc.o.then HKh17.o).then Ga.o).size
  omega)
 have Jb : Hid (g9 < w19.heap.size) := qI (by
  have h1 := World.block_lt_of_cell? _ _ (Gn.o 0 _ (show (rowL id key7)[0]? = some (.string id) from rfl))
  have h2 := Ga.o.size
  simp only at h1
  omega)
 have Jw := qI (((Gh.o.then HKh17.o).then Ga.o).then Gb.o)
 have y0 := cell_head (o := 0) (v := .slice (some ⟨w9.heap.size, 0, none⟩) 1 1) H9z.o rfl
 have y1 := cell_head (o := 1) (v := .int .i64 1) H9z.o rfl
 have y2 := cell_head (o := 0) (v := .slice a12 1 c12) H10z.o rfl
 have y3 := cell_head (o := 1) (v := .int .i64 1) H10z.o rfl
 have hsz := Mi.o
 refine wp_region_list ?_
 refine wpList_at 8 ?_
 change wpList _ _ _ [_, _, _, _, _, _, _, _] _ _
 go_wp2_with fail
 try refine ⟨rfl, ?_⟩
 refine qI ?_
 refine wpList_at 1 ?_
 change wpList _ _ _ [_] _ _
 refine wpList_load34g (by rfl) (.tmp 4) (by rfl) H4z.o key7_len (by rfl) ?_
 refine ⟨rfl, qI ?_⟩
 refine wpList_at 1 ?_
 change wpList _ _ _ [_] _ _
 refine wpList_load34g (by rfl) (.tmp 1) (by rfl) H1z.o key7_len (by rfl) ?_
 refine ⟨rfl, qI ?_⟩
 refine wpList_at 1 ?_
 change wpList _ _ _ [_] _ _
 refine wpList_eql7 (by rfl) 81 82 (by rfl) (by rfl) (by rfl) ?_
 refine ⟨rfl, qI ?_⟩
 simp only [Act.put, List.setIfInBounds_toArray, List.set_cons_zero, List.set_cons_succ]
 refine wpList_at 14 ?_
 change wpList _ _ _ [_, _, _, _, _, _, _, _, _, _, _, _, _, _] _ _
 go_wp2_with fail
 try refine ⟨rfl, ?_⟩
 refine qI ?_
 refine wpList_at 1 ?_
 change wpList _ _ _ [_] _ _
 refine wpList_load34g (by rfl) (.tmp 18) (by rfl) H18z.o key7_len (by rfl) ?_
 refine ⟨rfl, qI ?_⟩
 refine wpList_at 1 ?_
 change wpList _ _ _ [_] _ _
 refine wpList_load34g (by rfl) (.tmp 1) (by rfl) H1z.o key7_len (by rfl) ?_
 refine ⟨rfl, qI ?_⟩
 refine wpList_at 1 ?_
 change wpList _ _ _ [_] _ _
 refine wpList_eql7 (by rfl) 98 99 (by rfl) (by rfl) (by rfl) ?_
 refine ⟨rfl, qI ?_⟩
 simp only [Act.put, List.setIfInBounds_toArray, List.set_cons_zero, List.set_cons_succ]
 change wpList _ _ _ [_, _, _, _, _, _, _, _, _, _, _, _, _, _, _, _, _, _, _, _, _, _, _, _, _, _, _, _, _, _, _, _, _, _, _, _, _, _, _, _, _, _, _, _, _, _, _, _, _] _ _
 go_wp2_with first
  | (go_at_call 38; refine (CMK.o _ _ _ _ Jc.o Jx.o).mono ?_; rintro e w25 ⟨rfl, hk⟩; have Jy := qI (Jc.o.then hk); clear hk)
  | (go_at_call 19; refine (CMR.o _ _ _ Jz.o).mono ?_; rintro e w24 ⟨rfl, hk⟩; have Jc := qI (Ma.o.then hk); have Jx : Hid (w24.rangeAt g9 o9 (rowL id key7)) := qI (fun j v hv => hk.cell (Mb.o j v hv) (by simp)); clear hk)
  | (go_at_call 30; refine (CDN.o _ _ Mc.o).mono ?_; rintro e w23' ⟨rfl, rfl⟩)
  | (go_at_call 29; refine (CHS.o _ _ Jd.o).mono ?_; rintro e w23 ⟨rfl, hk⟩; have Mc := qI (Mj.o _ _ _ Jd.o hk); have Ma := qI (Md.o.then hk); have Jz := qI (Me.o.kept0 hk); have Mb : Hid (w23.rangeAt g9 o9 (rowL id key7)) := qI (fun j v hv => hk.cell (Mf.o j v hv) (by simp)); clear y0 y1; have y0 := cell_head (o := 0) (v := .slice (some ⟨w9.heap.size, 0, none⟩) 1 1) (hk.heap H922.o (by simp)) rfl; have y1 := cell_head (o := 1) (v := .int .i64 1) (hk.heap H922.o (by simp)) rfl; clear hk)
  | (go_at_call 24; refine (CTX.o _ _ Mg.o).mono ?_; rintro e w22 ⟨rfl, hf, hk⟩; have Jd := qI hf; have Md := qI ((Jw.o.then Gd.o).trans hk (by have := Ju.o; have := Jv.o.size; intro i hi; simp at hi; subst hi; exact .inr (by omega))); have Mh : Hid (w9.heap.size + 1 < gf ∧ g9 < gf) := qI ⟨by have := Ju.o; have := Ja.o; omega, by have := Ju.o; have := Jb.o; omega⟩; have Me : Hid (Texts w22 (.slice (some ⟨w9.heap.size, 0, none⟩) 1 1) [id]) := qI (Slc.kept (HT9z.o.kept0 Gd.o) hk (by have := Mh.o; intro g hg; simp [vblk] at hg; subst hg; simp; omega)); have Mf : Hid (w22.rangeAt g9 o9 (rowL id key7)) := qI (fun j v hv => hk.cell (Gd.o.cell (HRz.o j v hv) (by simp)) (by have := Mh.o; simp; omega)); have H922 := qI (hk.heap (Gd.o.heap H9z.o (by simp)) (by have := Mh.o; simp; omega)); clear hf hk)
  | (go_at_call 22; refine (CSR.o _ _ _ _ _ HT10z.o HT9z.o).mono ?_; rintro e w21 ⟨rfl, hk⟩; have Gd := qI hk; have Mg := qI (Mj.o _ _ _ Jt.o hk); clear hk)
 go_ret
 exact ⟨rfl, Jy.o⟩
theorem eqFields_step {P : Program} {w : World} {d : Nat} {xs : Array Value} {f : Field} {fs : List Field} {a : Value} (h0 : f.name ≠ "_") (h1 : (part f.type xs f.offset).run P w = .ok a w) (h2 : (Op.equalIn d f.type a a).run P w = .ok true w) (h3 : (Op.eqFields d xs xs fs).run P w = .ok true w) : (Op.eqFields d xs xs (f :: fs)).run P w = .ok true w := by
 simp only [Op.eqFields, if_pos h0, Sem.run_bind, h1, h2, Result.andThen_ok, Bool.not_true, Bool.false_eq_true, if_false, h3]
theorem key_cells {k : KeyS} (hr : k.root.length = 32) : (keyA k).extract 2 34 = (k.root.map bv).toArray := by
 rw [keyA, keyL, List.extract_toArray]
 show (((k.root.map bv).take 32)).toArray = _
 rw [List.take_of_length_le (by rw [List.length_map, hr]; exact Nat.le_refl _)]
theorem keyInfo32 : ∃ i, Tryz.prog.info? 22 = some i := by
 cases h : Tryz.prog.info? 22 with
 | some i => exact ⟨i, rfl⟩
 | none =>
  have h2 : (Tryz.prog.info? 22).isSome = true := by kernel_rfl
  rw [h] at h2
  cases h2
theorem keyInfo8 : ∃ i, Tryz.prog.info? 5 = some i := by
 cases h : Tryz.prog.info? 5 with
 | some i => exact ⟨i, rfl⟩
 | none =>
  have h2 : (Tryz.prog.info? 5).isSome = true := by kernel_rfl
  rw [h] at h2
  cases h2
theorem fields34 : (Tryz.prog.fieldsOf 24).toList = [⟨"Bits", 3, 0, false, "", "", 0⟩, ⟨"Height", 3, 1, false, "", "", 8⟩, ⟨"Root", 22, 2, false, "", "", 16⟩] := by
 unfold Program.fieldsOf
 rw [Tryz.underlying24]
theorem equal_keyD (d : Nat) (k : KeyS) (hr : k.root.length = 32) (w : World) : (Op.equalIn (d + 3) 24 (.agg (keyA k)) (.agg (keyA k))).run Tryz.prog w = .ok true w := by
 have p0 : (part 3 (keyA k) 0).run Tryz.prog w = .ok (.int .i64 k.bits) w := run_part_plain w (by kernel_rfl) rfl
 have p1 : (part 3 (keyA k) 1).run Tryz.prog w = .ok (.int .i64 k.height) w := run_part_plain w (by kernel_rfl) rfl
 have p2 : (part 22 (keyA k) 2).run Tryz.prog w = .ok (.agg (k.root.map bv).toArray) w := by
  obtain ⟨i, hi⟩ := keyInfo32
  have hc : Tryz.prog.cellsOf 22 = 32 := by kernel_rfl
  simp only [part, isAgg, Sem.run_bind, run_underlying Tryz.underlying22, Result.andThen_ok, Sem.run_pure, if_true, run_sizeOf w hi, hc, key_cells hr]
 have e0 : (Op.equalIn (d + 2) 3 (.int .i64 k.bits) (.int .i64 k.bits)).run Tryz.prog w = .ok true w := by rw [run_equalIn_int w (d + 1) _ _ .i64 _ _ Tryz.underlying3]; simp
 have e1 : (Op.equalIn (d + 2) 3 (.int .i64 k.height) (.int .i64 k.height)).run Tryz.prog w = .ok true w := by rw [run_equalIn_int w (d + 1) _ _ .i64 _ _ Tryz.underlying3]; simp
 have e2 : (Op.equalIn (d + 2) 22 (.agg (k.root.map bv).toArray) (.agg (k.root.map bv).toArray)).run Tryz.prog w = .ok true w := by
  obtain ⟨i, hi⟩ := keyInfo8
  have hc : Tryz.prog.cellsOf 5 = 1 := by kernel_rfl
  rw [run_equalIn_array w (d + 1) _ _ Tryz.underlying22 hi, hc]
  refine eqItems_self w d (by kernel_rfl) Tryz.underlying5 1 _ _ (fun j hj => ?_)
  have hj2 : j < k.root.length := by rw [hr]; exact List.mem_range.1 hj
  exact ⟨_, by rw [Nat.mul_one, List.getElem?_toArray, List.getElem?_map, List.getElem?_eq_getElem hj2]; rfl⟩
 refine (run_equalIn_struct w (d + 2) _ _ _ (by rw [Tryz.underlying24]; unfold Program.fieldsOf; rw [Tryz.underlying24]) (by kernel_rfl)).trans ?_
 rw [fields34]
 exact eqFields_step (by decide) p0 e0 (eqFields_step (by decide) p1 e1 (eqFields_step (by decide) p2 e2 rfl))
theorem equal_key (k : KeyS) (hr : k.root.length = 32) (w : World) : (Op.equalIn 10000 24 (.agg (keyA k)) (.agg (keyA k))).run Tryz.prog w = .ok true w := equal_keyD 9997 k hr w
theorem eql_key {k : KeyS} (hr : k.root.length = 32) (w : World) : (binOp .eql 24 (.agg (keyA k)) (.agg (keyA k))).run Tryz.prog w = .ok (.bool true) w := by rw [run_eql_struct, equal_key k hr]; rfl
theorem neq_key {k : KeyS} (hr : k.root.length = 32) (w : World) : (binOp .neq 24 (.agg (keyA k)) (.agg (keyA k))).run Tryz.prog w = .ok (.bool false) w := by rw [run_neq_struct, equal_key k hr]; rfl
theorem guard34 (op : BinOp) (x y : Operand) (k : KeyS) (w : World) : (eqGuard op 24 x y (.agg (keyA k)) (.agg (keyA k))).run Tryz.prog w = .ok () w := run_eqGuard_agg w op _ x y _ _ (by kernel_rfl)
theorem wpList_eqlK {ops : Array Oper} {rest : List Oper} {op : Oper} {a : Act} {w : World} {Q : Exit → Act → World → Prop} {k : KeyS} (hr : k.root.length = 32) (hw : Region.wanted op (yielded ops a.tmps) = true) (i j : Nat) (ho : op.op = .binOp .eql 24 (.tmp i) (.tmp j) 24) (hx : a.eval (.tmp i) = .agg (keyA k)) (hy : a.eval (.tmp j) = .agg (keyA k)) (h : wpList Tryz.prog ops Q rest (a.put op.dst (.bool true)) w) : wpList Tryz.prog ops Q (op :: rest) a w :=
 BigFrame.wpList_want hw fun K hK => by
  have hr : (execOp a.eval op).run Tryz.prog w = .ok (.value (.bool true)) w := by
   unfold execOp
   simp only [ho, hx, hy, Sem.run_bind, guard34, eql_key hr, Result.andThen_ok, Sem.run_pure]
  unfold Oper.wp
  rw [hr]
  exact hK _ _ h
theorem wpList_neqK {ops : Array Oper} {rest : List Oper} {op : Oper} {a : Act} {w : World} {Q : Exit → Act → World → Prop} {k : KeyS} (hr : k.root.length = 32) (hw : Region.wanted op (yielded ops a.tmps) = true) (i j : Nat) (ho : op.op = .binOp .neq 24 (.tmp i) (.tmp j) 24) (hx : a.eval (.tmp i) = .agg (keyA k)) (hy : a.eval (.tmp j) = .agg (keyA k)) (h : wpList Tryz.prog ops Q rest (a.put op.dst (.bool false)) w) : wpList Tryz.prog ops Q (op :: rest) a w :=
 BigFrame.wpList_want hw fun K hK => by
  have hr : (execOp a.eval op).run Tryz.prog w = .ok (.value (.bool false)) w := by
   unfold execOp
   simp only [ho, hx, hy, Sem.run_bind, guard34, neq_key hr, Result.andThen_ok, Sem.run_pure]
  unfold Oper.wp
  rw [hr]
  exact hK _ _ h
end Go.Proofs.YtckbnjipecclaaaGreatDoor
