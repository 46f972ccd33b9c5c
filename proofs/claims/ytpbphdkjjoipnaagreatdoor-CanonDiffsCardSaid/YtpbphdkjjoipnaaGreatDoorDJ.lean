/- Parts of one proof, merged: XPH XPI XPJ XPK. -/
import Derived.Test.YtpbphdkjjoipnaaGreatDoorDI
import Derived.Test.YtpbphdkjjoipnaaGreatDoorDB
import Derived.Test.YtpbphdkjjoipnaaGreatDoorDA
import Derived.Test.YtpbphdkjjoipnaaGreatDoorDE
import Derived.Test.YtpbphdkjjoipnaaGreatDoorDD
set_option linter.all false
set_option linter.unusedVariables false
set_option linter.unusedSimpArgs false
set_option linter.unnecessarySimpa false
namespace Go.Proofs.YtpbphdkjjoipnaaGreatDoor
open Go.RowKit
def zero5 : List Value := [.int .i64 0, .int .i64 0, .string ⟨#[]⟩, .slice none 0 0, .slice none 0 0]
def Shape (cs : List Value) : Prop := ∃ k m s p i c q j d, cs = [.int .i64 k, .int .i64 m, .string s, .slice p i c, .slice q j d]
theorem OwnRep.shape {n B : Nat} {w : World} {cs : List Value} {v : V n} (h : OwnRep n B w cs v) : Shape cs := h.rep.conv
theorem Shape.len {cs : List Value} (h : Shape cs) : cs.length = 5 := by obtain ⟨_, _, _, _, _, _, _, _, _, rfl⟩ := h; rfl
theorem Shape.one {cs : List Value} (h : Shape cs) : ∀ u, u ∈ cs → u.oneCell' = true := by
  obtain ⟨_, _, _, _, _, _, _, _, _, rfl⟩ := h
  intro u hu
  simp only [List.mem_cons, List.not_mem_nil, or_false] at hu
  rcases hu with rfl | rfl | rfl | rfl | rfl <;> rfl
def ValAns (d : Nat) (X : PX) (p : Nat) (S : ByteArray) (w : World) (e : Ending) (w' : World) : Prop :=
  ∃ cs : List Value, e = .returned (.agg cs.toArray) ∧ Shape cs ∧ Kept [p] w w' ∧
    match X with
    | .inl x => PS w' p S 4097 (.inl x)
    | .inr (s, c) => match pValue d s c with
      | .inl x => PS w' p S 4097 (.inl x)
      | .inr (v, r, c') => PS w' p S 4097 (.inr (r, c')) ∧ OwnRep d w.heap.size w' cs v
def CntOk : PX → Prop | .inl _ => True | .inr (_, c) => c ≤ 4096
def PValKnown (d : Nat) : Prop := ∀ {w : World} {p : Nat} {S : ByteArray} {X : PX}, PS w p S 4097 X → CntOk X → S.size ≤ 262144 → TabsB p w →
  Calls Tryz.prog 49 #[.pointer (some ⟨p, 0, none⟩), .int .i64 d] w fun e w' => ValAns d X p S w e w'
structure LCap (W : World) (bv b2 b3 p d : Nat) (w : World) : Prop where
  ptr : w.heap[b2]? = some (.cells #[.pointer (some ⟨p, 0, none⟩)] 61 (0, 0))
  dep : w.heap[b3]? = some (.cells #[.int .i64 d] 3 (0, 0))
  kept : Kept [p, bv] W w
structure LPos (W : World) (bv b2 b3 p : Nat) : Prop where
  hp : p < W.heap.size
  hv : bv < W.heap.size
  h2 : b2 < W.heap.size
  h3 : b3 < W.heap.size
  lt : p < bv
  pv : p ≠ bv
  p2 : p ≠ b2
  p3 : p ≠ b3
  v2 : bv ≠ b2
  v3 : bv ≠ b3
structure LJ (W : World) (bv b2 b3 p d : Nat) (acc : List (V d)) (w : World) (vl : Value) (lcs : List (List Value)) : Prop where
  cap : LCap W bv b2 b3 p d w
  blk : w.heap[bv]? = some (.cells (valA 5 0 ⟨#[]⟩ vl (.slice none 0 0)) 25 (0, 0))
  row : w.ownsRow W.heap.size 25 5 vl acc.length lcs.flatten
  all : All2 (Rep d (fun g => W.heap.size ≤ g ∧ vl.ownBlock ≠ some g) w) lcs acc
structure LBad (W : World) (bv b2 b3 p d : Nat) (w : World) : Prop where
  cap : LCap W bv b2 b3 p d w
  blk : ∃ a n c, w.heap[bv]? = some (.cells (valA 5 0 ⟨#[]⟩ (.slice a n c) (.slice none 0 0)) 25 (0, 0))
section
variable {W w w' : World} {bv b2 b3 p d : Nat}
theorem LCap.step (h : LCap W bv b2 b3 p d w) (hp : LPos W bv b2 b3 p) {X : List Nat} (k : Kept X w w') (hX : ∀ g, g ∈ X → g = p ∨ g = bv ∨ W.heap.size ≤ g) : LCap W bv b2 b3 p d w' := by
  have hz := h.kept.size
  refine ⟨k.heap h.ptr ?_, k.heap h.dep ?_, h.kept.trans k ?_⟩
  · intro hx
    rcases hX _ hx with e | e | e
    · exact hp.p2 e.symm
    · exact hp.v2 e.symm
    · have := hp.h2; omega
  · intro hx
    rcases hX _ hx with e | e | e
    · exact hp.p3 e.symm
    · exact hp.v3 e.symm
    · have := hp.h3; omega
  · intro g hg
    rcases hX _ hg with e | e | e
    · exact .inl (by simp [e])
    · exact .inl (by simp [e])
    · exact .inr e
theorem LJ.step {acc : List (V d)} {vl : Value} {lcs : List (List Value)} (h : LJ W bv b2 b3 p d acc w vl lcs) (hp : LPos W bv b2 b3 p) (k : Kept [p] w w') : LJ W bv b2 b3 p d acc w' vl lcs :=
  ⟨h.cap.step hp k (fun g hg => by simp at hg; exact .inl hg), k.heap h.blk (by simpa using hp.pv.symm), row_kept h.row k (fun g hg hx => by simp at hx; have := (h.row.lt g hg).1; have := hp.hp; omega), h.all.mono fun _ _ _ r => r.move k (fun g _ q => ⟨fun hx => by simp at hx; have := hp.hp; omega, q⟩)⟩
theorem LBad.step (h : LBad W bv b2 b3 p d w) (hp : LPos W bv b2 b3 p) (k : Kept [p] w w') : LBad W bv b2 b3 p d w' := by
  obtain ⟨a, n, c, hb⟩ := h.blk
  exact ⟨h.cap.step hp k (fun g hg => by simp at hg; exact .inl hg), a, n, c, k.heap hb (by simpa using hp.pv.symm)⟩
theorem LJ.bad {acc : List (V d)} {vl : Value} {lcs : List (List Value)} (h : LJ W bv b2 b3 p d acc w vl lcs) : LBad W bv b2 b3 p d w := by
  obtain ⟨a, c, rfl, -, -⟩ := (Slc.of_row h.row).form
  exact ⟨h.cap, _, _, _, h.blk⟩
theorem LJ.snoc {acc : List (V d)} {vl vl' : Value} {lcs : List (List Value)} {w5 w6 wF : World} {cs : List Value} {v : V d} {g Bc : Nat} (h : LJ W bv b2 b3 p d acc w vl lcs) (hp : LPos W bv b2 b3 p)
    (hcap : LCap W bv b2 b3 p d wF) (hblk : wF.heap[bv]? = some (.cells (valA 5 0 ⟨#[]⟩ vl' (.slice none 0 0)) 25 (0, 0)))
    (k5 : Kept [p] w w5) (k6 : Kept vl.ownBlock.toList w5 w6) (kF : Kept [bv, g] w6 wF) (hown : vl'.ownBlock = some g) (hg : vl.ownBlock = some g ∨ g = w5.heap.size) (hrow : wF.ownsRow W.heap.size 25 5 vl' (acc.length + 1) (lcs ++ [cs]).flatten)
    (hrep : Rep d (fun i => Bc ≤ i) w5 cs v) (hB : w.heap.size ≤ Bc) : LJ W bv b2 b3 p d (acc ++ [v]) wF vl' (lcs ++ [cs]) := by
  have hpw := hp.hp
  have hvw := hp.hv
  have hz := h.cap.kept.size
  have hz5 := k5.size
  refine ⟨hcap, hblk, by rw [List.length_append]; exact hrow, All2.snoc (h.all.mono fun c y _ r => ?_) ?_⟩
  · refine ((r.move (T := fun i => W.heap.size ≤ i ∧ vl.ownBlock ≠ some i ∧ i < w.heap.size) k5 (fun i hi q => ⟨fun hx => by simp at hx; omega, q.1, q.2, hi⟩)).move (T := fun i => W.heap.size ≤ i ∧ vl.ownBlock ≠ some i ∧ i < w.heap.size) k6 (fun i hi q => ⟨fun hx => q.2.1 (Option.mem_toList.1 hx), q⟩)).move kF (fun i hi q => ⟨fun hx => ?_, q.1, fun hx => ?_⟩)
    · simp at hx
      rcases hx with hx | hx
      · omega
      · rcases hg with hg | hg
        · exact q.2.1 (by rw [hg, hx])
        · omega
    · rw [hown] at hx
      injection hx with hx
      rcases hg with hg | hg
      · exact q.2.1 (by rw [hg, hx])
      · omega
  · refine (hrep.move (T := fun i => Bc ≤ i ∧ i < w5.heap.size ∧ vl.ownBlock ≠ some i) k6 (fun i hi q => ⟨fun hx => ?_, q, hi, fun hx => ?_⟩)).move kF (fun i hi q => ⟨fun hx => ?_, by omega, fun hx => ?_⟩)
    · have := (h.row.lt i (Option.mem_toList.1 hx)).2; omega
    · have := (h.row.lt i hx).2; omega
    · simp at hx
      rcases hx with hx | hx
      · omega
      · rcases hg with hg | hg
        · exact q.2.2 (by rw [hg, hx])
        · omega
    · rw [hown] at hx
      injection hx with hx
      rcases hg with hg | hg
      · exact q.2.2 (by rw [hg, hx])
      · omega
theorem LCap.tabs (h : LCap W bv b2 b3 p d w) (hp : LPos W bv b2 b3 p) (hT : TabsB p W) : TabsB p w := by
  obtain ⟨Wt, h1, h2, h3⟩ := hT
  have := hp.lt
  exact ⟨Wt, h1, h2.trans h.kept (fun i hi => by simp at hi; exact .inr (by omega)), h3⟩
def ListAns (W : World) (bv b2 b3 p d : Nat) (S : ByteArray) (s : List UInt8) (c : Nat) (acc : List (V d)) (w' : World) : Prop :=
  match listStep (pValue d) s c acc with
  | .inl x => PS w' p S 4097 (.inl x) ∧ LBad W bv b2 b3 p d w'
  | .inr (acc', r, c') => PS w' p S 4097 (.inr (r, c')) ∧ ∃ vl lcs, LJ W bv b2 b3 p d acc' w' vl lcs
theorem listAns_of {S : ByteArray} {s : List UInt8} {c : Nat} {acc : List (V d)}
    (h1 : ∀ x, pValue d s c = .inl x → PS w' p S 4097 (.inl x) ∧ LBad W bv b2 b3 p d w')
    (h2 : ∀ v r c', pValue d s c = .inr (v, r, c') → PS w' p S 4097 (.inr (r, c')) ∧ ∃ vl lcs, LJ W bv b2 b3 p d (acc ++ [v]) w' vl lcs) : ListAns W bv b2 b3 p d S s c acc w' := by
  unfold ListAns listStep
  cases h : pValue d s c with
  | inl x => exact h1 x h
  | inr y => obtain ⟨v, r, c'⟩ := y; exact h2 v r c' h
def ValSaid (d : Nat) (s : List UInt8) (c p : Nat) (S : ByteArray) (Bc : Nat) (cs : List Value) (w' : World) : Prop :=
  match pValue d s c with
  | .inl x => PS w' p S 4097 (.inl x)
  | .inr (v, r, c') => PS w' p S 4097 (.inr (r, c')) ∧ Rep d (fun i => Bc ≤ i) w' cs v
theorem ValSaid.kept0 {s : List UInt8} {c Bc : Nat} {S : ByteArray} {cs : List Value} (h : ValSaid d s c p S Bc cs w) (k : Kept [] w w') : ValSaid d s c p S Bc cs w' := by
  unfold ValSaid at *
  cases e : pValue d s c with
  | inl x => rw [e] at h; exact PS.kept0 h k
  | inr y => obtain ⟨v, r, c'⟩ := y; rw [e] at h; exact ⟨PS.kept0 h.1 k, h.2.kept0 k⟩
theorem ValAns.said {s : List UInt8} {c : Nat} {S : ByteArray} {e : Ending} (h : ValAns d (.inr (s, c)) p S w e w') : ∃ cs : List Value, e = .returned (.agg cs.toArray) ∧ Shape cs ∧ Kept [p] w w' ∧ ValSaid d s c p S w.heap.size cs w' := by
  obtain ⟨cs, h1, h2, h3, h4⟩ := h
  refine ⟨cs, h1, h2, h3, ?_⟩
  unfold ValSaid
  simp only at h4
  cases e : pValue d s c with
  | inl x => rw [e] at h4; exact h4
  | inr y => obtain ⟨v, r, c'⟩ := y; rw [e] at h4; exact ⟨h4.1, h4.2.rep⟩
end
end Go.Proofs.YtpbphdkjjoipnaaGreatDoor
namespace Go.Proofs.YtpbphdkjjoipnaaGreatDoor
open Go.RowKit
section
variable {W w : World} {bv b2 b3 p d : Nat} {S : ByteArray} {s : List UInt8} {c : Nat} {acc : List (V d)} {vl : Value} {lcs : List (List Value)}
set_option maxRecDepth 10000 in
set_option maxHeartbeats 6400000 in
theorem list1_any (IH0 : PValKnown d) (hp : LPos W bv b2 b3 p) (hj : LJ W bv b2 b3 p d acc w vl lcs) (hs : PS w p S 4097 (.inr (s, c))) (hc : c ≤ 4096) (hS : S.size ≤ 262144) (hT : TabsB p W) (hn : acc.length ≤ 5000) :
    Calls Tryz.prog 159 #[.pointer (some ⟨bv, 0, none⟩), .pointer (some ⟨b2, 0, none⟩), .pointer (some ⟨b3, 0, none⟩)] w fun e w' => e = .returned (.tuple #[]) ∧ ListAns W bv b2 b3 p d S s c acc w' := by
  obtain ⟨ak, ck, rfl, -, -⟩ := (Slc.of_row hj.row).form
  have HJ := Lib.hid hj
  have HP := Lib.hid hp
  have HLT : Hid (∀ g, (Value.slice ak acc.length ck).ownBlock = some g → W.heap.size ≤ g ∧ g < w.heap.size) := Lib.hid (fun g hg => hj.row.lt g hg)
  have HWZ : Hid (W.heap.size ≤ w.heap.size) := Lib.hid hj.cap.kept.size
  have HLC : Hid (lcs.length = acc.length) := Lib.hid hj.all.1
  have HL5 : Hid (∀ x, x ∈ lcs → x.length = 5) := Lib.hid (fun x hx => by
    obtain ⟨j, hj', rfl⟩ := List.getElem_of_mem hx
    exact (hj.all.2 j _ _ (List.getElem?_eq_getElem hj') (List.getElem?_eq_getElem (by rw [← hj.all.1]; exact hj'))).len)
  have CV : Hid (∀ w', Kept [] w w' → Calls Tryz.prog 49 #[.pointer (some ⟨p, 0, none⟩), .int .i64 d] w' fun e w2 => ValAns d (.inr (s, c)) p S w' e w2) := Lib.hid (fun w' k => IH0 (hs.kept0 k) hc hS ((hj.cap.tabs hp hT).step (k.mono (by simp))))
  have f3 := cell_head (o := 3) (v := .slice ak acc.length ck) hj.blk rfl
  have f2 := cell_head (o := 0) (v := .pointer (some ⟨p, 0, none⟩)) hj.cap.ptr rfl
  have f1 := cell_head (o := 0) (v := .int .i64 d) hj.cap.dep rfl
  have HN := Lib.hid hn
  clear hj hs IH0 hc hn hT hp
  go_enter Tryz.func159, Tryz.ntmps159
  go_wp2_with fail
  refine wp_regionU' (n := 12) (fun w' : World => w'.cell? ⟨bv, 3, none⟩ = some (.slice ak acc.length ck) ∧ w'.cell? ⟨b2, 0, none⟩ = some (.pointer (some ⟨p, 0, none⟩)) ∧ w'.cell? ⟨b3, 0, none⟩ = some (.int .i64 d)) 7 (by kernel_rfl) (by kernel_rfl) ?_
  change wpAnyU _ _ _ _ _ _ _ _ _ w.drew
  have hSS : (fun w' : World => w'.cell? ⟨bv, 3, none⟩ = some (.slice ak acc.length ck) ∧ w'.cell? ⟨b2, 0, none⟩ = some (.pointer (some ⟨p, 0, none⟩)) ∧ w'.cell? ⟨b3, 0, none⟩ = some (.int .i64 d)) w.drew := ⟨f3, f2, f1⟩
  have HKD : Hid (Kept [] w w.drew) := Lib.hid (Kept.refl _ _).drew
  clear f1 f2 f3
  revert hSS HKD
  generalize w.drew = WD
  intro hSS HKD
  refine wpAnyU_start ?_
  intro O R hO hR
  have hQp : ∀ c a (d : Nat) v w, R (.panic c) (a.put (some d) v) w → R (.panic c) a w := by subst hR; exact fun _ _ _ _ _ h => h
  refine wpAnyU_take' (i := 0) (v := ?_) hO rfl rfl (by kernel_rfl) (by kernel_rfl) (by kernel_rfl) (by kernel_rfl) (by decide) (by kernel_rfl) hQp (Or.inl ⟨by kernel_rfl, fun w hSw => ?_⟩) hSS ?_
  rotate_left
  · go_simp; try with_reducible rfl
  try simp only [Act.put, List.setIfInBounds_toArray, List.set_cons_zero, List.set_cons_succ]
  refine wpAnyU_take' (i := 1) (v := ?_) hO rfl rfl (by kernel_rfl) (by kernel_rfl) (by kernel_rfl) (by kernel_rfl) (by decide) (by kernel_rfl) hQp (Or.inl ⟨by kernel_rfl, fun w hSw => ?_⟩) hSS ?_
  rotate_left
  · obtain ⟨s0, s1, s2⟩ := hSw; go_simp; try with_reducible rfl
  try simp only [Act.put, List.setIfInBounds_toArray, List.set_cons_zero, List.set_cons_succ]
  refine wpAnyU_take' (i := 2) (v := ?_) hO rfl rfl (by kernel_rfl) (by kernel_rfl) (by kernel_rfl) (by kernel_rfl) (by decide) (by kernel_rfl) hQp (Or.inl ⟨by kernel_rfl, fun w hSw => ?_⟩) hSS ?_
  rotate_left
  · obtain ⟨s0, s1, s2⟩ := hSw; go_simp; try with_reducible rfl
  try simp only [Act.put, List.setIfInBounds_toArray, List.set_cons_zero, List.set_cons_succ]
  refine wpAnyU_take' (i := 3) (v := ?_) hO rfl rfl (by kernel_rfl) (by kernel_rfl) (by kernel_rfl) (by kernel_rfl) (by decide) (by kernel_rfl) hQp (Or.inl ⟨by kernel_rfl, fun w hSw => ?_⟩) hSS ?_
  rotate_left
  · obtain ⟨s0, s1, s2⟩ := hSw; go_simp; try with_reducible rfl
  try simp only [Act.put, List.setIfInBounds_toArray, List.set_cons_zero, List.set_cons_succ]
  refine wpAnyU_take' (i := 5) (v := ?_) hO rfl rfl (by kernel_rfl) (by kernel_rfl) (by kernel_rfl) (by kernel_rfl) (by decide) (by kernel_rfl) hQp (Or.inl ⟨by kernel_rfl, fun w hSw => ?_⟩) hSS ?_
  rotate_left
  · go_simp; try with_reducible rfl
  try simp only [Act.put, List.setIfInBounds_toArray, List.set_cons_zero, List.set_cons_succ]
  refine wpAnyU_two' (i := 4) (j := 6) hO rfl rfl (by kernel_rfl) (by kernel_rfl) (by kernel_rfl) (fun K hK => ?_) (fun K hK => ?_)
  · go_simp
    refine Calls.mono (CV.out _ HKD.out) ?_
    rintro e w3 hans
    obtain ⟨cs3, rfl, hsh, hk3, hsd⟩ := hans.said
    have HSH := Lib.hid hsh
    have HKC := Lib.hid hk3
    have HK3 := Lib.hid ((HKD.out.mono (Y := [p]) (by simp)).trans' hk3)
    have HSD := Lib.hid hsd
    have HSZ3 : Hid (w.heap.size ≤ WD.heap.size) := Lib.hid HKD.out.size
    have hS3 : (fun w' : World => w'.cell? ⟨bv, 3, none⟩ = some (.slice ak acc.length ck) ∧ w'.cell? ⟨b2, 0, none⟩ = some (.pointer (some ⟨p, 0, none⟩)) ∧ w'.cell? ⟨b3, 0, none⟩ = some (.int .i64 d)) w3 := ⟨hk3.cell hSS.1 (by simpa using HP.out.pv.symm), hk3.cell hSS.2.1 (by simpa using HP.out.p2.symm), hk3.cell hSS.2.2 (by simpa using HP.out.p3.symm)⟩
    clear hans hsh hk3 hsd
    refine hK _ _ (.inr (.inr hS3)) ?_
    clear hK K
    try simp only [Act.put, List.setIfInBounds_toArray, List.set_cons_zero, List.set_cons_succ]
    clear hSS
    have hSS := hS3
    clear hS3
    refine wpAnyU_one' (i := 6) hO rfl (by kernel_rfl) (by kernel_rfl) (fun K hK => ?_)
    go_simp
    have HKB : Hid (Kept [] w3 (w3.alloc (.cells #[.int .i64 0, .int .i64 0, .string ⟨#[]⟩, .slice none 0 0, .slice none 0 0] 25))) := Lib.hid ((Kept.refl [] w3).alloc _)
    have HSRC := Lib.hid (slc_new w3 [.int .i64 0, .int .i64 0, .string ⟨#[]⟩, .slice none 0 0, .slice none 0 0] 5 1 25 w3.heap.size rfl rfl (by decide))
    have hS4 : (fun w' : World => w'.cell? ⟨bv, 3, none⟩ = some (.slice ak acc.length ck) ∧ w'.cell? ⟨b2, 0, none⟩ = some (.pointer (some ⟨p, 0, none⟩)) ∧ w'.cell? ⟨b3, 0, none⟩ = some (.int .i64 d)) (w3.alloc (.cells #[.int .i64 0, .int .i64 0, .string ⟨#[]⟩, .slice none 0 0, .slice none 0 0] 25)) := ⟨HKB.out.cell hSS.1 (by simp), HKB.out.cell hSS.2.1 (by simp), HKB.out.cell hSS.2.2 (by simp)⟩
    refine hK _ _ (.inr (.inr hS4)) ?_
    clear hK K
    try simp only [Act.put, List.setIfInBounds_toArray, List.set_cons_zero, List.set_cons_succ]
    clear hSS
    have hSS := hS4
    clear hS4
    revert hSS HKB HSRC
    generalize w3.alloc (.cells #[.int .i64 0, .int .i64 0, .string ⟨#[]⟩, .slice none 0 0, .slice none 0 0] 25) = w5
    intro HKB HSRC hSS
    have HK5 := Lib.hid (HK3.out.then HKB.out)
    have HSD5 := Lib.hid (HSD.out.kept0 HKB.out)
    clear HSD
    have HSS5 := Lib.hid hSS
    have hrow5 := row_kept HJ.out.row HK5.out (fun i hi hx => by simp at hx; have := (HLT.out i hi).1; have := HP.out.hp; omega)
    refine wpAnyU_one' (i := 7) hO rfl (by kernel_rfl) (by kernel_rfl) (fun K hK => ?_)
    refine oper_append tyVals hrow5 HSRC.out (by intro u hu; simp only [List.mem_cons, List.not_mem_nil, or_false] at hu; rcases hu with rfl | rfl | rfl | rfl | rfl <;> rfl) (by have := HN.out; simp only [maxLen]; omega) (by have := HN.out; omega) (by have := HK5.out.size; have := HWZ.out; omega) (.tmp 4) (.tmp 9) rfl rfl rfl ?_
    intro b6 d6 w6 hown6 hk6 hg6
    obtain ⟨g6, rfl⟩ : ∃ g6, b6 = some ⟨g6, 0, none⟩ := by
      rcases hown6.2 with ⟨h, h1⟩ | ⟨g, cap, cur, hv, _⟩
      · omega
      · simp only [Value.slice.injEq] at hv; exact ⟨g, hv.1⟩
    have HROW6 := Lib.hid hown6
    have HK6 := Lib.hid hk6
    have HG6 : Hid ((Value.slice ak acc.length ck).ownBlock = some g6 ∨ g6 = w5.heap.size) := Lib.hid (by
      rcases hg6 with h | h
      · exact .inl (by rw [← h]; rfl)
      · exact .inr (by simpa [Value.ownBlock] using h))
    have HLTF : Hid (W.heap.size ≤ g6 ∧ g6 < w6.heap.size) := Lib.hid (hown6.lt g6 rfl)
    have HB6 : Hid (w6.heap[bv]? = some (.cells (valA 5 0 ⟨#[]⟩ (.slice ak acc.length ck) (.slice none 0 0)) 25 (0, 0))) := Lib.hid (hk6.heap (HK5.out.heap HJ.out.blk (by simpa using HP.out.pv.symm)) (fun hx => by have := (HLT.out _ (Option.mem_toList.1 hx)).1; have := HP.out.hv; omega))
    have HBG : Hid (bv ≠ g6) := Lib.hid (by have := HLTF.out.1; have := HP.out.hv; omega)
    clear hrow5 hown6 hk6 hg6 hSS
    refine hK _ _ (.inl rfl) ?_
    clear hK K
    try simp only [Act.put, List.setIfInBounds_toArray, List.set_cons_zero, List.set_cons_succ]
    have hnI : (acc.length : Int) < (acc.length : Int) + 1 := by omega
    refine wpAnyU_pure (i := 8) (v := ?_) hO rfl rfl (by kernel_rfl) (by kernel_rfl) (by kernel_rfl) (by kernel_rfl) hQp (Or.inl ⟨by kernel_rfl, fun w _ => ?_⟩) ?_
    rotate_left
    · go_simp; try with_reducible rfl
    try simp only [Act.put, List.setIfInBounds_toArray, List.set_cons_zero, List.set_cons_succ]
    refine wpAnyU_pure (i := 10) (v := ?_) hO rfl rfl (by kernel_rfl) (by kernel_rfl) (by kernel_rfl) (by kernel_rfl) hQp (Or.inl ⟨by kernel_rfl, fun w _ => ?_⟩) ?_
    rotate_left
    · go_simp; try with_reducible rfl
    try simp only [Act.put, List.setIfInBounds_toArray, List.set_cons_zero, List.set_cons_succ]
    have hls5 : ∀ x, x ∈ lcs ++ [zero5] → x.length = 5 := fun x hx => by
      rcases List.mem_append.1 hx with hx | hx
      · exact HL5.out x hx
      · simp at hx; subst hx; rfl
    have hrow6 : w6.ownsRow W.heap.size 25 5 (.slice (some ⟨g6, 0, none⟩) (acc.length + 1) d6) (acc.length + 1) (lcs ++ [zero5]).flatten := by
      have h9 := HROW6.out
      rw [List.flatten_append]
      simp only [List.flatten_cons, List.flatten_nil, List.append_nil]
      exact h9
    have HR6 := Lib.hid hrow6
    have HSET : Hid ((lcs ++ [zero5]).set acc.length cs3 = lcs ++ [cs3]) := Lib.hid (by
      rw [List.set_append_right _ _ (by have := HLC.out; omega), HLC.out, Nat.sub_self]
      rfl)
    have HLS5 := Lib.hid hls5
    have HLEN : Hid ((lcs ++ [zero5]).length = acc.length + 1) := Lib.hid (by rw [List.length_append, HLC.out]; rfl)
    clear hls5 hrow6
    refine wpAnyU_two' (i := 9) (j := 11) hO rfl rfl (by kernel_rfl) (by kernel_rfl) (by kernel_rfl) (fun K hK => ?_) (fun K hK => ?_)
    · obtain ⟨hro, hth, hkg⟩ := row_stored (i := acc.length) (g := g6) (c := cs3) HR6.out HLS5.out rfl HLEN.out (Nat.lt_succ_self _) HSH.out.len
      rw [HSET.out] at hro
      have HRO := Lib.hid hro
      have HKG := Lib.hid hkg
      clear hro hkg
      refine wp_store_mid 25 (.tmp 11) (.tmp 7) rfl g6 (acc.length * 5) cs3.toArray rfl rfl (by rw [List.size_toArray, HSH.out.len]; exact hth) (by rw [List.size_toArray, HSH.out.len]; kernel_rfl) (all_oneCell_toArray HSH.out.one) ?_
      refine hK _ _ (.inr (.inl (by kernel_rfl))) ?_
      clear hK K
      try simp only [Act.put, List.setIfInBounds_toArray, List.set_cons_zero, List.set_cons_succ]
      have hb7 := HKG.out.heap HB6.out (by simpa using HBG.out)
      have HB7 := Lib.hid hb7
      have c3 := cell_head (o := 3) (v := .slice ak acc.length ck) hb7 rfl
      have z3 := free_head (o := 3) hb7
      clear hb7
      refine wpAnyU_one' (i := 11) hO rfl (by kernel_rfl) (by kernel_rfl) (fun K hK => ?_)
      go_simp
      refine hK _ _ (.inr (.inl (by kernel_rfl))) ?_
      clear hK K
      try simp only [Act.put, List.setIfInBounds_toArray, List.set_cons_zero, List.set_cons_succ]
      refine wpAnyU_done' hO (by kernel_rfl) ?_ _
      subst hR
      try clear hQp hO O
      clear c3 z3 hth
      have hbF := block_setCell (i := 3) (v := .slice (some ⟨g6, 0, none⟩) (acc.length + 1) d6) HB7.out rfl
      have hkF := ((HKG.out.mono (Y := [bv, g6]) (by simp)).setCell (p := ⟨bv, 3, none⟩) (.inl (by simp)) (.slice (some ⟨g6, 0, none⟩) (acc.length + 1) d6))
      have hrF := row_kept HRO.out (kept_set _ bv 3 (.slice (some ⟨g6, 0, none⟩) (acc.length + 1) d6)) (fun i hi hx => by simp [Value.ownBlock] at hi hx; exact HBG.out (by rw [← hx, ← hi]))
      revert hbF hkF hrF
      generalize World.setCell _ ⟨bv, 3, none⟩ (.slice (some ⟨g6, 0, none⟩) (acc.length + 1) d6) = wF
      intro hbF hkF hrF
      have HCF : LCap W bv b2 b3 p d wF := (HJ.out.cap.step HP.out ((HK5.out.mono (Y := p :: bv :: g6 :: (Value.slice ak acc.length ck).ownBlock.toList) (by simp)).trans' ((HK6.out.mono (fun i hi => by simp at hi ⊢; exact .inr (.inr (.inr hi)))).trans' (hkF.mono (fun i hi => by simp at hi ⊢; rcases hi with h | h; exact .inr (.inl h); exact .inr (.inr (.inl h)))))) (fun i hi => by
        have h9 := HG6.out
        have hwz := HWZ.out
        have h5z := HK5.out.size
        rcases List.mem_cons.1 hi with h | hi
        · exact .inl h
        rcases List.mem_cons.1 hi with h | hi
        · exact .inr (.inl h)
        rcases List.mem_cons.1 hi with h | hi
        · subst h
          rcases h9 with h9 | h9
          · exact .inr (.inr (HLT.out _ h9).1)
          · exact .inr (.inr (by omega))
        · exact .inr (.inr (HLT.out _ (Option.mem_toList.1 hi)).1)))
      have HPF : Hid (∀ x, PS w5 p S 4097 x → PS wF p S 4097 x) := Lib.hid (fun x h => (h.kept HK6.out (fun hx => by have := (HLT.out _ (Option.mem_toList.1 hx)).1; have := HP.out.hp; omega)).kept hkF (fun hx => by
        have h9 := HG6.out
        have hwz := HWZ.out
        have h5z := HK5.out.size
        have hpp := HP.out.hp
        simp at hx
        rcases hx with hx | hx
        · exact HP.out.pv hx
        · subst hx
          rcases h9 with h9 | h9
          · have := (HLT.out _ h9).1; omega
          · omega))
      go_wp2_with fail
      go_end0
      refine ⟨rfl, listAns_of (fun x hx => ?_) (fun v r c' hx => ?_)⟩
      · have h9 := HSD5.out
        unfold ValSaid at h9
        rw [hx] at h9
        exact ⟨HPF.out _ h9, HCF, _, _, _, hbF⟩
      · have h9 := HSD5.out
        unfold ValSaid at h9
        rw [hx] at h9
        exact ⟨HPF.out _ h9.1, _, _, HJ.out.snoc HP.out HCF hbF HK5.out HK6.out hkF rfl HG6.out hrF h9.2 (HSZ3.out)⟩
    · have c3 := cell_head (o := 3) (v := .slice ak acc.length ck) HB6.out rfl
      have z3 := free_head (o := 3) HB6.out
      go_simp
      refine hK _ _ (.inr (.inl (by kernel_rfl))) ?_
      clear hK K
      try simp only [Act.put, List.setIfInBounds_toArray, List.set_cons_zero, List.set_cons_succ]
      clear c3 z3
      have hb7 := block_setCell (i := 3) (v := .slice (some ⟨g6, 0, none⟩) (acc.length + 1) d6) HB6.out rfl
      have HB7 := Lib.hid hb7
      have HK7 := Lib.hid (kept_set w6 bv 3 (.slice (some ⟨g6, 0, none⟩) (acc.length + 1) d6))
      clear hb7
      revert HB7 HK7
      generalize w6.setCell ⟨bv, 3, none⟩ (.slice (some ⟨g6, 0, none⟩) (acc.length + 1) d6) = w7
      intro HB7 HK7
      have hrow7 := row_kept HR6.out HK7.out (fun i hi hx => by simp [Value.ownBlock] at hi hx; exact HBG.out (by rw [← hx, ← hi]))
      obtain ⟨hro, hth, hkg⟩ := row_stored (i := acc.length) (g := g6) (c := cs3) hrow7 HLS5.out rfl HLEN.out (Nat.lt_succ_self _) HSH.out.len
      rw [HSET.out] at hro
      have HRO := Lib.hid hro
      have HKG := Lib.hid hkg
      clear hro hkg hrow7
      refine wpAnyU_one' (i := 9) hO rfl (by kernel_rfl) (by kernel_rfl) (fun K hK => ?_)
      refine wp_store_mid 25 (.tmp 11) (.tmp 7) rfl g6 (acc.length * 5) cs3.toArray rfl rfl (by rw [List.size_toArray, HSH.out.len]; exact hth) (by rw [List.size_toArray, HSH.out.len]; kernel_rfl) (all_oneCell_toArray HSH.out.one) ?_
      refine hK _ _ (.inr (.inl (by kernel_rfl))) ?_
      clear hK K
      try simp only [Act.put, List.setIfInBounds_toArray, List.set_cons_zero, List.set_cons_succ]
      refine wpAnyU_done' hO (by kernel_rfl) ?_ _
      subst hR
      try clear hQp hO O
      clear hth
      have hbF := HKG.out.heap HB7.out (by simpa using HBG.out)
      have hkF := ((HK7.out.mono (Y := [bv, g6]) (by simp)).trans' (HKG.out.mono (Y := [bv, g6]) (by simp)))
      have hrF := HRO.out
      revert hbF hkF hrF
      generalize World.setCells _ g6 (acc.length * 5) cs3.toArray.toList = wF
      intro hbF hkF hrF
      have HCF : LCap W bv b2 b3 p d wF := (HJ.out.cap.step HP.out ((HK5.out.mono (Y := p :: bv :: g6 :: (Value.slice ak acc.length ck).ownBlock.toList) (by simp)).trans' ((HK6.out.mono (fun i hi => by simp at hi ⊢; exact .inr (.inr (.inr hi)))).trans' (hkF.mono (fun i hi => by simp at hi ⊢; rcases hi with h | h; exact .inr (.inl h); exact .inr (.inr (.inl h)))))) (fun i hi => by
        have h9 := HG6.out
        have hwz := HWZ.out
        have h5z := HK5.out.size
        rcases List.mem_cons.1 hi with h | hi
        · exact .inl h
        rcases List.mem_cons.1 hi with h | hi
        · exact .inr (.inl h)
        rcases List.mem_cons.1 hi with h | hi
        · subst h
          rcases h9 with h9 | h9
          · exact .inr (.inr (HLT.out _ h9).1)
          · exact .inr (.inr (by omega))
        · exact .inr (.inr (HLT.out _ (Option.mem_toList.1 hi)).1)))
      have HPF : Hid (∀ x, PS w5 p S 4097 x → PS wF p S 4097 x) := Lib.hid (fun x h => (h.kept HK6.out (fun hx => by have := (HLT.out _ (Option.mem_toList.1 hx)).1; have := HP.out.hp; omega)).kept hkF (fun hx => by
        have h9 := HG6.out
        have hwz := HWZ.out
        have h5z := HK5.out.size
        have hpp := HP.out.hp
        simp at hx
        rcases hx with hx | hx
        · exact HP.out.pv hx
        · subst hx
          rcases h9 with h9 | h9
          · have := (HLT.out _ h9).1; omega
          · omega))
      go_wp2_with fail
      go_end0
      refine ⟨rfl, listAns_of (fun x hx => ?_) (fun v r c' hx => ?_)⟩
      · have h9 := HSD5.out
        unfold ValSaid at h9
        rw [hx] at h9
        exact ⟨HPF.out _ h9, HCF, _, _, _, hbF⟩
      · have h9 := HSD5.out
        unfold ValSaid at h9
        rw [hx] at h9
        exact ⟨HPF.out _ h9.1, _, _, HJ.out.snoc HP.out HCF hbF HK5.out HK6.out hkF rfl HG6.out hrF h9.2 (HSZ3.out)⟩
  · go_simp
    have HKB : Hid (Kept [] WD (WD.alloc (.cells #[.int .i64 0, .int .i64 0, .string ⟨#[]⟩, .slice none 0 0, .slice none 0 0] 25))) := Lib.hid ((Kept.refl [] WD).alloc _)
    have HSRC := Lib.hid (slc_new WD [.int .i64 0, .int .i64 0, .string ⟨#[]⟩, .slice none 0 0, .slice none 0 0] 5 1 25 WD.heap.size rfl rfl (by decide))
    have hS4 : (fun w' : World => w'.cell? ⟨bv, 3, none⟩ = some (.slice ak acc.length ck) ∧ w'.cell? ⟨b2, 0, none⟩ = some (.pointer (some ⟨p, 0, none⟩)) ∧ w'.cell? ⟨b3, 0, none⟩ = some (.int .i64 d)) (WD.alloc (.cells #[.int .i64 0, .int .i64 0, .string ⟨#[]⟩, .slice none 0 0, .slice none 0 0] 25)) := ⟨HKB.out.cell hSS.1 (by simp), HKB.out.cell hSS.2.1 (by simp), HKB.out.cell hSS.2.2 (by simp)⟩
    refine hK _ _ (.inr (.inr hS4)) ?_
    clear hK K
    try simp only [Act.put, List.setIfInBounds_toArray, List.set_cons_zero, List.set_cons_succ]
    clear hSS
    have hSS := hS4
    clear hS4
    revert hSS HKB HSRC
    generalize WD.alloc (.cells #[.int .i64 0, .int .i64 0, .string ⟨#[]⟩, .slice none 0 0, .slice none 0 0] 25) = w4
    intro HKB HSRC hSS
    have HKE := Lib.hid (HKD.out.then HKB.out)
    refine wpAnyU_one' (i := 4) hO rfl (by kernel_rfl) (by kernel_rfl) (fun K hK => ?_)
    go_simp
    refine Calls.mono (CV.out _ HKE.out) ?_
    rintro e w5 hans
    obtain ⟨cs3, rfl, hsh, hk3, hsd⟩ := hans.said
    have HSH := Lib.hid hsh
    have HKC := Lib.hid hk3
    have HK3 := Lib.hid ((HKE.out.mono (Y := [p]) (by simp)).trans' hk3)
    have HSD := Lib.hid hsd
    have HSZ3 : Hid (w.heap.size ≤ w4.heap.size) := Lib.hid HKE.out.size
    have hS3 : (fun w' : World => w'.cell? ⟨bv, 3, none⟩ = some (.slice ak acc.length ck) ∧ w'.cell? ⟨b2, 0, none⟩ = some (.pointer (some ⟨p, 0, none⟩)) ∧ w'.cell? ⟨b3, 0, none⟩ = some (.int .i64 d)) w5 := ⟨hk3.cell hSS.1 (by simpa using HP.out.pv.symm), hk3.cell hSS.2.1 (by simpa using HP.out.p2.symm), hk3.cell hSS.2.2 (by simpa using HP.out.p3.symm)⟩
    clear hans hsh hk3 hsd
    refine hK _ _ (.inr (.inr hS3)) ?_
    clear hK K
    try simp only [Act.put, List.setIfInBounds_toArray, List.set_cons_zero, List.set_cons_succ]
    clear hSS
    have hSS := hS3
    clear hS3
    have HK5 := Lib.hid HK3.out
    have HSD5 := Lib.hid HSD.out
    have HSRC4 := Lib.hid HSRC.out
    clear HSRC
    have HSRC := Lib.hid (HSRC4.out.kept HKC.out (fun i hi hx => by simp [vblk] at hi hx; have := HKD.out.size; have := HWZ.out; have := HP.out.hp; omega))
    clear HSD
    have HSS5 := Lib.hid hSS
    have hrow5 := row_kept HJ.out.row HK5.out (fun i hi hx => by simp at hx; have := (HLT.out i hi).1; have := HP.out.hp; omega)
    refine wpAnyU_one' (i := 7) hO rfl (by kernel_rfl) (by kernel_rfl) (fun K hK => ?_)
    refine oper_append tyVals hrow5 HSRC.out (by intro u hu; simp only [List.mem_cons, List.not_mem_nil, or_false] at hu; rcases hu with rfl | rfl | rfl | rfl | rfl <;> rfl) (by have := HN.out; simp only [maxLen]; omega) (by have := HN.out; omega) (by have := HK5.out.size; have := HWZ.out; omega) (.tmp 4) (.tmp 9) rfl rfl rfl ?_
    intro b6 d6 w6 hown6 hk6 hg6
    obtain ⟨g6, rfl⟩ : ∃ g6, b6 = some ⟨g6, 0, none⟩ := by
      rcases hown6.2 with ⟨h, h1⟩ | ⟨g, cap, cur, hv, _⟩
      · omega
      · simp only [Value.slice.injEq] at hv; exact ⟨g, hv.1⟩
    have HROW6 := Lib.hid hown6
    have HK6 := Lib.hid hk6
    have HG6 : Hid ((Value.slice ak acc.length ck).ownBlock = some g6 ∨ g6 = w5.heap.size) := Lib.hid (by
      rcases hg6 with h | h
      · exact .inl (by rw [← h]; rfl)
      · exact .inr (by simpa [Value.ownBlock] using h))
    have HLTF : Hid (W.heap.size ≤ g6 ∧ g6 < w6.heap.size) := Lib.hid (hown6.lt g6 rfl)
    have HB6 : Hid (w6.heap[bv]? = some (.cells (valA 5 0 ⟨#[]⟩ (.slice ak acc.length ck) (.slice none 0 0)) 25 (0, 0))) := Lib.hid (hk6.heap (HK5.out.heap HJ.out.blk (by simpa using HP.out.pv.symm)) (fun hx => by have := (HLT.out _ (Option.mem_toList.1 hx)).1; have := HP.out.hv; omega))
    have HBG : Hid (bv ≠ g6) := Lib.hid (by have := HLTF.out.1; have := HP.out.hv; omega)
    clear hrow5 hown6 hk6 hg6 hSS
    refine hK _ _ (.inl rfl) ?_
    clear hK K
    try simp only [Act.put, List.setIfInBounds_toArray, List.set_cons_zero, List.set_cons_succ]
    have hnI : (acc.length : Int) < (acc.length : Int) + 1 := by omega
    refine wpAnyU_pure (i := 8) (v := ?_) hO rfl rfl (by kernel_rfl) (by kernel_rfl) (by kernel_rfl) (by kernel_rfl) hQp (Or.inl ⟨by kernel_rfl, fun w _ => ?_⟩) ?_
    rotate_left
    · go_simp; try with_reducible rfl
    try simp only [Act.put, List.setIfInBounds_toArray, List.set_cons_zero, List.set_cons_succ]
    refine wpAnyU_pure (i := 10) (v := ?_) hO rfl rfl (by kernel_rfl) (by kernel_rfl) (by kernel_rfl) (by kernel_rfl) hQp (Or.inl ⟨by kernel_rfl, fun w _ => ?_⟩) ?_
    rotate_left
    · go_simp; try with_reducible rfl
    try simp only [Act.put, List.setIfInBounds_toArray, List.set_cons_zero, List.set_cons_succ]
    have hls5 : ∀ x, x ∈ lcs ++ [zero5] → x.length = 5 := fun x hx => by
      rcases List.mem_append.1 hx with hx | hx
      · exact HL5.out x hx
      · simp at hx; subst hx; rfl
    have hrow6 : w6.ownsRow W.heap.size 25 5 (.slice (some ⟨g6, 0, none⟩) (acc.length + 1) d6) (acc.length + 1) (lcs ++ [zero5]).flatten := by
      have h9 := HROW6.out
      rw [List.flatten_append]
      simp only [List.flatten_cons, List.flatten_nil, List.append_nil]
      exact h9
    have HR6 := Lib.hid hrow6
    have HSET : Hid ((lcs ++ [zero5]).set acc.length cs3 = lcs ++ [cs3]) := Lib.hid (by
      rw [List.set_append_right _ _ (by have := HLC.out; omega), HLC.out, Nat.sub_self]
      rfl)
    have HLS5 := Lib.hid hls5
    have HLEN : Hid ((lcs ++ [zero5]).length = acc.length + 1) := Lib.hid (by rw [List.length_append, HLC.out]; rfl)
    clear hls5 hrow6
    refine wpAnyU_two' (i := 9) (j := 11) hO rfl rfl (by kernel_rfl) (by kernel_rfl) (by kernel_rfl) (fun K hK => ?_) (fun K hK => ?_)
    · obtain ⟨hro, hth, hkg⟩ := row_stored (i := acc.length) (g := g6) (c := cs3) HR6.out HLS5.out rfl HLEN.out (Nat.lt_succ_self _) HSH.out.len
      rw [HSET.out] at hro
      have HRO := Lib.hid hro
      have HKG := Lib.hid hkg
      clear hro hkg
      refine wp_store_mid 25 (.tmp 11) (.tmp 7) rfl g6 (acc.length * 5) cs3.toArray rfl rfl (by rw [List.size_toArray, HSH.out.len]; exact hth) (by rw [List.size_toArray, HSH.out.len]; kernel_rfl) (all_oneCell_toArray HSH.out.one) ?_
      refine hK _ _ (.inr (.inl (by kernel_rfl))) ?_
      clear hK K
      try simp only [Act.put, List.setIfInBounds_toArray, List.set_cons_zero, List.set_cons_succ]
      have hb7 := HKG.out.heap HB6.out (by simpa using HBG.out)
      have HB7 := Lib.hid hb7
      have c3 := cell_head (o := 3) (v := .slice ak acc.length ck) hb7 rfl
      have z3 := free_head (o := 3) hb7
      clear hb7
      refine wpAnyU_one' (i := 11) hO rfl (by kernel_rfl) (by kernel_rfl) (fun K hK => ?_)
      go_simp
      refine hK _ _ (.inr (.inl (by kernel_rfl))) ?_
      clear hK K
      try simp only [Act.put, List.setIfInBounds_toArray, List.set_cons_zero, List.set_cons_succ]
      refine wpAnyU_done' hO (by kernel_rfl) ?_ _
      subst hR
      try clear hQp hO O
      clear c3 z3 hth
      have hbF := block_setCell (i := 3) (v := .slice (some ⟨g6, 0, none⟩) (acc.length + 1) d6) HB7.out rfl
      have hkF := ((HKG.out.mono (Y := [bv, g6]) (by simp)).setCell (p := ⟨bv, 3, none⟩) (.inl (by simp)) (.slice (some ⟨g6, 0, none⟩) (acc.length + 1) d6))
      have hrF := row_kept HRO.out (kept_set _ bv 3 (.slice (some ⟨g6, 0, none⟩) (acc.length + 1) d6)) (fun i hi hx => by simp [Value.ownBlock] at hi hx; exact HBG.out (by rw [← hx, ← hi]))
      revert hbF hkF hrF
      generalize World.setCell _ ⟨bv, 3, none⟩ (.slice (some ⟨g6, 0, none⟩) (acc.length + 1) d6) = wF
      intro hbF hkF hrF
      have HCF : LCap W bv b2 b3 p d wF := (HJ.out.cap.step HP.out ((HK5.out.mono (Y := p :: bv :: g6 :: (Value.slice ak acc.length ck).ownBlock.toList) (by simp)).trans' ((HK6.out.mono (fun i hi => by simp at hi ⊢; exact .inr (.inr (.inr hi)))).trans' (hkF.mono (fun i hi => by simp at hi ⊢; rcases hi with h | h; exact .inr (.inl h); exact .inr (.inr (.inl h)))))) (fun i hi => by
        have h9 := HG6.out
        have hwz := HWZ.out
        have h5z := HK5.out.size
        rcases List.mem_cons.1 hi with h | hi
        · exact .inl h
        rcases List.mem_cons.1 hi with h | hi
        · exact .inr (.inl h)
        rcases List.mem_cons.1 hi with h | hi
        · subst h
          rcases h9 with h9 | h9
          · exact .inr (.inr (HLT.out _ h9).1)
          · exact .inr (.inr (by omega))
        · exact .inr (.inr (HLT.out _ (Option.mem_toList.1 hi)).1)))
      have HPF : Hid (∀ x, PS w5 p S 4097 x → PS wF p S 4097 x) := Lib.hid (fun x h => (h.kept HK6.out (fun hx => by have := (HLT.out _ (Option.mem_toList.1 hx)).1; have := HP.out.hp; omega)).kept hkF (fun hx => by
        have h9 := HG6.out
        have hwz := HWZ.out
        have h5z := HK5.out.size
        have hpp := HP.out.hp
        simp at hx
        rcases hx with hx | hx
        · exact HP.out.pv hx
        · subst hx
          rcases h9 with h9 | h9
          · have := (HLT.out _ h9).1; omega
          · omega))
      go_wp2_with fail
      go_end0
      refine ⟨rfl, listAns_of (fun x hx => ?_) (fun v r c' hx => ?_)⟩
      · have h9 := HSD5.out
        unfold ValSaid at h9
        rw [hx] at h9
        exact ⟨HPF.out _ h9, HCF, _, _, _, hbF⟩
      · have h9 := HSD5.out
        unfold ValSaid at h9
        rw [hx] at h9
        exact ⟨HPF.out _ h9.1, _, _, HJ.out.snoc HP.out HCF hbF HK5.out HK6.out hkF rfl HG6.out hrF h9.2 (HSZ3.out)⟩
    · have c3 := cell_head (o := 3) (v := .slice ak acc.length ck) HB6.out rfl
      have z3 := free_head (o := 3) HB6.out
      go_simp
      refine hK _ _ (.inr (.inl (by kernel_rfl))) ?_
      clear hK K
      try simp only [Act.put, List.setIfInBounds_toArray, List.set_cons_zero, List.set_cons_succ]
      clear c3 z3
      have hb7 := block_setCell (i := 3) (v := .slice (some ⟨g6, 0, none⟩) (acc.length + 1) d6) HB6.out rfl
      have HB7 := Lib.hid hb7
      have HK7 := Lib.hid (kept_set w6 bv 3 (.slice (some ⟨g6, 0, none⟩) (acc.length + 1) d6))
      clear hb7
      revert HB7 HK7
      generalize w6.setCell ⟨bv, 3, none⟩ (.slice (some ⟨g6, 0, none⟩) (acc.length + 1) d6) = w7
      intro HB7 HK7
      have hrow7 := row_kept HR6.out HK7.out (fun i hi hx => by simp [Value.ownBlock] at hi hx; exact HBG.out (by rw [← hx, ← hi]))
      obtain ⟨hro, hth, hkg⟩ := row_stored (i := acc.length) (g := g6) (c := cs3) hrow7 HLS5.out rfl HLEN.out (Nat.lt_succ_self _) HSH.out.len
      rw [HSET.out] at hro
      have HRO := Lib.hid hro
      have HKG := Lib.hid hkg
      clear hro hkg hrow7
      refine wpAnyU_one' (i := 9) hO rfl (by kernel_rfl) (by kernel_rfl) (fun K hK => ?_)
      refine wp_store_mid 25 (.tmp 11) (.tmp 7) rfl g6 (acc.length * 5) cs3.toArray rfl rfl (by rw [List.size_toArray, HSH.out.len]; exact hth) (by rw [List.size_toArray, HSH.out.len]; kernel_rfl) (all_oneCell_toArray HSH.out.one) ?_
      refine hK _ _ (.inr (.inl (by kernel_rfl))) ?_
      clear hK K
      try simp only [Act.put, List.setIfInBounds_toArray, List.set_cons_zero, List.set_cons_succ]
      refine wpAnyU_done' hO (by kernel_rfl) ?_ _
      subst hR
      try clear hQp hO O
      clear hth
      have hbF := HKG.out.heap HB7.out (by simpa using HBG.out)
      have hkF := ((HK7.out.mono (Y := [bv, g6]) (by simp)).trans' (HKG.out.mono (Y := [bv, g6]) (by simp)))
      have hrF := HRO.out
      revert hbF hkF hrF
      generalize World.setCells _ g6 (acc.length * 5) cs3.toArray.toList = wF
      intro hbF hkF hrF
      have HCF : LCap W bv b2 b3 p d wF := (HJ.out.cap.step HP.out ((HK5.out.mono (Y := p :: bv :: g6 :: (Value.slice ak acc.length ck).ownBlock.toList) (by simp)).trans' ((HK6.out.mono (fun i hi => by simp at hi ⊢; exact .inr (.inr (.inr hi)))).trans' (hkF.mono (fun i hi => by simp at hi ⊢; rcases hi with h | h; exact .inr (.inl h); exact .inr (.inr (.inl h)))))) (fun i hi => by
        have h9 := HG6.out
        have hwz := HWZ.out
        have h5z := HK5.out.size
        rcases List.mem_cons.1 hi with h | hi
        · exact .inl h
        rcases List.mem_cons.1 hi with h | hi
        · exact .inr (.inl h)
        rcases List.mem_cons.1 hi with h | hi
        · subst h
          rcases h9 with h9 | h9
          · exact .inr (.inr (HLT.out _ h9).1)
          · exact .inr (.inr (by omega))
        · exact .inr (.inr (HLT.out _ (Option.mem_toList.1 hi)).1)))
      have HPF : Hid (∀ x, PS w5 p S 4097 x → PS wF p S 4097 x) := Lib.hid (fun x h => (h.kept HK6.out (fun hx => by have := (HLT.out _ (Option.mem_toList.1 hx)).1; have := HP.out.hp; omega)).kept hkF (fun hx => by
        have h9 := HG6.out
        have hwz := HWZ.out
        have h5z := HK5.out.size
        have hpp := HP.out.hp
        simp at hx
        rcases hx with hx | hx
        · exact HP.out.pv hx
        · subst hx
          rcases h9 with h9 | h9
          · have := (HLT.out _ h9).1; omega
          · omega))
      go_wp2_with fail
      go_end0
      refine ⟨rfl, listAns_of (fun x hx => ?_) (fun v r c' hx => ?_)⟩
      · have h9 := HSD5.out
        unfold ValSaid at h9
        rw [hx] at h9
        exact ⟨HPF.out _ h9, HCF, _, _, _, hbF⟩
      · have h9 := HSD5.out
        unfold ValSaid at h9
        rw [hx] at h9
        exact ⟨HPF.out _ h9.1, _, _, HJ.out.snoc HP.out HCF hbF HK5.out HK6.out hkF rfl HG6.out hrF h9.2 (HSZ3.out)⟩
end
end Go.Proofs.YtpbphdkjjoipnaaGreatDoor
namespace Go.Proofs.YtpbphdkjjoipnaaGreatDoor
open Go.RowKit
def zero6 : List Value := [.string ⟨#[]⟩, .int .i64 0, .int .i64 0, .string ⟨#[]⟩, .slice none 0 0, .slice none 0 0]
structure MCap (W : World) (bv b2 b3 b6 bm p d : Nat) (w : World) : Prop where
  ptr : w.heap[b2]? = some (.cells #[.pointer (some ⟨p, 0, none⟩)] 61 (0, 0))
  dep : w.heap[b3]? = some (.cells #[.int .i64 d] 3 (0, 0))
  box : w.heap[b6]? = some (.cells #[.map (some bm)] 176 (0, 0))
  kept : Kept [p, bv, bm] W w
structure MPos (W : World) (bv b2 b3 b6 bm p : Nat) : Prop where
  hp : p < W.heap.size
  hv : bv < W.heap.size
  hm : bm < W.heap.size
  h2 : b2 < W.heap.size
  h3 : b3 < W.heap.size
  h6 : b6 < W.heap.size
  ltv : p < bv
  ltm : p < bm
  p2 : b2 ≠ p
  p3 : b3 ≠ p
  p6 : b6 ≠ p
  v2 : b2 ≠ bv
  v3 : b3 ≠ bv
  v6 : b6 ≠ bv
  m2 : b2 ≠ bm
  m3 : b3 ≠ bm
  m6 : b6 ≠ bm
  vm : bv ≠ bm
structure MJ (W : World) (bv b2 b3 b6 bm p d : Nat) (seen : List ByteArray) (acc : List (ByteArray × V d)) (w : World) (vm : Value) (mcs : List (ByteArray × List Value)) : Prop where
  cap : MCap W bv b2 b3 b6 bm p d w
  saw : SeenAt w bm seen
  blk : w.heap[bv]? = some (.cells (valA 6 0 ⟨#[]⟩ (.slice none 0 0) vm) 25 (0, 0))
  row : w.ownsRow W.heap.size 60 6 vm acc.length (pairCs mcs)
  all : All2 (pairR (Rep d (fun g => W.heap.size ≤ g ∧ vm.ownBlock ≠ some g) w)) mcs acc
structure MBad (W : World) (bv b2 b3 b6 bm p d : Nat) (w : World) : Prop where
  cap : MCap W bv b2 b3 b6 bm p d w
  blk : ∃ a n c, w.heap[bv]? = some (.cells (valA 6 0 ⟨#[]⟩ (.slice none 0 0) (.slice a n c)) 25 (0, 0))
section
variable {W w w' : World} {bv b2 b3 b6 bm p d : Nat}
theorem MCap.step (h : MCap W bv b2 b3 b6 bm p d w) (hp : MPos W bv b2 b3 b6 bm p) {X : List Nat} (k : Kept X w w') (hX : ∀ g, g ∈ X → g = p ∨ g = bv ∨ g = bm ∨ W.heap.size ≤ g) : MCap W bv b2 b3 b6 bm p d w' := by
  have hz := h.kept.size
  have far : ∀ b, b < W.heap.size → b ≠ p → b ≠ bv → b ≠ bm → b ∉ X := fun b h1 h2 h3 h4 hx => by
    rcases hX _ hx with e | e | e | e
    · exact h2 e
    · exact h3 e
    · exact h4 e
    · omega
  refine ⟨k.heap h.ptr (far _ hp.h2 hp.p2 hp.v2 hp.m2), k.heap h.dep (far _ hp.h3 hp.p3 hp.v3 hp.m3), k.heap h.box (far _ hp.h6 hp.p6 hp.v6 hp.m6), h.kept.trans k ?_⟩
  intro g hg
  rcases hX _ hg with e | e | e | e
  · exact .inl (by simp [e])
  · exact .inl (by simp [e])
  · exact .inl (by simp [e])
  · exact .inr e
theorem MCap.tabs (h : MCap W bv b2 b3 b6 bm p d w) (hp : MPos W bv b2 b3 b6 bm p) (hT : TabsB p W) : TabsB p w := by
  obtain ⟨Wt, h1, h2, h3⟩ := hT
  have := hp.ltv
  have := hp.ltm
  exact ⟨Wt, h1, h2.trans h.kept (fun i hi => by simp at hi; exact .inr (by omega)), h3⟩
theorem MJ.step {seen : List ByteArray} {acc : List (ByteArray × V d)} {vm : Value} {mcs : List (ByteArray × List Value)} (h : MJ W bv b2 b3 b6 bm p d seen acc w vm mcs) (hp : MPos W bv b2 b3 b6 bm p) (k : Kept [p] w w') : MJ W bv b2 b3 b6 bm p d seen acc w' vm mcs :=
  ⟨h.cap.step hp k (fun g hg => by simp at hg; exact .inl hg), h.saw.kept k (by have := hp.ltm; simp; omega), k.heap h.blk (by have := hp.ltv; simp; omega), row_kept h.row k (fun g hg hx => by simp at hx; have := (h.row.lt g hg).1; have := hp.hp; omega), h.all.mono fun _ _ _ r => ⟨r.1, r.2.move k (fun g _ q => ⟨fun hx => by simp at hx; have := hp.hp; omega, q⟩)⟩⟩
theorem MJ.put {seen seen' : List ByteArray} {acc : List (ByteArray × V d)} {vm : Value} {mcs : List (ByteArray × List Value)} (h : MJ W bv b2 b3 b6 bm p d seen acc w vm mcs) (hp : MPos W bv b2 b3 b6 bm p) (k : Kept [bm] w w') (hs : SeenAt w' bm seen') : MJ W bv b2 b3 b6 bm p d seen' acc w' vm mcs :=
  ⟨h.cap.step hp k (fun g hg => by simp at hg; exact .inr (.inr (.inl hg))), hs, k.heap h.blk (by simpa using hp.vm), row_kept h.row k (fun g hg hx => by simp at hx; have := (h.row.lt g hg).1; have := hp.hm; omega), h.all.mono fun _ _ _ r => ⟨r.1, r.2.move k (fun g _ q => ⟨fun hx => by simp at hx; have := hp.hm; omega, q⟩)⟩⟩
theorem MBad.step (h : MBad W bv b2 b3 b6 bm p d w) (hp : MPos W bv b2 b3 b6 bm p) (k : Kept [p] w w') : MBad W bv b2 b3 b6 bm p d w' := by
  obtain ⟨a, n, c, hb⟩ := h.blk
  exact ⟨h.cap.step hp k (fun g hg => by simp at hg; exact .inl hg), a, n, c, k.heap hb (by have := hp.ltv; simp; omega)⟩
theorem MJ.bad {seen : List ByteArray} {acc : List (ByteArray × V d)} {vm : Value} {mcs : List (ByteArray × List Value)} (h : MJ W bv b2 b3 b6 bm p d seen acc w vm mcs) : MBad W bv b2 b3 b6 bm p d w := by
  obtain ⟨a, c, rfl, -, -⟩ := (Slc.of_row h.row).form
  exact ⟨h.cap, _, _, _, h.blk⟩
theorem MJ.snoc {seen : List ByteArray} {acc : List (ByteArray × V d)} {vm vm' : Value} {mcs : List (ByteArray × List Value)} {w5 w6 wF : World} {cs : List Value} {key : ByteArray} {v : V d} {g Bc : Nat} (h : MJ W bv b2 b3 b6 bm p d seen acc w vm mcs) (hp : MPos W bv b2 b3 b6 bm p)
    (hcap : MCap W bv b2 b3 b6 bm p d wF) (hsaw : SeenAt wF bm seen) (hblk : wF.heap[bv]? = some (.cells (valA 6 0 ⟨#[]⟩ (.slice none 0 0) vm') 25 (0, 0)))
    (k5 : Kept [p] w w5) (k6 : Kept vm.ownBlock.toList w5 w6) (kF : Kept [bv, g] w6 wF) (hown : vm'.ownBlock = some g) (hg : vm.ownBlock = some g ∨ g = w5.heap.size) (hrow : wF.ownsRow W.heap.size 60 6 vm' (acc.length + 1) (pairCs (mcs ++ [(key, cs)])))
    (hrep : Rep d (fun i => Bc ≤ i) w5 cs v) (hB : w.heap.size ≤ Bc) : MJ W bv b2 b3 b6 bm p d seen (acc ++ [(key, v)]) wF vm' (mcs ++ [(key, cs)]) := by
  have hpw := hp.hp
  have hvw := hp.hv
  have hz := h.cap.kept.size
  have hz5 := k5.size
  refine ⟨hcap, hsaw, hblk, by rw [List.length_append]; exact hrow, All2.snoc (h.all.mono fun c y _ r => ⟨r.1, ?_⟩) ⟨rfl, ?_⟩⟩
  · refine ((r.2.move (T := fun i => W.heap.size ≤ i ∧ vm.ownBlock ≠ some i ∧ i < w.heap.size) k5 (fun i hi q => ⟨fun hx => by simp at hx; omega, q.1, q.2, hi⟩)).move (T := fun i => W.heap.size ≤ i ∧ vm.ownBlock ≠ some i ∧ i < w.heap.size) k6 (fun i hi q => ⟨fun hx => q.2.1 (Option.mem_toList.1 hx), q⟩)).move kF (fun i hi q => ⟨fun hx => ?_, q.1, fun hx => ?_⟩)
    · simp at hx
      rcases hx with hx | hx
      · omega
      · rcases hg with hg | hg
        · exact q.2.1 (by rw [hg, hx])
        · omega
    · rw [hown] at hx
      injection hx with hx
      rcases hg with hg | hg
      · exact q.2.1 (by rw [hg, hx])
      · omega
  · refine (hrep.move (T := fun i => Bc ≤ i ∧ i < w5.heap.size ∧ vm.ownBlock ≠ some i) k6 (fun i hi q => ⟨fun hx => ?_, q, hi, fun hx => ?_⟩)).move kF (fun i hi q => ⟨fun hx => ?_, by omega, fun hx => ?_⟩)
    · have := (h.row.lt i (Option.mem_toList.1 hx)).2; omega
    · have := (h.row.lt i hx).2; omega
    · simp at hx
      rcases hx with hx | hx
      · omega
      · rcases hg with hg | hg
        · exact q.2.2 (by rw [hg, hx])
        · omega
    · rw [hown] at hx
      injection hx with hx
      rcases hg with hg | hg
      · exact q.2.2 (by rw [hg, hx])
      · omega
def pairX (seen : List ByteArray) (x : PX) : PX := needX [58] (skipX (if seen.any (fun k => decide (k = strB (litS (skipX x)))) = true then failX 53 (litX (skipX x)) else litX (skipX x)))
def pairK (x : PX) : ByteArray := strB (litS (skipX x))
theorem head_eat (r : List UInt8) (c : Nat) : needX [58] (.inr (r, c)) = if r.head? = some 58 then .inr (r.tail, c) else .inl 50 := by
  unfold needX
  rw [eat_one]
  by_cases h : r.head? = some 58
  · rw [decide_eq_true h, if_pos rfl, if_pos h]
    show (Sum.inr (r.drop 1, c) : PX) = _
    rw [List.drop_one]
  · rw [decide_eq_false h, if_neg (by decide), if_neg h]
    rfl
theorem pairStep_eq {d : Nat} (s : List UInt8) (c : Nat) (acc : List (ByteArray × V d)) : pairStep (pValue d) s c acc = match pairX (acc.map (fun q => q.1)) (.inr (s, c)) with
    | .inl e => .inl e
    | .inr (s', c') => match pValue d s' c' with
      | .inl e => .inl e
      | .inr (v, r, c'') => .inr (acc ++ [(pairK (.inr (s, c)), v)], r, c'') := by
  have ha : ∀ k : List UInt8, (acc.map (fun q => q.1)).any (fun x => decide (x = strB k)) = acc.any (fun q => decide (q.1 = strB k)) := fun k => by rw [List.any_map]; rfl
  unfold pairStep pairX pairK
  have hs : skipX (.inr (s, c)) = .inr (skipB s, c) := rfl
  rw [hs]
  cases hu : unqL (skipB s) with
  | inl e =>
    rw [(litX_bad hu).1, (litX_bad hu).2]
    simp only
    have h9 : ∀ b : Bool, (if b = true then failX 53 (Sum.inl e : PX) else Sum.inl e) = Sum.inl e := fun b => by cases b <;> rfl
    rw [h9]
    rfl
  | inr y =>
    obtain ⟨k, r⟩ := y
    rw [(litX_ok hu).1, (litX_ok hu).2, ha]
    simp only
    by_cases h1 : acc.any (fun q => decide (q.1 = strB k)) = true
    · rw [if_pos h1, if_pos h1]
      rfl
    · rw [if_neg h1, if_neg h1]
      have h2 : skipX (.inr (r, c)) = .inr (skipB r, c) := rfl
      rw [h2, head_eat]
      by_cases h3 : (skipB r).head? = some 58
      · rw [if_pos h3, if_pos h3]
        simp only
        cases pValue d (skipB r).tail c with
        | inl e => rfl
        | inr z => obtain ⟨v, q, c2⟩ := z; rfl
      · rw [if_neg h3, if_neg h3]
theorem pairX_cnt (seen : List ByteArray) (s : List UInt8) (c : Nat) (hc : c ≤ 4096) : CntOk (pairX seen (.inr (s, c))) := by
  unfold pairX
  have h1 : ∀ x, CntOk x → CntOk (skipX x) := fun x h => by cases x with | inl e => exact h | inr q => exact h
  have h2 : ∀ x, CntOk x → CntOk (needX [58] x) := fun x h => by
    cases x with
    | inl e => exact trivial
    | inr q => obtain ⟨r, c⟩ := q; rw [head_eat]; split; exact h; exact trivial
  have h3 : ∀ x, CntOk x → CntOk (litX x) := fun x h => by
    cases x with
    | inl e => exact h
    | inr q =>
      obtain ⟨r, c⟩ := q
      unfold litX
      simp only
      split
      · exact trivial
      · exact h
  refine h2 _ (h1 _ ?_)
  have h4 := h3 _ (h1 (.inr (s, c)) hc)
  split
  · revert h4
    cases litX (skipX (.inr (s, c))) with
    | inl e => exact fun _ => trivial
    | inr q => exact fun _ => trivial
  · exact h4
def PairAns (W : World) (bv b2 b3 b6 bm p d : Nat) (S : ByteArray) (s : List UInt8) (c : Nat) (acc : List (ByteArray × V d)) (w' : World) : Prop :=
  match pairStep (pValue d) s c acc with
  | .inl x => PS w' p S 4097 (.inl x) ∧ MBad W bv b2 b3 b6 bm p d w'
  | .inr (acc', r, c') => PS w' p S 4097 (.inr (r, c')) ∧ ∃ vm mcs, MJ W bv b2 b3 b6 bm p d (acc'.map (fun q => q.1)) acc' w' vm mcs
def ValSaidX (d : Nat) (X : PX) (p : Nat) (S : ByteArray) (Bc : Nat) (cs : List Value) (w' : World) : Prop :=
  match X with
  | .inl x => PS w' p S 4097 (.inl x)
  | .inr (s, c) => ValSaid d s c p S Bc cs w'
theorem ValSaidX.kept0 {X : PX} {Bc : Nat} {S : ByteArray} {cs : List Value} (h : ValSaidX d X p S Bc cs w) (k : Kept [] w w') : ValSaidX d X p S Bc cs w' := by
  cases X with
  | inl x => exact PS.kept0 h k
  | inr y => obtain ⟨s, c⟩ := y; exact ValSaid.kept0 h k
theorem ValAns.saidX {X : PX} {S : ByteArray} {e : Ending} (h : ValAns d X p S w e w') : ∃ cs : List Value, e = .returned (.agg cs.toArray) ∧ Shape cs ∧ Kept [p] w w' ∧ ValSaidX d X p S w.heap.size cs w' := by
  cases X with
  | inl x => obtain ⟨cs, h1, h2, h3, h4⟩ := h; exact ⟨cs, h1, h2, h3, h4⟩
  | inr y => obtain ⟨s, c⟩ := y; exact ValAns.said h
theorem pairAns_of {S : ByteArray} {s : List UInt8} {c : Nat} {acc : List (ByteArray × V d)} {X : PX} {wS : World} {Bc : Nat} {cs : List Value} (hX : pairX (acc.map (fun q => q.1)) (.inr (s, c)) = X) (hsd : ValSaidX d X p S Bc cs wS)
    (hPS : ∀ x, PS wS p S 4097 x → PS w' p S 4097 x) (h1 : MBad W bv b2 b3 b6 bm p d w')
    (h2 : ∀ v, Rep d (fun i => Bc ≤ i) wS cs v → ∃ vm mcs, MJ W bv b2 b3 b6 bm p d ((acc ++ [(pairK (.inr (s, c)), v)]).map (fun q => q.1)) (acc ++ [(pairK (.inr (s, c)), v)]) w' vm mcs) : PairAns W bv b2 b3 b6 bm p d S s c acc w' := by
  unfold PairAns
  rw [pairStep_eq, hX]
  cases X with
  | inl x => exact ⟨hPS _ hsd, h1⟩
  | inr y =>
    obtain ⟨s', c'⟩ := y
    unfold ValSaidX ValSaid at hsd
    simp only at hsd ⊢
    cases h : pValue d s' c' with
    | inl x => rw [h] at hsd; exact ⟨hPS _ hsd, h1⟩
    | inr z =>
      obtain ⟨v, r, c''⟩ := z
      rw [h] at hsd
      exact ⟨hPS _ hsd.1, h2 v hsd.2⟩
end
end Go.Proofs.YtpbphdkjjoipnaaGreatDoor
namespace Go.Proofs.YtpbphdkjjoipnaaGreatDoor
open Go.RowKit
section
variable {W w : World} {bv b2 b3 b6 bm p d : Nat} {S : ByteArray} {s : List UInt8} {c : Nat} {acc : List (ByteArray × V d)} {vm : Value} {mcs : List (ByteArray × List Value)}
theorem lit_size {S : ByteArray} {x : PX} {w : World} {p B : Nat} (h : PS w p S B x) : (strB (litS x)).size ≤ S.size := by
  rw [strB_size]
  cases x with
  | inl e => simp [litS]
  | inr q =>
    obtain ⟨r, c⟩ := q
    obtain ⟨i, h1, hi, hc, hr⟩ := h.open_ok
    have hl := drop_len hr hi
    cases hu : unqL r with
    | inl e => rw [(litX_bad hu).2]; simp
    | inr y =>
      obtain ⟨t, r'⟩ := y
      rw [(litX_ok hu).2]
      have := (unq_facts hu).2
      omega
set_option maxRecDepth 10000 in
set_option maxHeartbeats 12800000 in
theorem pairs1_any (IH0 : PValKnown d) (hp : MPos W bv b2 b3 b6 bm p) (hj : MJ W bv b2 b3 b6 bm p d (acc.map (fun q => q.1)) acc w vm mcs) (hs : PS w p S 4097 (.inr (s, c))) (hc : c ≤ 4096) (hS : S.size ≤ 262144) (hT : TabsB p W) (hn : acc.length ≤ 5000) :
    Calls Tryz.prog 160 #[.pointer (some ⟨b2, 0, none⟩), .pointer (some ⟨b6, 0, none⟩), .pointer (some ⟨bv, 0, none⟩), .pointer (some ⟨b3, 0, none⟩)] w fun e w' => e = .returned (.tuple #[]) ∧ PairAns W bv b2 b3 b6 bm p d S s c acc w' := by
  obtain ⟨ak, ck, rfl, -, -⟩ := (Slc.of_row hj.row).form
  have HJ := Lib.hid hj
  have HP := Lib.hid hp
  have HT := Lib.hid hT
  have HN := Lib.hid hn
  have HIH := @Lib.hid (PValKnown d) (by exact @IH0)
  have f2 := cell_head (o := 0) (v := .pointer (some ⟨p, 0, none⟩)) hj.cap.ptr rfl
  have CS1 := Lib.hid (pskip_any hs hS)
  have HXC := Lib.hid (pairX_cnt (acc.map (fun q => q.1)) s c hc)
  have HXD : Hid (pairX (acc.map (fun q => q.1)) (.inr (s, c)) = needX [58] (skipX (if (acc.map (fun q => q.1)).any (fun k => decide (k = pairK (.inr (s, c)))) = true then failX 53 (litX (skipX (.inr (s, c)))) else litX (skipX (.inr (s, c)))))) := Lib.hid rfl
  have HKD : Hid (pairK (.inr (s, c)) = strB (litS (skipX (.inr (s, c))))) := Lib.hid rfl
  have HSL : Hid ((acc.map (fun q => q.1)).length ≤ 5000) := Lib.hid (by rw [List.length_map]; exact hn)
  clear hj hs IH0 hc hn hT hp
  revert CS1 HKD HXD
  generalize skipX (.inr (s, c)) = X1
  intro CS1 HXD HKD
  go_enter Tryz.func160, Tryz.ntmps160
  go_wp2_with fail
  refine CS1.out.mono ?_
  rintro e w1 ⟨rfl, hp1, hk1⟩
  have HJ1 := Lib.hid (HJ.out.step HP.out hk1)
  have HP1 := Lib.hid hp1
  have f2' := cell_head (o := 0) (v := .pointer (some ⟨p, 0, none⟩)) HJ1.out.cap.ptr rfl
  obtain ⟨i1, c1, e1, ha1, hi1, hc1⟩ := hp1.places
  have l1 := cell_head (o := 1) (v := .int .i64 i1) ha1 rfl
  have HI1 := Lib.hid hi1
  have HLZ := Lib.hid (lit_size hp1)
  have CL := Lib.hid (pliteral_any hp1 (HJ1.out.cap.tabs HP.out HT.out) hS)
  rw [← HKD.out] at CL HLZ
  clear hk1 hp1 f2 ha1 hi1 hc1
  go_wp2_with fail
  refine CL.out.mono ?_
  rintro e w2 ⟨rfl, hp2, hk2⟩
  have HJ2 := Lib.hid (HJ1.out.step HP.out hk2)
  have HP2 := Lib.hid hp2
  have g2 := cell_head (o := 0) (v := .pointer (some ⟨p, 0, none⟩)) HJ2.out.cap.ptr rfl
  have g6 := cell_head (o := 0) (v := .map (some bm)) HJ2.out.cap.box rfl
  have hlook := HJ2.out.saw.look (pairK (.inr (s, c))) (by have := HLZ.out; omega)
  clear hk2 hp2 f2' l1
  cases hb : (acc.map (fun q => q.1)).any (fun k => decide (k = pairK (.inr (s, c))))
  · rw [hb] at hlook HXD
    have HXE : Hid (pairX (acc.map (fun q => q.1)) (.inr (s, c)) = needX [58] (skipX (litX X1))) := Lib.hid HXD.out
    clear hb
    obtain ⟨w4, hput, hs4, hk4⟩ := HJ2.out.saw.put (pairK (.inr (s, c))) (by have := HLZ.out; omega) (by have := HSL.out; omega)
    have HJ4 := Lib.hid (HJ2.out.put HP.out hk4 hs4)
    have HP4 := Lib.hid (HP2.out.kept hk4 (by have := HP.out.ltm; simp; omega))
    have m2 := cell_head (o := 0) (v := .pointer (some ⟨p, 0, none⟩)) HJ4.out.cap.ptr rfl
    clear hs4 hk4
    have CS4 := Lib.hid (pskip_any HP4.out hS)
    go_wp2_with fail
    refine CS4.out.mono ?_
    rintro e w5 ⟨rfl, hp5, hk5⟩
    have HJ5 := Lib.hid (HJ4.out.step HP.out hk5)
    have HP5 := Lib.hid hp5
    have n2 := cell_head (o := 0) (v := .pointer (some ⟨p, 0, none⟩)) HJ5.out.cap.ptr rfl
    clear hp5 hk5 m2 hput
    have CN5 := Lib.hid (pneed_any HP5.out hS ⟨#[58]⟩)
    rw [show (⟨#[58]⟩ : ByteArray).data.toList = [58] from rfl, ← HXE.out] at CN5
    go_wp2_with fail
    refine CN5.out.mono ?_
    rintro e w0 ⟨rfl, hp6, hk6⟩
    have hj0 := HJ5.out.step HP.out hk6
    have HS0 := Lib.hid hp6
    clear hp6 hk6 n2 CN5 CS4 CL CS1 HP1 HP2 HP4 HP5 HJ1 HJ2 HJ4 HJ5
    clear HJ
    have HJ := Lib.hid hj0
    have HLT : Hid (∀ g, (Value.slice ak acc.length ck).ownBlock = some g → W.heap.size ≤ g ∧ g < w0.heap.size) := Lib.hid (fun g hg => hj0.row.lt g hg)
    have HWZ : Hid (W.heap.size ≤ w0.heap.size) := Lib.hid hj0.cap.kept.size
    have HLC : Hid (mcs.length = acc.length) := Lib.hid hj0.all.1
    have HL6 : Hid (∀ x, x ∈ mcs.map pairC → x.length = 6) := Lib.hid (fun x hx => by
      obtain ⟨q, hq, rfl⟩ := List.mem_map.1 hx
      obtain ⟨j, hj', rfl⟩ := List.getElem_of_mem hq
      have h9 := (hj0.all.2 j _ _ (List.getElem?_eq_getElem hj') (List.getElem?_eq_getElem (by rw [← hj0.all.1]; exact hj'))).2.len
      simp [pairC, h9])
    have CV : Hid (∀ w', Kept [] w0 w' → Calls Tryz.prog 49 #[.pointer (some ⟨p, 0, none⟩), .int .i64 d] w' fun e w2 => ValAns d (pairX (acc.map (fun q => q.1)) (.inr (s, c))) p S w' e w2) := Lib.hid (fun w' k => HIH.out (HS0.out.kept0 k) HXC.out hS ((hj0.cap.tabs HP.out HT.out).step (k.mono (by simp))))
    have f3 := cell_head (o := 4) (v := .slice ak acc.length ck) hj0.blk rfl
    have f2 := cell_head (o := 0) (v := .pointer (some ⟨p, 0, none⟩)) hj0.cap.ptr rfl
    have f1 := cell_head (o := 0) (v := .int .i64 d) hj0.cap.dep rfl
    clear hj0 HXD HXE HS0 HXC
    have HXP : Hid (pairX (acc.map (fun q => q.1)) (.inr (s, c)) = pairX (acc.map (fun q => q.1)) (.inr (s, c))) := Lib.hid rfl
    revert CV HXP
    generalize hXX : pairX (acc.map (fun q => q.1)) (.inr (s, c)) = X
    have HXX := Lib.hid hXX
    clear hXX
    intro CV HXP
    clear HXP
    generalize hkk : pairK (.inr (s, c)) = key at *
    have HKK := Lib.hid hkk
    clear hkk
    go_wp2_with fail
    refine wp_regionU' (n := 14) (fun w' : World => w'.cell? ⟨bv, 4, none⟩ = some (.slice ak acc.length ck) ∧ w'.cell? ⟨b2, 0, none⟩ = some (.pointer (some ⟨p, 0, none⟩)) ∧ w'.cell? ⟨b3, 0, none⟩ = some (.int .i64 d)) 9 (by kernel_rfl) (by kernel_rfl) ?_
    change wpAnyU _ _ _ _ _ _ _ _ _ w0.drew
    have hSS : (fun w' : World => w'.cell? ⟨bv, 4, none⟩ = some (.slice ak acc.length ck) ∧ w'.cell? ⟨b2, 0, none⟩ = some (.pointer (some ⟨p, 0, none⟩)) ∧ w'.cell? ⟨b3, 0, none⟩ = some (.int .i64 d)) w0.drew := ⟨f3, f2, f1⟩
    have HKD0 : Hid (Kept [] w0 w0.drew) := Lib.hid (Kept.refl _ _).drew
    clear f1 f2 f3
    revert hSS HKD0
    generalize w0.drew = WD
    intro hSS HKD0
    refine wpAnyU_start ?_
    intro O R hO hR
    have hQp : ∀ c a (d : Nat) v w, R (.panic c) (a.put (some d) v) w → R (.panic c) a w := by subst hR; exact fun _ _ _ _ _ h => h
    refine wpAnyU_take' (i := 0) (v := ?_) hO rfl rfl (by kernel_rfl) (by kernel_rfl) (by kernel_rfl) (by kernel_rfl) (by decide) (by kernel_rfl) hQp (Or.inl ⟨by kernel_rfl, fun w hSw => ?_⟩) hSS ?_
    rotate_left
    · go_simp; try with_reducible rfl
    try simp only [Act.put, List.setIfInBounds_toArray, List.set_cons_zero, List.set_cons_succ]
    refine wpAnyU_take' (i := 1) (v := ?_) hO rfl rfl (by kernel_rfl) (by kernel_rfl) (by kernel_rfl) (by kernel_rfl) (by decide) (by kernel_rfl) hQp (Or.inl ⟨by kernel_rfl, fun w hSw => ?_⟩) hSS ?_
    rotate_left
    · obtain ⟨s0, s1, s2⟩ := hSw; go_simp; try with_reducible rfl
    try simp only [Act.put, List.setIfInBounds_toArray, List.set_cons_zero, List.set_cons_succ]
    refine wpAnyU_take' (i := 3) (v := ?_) hO rfl rfl (by kernel_rfl) (by kernel_rfl) (by kernel_rfl) (by kernel_rfl) (by decide) (by kernel_rfl) hQp (Or.inl ⟨by kernel_rfl, fun w hSw => ?_⟩) hSS ?_
    rotate_left
    · obtain ⟨s0, s1, s2⟩ := hSw; go_simp; try with_reducible rfl
    try simp only [Act.put, List.setIfInBounds_toArray, List.set_cons_zero, List.set_cons_succ]
    refine wpAnyU_take' (i := 4) (v := ?_) hO rfl rfl (by kernel_rfl) (by kernel_rfl) (by kernel_rfl) (by kernel_rfl) (by decide) (by kernel_rfl) hQp (Or.inl ⟨by kernel_rfl, fun w hSw => ?_⟩) hSS ?_
    rotate_left
    · obtain ⟨s0, s1, s2⟩ := hSw; go_simp; try with_reducible rfl
    try simp only [Act.put, List.setIfInBounds_toArray, List.set_cons_zero, List.set_cons_succ]
    refine wpAnyU_take' (i := 2) (v := ?_) hO rfl rfl (by kernel_rfl) (by kernel_rfl) (by kernel_rfl) (by kernel_rfl) (by decide) (by kernel_rfl) hQp (Or.inl ⟨by kernel_rfl, fun w hSw => ?_⟩) hSS ?_
    rotate_left
    · go_simp; try with_reducible rfl
    try simp only [Act.put, List.setIfInBounds_toArray, List.set_cons_zero, List.set_cons_succ]
    refine wpAnyU_take' (i := 7) (v := ?_) hO rfl rfl (by kernel_rfl) (by kernel_rfl) (by kernel_rfl) (by kernel_rfl) (by decide) (by kernel_rfl) hQp (Or.inl ⟨by kernel_rfl, fun w hSw => ?_⟩) hSS ?_
    rotate_left
    · go_simp; try with_reducible rfl
    try simp only [Act.put, List.setIfInBounds_toArray, List.set_cons_zero, List.set_cons_succ]
    refine wpAnyU_two' (i := 5) (j := 8) hO rfl rfl (by kernel_rfl) (by kernel_rfl) (by kernel_rfl) (fun K hK => ?_) (fun K hK => ?_)
    · go_simp
      refine Calls.mono (CV.out _ HKD0.out) ?_
      rintro e w3 hans
      obtain ⟨cs3, rfl, hsh, hk3, hsd⟩ := hans.saidX
      obtain ⟨k3, m3, s3, p3, i3, d3, q3, j3, e3, rfl⟩ := hsh
      have HKC := Lib.hid hk3
      have HK3 := Lib.hid ((HKD0.out.mono (Y := [p]) (by simp)).trans' hk3)
      have HSD := Lib.hid hsd
      have HSZ3 : Hid (w0.heap.size ≤ WD.heap.size) := Lib.hid HKD0.out.size
      have hS3 : (fun w' : World => w'.cell? ⟨bv, 4, none⟩ = some (.slice ak acc.length ck) ∧ w'.cell? ⟨b2, 0, none⟩ = some (.pointer (some ⟨p, 0, none⟩)) ∧ w'.cell? ⟨b3, 0, none⟩ = some (.int .i64 d)) w3 := ⟨hk3.cell hSS.1 (by have := HP.out.ltv; simp; omega), hk3.cell hSS.2.1 (by simpa using HP.out.p2), hk3.cell hSS.2.2 (by simpa using HP.out.p3)⟩
      clear hans hk3 hsd
      refine hK _ _ (.inr (.inr hS3)) ?_
      clear hK K
      try simp only [Act.put, List.setIfInBounds_toArray, List.set_cons_zero, List.set_cons_succ]
      clear hSS
      have hSS := hS3
      clear hS3
      refine wpAnyU_take' (i := 6) (v := ?_) hO rfl rfl (by kernel_rfl) (by kernel_rfl) (by kernel_rfl) (by kernel_rfl) (by decide) (by kernel_rfl) hQp (Or.inl ⟨by kernel_rfl, fun w hSw => ?_⟩) hSS ?_
      rotate_left
      · go_simp; try with_reducible rfl
      try simp only [Act.put, List.setIfInBounds_toArray, List.set_cons_zero, List.set_cons_succ]
      refine wpAnyU_one' (i := 8) hO rfl (by kernel_rfl) (by kernel_rfl) (fun K hK => ?_)
      go_simp
      have HKB : Hid (Kept [] w3 (w3.alloc (.cells #[.string ⟨#[]⟩, .int .i64 0, .int .i64 0, .string ⟨#[]⟩, .slice none 0 0, .slice none 0 0] 60))) := Lib.hid ((Kept.refl [] w3).alloc _)
      have HSRC := Lib.hid (slc_new w3 [.string ⟨#[]⟩, .int .i64 0, .int .i64 0, .string ⟨#[]⟩, .slice none 0 0, .slice none 0 0] 6 1 60 w3.heap.size rfl rfl (by decide))
      have hS4 : (fun w' : World => w'.cell? ⟨bv, 4, none⟩ = some (.slice ak acc.length ck) ∧ w'.cell? ⟨b2, 0, none⟩ = some (.pointer (some ⟨p, 0, none⟩)) ∧ w'.cell? ⟨b3, 0, none⟩ = some (.int .i64 d)) (w3.alloc (.cells #[.string ⟨#[]⟩, .int .i64 0, .int .i64 0, .string ⟨#[]⟩, .slice none 0 0, .slice none 0 0] 60)) := ⟨HKB.out.cell hSS.1 (by simp), HKB.out.cell hSS.2.1 (by simp), HKB.out.cell hSS.2.2 (by simp)⟩
      refine hK _ _ (.inr (.inr hS4)) ?_
      clear hK K
      try simp only [Act.put, List.setIfInBounds_toArray, List.set_cons_zero, List.set_cons_succ]
      clear hSS
      have hSS := hS4
      clear hS4
      revert hSS HKB HSRC
      generalize w3.alloc (.cells #[.string ⟨#[]⟩, .int .i64 0, .int .i64 0, .string ⟨#[]⟩, .slice none 0 0, .slice none 0 0] 60) = w5
      intro HKB HSRC hSS
      have HK5 := Lib.hid (HK3.out.then HKB.out)
      have HSD5 := Lib.hid (HSD.out.kept0 HKB.out)
      clear HSD
      have hrow5 := row_kept HJ.out.row HK5.out (fun i hi hx => by simp at hx; have := (HLT.out i hi).1; have := HP.out.hp; omega)
      refine wpAnyU_one' (i := 9) hO rfl (by kernel_rfl) (by kernel_rfl) (fun K hK => ?_)
      refine oper_append tyPairs hrow5 HSRC.out (by intro u hu; simp only [List.mem_cons, List.not_mem_nil, or_false] at hu; rcases hu with rfl | rfl | rfl | rfl | rfl | rfl <;> rfl) (by have := HN.out; simp only [maxLen]; omega) (by have := HN.out; omega) (by have := HK5.out.size; have := HWZ.out; omega) (.tmp 27) (.tmp 34) rfl rfl rfl ?_
      intro bb6 d6 w6 hown6 hk6 hg6
      obtain ⟨g6, rfl⟩ : ∃ g6, bb6 = some ⟨g6, 0, none⟩ := by
        rcases hown6.2 with ⟨h, h1⟩ | ⟨g, cap, cur, hv, _⟩
        · omega
        · simp only [Value.slice.injEq] at hv; exact ⟨g, hv.1⟩
      have HROW6 := Lib.hid hown6
      have HK6 := Lib.hid hk6
      have HG6 : Hid ((Value.slice ak acc.length ck).ownBlock = some g6 ∨ g6 = w5.heap.size) := Lib.hid (by
        rcases hg6 with h | h
        · exact .inl (by rw [← h]; rfl)
        · exact .inr (by simpa [Value.ownBlock] using h))
      have HLTF : Hid (W.heap.size ≤ g6 ∧ g6 < w6.heap.size) := Lib.hid (hown6.lt g6 rfl)
      have HB6 : Hid (w6.heap[bv]? = some (.cells (valA 6 0 ⟨#[]⟩ (.slice none 0 0) (.slice ak acc.length ck)) 25 (0, 0))) := Lib.hid (hk6.heap (HK5.out.heap HJ.out.blk (by have := HP.out.ltv; simp; omega)) (fun hx => by have := (HLT.out _ (Option.mem_toList.1 hx)).1; have := HP.out.hv; omega))
      have HBG : Hid (bv ≠ g6) := Lib.hid (by have := HLTF.out.1; have := HP.out.hv; omega)
      clear hrow5 hown6 hk6 hg6 hSS
      refine hK _ _ (.inl rfl) ?_
      clear hK K
      try simp only [Act.put, List.setIfInBounds_toArray, List.set_cons_zero, List.set_cons_succ]
      have hnI : (acc.length : Int) < (acc.length : Int) + 1 := by omega
      refine wpAnyU_pure (i := 10) (v := ?_) hO rfl rfl (by kernel_rfl) (by kernel_rfl) (by kernel_rfl) (by kernel_rfl) hQp (Or.inl ⟨by kernel_rfl, fun w _ => ?_⟩) ?_
      rotate_left
      · go_simp; try with_reducible rfl
      try simp only [Act.put, List.setIfInBounds_toArray, List.set_cons_zero, List.set_cons_succ]
      refine wpAnyU_pure (i := 12) (v := ?_) hO rfl rfl (by kernel_rfl) (by kernel_rfl) (by kernel_rfl) (by kernel_rfl) hQp (Or.inl ⟨by kernel_rfl, fun w _ => ?_⟩) ?_
      rotate_left
      · go_simp; try with_reducible rfl
      try simp only [Act.put, List.setIfInBounds_toArray, List.set_cons_zero, List.set_cons_succ]
      have hls6 : ∀ x, x ∈ (mcs.map pairC) ++ [zero6] → x.length = 6 := fun x hx => by
        rcases List.mem_append.1 hx with hx | hx
        · exact HL6.out x hx
        · simp at hx; subst hx; rfl
      have hrow6 : w6.ownsRow W.heap.size 60 6 (.slice (some ⟨g6, 0, none⟩) (acc.length + 1) d6) (acc.length + 1) ((mcs.map pairC) ++ [zero6]).flatten := by
        have h9 := HROW6.out
        rw [pairCs_flat] at h9
        rw [List.flatten_append]
        simp only [List.flatten_cons, List.flatten_nil, List.append_nil]
        exact h9
      have HR6 := Lib.hid hrow6
      have HSET : Hid ((((mcs.map pairC) ++ [zero6]).set acc.length [.string key, .int .i64 k3, .int .i64 m3, .string s3, .slice p3 i3 d3, .slice q3 j3 e3]).flatten = pairCs (mcs ++ [(key, [.int .i64 k3, .int .i64 m3, .string s3, .slice p3 i3 d3, .slice q3 j3 e3])])) := Lib.hid (by
        rw [List.set_append_right _ _ (by have := HLC.out; rw [List.length_map]; omega), List.length_map, HLC.out, Nat.sub_self, pairCs_flat, List.map_append]
        rfl)
      have HLS6 := Lib.hid hls6
      have HLEN : Hid (((mcs.map pairC) ++ [zero6]).length = acc.length + 1) := Lib.hid (by rw [List.length_append, List.length_map, HLC.out]; rfl)
      clear hls6 hrow6
      refine wpAnyU_two' (i := 11) (j := 13) hO rfl rfl (by kernel_rfl) (by kernel_rfl) (by kernel_rfl) (fun K hK => ?_) (fun K hK => ?_)
      · obtain ⟨hro, hth, hkg⟩ := row_stored (i := acc.length) (g := g6) (c := [.string key, .int .i64 k3, .int .i64 m3, .string s3, .slice p3 i3 d3, .slice q3 j3 e3]) HR6.out HLS6.out rfl HLEN.out (Nat.lt_succ_self _) rfl
        rw [HSET.out] at hro
        have HRO := Lib.hid hro
        have HKG := Lib.hid hkg
        clear hro hkg
        refine wp_store_mid 60 (.tmp 36) (.tmp 32) rfl g6 (acc.length * 6) #[.string key, .int .i64 k3, .int .i64 m3, .string s3, .slice p3 i3 d3, .slice q3 j3 e3] rfl rfl hth (by kernel_rfl) (by simp [Value.oneCell']) ?_
        refine hK _ _ (.inr (.inl (by kernel_rfl))) ?_
        clear hK K
        try simp only [Act.put, List.setIfInBounds_toArray, List.set_cons_zero, List.set_cons_succ]
        have hb7 := HKG.out.heap HB6.out (by simpa using HBG.out)
        have HB7 := Lib.hid hb7
        have c3 := cell_head (o := 4) (v := .slice ak acc.length ck) hb7 rfl
        have z3 := free_head (o := 4) hb7
        clear hb7
        refine wpAnyU_one' (i := 13) hO rfl (by kernel_rfl) (by kernel_rfl) (fun K hK => ?_)
        go_simp
        refine hK _ _ (.inr (.inl (by kernel_rfl))) ?_
        clear hK K
        try simp only [Act.put, List.setIfInBounds_toArray, List.set_cons_zero, List.set_cons_succ]
        refine wpAnyU_done' hO (by kernel_rfl) ?_ _
        subst hR
        try clear hQp hO O
        clear c3 z3 hth
        have hbF := block_setCell (i := 4) (v := .slice (some ⟨g6, 0, none⟩) (acc.length + 1) d6) HB7.out rfl
        have hkF := ((HKG.out.mono (Y := [bv, g6]) (by simp)).setCell (p := ⟨bv, 4, none⟩) (.inl (by simp)) (.slice (some ⟨g6, 0, none⟩) (acc.length + 1) d6))
        have hrF := row_kept HRO.out (kept_set _ bv 4 (.slice (some ⟨g6, 0, none⟩) (acc.length + 1) d6)) (fun i hi hx => by simp [Value.ownBlock] at hi hx; exact HBG.out (by rw [← hx, ← hi]))
        revert hbF hkF hrF
        generalize World.setCell _ ⟨bv, 4, none⟩ (.slice (some ⟨g6, 0, none⟩) (acc.length + 1) d6) = wF
        intro hbF hkF hrF
        have HCF : MCap W bv b2 b3 b6 bm p d wF := (HJ.out.cap.step HP.out ((HK5.out.mono (Y := p :: bv :: g6 :: (Value.slice ak acc.length ck).ownBlock.toList) (by simp)).trans' ((HK6.out.mono (fun i hi => by simp at hi ⊢; exact .inr (.inr (.inr hi)))).trans' (hkF.mono (fun i hi => by simp at hi ⊢; rcases hi with h | h; exact .inr (.inl h); exact .inr (.inr (.inl h)))))) (fun i hi => by
          have h9 := HG6.out
          have hwz := HWZ.out
          have h5z := HK5.out.size
          rcases List.mem_cons.1 hi with h | hi
          · exact .inl h
          rcases List.mem_cons.1 hi with h | hi
          · exact .inr (.inl h)
          rcases List.mem_cons.1 hi with h | hi
          · subst h
            rcases h9 with h9 | h9
            · exact .inr (.inr (.inr (HLT.out _ h9).1))
            · exact .inr (.inr (.inr (by omega)))
          · exact .inr (.inr (.inr (HLT.out _ (Option.mem_toList.1 hi)).1))))
        have hfar : ∀ b, b < W.heap.size → b ≠ bv → b ∉ [bv, g6] := fun b h1 h2 hx => by
          have := HLTF.out.1
          simp at hx
          rcases hx with hx | hx
          · exact h2 hx
          · omega
        have hown : ∀ b, b < W.heap.size → b ∉ (Value.slice ak acc.length ck).ownBlock.toList := fun b h1 hx => by have := (HLT.out _ (Option.mem_toList.1 hx)).1; omega
        have HPF : Hid (∀ x, PS w5 p S 4097 x → PS wF p S 4097 x) := Lib.hid (fun x h => (h.kept HK6.out (hown _ HP.out.hp)).kept hkF (hfar _ HP.out.hp (by have := HP.out.ltv; omega)))
        have hsaw := ((HJ.out.saw.kept HK5.out (by have := HP.out.ltm; simp; omega)).kept HK6.out (hown _ HP.out.hm)).kept hkF (hfar _ HP.out.hm HP.out.vm.symm)
        go_wp2_with fail
        go_end0
        refine ⟨rfl, pairAns_of HXX.out HSD5.out HPF.out ⟨HCF, _, _, _, hbF⟩ (fun v hv => ?_)⟩
        rw [HKK.out]
        have h9 := HJ.out.snoc (key := key) HP.out HCF hsaw hbF HK5.out HK6.out hkF rfl HG6.out hrF hv HSZ3.out
        rw [List.map_append]
        exact ⟨_, _, h9⟩
      · have c3 := cell_head (o := 4) (v := .slice ak acc.length ck) HB6.out rfl
        have z3 := free_head (o := 4) HB6.out
        go_simp
        refine hK _ _ (.inr (.inl (by kernel_rfl))) ?_
        clear hK K
        try simp only [Act.put, List.setIfInBounds_toArray, List.set_cons_zero, List.set_cons_succ]
        clear c3 z3
        have hb7 := block_setCell (i := 4) (v := .slice (some ⟨g6, 0, none⟩) (acc.length + 1) d6) HB6.out rfl
        have HB7 := Lib.hid hb7
        have HK7 := Lib.hid (kept_set w6 bv 4 (.slice (some ⟨g6, 0, none⟩) (acc.length + 1) d6))
        clear hb7
        revert HB7 HK7
        generalize w6.setCell ⟨bv, 4, none⟩ (.slice (some ⟨g6, 0, none⟩) (acc.length + 1) d6) = w7
        intro HB7 HK7
        have hrow7 := row_kept HR6.out HK7.out (fun i hi hx => by simp [Value.ownBlock] at hi hx; exact HBG.out (by rw [← hx, ← hi]))
        obtain ⟨hro, hth, hkg⟩ := row_stored (i := acc.length) (g := g6) (c := [.string key, .int .i64 k3, .int .i64 m3, .string s3, .slice p3 i3 d3, .slice q3 j3 e3]) hrow7 HLS6.out rfl HLEN.out (Nat.lt_succ_self _) rfl
        rw [HSET.out] at hro
        have HRO := Lib.hid hro
        have HKG := Lib.hid hkg
        clear hro hkg hrow7
        refine wpAnyU_one' (i := 11) hO rfl (by kernel_rfl) (by kernel_rfl) (fun K hK => ?_)
        refine wp_store_mid 60 (.tmp 36) (.tmp 32) rfl g6 (acc.length * 6) #[.string key, .int .i64 k3, .int .i64 m3, .string s3, .slice p3 i3 d3, .slice q3 j3 e3] rfl rfl hth (by kernel_rfl) (by simp [Value.oneCell']) ?_
        refine hK _ _ (.inr (.inl (by kernel_rfl))) ?_
        clear hK K
        try simp only [Act.put, List.setIfInBounds_toArray, List.set_cons_zero, List.set_cons_succ]
        refine wpAnyU_done' hO (by kernel_rfl) ?_ _
        subst hR
        try clear hQp hO O
        clear hth
        have hbF := HKG.out.heap HB7.out (by simpa using HBG.out)
        have hkF := ((HK7.out.mono (Y := [bv, g6]) (by simp)).trans' (HKG.out.mono (Y := [bv, g6]) (by simp)))
        have hrF := HRO.out
        revert hbF hkF hrF
        generalize World.setCells _ g6 (acc.length * 6) (#[.string key, .int .i64 k3, .int .i64 m3, .string s3, .slice p3 i3 d3, .slice q3 j3 e3] : Array Value).toList = wF
        intro hbF hkF hrF
        have HCF : MCap W bv b2 b3 b6 bm p d wF := (HJ.out.cap.step HP.out ((HK5.out.mono (Y := p :: bv :: g6 :: (Value.slice ak acc.length ck).ownBlock.toList) (by simp)).trans' ((HK6.out.mono (fun i hi => by simp at hi ⊢; exact .inr (.inr (.inr hi)))).trans' (hkF.mono (fun i hi => by simp at hi ⊢; rcases hi with h | h; exact .inr (.inl h); exact .inr (.inr (.inl h)))))) (fun i hi => by
          have h9 := HG6.out
          have hwz := HWZ.out
          have h5z := HK5.out.size
          rcases List.mem_cons.1 hi with h | hi
          · exact .inl h
          rcases List.mem_cons.1 hi with h | hi
          · exact .inr (.inl h)
          rcases List.mem_cons.1 hi with h | hi
          · subst h
            rcases h9 with h9 | h9
            · exact .inr (.inr (.inr (HLT.out _ h9).1))
            · exact .inr (.inr (.inr (by omega)))
          · exact .inr (.inr (.inr (HLT.out _ (Option.mem_toList.1 hi)).1))))
        have hfar : ∀ b, b < W.heap.size → b ≠ bv → b ∉ [bv, g6] := fun b h1 h2 hx => by
          have := HLTF.out.1
          simp at hx
          rcases hx with hx | hx
          · exact h2 hx
          · omega
        have hown : ∀ b, b < W.heap.size → b ∉ (Value.slice ak acc.length ck).ownBlock.toList := fun b h1 hx => by have := (HLT.out _ (Option.mem_toList.1 hx)).1; omega
        have HPF : Hid (∀ x, PS w5 p S 4097 x → PS wF p S 4097 x) := Lib.hid (fun x h => (h.kept HK6.out (hown _ HP.out.hp)).kept hkF (hfar _ HP.out.hp (by have := HP.out.ltv; omega)))
        have hsaw := ((HJ.out.saw.kept HK5.out (by have := HP.out.ltm; simp; omega)).kept HK6.out (hown _ HP.out.hm)).kept hkF (hfar _ HP.out.hm HP.out.vm.symm)
        go_wp2_with fail
        go_end0
        refine ⟨rfl, pairAns_of HXX.out HSD5.out HPF.out ⟨HCF, _, _, _, hbF⟩ (fun v hv => ?_)⟩
        rw [HKK.out]
        have h9 := HJ.out.snoc (key := key) HP.out HCF hsaw hbF HK5.out HK6.out hkF rfl HG6.out hrF hv HSZ3.out
        rw [List.map_append]
        exact ⟨_, _, h9⟩
    · go_simp
      have HKB : Hid (Kept [] WD (WD.alloc (.cells #[.string ⟨#[]⟩, .int .i64 0, .int .i64 0, .string ⟨#[]⟩, .slice none 0 0, .slice none 0 0] 60))) := Lib.hid ((Kept.refl [] WD).alloc _)
      have HSRC := Lib.hid (slc_new WD [.string ⟨#[]⟩, .int .i64 0, .int .i64 0, .string ⟨#[]⟩, .slice none 0 0, .slice none 0 0] 6 1 60 WD.heap.size rfl rfl (by decide))
      have hS4 : (fun w' : World => w'.cell? ⟨bv, 4, none⟩ = some (.slice ak acc.length ck) ∧ w'.cell? ⟨b2, 0, none⟩ = some (.pointer (some ⟨p, 0, none⟩)) ∧ w'.cell? ⟨b3, 0, none⟩ = some (.int .i64 d)) (WD.alloc (.cells #[.string ⟨#[]⟩, .int .i64 0, .int .i64 0, .string ⟨#[]⟩, .slice none 0 0, .slice none 0 0] 60)) := ⟨HKB.out.cell hSS.1 (by simp), HKB.out.cell hSS.2.1 (by simp), HKB.out.cell hSS.2.2 (by simp)⟩
      refine hK _ _ (.inr (.inr hS4)) ?_
      clear hK K
      try simp only [Act.put, List.setIfInBounds_toArray, List.set_cons_zero, List.set_cons_succ]
      clear hSS
      have hSS := hS4
      clear hS4
      revert hSS HKB HSRC
      generalize WD.alloc (.cells #[.string ⟨#[]⟩, .int .i64 0, .int .i64 0, .string ⟨#[]⟩, .slice none 0 0, .slice none 0 0] 60) = w4
      intro HKB HSRC hSS
      have HKE := Lib.hid (HKD0.out.then HKB.out)
      refine wpAnyU_one' (i := 5) hO rfl (by kernel_rfl) (by kernel_rfl) (fun K hK => ?_)
      go_simp
      refine Calls.mono (CV.out _ HKE.out) ?_
      rintro e w5 hans
      obtain ⟨cs3, rfl, hsh, hk3, hsd⟩ := hans.saidX
      obtain ⟨k3, m3, s3, p3, i3, d3, q3, j3, e3, rfl⟩ := hsh
      have HKC := Lib.hid hk3
      have HK3 := Lib.hid ((HKE.out.mono (Y := [p]) (by simp)).trans' hk3)
      have HSD := Lib.hid hsd
      have HSZ3 : Hid (w0.heap.size ≤ w4.heap.size) := Lib.hid HKE.out.size
      have hS3 : (fun w' : World => w'.cell? ⟨bv, 4, none⟩ = some (.slice ak acc.length ck) ∧ w'.cell? ⟨b2, 0, none⟩ = some (.pointer (some ⟨p, 0, none⟩)) ∧ w'.cell? ⟨b3, 0, none⟩ = some (.int .i64 d)) w5 := ⟨hk3.cell hSS.1 (by have := HP.out.ltv; simp; omega), hk3.cell hSS.2.1 (by simpa using HP.out.p2), hk3.cell hSS.2.2 (by simpa using HP.out.p3)⟩
      clear hans hk3 hsd
      refine hK _ _ (.inr (.inr hS3)) ?_
      clear hK K
      try simp only [Act.put, List.setIfInBounds_toArray, List.set_cons_zero, List.set_cons_succ]
      clear hSS
      have hSS := hS3
      clear hS3
      refine wpAnyU_take' (i := 6) (v := ?_) hO rfl rfl (by kernel_rfl) (by kernel_rfl) (by kernel_rfl) (by kernel_rfl) (by decide) (by kernel_rfl) hQp (Or.inl ⟨by kernel_rfl, fun w hSw => ?_⟩) hSS ?_
      rotate_left
      · go_simp; try with_reducible rfl
      try simp only [Act.put, List.setIfInBounds_toArray, List.set_cons_zero, List.set_cons_succ]
      have HK5 := Lib.hid HK3.out
      have HSD5 := Lib.hid HSD.out
      have HSRC4 := Lib.hid HSRC.out
      clear HSRC
      have HSRC := Lib.hid (HSRC4.out.kept HKC.out (fun i hi hx => by simp [vblk] at hi hx; have := HKD0.out.size; have := HWZ.out; have := HP.out.hp; omega))
      clear HSD
      have hrow5 := row_kept HJ.out.row HK5.out (fun i hi hx => by simp at hx; have := (HLT.out i hi).1; have := HP.out.hp; omega)
      refine wpAnyU_one' (i := 9) hO rfl (by kernel_rfl) (by kernel_rfl) (fun K hK => ?_)
      refine oper_append tyPairs hrow5 HSRC.out (by intro u hu; simp only [List.mem_cons, List.not_mem_nil, or_false] at hu; rcases hu with rfl | rfl | rfl | rfl | rfl | rfl <;> rfl) (by have := HN.out; simp only [maxLen]; omega) (by have := HN.out; omega) (by have := HK5.out.size; have := HWZ.out; omega) (.tmp 27) (.tmp 34) rfl rfl rfl ?_
      intro bb6 d6 w6 hown6 hk6 hg6
      obtain ⟨g6, rfl⟩ : ∃ g6, bb6 = some ⟨g6, 0, none⟩ := by
        rcases hown6.2 with ⟨h, h1⟩ | ⟨g, cap, cur, hv, _⟩
        · omega
        · simp only [Value.slice.injEq] at hv; exact ⟨g, hv.1⟩
      have HROW6 := Lib.hid hown6
      have HK6 := Lib.hid hk6
      have HG6 : Hid ((Value.slice ak acc.length ck).ownBlock = some g6 ∨ g6 = w5.heap.size) := Lib.hid (by
        rcases hg6 with h | h
        · exact .inl (by rw [← h]; rfl)
        · exact .inr (by simpa [Value.ownBlock] using h))
      have HLTF : Hid (W.heap.size ≤ g6 ∧ g6 < w6.heap.size) := Lib.hid (hown6.lt g6 rfl)
      have HB6 : Hid (w6.heap[bv]? = some (.cells (valA 6 0 ⟨#[]⟩ (.slice none 0 0) (.slice ak acc.length ck)) 25 (0, 0))) := Lib.hid (hk6.heap (HK5.out.heap HJ.out.blk (by have := HP.out.ltv; simp; omega)) (fun hx => by have := (HLT.out _ (Option.mem_toList.1 hx)).1; have := HP.out.hv; omega))
      have HBG : Hid (bv ≠ g6) := Lib.hid (by have := HLTF.out.1; have := HP.out.hv; omega)
      clear hrow5 hown6 hk6 hg6 hSS
      refine hK _ _ (.inl rfl) ?_
      clear hK K
      try simp only [Act.put, List.setIfInBounds_toArray, List.set_cons_zero, List.set_cons_succ]
      have hnI : (acc.length : Int) < (acc.length : Int) + 1 := by omega
      refine wpAnyU_pure (i := 10) (v := ?_) hO rfl rfl (by kernel_rfl) (by kernel_rfl) (by kernel_rfl) (by kernel_rfl) hQp (Or.inl ⟨by kernel_rfl, fun w _ => ?_⟩) ?_
      rotate_left
      · go_simp; try with_reducible rfl
      try simp only [Act.put, List.setIfInBounds_toArray, List.set_cons_zero, List.set_cons_succ]
      refine wpAnyU_pure (i := 12) (v := ?_) hO rfl rfl (by kernel_rfl) (by kernel_rfl) (by kernel_rfl) (by kernel_rfl) hQp (Or.inl ⟨by kernel_rfl, fun w _ => ?_⟩) ?_
      rotate_left
      · go_simp; try with_reducible rfl
      try simp only [Act.put, List.setIfInBounds_toArray, List.set_cons_zero, List.set_cons_succ]
      have hls6 : ∀ x, x ∈ (mcs.map pairC) ++ [zero6] → x.length = 6 := fun x hx => by
        rcases List.mem_append.1 hx with hx | hx
        · exact HL6.out x hx
        · simp at hx; subst hx; rfl
      have hrow6 : w6.ownsRow W.heap.size 60 6 (.slice (some ⟨g6, 0, none⟩) (acc.length + 1) d6) (acc.length + 1) ((mcs.map pairC) ++ [zero6]).flatten := by
        have h9 := HROW6.out
        rw [pairCs_flat] at h9
        rw [List.flatten_append]
        simp only [List.flatten_cons, List.flatten_nil, List.append_nil]
        exact h9
      have HR6 := Lib.hid hrow6
      have HSET : Hid ((((mcs.map pairC) ++ [zero6]).set acc.length [.string key, .int .i64 k3, .int .i64 m3, .string s3, .slice p3 i3 d3, .slice q3 j3 e3]).flatten = pairCs (mcs ++ [(key, [.int .i64 k3, .int .i64 m3, .string s3, .slice p3 i3 d3, .slice q3 j3 e3])])) := Lib.hid (by
        rw [List.set_append_right _ _ (by have := HLC.out; rw [List.length_map]; omega), List.length_map, HLC.out, Nat.sub_self, pairCs_flat, List.map_append]
        rfl)
      have HLS6 := Lib.hid hls6
      have HLEN : Hid (((mcs.map pairC) ++ [zero6]).length = acc.length + 1) := Lib.hid (by rw [List.length_append, List.length_map, HLC.out]; rfl)
      clear hls6 hrow6
      refine wpAnyU_two' (i := 11) (j := 13) hO rfl rfl (by kernel_rfl) (by kernel_rfl) (by kernel_rfl) (fun K hK => ?_) (fun K hK => ?_)
      · obtain ⟨hro, hth, hkg⟩ := row_stored (i := acc.length) (g := g6) (c := [.string key, .int .i64 k3, .int .i64 m3, .string s3, .slice p3 i3 d3, .slice q3 j3 e3]) HR6.out HLS6.out rfl HLEN.out (Nat.lt_succ_self _) rfl
        rw [HSET.out] at hro
        have HRO := Lib.hid hro
        have HKG := Lib.hid hkg
        clear hro hkg
        refine wp_store_mid 60 (.tmp 36) (.tmp 32) rfl g6 (acc.length * 6) #[.string key, .int .i64 k3, .int .i64 m3, .string s3, .slice p3 i3 d3, .slice q3 j3 e3] rfl rfl hth (by kernel_rfl) (by simp [Value.oneCell']) ?_
        refine hK _ _ (.inr (.inl (by kernel_rfl))) ?_
        clear hK K
        try simp only [Act.put, List.setIfInBounds_toArray, List.set_cons_zero, List.set_cons_succ]
        have hb7 := HKG.out.heap HB6.out (by simpa using HBG.out)
        have HB7 := Lib.hid hb7
        have c3 := cell_head (o := 4) (v := .slice ak acc.length ck) hb7 rfl
        have z3 := free_head (o := 4) hb7
        clear hb7
        refine wpAnyU_one' (i := 13) hO rfl (by kernel_rfl) (by kernel_rfl) (fun K hK => ?_)
        go_simp
        refine hK _ _ (.inr (.inl (by kernel_rfl))) ?_
        clear hK K
        try simp only [Act.put, List.setIfInBounds_toArray, List.set_cons_zero, List.set_cons_succ]
        refine wpAnyU_done' hO (by kernel_rfl) ?_ _
        subst hR
        try clear hQp hO O
        clear c3 z3 hth
        have hbF := block_setCell (i := 4) (v := .slice (some ⟨g6, 0, none⟩) (acc.length + 1) d6) HB7.out rfl
        have hkF := ((HKG.out.mono (Y := [bv, g6]) (by simp)).setCell (p := ⟨bv, 4, none⟩) (.inl (by simp)) (.slice (some ⟨g6, 0, none⟩) (acc.length + 1) d6))
        have hrF := row_kept HRO.out (kept_set _ bv 4 (.slice (some ⟨g6, 0, none⟩) (acc.length + 1) d6)) (fun i hi hx => by simp [Value.ownBlock] at hi hx; exact HBG.out (by rw [← hx, ← hi]))
        revert hbF hkF hrF
        generalize World.setCell _ ⟨bv, 4, none⟩ (.slice (some ⟨g6, 0, none⟩) (acc.length + 1) d6) = wF
        intro hbF hkF hrF
        have HCF : MCap W bv b2 b3 b6 bm p d wF := (HJ.out.cap.step HP.out ((HK5.out.mono (Y := p :: bv :: g6 :: (Value.slice ak acc.length ck).ownBlock.toList) (by simp)).trans' ((HK6.out.mono (fun i hi => by simp at hi ⊢; exact .inr (.inr (.inr hi)))).trans' (hkF.mono (fun i hi => by simp at hi ⊢; rcases hi with h | h; exact .inr (.inl h); exact .inr (.inr (.inl h)))))) (fun i hi => by
          have h9 := HG6.out
          have hwz := HWZ.out
          have h5z := HK5.out.size
          rcases List.mem_cons.1 hi with h | hi
          · exact .inl h
          rcases List.mem_cons.1 hi with h | hi
          · exact .inr (.inl h)
          rcases List.mem_cons.1 hi with h | hi
          · subst h
            rcases h9 with h9 | h9
            · exact .inr (.inr (.inr (HLT.out _ h9).1))
            · exact .inr (.inr (.inr (by omega)))
          · exact .inr (.inr (.inr (HLT.out _ (Option.mem_toList.1 hi)).1))))
        have hfar : ∀ b, b < W.heap.size → b ≠ bv → b ∉ [bv, g6] := fun b h1 h2 hx => by
          have := HLTF.out.1
          simp at hx
          rcases hx with hx | hx
          · exact h2 hx
          · omega
        have hown : ∀ b, b < W.heap.size → b ∉ (Value.slice ak acc.length ck).ownBlock.toList := fun b h1 hx => by have := (HLT.out _ (Option.mem_toList.1 hx)).1; omega
        have HPF : Hid (∀ x, PS w5 p S 4097 x → PS wF p S 4097 x) := Lib.hid (fun x h => (h.kept HK6.out (hown _ HP.out.hp)).kept hkF (hfar _ HP.out.hp (by have := HP.out.ltv; omega)))
        have hsaw := ((HJ.out.saw.kept HK5.out (by have := HP.out.ltm; simp; omega)).kept HK6.out (hown _ HP.out.hm)).kept hkF (hfar _ HP.out.hm HP.out.vm.symm)
        go_wp2_with fail
        go_end0
        refine ⟨rfl, pairAns_of HXX.out HSD5.out HPF.out ⟨HCF, _, _, _, hbF⟩ (fun v hv => ?_)⟩
        rw [HKK.out]
        have h9 := HJ.out.snoc (key := key) HP.out HCF hsaw hbF HK5.out HK6.out hkF rfl HG6.out hrF hv HSZ3.out
        rw [List.map_append]
        exact ⟨_, _, h9⟩
      · have c3 := cell_head (o := 4) (v := .slice ak acc.length ck) HB6.out rfl
        have z3 := free_head (o := 4) HB6.out
        go_simp
        refine hK _ _ (.inr (.inl (by kernel_rfl))) ?_
        clear hK K
        try simp only [Act.put, List.setIfInBounds_toArray, List.set_cons_zero, List.set_cons_succ]
        clear c3 z3
        have hb7 := block_setCell (i := 4) (v := .slice (some ⟨g6, 0, none⟩) (acc.length + 1) d6) HB6.out rfl
        have HB7 := Lib.hid hb7
        have HK7 := Lib.hid (kept_set w6 bv 4 (.slice (some ⟨g6, 0, none⟩) (acc.length + 1) d6))
        clear hb7
        revert HB7 HK7
        generalize w6.setCell ⟨bv, 4, none⟩ (.slice (some ⟨g6, 0, none⟩) (acc.length + 1) d6) = w7
        intro HB7 HK7
        have hrow7 := row_kept HR6.out HK7.out (fun i hi hx => by simp [Value.ownBlock] at hi hx; exact HBG.out (by rw [← hx, ← hi]))
        obtain ⟨hro, hth, hkg⟩ := row_stored (i := acc.length) (g := g6) (c := [.string key, .int .i64 k3, .int .i64 m3, .string s3, .slice p3 i3 d3, .slice q3 j3 e3]) hrow7 HLS6.out rfl HLEN.out (Nat.lt_succ_self _) rfl
        rw [HSET.out] at hro
        have HRO := Lib.hid hro
        have HKG := Lib.hid hkg
        clear hro hkg hrow7
        refine wpAnyU_one' (i := 11) hO rfl (by kernel_rfl) (by kernel_rfl) (fun K hK => ?_)
        refine wp_store_mid 60 (.tmp 36) (.tmp 32) rfl g6 (acc.length * 6) #[.string key, .int .i64 k3, .int .i64 m3, .string s3, .slice p3 i3 d3, .slice q3 j3 e3] rfl rfl hth (by kernel_rfl) (by simp [Value.oneCell']) ?_
        refine hK _ _ (.inr (.inl (by kernel_rfl))) ?_
        clear hK K
        try simp only [Act.put, List.setIfInBounds_toArray, List.set_cons_zero, List.set_cons_succ]
        refine wpAnyU_done' hO (by kernel_rfl) ?_ _
        subst hR
        try clear hQp hO O
        clear hth
        have hbF := HKG.out.heap HB7.out (by simpa using HBG.out)
        have hkF := ((HK7.out.mono (Y := [bv, g6]) (by simp)).trans' (HKG.out.mono (Y := [bv, g6]) (by simp)))
        have hrF := HRO.out
        revert hbF hkF hrF
        generalize World.setCells _ g6 (acc.length * 6) (#[.string key, .int .i64 k3, .int .i64 m3, .string s3, .slice p3 i3 d3, .slice q3 j3 e3] : Array Value).toList = wF
        intro hbF hkF hrF
        have HCF : MCap W bv b2 b3 b6 bm p d wF := (HJ.out.cap.step HP.out ((HK5.out.mono (Y := p :: bv :: g6 :: (Value.slice ak acc.length ck).ownBlock.toList) (by simp)).trans' ((HK6.out.mono (fun i hi => by simp at hi ⊢; exact .inr (.inr (.inr hi)))).trans' (hkF.mono (fun i hi => by simp at hi ⊢; rcases hi with h | h; exact .inr (.inl h); exact .inr (.inr (.inl h)))))) (fun i hi => by
          have h9 := HG6.out
          have hwz := HWZ.out
          have h5z := HK5.out.size
          rcases List.mem_cons.1 hi with h | hi
          · exact .inl h
          rcases List.mem_cons.1 hi with h | hi
          · exact .inr (.inl h)
          rcases List.mem_cons.1 hi with h | hi
          · subst h
            rcases h9 with h9 | h9
            · exact .inr (.inr (.inr (HLT.out _ h9).1))
            · exact .inr (.inr (.inr (by omega)))
          · exact .inr (.inr (.inr (HLT.out _ (Option.mem_toList.1 hi)).1))))
        have hfar : ∀ b, b < W.heap.size → b ≠ bv → b ∉ [bv, g6] := fun b h1 h2 hx => by
          have := HLTF.out.1
          simp at hx
          rcases hx with hx | hx
          · exact h2 hx
          · omega
        have hown : ∀ b, b < W.heap.size → b ∉ (Value.slice ak acc.length ck).ownBlock.toList := fun b h1 hx => by have := (HLT.out _ (Option.mem_toList.1 hx)).1; omega
        have HPF : Hid (∀ x, PS w5 p S 4097 x → PS wF p S 4097 x) := Lib.hid (fun x h => (h.kept HK6.out (hown _ HP.out.hp)).kept hkF (hfar _ HP.out.hp (by have := HP.out.ltv; omega)))
        have hsaw := ((HJ.out.saw.kept HK5.out (by have := HP.out.ltm; simp; omega)).kept HK6.out (hown _ HP.out.hm)).kept hkF (hfar _ HP.out.hm HP.out.vm.symm)
        go_wp2_with fail
        go_end0
        refine ⟨rfl, pairAns_of HXX.out HSD5.out HPF.out ⟨HCF, _, _, _, hbF⟩ (fun v hv => ?_)⟩
        rw [HKK.out]
        have h9 := HJ.out.snoc (key := key) HP.out HCF hsaw hbF HK5.out HK6.out hkF rfl HG6.out hrF hv HSZ3.out
        rw [List.map_append]
        exact ⟨_, _, h9⟩
  · rw [hb] at hlook HXD
    have HXE : Hid (pairX (acc.map (fun q => q.1)) (.inr (s, c)) = needX [58] (skipX (failX 53 (litX X1)))) := Lib.hid HXD.out
    clear hb
    go_wp2_with fail
    refine (pfail_any HP2.out i1 53 HI1.out (by decide) (by decide)).mono ?_
    rintro e w3 ⟨rfl, hp3, hk3⟩
    have HJ3 := Lib.hid (HJ2.out.step HP.out hk3)
    have HP3 := Lib.hid hp3
    clear hlook g2 g6
    have g6 := cell_head (o := 0) (v := .map (some bm)) HJ3.out.cap.box rfl
    clear hp3 hk3
    obtain ⟨w4, hput, hs4, hk4⟩ := HJ3.out.saw.put (pairK (.inr (s, c))) (by have := HLZ.out; omega) (by have := HSL.out; omega)
    have HJ4 := Lib.hid (HJ3.out.put HP.out hk4 hs4)
    have HP4 := Lib.hid (HP3.out.kept hk4 (by have := HP.out.ltm; simp; omega))
    have m2 := cell_head (o := 0) (v := .pointer (some ⟨p, 0, none⟩)) HJ4.out.cap.ptr rfl
    clear hs4 hk4
    have CS4 := Lib.hid (pskip_any HP4.out hS)
    go_wp2_with fail
    refine CS4.out.mono ?_
    rintro e w5 ⟨rfl, hp5, hk5⟩
    have HJ5 := Lib.hid (HJ4.out.step HP.out hk5)
    have HP5 := Lib.hid hp5
    have n2 := cell_head (o := 0) (v := .pointer (some ⟨p, 0, none⟩)) HJ5.out.cap.ptr rfl
    clear hp5 hk5 m2 hput
    have CN5 := Lib.hid (pneed_any HP5.out hS ⟨#[58]⟩)
    rw [show (⟨#[58]⟩ : ByteArray).data.toList = [58] from rfl, ← HXE.out] at CN5
    go_wp2_with fail
    refine CN5.out.mono ?_
    rintro e w0 ⟨rfl, hp6, hk6⟩
    have hj0 := HJ5.out.step HP.out hk6
    have HS0 := Lib.hid hp6
    clear HJ3 HP3
    clear hp6 hk6 n2 CN5 CS4 CL CS1 HP1 HP2 HP4 HP5 HJ1 HJ2 HJ4 HJ5
    clear HJ
    have HJ := Lib.hid hj0
    have HLT : Hid (∀ g, (Value.slice ak acc.length ck).ownBlock = some g → W.heap.size ≤ g ∧ g < w0.heap.size) := Lib.hid (fun g hg => hj0.row.lt g hg)
    have HWZ : Hid (W.heap.size ≤ w0.heap.size) := Lib.hid hj0.cap.kept.size
    have HLC : Hid (mcs.length = acc.length) := Lib.hid hj0.all.1
    have HL6 : Hid (∀ x, x ∈ mcs.map pairC → x.length = 6) := Lib.hid (fun x hx => by
      obtain ⟨q, hq, rfl⟩ := List.mem_map.1 hx
      obtain ⟨j, hj', rfl⟩ := List.getElem_of_mem hq
      have h9 := (hj0.all.2 j _ _ (List.getElem?_eq_getElem hj') (List.getElem?_eq_getElem (by rw [← hj0.all.1]; exact hj'))).2.len
      simp [pairC, h9])
    have CV : Hid (∀ w', Kept [] w0 w' → Calls Tryz.prog 49 #[.pointer (some ⟨p, 0, none⟩), .int .i64 d] w' fun e w2 => ValAns d (pairX (acc.map (fun q => q.1)) (.inr (s, c))) p S w' e w2) := Lib.hid (fun w' k => HIH.out (HS0.out.kept0 k) HXC.out hS ((hj0.cap.tabs HP.out HT.out).step (k.mono (by simp))))
    have f3 := cell_head (o := 4) (v := .slice ak acc.length ck) hj0.blk rfl
    have f2 := cell_head (o := 0) (v := .pointer (some ⟨p, 0, none⟩)) hj0.cap.ptr rfl
    have f1 := cell_head (o := 0) (v := .int .i64 d) hj0.cap.dep rfl
    clear hj0 HXD HXE HS0 HXC
    have HXP : Hid (pairX (acc.map (fun q => q.1)) (.inr (s, c)) = pairX (acc.map (fun q => q.1)) (.inr (s, c))) := Lib.hid rfl
    revert CV HXP
    generalize hXX : pairX (acc.map (fun q => q.1)) (.inr (s, c)) = X
    have HXX := Lib.hid hXX
    clear hXX
    intro CV HXP
    clear HXP
    generalize hkk : pairK (.inr (s, c)) = key at *
    have HKK := Lib.hid hkk
    clear hkk
    go_wp2_with fail
    refine wp_regionU' (n := 14) (fun w' : World => w'.cell? ⟨bv, 4, none⟩ = some (.slice ak acc.length ck) ∧ w'.cell? ⟨b2, 0, none⟩ = some (.pointer (some ⟨p, 0, none⟩)) ∧ w'.cell? ⟨b3, 0, none⟩ = some (.int .i64 d)) 9 (by kernel_rfl) (by kernel_rfl) ?_
    change wpAnyU _ _ _ _ _ _ _ _ _ w0.drew
    have hSS : (fun w' : World => w'.cell? ⟨bv, 4, none⟩ = some (.slice ak acc.length ck) ∧ w'.cell? ⟨b2, 0, none⟩ = some (.pointer (some ⟨p, 0, none⟩)) ∧ w'.cell? ⟨b3, 0, none⟩ = some (.int .i64 d)) w0.drew := ⟨f3, f2, f1⟩
    have HKD0 : Hid (Kept [] w0 w0.drew) := Lib.hid (Kept.refl _ _).drew
    clear f1 f2 f3
    revert hSS HKD0
    generalize w0.drew = WD
    intro hSS HKD0
    refine wpAnyU_start ?_
    intro O R hO hR
    have hQp : ∀ c a (d : Nat) v w, R (.panic c) (a.put (some d) v) w → R (.panic c) a w := by subst hR; exact fun _ _ _ _ _ h => h
    refine wpAnyU_take' (i := 0) (v := ?_) hO rfl rfl (by kernel_rfl) (by kernel_rfl) (by kernel_rfl) (by kernel_rfl) (by decide) (by kernel_rfl) hQp (Or.inl ⟨by kernel_rfl, fun w hSw => ?_⟩) hSS ?_
    rotate_left
    · go_simp; try with_reducible rfl
    try simp only [Act.put, List.setIfInBounds_toArray, List.set_cons_zero, List.set_cons_succ]
    refine wpAnyU_take' (i := 1) (v := ?_) hO rfl rfl (by kernel_rfl) (by kernel_rfl) (by kernel_rfl) (by kernel_rfl) (by decide) (by kernel_rfl) hQp (Or.inl ⟨by kernel_rfl, fun w hSw => ?_⟩) hSS ?_
    rotate_left
    · obtain ⟨s0, s1, s2⟩ := hSw; go_simp; try with_reducible rfl
    try simp only [Act.put, List.setIfInBounds_toArray, List.set_cons_zero, List.set_cons_succ]
    refine wpAnyU_take' (i := 3) (v := ?_) hO rfl rfl (by kernel_rfl) (by kernel_rfl) (by kernel_rfl) (by kernel_rfl) (by decide) (by kernel_rfl) hQp (Or.inl ⟨by kernel_rfl, fun w hSw => ?_⟩) hSS ?_
    rotate_left
    · obtain ⟨s0, s1, s2⟩ := hSw; go_simp; try with_reducible rfl
    try simp only [Act.put, List.setIfInBounds_toArray, List.set_cons_zero, List.set_cons_succ]
    refine wpAnyU_take' (i := 4) (v := ?_) hO rfl rfl (by kernel_rfl) (by kernel_rfl) (by kernel_rfl) (by kernel_rfl) (by decide) (by kernel_rfl) hQp (Or.inl ⟨by kernel_rfl, fun w hSw => ?_⟩) hSS ?_
    rotate_left
    · obtain ⟨s0, s1, s2⟩ := hSw; go_simp; try with_reducible rfl
    try simp only [Act.put, List.setIfInBounds_toArray, List.set_cons_zero, List.set_cons_succ]
    refine wpAnyU_take' (i := 2) (v := ?_) hO rfl rfl (by kernel_rfl) (by kernel_rfl) (by kernel_rfl) (by kernel_rfl) (by decide) (by kernel_rfl) hQp (Or.inl ⟨by kernel_rfl, fun w hSw => ?_⟩) hSS ?_
    rotate_left
    · go_simp; try with_reducible rfl
    try simp only [Act.put, List.setIfInBounds_toArray, List.set_cons_zero, List.set_cons_succ]
    refine wpAnyU_take' (i := 7) (v := ?_) hO rfl rfl (by kernel_rfl) (by kernel_rfl) (by kernel_rfl) (by kernel_rfl) (by decide) (by kernel_rfl) hQp (Or.inl ⟨by kernel_rfl, fun w hSw => ?_⟩) hSS ?_
    rotate_left
    · go_simp; try with_reducible rfl
    try simp only [Act.put, List.setIfInBounds_toArray, List.set_cons_zero, List.set_cons_succ]
    refine wpAnyU_two' (i := 5) (j := 8) hO rfl rfl (by kernel_rfl) (by kernel_rfl) (by kernel_rfl) (fun K hK => ?_) (fun K hK => ?_)
    · go_simp
      refine Calls.mono (CV.out _ HKD0.out) ?_
      rintro e w3 hans
      obtain ⟨cs3, rfl, hsh, hk3, hsd⟩ := hans.saidX
      obtain ⟨k3, m3, s3, p3, i3, d3, q3, j3, e3, rfl⟩ := hsh
      have HKC := Lib.hid hk3
      have HK3 := Lib.hid ((HKD0.out.mono (Y := [p]) (by simp)).trans' hk3)
      have HSD := Lib.hid hsd
      have HSZ3 : Hid (w0.heap.size ≤ WD.heap.size) := Lib.hid HKD0.out.size
      have hS3 : (fun w' : World => w'.cell? ⟨bv, 4, none⟩ = some (.slice ak acc.length ck) ∧ w'.cell? ⟨b2, 0, none⟩ = some (.pointer (some ⟨p, 0, none⟩)) ∧ w'.cell? ⟨b3, 0, none⟩ = some (.int .i64 d)) w3 := ⟨hk3.cell hSS.1 (by have := HP.out.ltv; simp; omega), hk3.cell hSS.2.1 (by simpa using HP.out.p2), hk3.cell hSS.2.2 (by simpa using HP.out.p3)⟩
      clear hans hk3 hsd
      refine hK _ _ (.inr (.inr hS3)) ?_
      clear hK K
      try simp only [Act.put, List.setIfInBounds_toArray, List.set_cons_zero, List.set_cons_succ]
      clear hSS
      have hSS := hS3
      clear hS3
      refine wpAnyU_take' (i := 6) (v := ?_) hO rfl rfl (by kernel_rfl) (by kernel_rfl) (by kernel_rfl) (by kernel_rfl) (by decide) (by kernel_rfl) hQp (Or.inl ⟨by kernel_rfl, fun w hSw => ?_⟩) hSS ?_
      rotate_left
      · go_simp; try with_reducible rfl
      try simp only [Act.put, List.setIfInBounds_toArray, List.set_cons_zero, List.set_cons_succ]
      refine wpAnyU_one' (i := 8) hO rfl (by kernel_rfl) (by kernel_rfl) (fun K hK => ?_)
      go_simp
      have HKB : Hid (Kept [] w3 (w3.alloc (.cells #[.string ⟨#[]⟩, .int .i64 0, .int .i64 0, .string ⟨#[]⟩, .slice none 0 0, .slice none 0 0] 60))) := Lib.hid ((Kept.refl [] w3).alloc _)
      have HSRC := Lib.hid (slc_new w3 [.string ⟨#[]⟩, .int .i64 0, .int .i64 0, .string ⟨#[]⟩, .slice none 0 0, .slice none 0 0] 6 1 60 w3.heap.size rfl rfl (by decide))
      have hS4 : (fun w' : World => w'.cell? ⟨bv, 4, none⟩ = some (.slice ak acc.length ck) ∧ w'.cell? ⟨b2, 0, none⟩ = some (.pointer (some ⟨p, 0, none⟩)) ∧ w'.cell? ⟨b3, 0, none⟩ = some (.int .i64 d)) (w3.alloc (.cells #[.string ⟨#[]⟩, .int .i64 0, .int .i64 0, .string ⟨#[]⟩, .slice none 0 0, .slice none 0 0] 60)) := ⟨HKB.out.cell hSS.1 (by simp), HKB.out.cell hSS.2.1 (by simp), HKB.out.cell hSS.2.2 (by simp)⟩
      refine hK _ _ (.inr (.inr hS4)) ?_
      clear hK K
      try simp only [Act.put, List.setIfInBounds_toArray, List.set_cons_zero, List.set_cons_succ]
      clear hSS
      have hSS := hS4
      clear hS4
      revert hSS HKB HSRC
      generalize w3.alloc (.cells #[.string ⟨#[]⟩, .int .i64 0, .int .i64 0, .string ⟨#[]⟩, .slice none 0 0, .slice none 0 0] 60) = w5
      intro HKB HSRC hSS
      have HK5 := Lib.hid (HK3.out.then HKB.out)
      have HSD5 := Lib.hid (HSD.out.kept0 HKB.out)
      clear HSD
      have hrow5 := row_kept HJ.out.row HK5.out (fun i hi hx => by simp at hx; have := (HLT.out i hi).1; have := HP.out.hp; omega)
      refine wpAnyU_one' (i := 9) hO rfl (by kernel_rfl) (by kernel_rfl) (fun K hK => ?_)
      refine oper_append tyPairs hrow5 HSRC.out (by intro u hu; simp only [List.mem_cons, List.not_mem_nil, or_false] at hu; rcases hu with rfl | rfl | rfl | rfl | rfl | rfl <;> rfl) (by have := HN.out; simp only [maxLen]; omega) (by have := HN.out; omega) (by have := HK5.out.size; have := HWZ.out; omega) (.tmp 27) (.tmp 34) rfl rfl rfl ?_
      intro bb6 d6 w6 hown6 hk6 hg6
      obtain ⟨g6, rfl⟩ : ∃ g6, bb6 = some ⟨g6, 0, none⟩ := by
        rcases hown6.2 with ⟨h, h1⟩ | ⟨g, cap, cur, hv, _⟩
        · omega
        · simp only [Value.slice.injEq] at hv; exact ⟨g, hv.1⟩
      have HROW6 := Lib.hid hown6
      have HK6 := Lib.hid hk6
      have HG6 : Hid ((Value.slice ak acc.length ck).ownBlock = some g6 ∨ g6 = w5.heap.size) := Lib.hid (by
        rcases hg6 with h | h
        · exact .inl (by rw [← h]; rfl)
        · exact .inr (by simpa [Value.ownBlock] using h))
      have HLTF : Hid (W.heap.size ≤ g6 ∧ g6 < w6.heap.size) := Lib.hid (hown6.lt g6 rfl)
      have HB6 : Hid (w6.heap[bv]? = some (.cells (valA 6 0 ⟨#[]⟩ (.slice none 0 0) (.slice ak acc.length ck)) 25 (0, 0))) := Lib.hid (hk6.heap (HK5.out.heap HJ.out.blk (by have := HP.out.ltv; simp; omega)) (fun hx => by have := (HLT.out _ (Option.mem_toList.1 hx)).1; have := HP.out.hv; omega))
      have HBG : Hid (bv ≠ g6) := Lib.hid (by have := HLTF.out.1; have := HP.out.hv; omega)
      clear hrow5 hown6 hk6 hg6 hSS
      refine hK _ _ (.inl rfl) ?_
      clear hK K
      try simp only [Act.put, List.setIfInBounds_toArray, List.set_cons_zero, List.set_cons_succ]
      have hnI : (acc.length : Int) < (acc.length : Int) + 1 := by omega
      refine wpAnyU_pure (i := 10) (v := ?_) hO rfl rfl (by kernel_rfl) (by kernel_rfl) (by kernel_rfl) (by kernel_rfl) hQp (Or.inl ⟨by kernel_rfl, fun w _ => ?_⟩) ?_
      rotate_left
      · go_simp; try with_reducible rfl
      try simp only [Act.put, List.setIfInBounds_toArray, List.set_cons_zero, List.set_cons_succ]
      refine wpAnyU_pure (i := 12) (v := ?_) hO rfl rfl (by kernel_rfl) (by kernel_rfl) (by kernel_rfl) (by kernel_rfl) hQp (Or.inl ⟨by kernel_rfl, fun w _ => ?_⟩) ?_
      rotate_left
      · go_simp; try with_reducible rfl
      try simp only [Act.put, List.setIfInBounds_toArray, List.set_cons_zero, List.set_cons_succ]
      have hls6 : ∀ x, x ∈ (mcs.map pairC) ++ [zero6] → x.length = 6 := fun x hx => by
        rcases List.mem_append.1 hx with hx | hx
        · exact HL6.out x hx
        · simp at hx; subst hx; rfl
      have hrow6 : w6.ownsRow W.heap.size 60 6 (.slice (some ⟨g6, 0, none⟩) (acc.length + 1) d6) (acc.length + 1) ((mcs.map pairC) ++ [zero6]).flatten := by
        have h9 := HROW6.out
        rw [pairCs_flat] at h9
        rw [List.flatten_append]
        simp only [List.flatten_cons, List.flatten_nil, List.append_nil]
        exact h9
      have HR6 := Lib.hid hrow6
      have HSET : Hid ((((mcs.map pairC) ++ [zero6]).set acc.length [.string key, .int .i64 k3, .int .i64 m3, .string s3, .slice p3 i3 d3, .slice q3 j3 e3]).flatten = pairCs (mcs ++ [(key, [.int .i64 k3, .int .i64 m3, .string s3, .slice p3 i3 d3, .slice q3 j3 e3])])) := Lib.hid (by
        rw [List.set_append_right _ _ (by have := HLC.out; rw [List.length_map]; omega), List.length_map, HLC.out, Nat.sub_self, pairCs_flat, List.map_append]
        rfl)
      have HLS6 := Lib.hid hls6
      have HLEN : Hid (((mcs.map pairC) ++ [zero6]).length = acc.length + 1) := Lib.hid (by rw [List.length_append, List.length_map, HLC.out]; rfl)
      clear hls6 hrow6
      refine wpAnyU_two' (i := 11) (j := 13) hO rfl rfl (by kernel_rfl) (by kernel_rfl) (by kernel_rfl) (fun K hK => ?_) (fun K hK => ?_)
      · obtain ⟨hro, hth, hkg⟩ := row_stored (i := acc.length) (g := g6) (c := [.string key, .int .i64 k3, .int .i64 m3, .string s3, .slice p3 i3 d3, .slice q3 j3 e3]) HR6.out HLS6.out rfl HLEN.out (Nat.lt_succ_self _) rfl
        rw [HSET.out] at hro
        have HRO := Lib.hid hro
        have HKG := Lib.hid hkg
        clear hro hkg
        refine wp_store_mid 60 (.tmp 36) (.tmp 32) rfl g6 (acc.length * 6) #[.string key, .int .i64 k3, .int .i64 m3, .string s3, .slice p3 i3 d3, .slice q3 j3 e3] rfl rfl hth (by kernel_rfl) (by simp [Value.oneCell']) ?_
        refine hK _ _ (.inr (.inl (by kernel_rfl))) ?_
        clear hK K
        try simp only [Act.put, List.setIfInBounds_toArray, List.set_cons_zero, List.set_cons_succ]
        have hb7 := HKG.out.heap HB6.out (by simpa using HBG.out)
        have HB7 := Lib.hid hb7
        have c3 := cell_head (o := 4) (v := .slice ak acc.length ck) hb7 rfl
        have z3 := free_head (o := 4) hb7
        clear hb7
        refine wpAnyU_one' (i := 13) hO rfl (by kernel_rfl) (by kernel_rfl) (fun K hK => ?_)
        go_simp
        refine hK _ _ (.inr (.inl (by kernel_rfl))) ?_
        clear hK K
        try simp only [Act.put, List.setIfInBounds_toArray, List.set_cons_zero, List.set_cons_succ]
        refine wpAnyU_done' hO (by kernel_rfl) ?_ _
        subst hR
        try clear hQp hO O
        clear c3 z3 hth
        have hbF := block_setCell (i := 4) (v := .slice (some ⟨g6, 0, none⟩) (acc.length + 1) d6) HB7.out rfl
        have hkF := ((HKG.out.mono (Y := [bv, g6]) (by simp)).setCell (p := ⟨bv, 4, none⟩) (.inl (by simp)) (.slice (some ⟨g6, 0, none⟩) (acc.length + 1) d6))
        have hrF := row_kept HRO.out (kept_set _ bv 4 (.slice (some ⟨g6, 0, none⟩) (acc.length + 1) d6)) (fun i hi hx => by simp [Value.ownBlock] at hi hx; exact HBG.out (by rw [← hx, ← hi]))
        revert hbF hkF hrF
        generalize World.setCell _ ⟨bv, 4, none⟩ (.slice (some ⟨g6, 0, none⟩) (acc.length + 1) d6) = wF
        intro hbF hkF hrF
        have HCF : MCap W bv b2 b3 b6 bm p d wF := (HJ.out.cap.step HP.out ((HK5.out.mono (Y := p :: bv :: g6 :: (Value.slice ak acc.length ck).ownBlock.toList) (by simp)).trans' ((HK6.out.mono (fun i hi => by simp at hi ⊢; exact .inr (.inr (.inr hi)))).trans' (hkF.mono (fun i hi => by simp at hi ⊢; rcases hi with h | h; exact .inr (.inl h); exact .inr (.inr (.inl h)))))) (fun i hi => by
          have h9 := HG6.out
          have hwz := HWZ.out
          have h5z := HK5.out.size
          rcases List.mem_cons.1 hi with h | hi
          · exact .inl h
          rcases List.mem_cons.1 hi with h | hi
          · exact .inr (.inl h)
          rcases List.mem_cons.1 hi with h | hi
          · subst h
            rcases h9 with h9 | h9
            · exact .inr (.inr (.inr (HLT.out _ h9).1))
            · exact .inr (.inr (.inr (by omega)))
          · exact .inr (.inr (.inr (HLT.out _ (Option.mem_toList.1 hi)).1))))
        have hfar : ∀ b, b < W.heap.size → b ≠ bv → b ∉ [bv, g6] := fun b h1 h2 hx => by
          have := HLTF.out.1
          simp at hx
          rcases hx with hx | hx
          · exact h2 hx
          · omega
        have hown : ∀ b, b < W.heap.size → b ∉ (Value.slice ak acc.length ck).ownBlock.toList := fun b h1 hx => by have := (HLT.out _ (Option.mem_toList.1 hx)).1; omega
        have HPF : Hid (∀ x, PS w5 p S 4097 x → PS wF p S 4097 x) := Lib.hid (fun x h => (h.kept HK6.out (hown _ HP.out.hp)).kept hkF (hfar _ HP.out.hp (by have := HP.out.ltv; omega)))
        have hsaw := ((HJ.out.saw.kept HK5.out (by have := HP.out.ltm; simp; omega)).kept HK6.out (hown _ HP.out.hm)).kept hkF (hfar _ HP.out.hm HP.out.vm.symm)
        go_wp2_with fail
        go_end0
        refine ⟨rfl, pairAns_of HXX.out HSD5.out HPF.out ⟨HCF, _, _, _, hbF⟩ (fun v hv => ?_)⟩
        rw [HKK.out]
        have h9 := HJ.out.snoc (key := key) HP.out HCF hsaw hbF HK5.out HK6.out hkF rfl HG6.out hrF hv HSZ3.out
        rw [List.map_append]
        exact ⟨_, _, h9⟩
      · have c3 := cell_head (o := 4) (v := .slice ak acc.length ck) HB6.out rfl
        have z3 := free_head (o := 4) HB6.out
        go_simp
        refine hK _ _ (.inr (.inl (by kernel_rfl))) ?_
        clear hK K
        try simp only [Act.put, List.setIfInBounds_toArray, List.set_cons_zero, List.set_cons_succ]
        clear c3 z3
        have hb7 := block_setCell (i := 4) (v := .slice (some ⟨g6, 0, none⟩) (acc.length + 1) d6) HB6.out rfl
        have HB7 := Lib.hid hb7
        have HK7 := Lib.hid (kept_set w6 bv 4 (.slice (some ⟨g6, 0, none⟩) (acc.length + 1) d6))
        clear hb7
        revert HB7 HK7
        generalize w6.setCell ⟨bv, 4, none⟩ (.slice (some ⟨g6, 0, none⟩) (acc.length + 1) d6) = w7
        intro HB7 HK7
        have hrow7 := row_kept HR6.out HK7.out (fun i hi hx => by simp [Value.ownBlock] at hi hx; exact HBG.out (by rw [← hx, ← hi]))
        obtain ⟨hro, hth, hkg⟩ := row_stored (i := acc.length) (g := g6) (c := [.string key, .int .i64 k3, .int .i64 m3, .string s3, .slice p3 i3 d3, .slice q3 j3 e3]) hrow7 HLS6.out rfl HLEN.out (Nat.lt_succ_self _) rfl
        rw [HSET.out] at hro
        have HRO := Lib.hid hro
        have HKG := Lib.hid hkg
        clear hro hkg hrow7
        refine wpAnyU_one' (i := 11) hO rfl (by kernel_rfl) (by kernel_rfl) (fun K hK => ?_)
        refine wp_store_mid 60 (.tmp 36) (.tmp 32) rfl g6 (acc.length * 6) #[.string key, .int .i64 k3, .int .i64 m3, .string s3, .slice p3 i3 d3, .slice q3 j3 e3] rfl rfl hth (by kernel_rfl) (by simp [Value.oneCell']) ?_
        refine hK _ _ (.inr (.inl (by kernel_rfl))) ?_
        clear hK K
        try simp only [Act.put, List.setIfInBounds_toArray, List.set_cons_zero, List.set_cons_succ]
        refine wpAnyU_done' hO (by kernel_rfl) ?_ _
        subst hR
        try clear hQp hO O
        clear hth
        have hbF := HKG.out.heap HB7.out (by simpa using HBG.out)
        have hkF := ((HK7.out.mono (Y := [bv, g6]) (by simp)).trans' (HKG.out.mono (Y := [bv, g6]) (by simp)))
        have hrF := HRO.out
        revert hbF hkF hrF
        generalize World.setCells _ g6 (acc.length * 6) (#[.string key, .int .i64 k3, .int .i64 m3, .string s3, .slice p3 i3 d3, .slice q3 j3 e3] : Array Value).toList = wF
        intro hbF hkF hrF
        have HCF : MCap W bv b2 b3 b6 bm p d wF := (HJ.out.cap.step HP.out ((HK5.out.mono (Y := p :: bv :: g6 :: (Value.slice ak acc.length ck).ownBlock.toList) (by simp)).trans' ((HK6.out.mono (fun i hi => by simp at hi ⊢; exact .inr (.inr (.inr hi)))).trans' (hkF.mono (fun i hi => by simp at hi ⊢; rcases hi with h | h; exact .inr (.inl h); exact .inr (.inr (.inl h)))))) (fun i hi => by
          have h9 := HG6.out
          have hwz := HWZ.out
          have h5z := HK5.out.size
          rcases List.mem_cons.1 hi with h | hi
          · exact .inl h
          rcases List.mem_cons.1 hi with h | hi
          · exact .inr (.inl h)
          rcases List.mem_cons.1 hi with h | hi
          · subst h
            rcases h9 with h9 | h9
            · exact .inr (.inr (.inr (HLT.out _ h9).1))
            · exact .inr (.inr (.inr (by omega)))
          · exact .inr (.inr (.inr (HLT.out _ (Option.mem_toList.1 hi)).1))))
        have hfar : ∀ b, b < W.heap.size → b ≠ bv → b ∉ [bv, g6] := fun b h1 h2 hx => by
          have := HLTF.out.1
          simp at hx
          rcases hx with hx | hx
          · exact h2 hx
          · omega
        have hown : ∀ b, b < W.heap.size → b ∉ (Value.slice ak acc.length ck).ownBlock.toList := fun b h1 hx => by have := (HLT.out _ (Option.mem_toList.1 hx)).1; omega
        have HPF : Hid (∀ x, PS w5 p S 4097 x → PS wF p S 4097 x) := Lib.hid (fun x h => (h.kept HK6.out (hown _ HP.out.hp)).kept hkF (hfar _ HP.out.hp (by have := HP.out.ltv; omega)))
        have hsaw := ((HJ.out.saw.kept HK5.out (by have := HP.out.ltm; simp; omega)).kept HK6.out (hown _ HP.out.hm)).kept hkF (hfar _ HP.out.hm HP.out.vm.symm)
        go_wp2_with fail
        go_end0
        refine ⟨rfl, pairAns_of HXX.out HSD5.out HPF.out ⟨HCF, _, _, _, hbF⟩ (fun v hv => ?_)⟩
        rw [HKK.out]
        have h9 := HJ.out.snoc (key := key) HP.out HCF hsaw hbF HK5.out HK6.out hkF rfl HG6.out hrF hv HSZ3.out
        rw [List.map_append]
        exact ⟨_, _, h9⟩
    · go_simp
      have HKB : Hid (Kept [] WD (WD.alloc (.cells #[.string ⟨#[]⟩, .int .i64 0, .int .i64 0, .string ⟨#[]⟩, .slice none 0 0, .slice none 0 0] 60))) := Lib.hid ((Kept.refl [] WD).alloc _)
      have HSRC := Lib.hid (slc_new WD [.string ⟨#[]⟩, .int .i64 0, .int .i64 0, .string ⟨#[]⟩, .slice none 0 0, .slice none 0 0] 6 1 60 WD.heap.size rfl rfl (by decide))
      have hS4 : (fun w' : World => w'.cell? ⟨bv, 4, none⟩ = some (.slice ak acc.length ck) ∧ w'.cell? ⟨b2, 0, none⟩ = some (.pointer (some ⟨p, 0, none⟩)) ∧ w'.cell? ⟨b3, 0, none⟩ = some (.int .i64 d)) (WD.alloc (.cells #[.string ⟨#[]⟩, .int .i64 0, .int .i64 0, .string ⟨#[]⟩, .slice none 0 0, .slice none 0 0] 60)) := ⟨HKB.out.cell hSS.1 (by simp), HKB.out.cell hSS.2.1 (by simp), HKB.out.cell hSS.2.2 (by simp)⟩
      refine hK _ _ (.inr (.inr hS4)) ?_
      clear hK K
      try simp only [Act.put, List.setIfInBounds_toArray, List.set_cons_zero, List.set_cons_succ]
      clear hSS
      have hSS := hS4
      clear hS4
      revert hSS HKB HSRC
      generalize WD.alloc (.cells #[.string ⟨#[]⟩, .int .i64 0, .int .i64 0, .string ⟨#[]⟩, .slice none 0 0, .slice none 0 0] 60) = w4
      intro HKB HSRC hSS
      have HKE := Lib.hid (HKD0.out.then HKB.out)
      refine wpAnyU_one' (i := 5) hO rfl (by kernel_rfl) (by kernel_rfl) (fun K hK => ?_)
      go_simp
      refine Calls.mono (CV.out _ HKE.out) ?_
      rintro e w5 hans
      obtain ⟨cs3, rfl, hsh, hk3, hsd⟩ := hans.saidX
      obtain ⟨k3, m3, s3, p3, i3, d3, q3, j3, e3, rfl⟩ := hsh
      have HKC := Lib.hid hk3
      have HK3 := Lib.hid ((HKE.out.mono (Y := [p]) (by simp)).trans' hk3)
      have HSD := Lib.hid hsd
      have HSZ3 : Hid (w0.heap.size ≤ w4.heap.size) := Lib.hid HKE.out.size
      have hS3 : (fun w' : World => w'.cell? ⟨bv, 4, none⟩ = some (.slice ak acc.length ck) ∧ w'.cell? ⟨b2, 0, none⟩ = some (.pointer (some ⟨p, 0, none⟩)) ∧ w'.cell? ⟨b3, 0, none⟩ = some (.int .i64 d)) w5 := ⟨hk3.cell hSS.1 (by have := HP.out.ltv; simp; omega), hk3.cell hSS.2.1 (by simpa using HP.out.p2), hk3.cell hSS.2.2 (by simpa using HP.out.p3)⟩
      clear hans hk3 hsd
      refine hK _ _ (.inr (.inr hS3)) ?_
      clear hK K
      try simp only [Act.put, List.setIfInBounds_toArray, List.set_cons_zero, List.set_cons_succ]
      clear hSS
      have hSS := hS3
      clear hS3
      refine wpAnyU_take' (i := 6) (v := ?_) hO rfl rfl (by kernel_rfl) (by kernel_rfl) (by kernel_rfl) (by kernel_rfl) (by decide) (by kernel_rfl) hQp (Or.inl ⟨by kernel_rfl, fun w hSw => ?_⟩) hSS ?_
      rotate_left
      · go_simp; try with_reducible rfl
      try simp only [Act.put, List.setIfInBounds_toArray, List.set_cons_zero, List.set_cons_succ]
      have HK5 := Lib.hid HK3.out
      have HSD5 := Lib.hid HSD.out
      have HSRC4 := Lib.hid HSRC.out
      clear HSRC
      have HSRC := Lib.hid (HSRC4.out.kept HKC.out (fun i hi hx => by simp [vblk] at hi hx; have := HKD0.out.size; have := HWZ.out; have := HP.out.hp; omega))
      clear HSD
      have hrow5 := row_kept HJ.out.row HK5.out (fun i hi hx => by simp at hx; have := (HLT.out i hi).1; have := HP.out.hp; omega)
      refine wpAnyU_one' (i := 9) hO rfl (by kernel_rfl) (by kernel_rfl) (fun K hK => ?_)
      refine oper_append tyPairs hrow5 HSRC.out (by intro u hu; simp only [List.mem_cons, List.not_mem_nil, or_false] at hu; rcases hu with rfl | rfl | rfl | rfl | rfl | rfl <;> rfl) (by have := HN.out; simp only [maxLen]; omega) (by have := HN.out; omega) (by have := HK5.out.size; have := HWZ.out; omega) (.tmp 27) (.tmp 34) rfl rfl rfl ?_
      intro bb6 d6 w6 hown6 hk6 hg6
      obtain ⟨g6, rfl⟩ : ∃ g6, bb6 = some ⟨g6, 0, none⟩ := by
        rcases hown6.2 with ⟨h, h1⟩ | ⟨g, cap, cur, hv, _⟩
        · omega
        · simp only [Value.slice.injEq] at hv; exact ⟨g, hv.1⟩
      have HROW6 := Lib.hid hown6
      have HK6 := Lib.hid hk6
      have HG6 : Hid ((Value.slice ak acc.length ck).ownBlock = some g6 ∨ g6 = w5.heap.size) := Lib.hid (by
        rcases hg6 with h | h
        · exact .inl (by rw [← h]; rfl)
        · exact .inr (by simpa [Value.ownBlock] using h))
      have HLTF : Hid (W.heap.size ≤ g6 ∧ g6 < w6.heap.size) := Lib.hid (hown6.lt g6 rfl)
      have HB6 : Hid (w6.heap[bv]? = some (.cells (valA 6 0 ⟨#[]⟩ (.slice none 0 0) (.slice ak acc.length ck)) 25 (0, 0))) := Lib.hid (hk6.heap (HK5.out.heap HJ.out.blk (by have := HP.out.ltv; simp; omega)) (fun hx => by have := (HLT.out _ (Option.mem_toList.1 hx)).1; have := HP.out.hv; omega))
      have HBG : Hid (bv ≠ g6) := Lib.hid (by have := HLTF.out.1; have := HP.out.hv; omega)
      clear hrow5 hown6 hk6 hg6 hSS
      refine hK _ _ (.inl rfl) ?_
      clear hK K
      try simp only [Act.put, List.setIfInBounds_toArray, List.set_cons_zero, List.set_cons_succ]
      have hnI : (acc.length : Int) < (acc.length : Int) + 1 := by omega
      refine wpAnyU_pure (i := 10) (v := ?_) hO rfl rfl (by kernel_rfl) (by kernel_rfl) (by kernel_rfl) (by kernel_rfl) hQp (Or.inl ⟨by kernel_rfl, fun w _ => ?_⟩) ?_
      rotate_left
      · go_simp; try with_reducible rfl
      try simp only [Act.put, List.setIfInBounds_toArray, List.set_cons_zero, List.set_cons_succ]
      refine wpAnyU_pure (i := 12) (v := ?_) hO rfl rfl (by kernel_rfl) (by kernel_rfl) (by kernel_rfl) (by kernel_rfl) hQp (Or.inl ⟨by kernel_rfl, fun w _ => ?_⟩) ?_
      rotate_left
      · go_simp; try with_reducible rfl
      try simp only [Act.put, List.setIfInBounds_toArray, List.set_cons_zero, List.set_cons_succ]
      have hls6 : ∀ x, x ∈ (mcs.map pairC) ++ [zero6] → x.length = 6 := fun x hx => by
        rcases List.mem_append.1 hx with hx | hx
        · exact HL6.out x hx
        · simp at hx; subst hx; rfl
      have hrow6 : w6.ownsRow W.heap.size 60 6 (.slice (some ⟨g6, 0, none⟩) (acc.length + 1) d6) (acc.length + 1) ((mcs.map pairC) ++ [zero6]).flatten := by
        have h9 := HROW6.out
        rw [pairCs_flat] at h9
        rw [List.flatten_append]
        simp only [List.flatten_cons, List.flatten_nil, List.append_nil]
        exact h9
      have HR6 := Lib.hid hrow6
      have HSET : Hid ((((mcs.map pairC) ++ [zero6]).set acc.length [.string key, .int .i64 k3, .int .i64 m3, .string s3, .slice p3 i3 d3, .slice q3 j3 e3]).flatten = pairCs (mcs ++ [(key, [.int .i64 k3, .int .i64 m3, .string s3, .slice p3 i3 d3, .slice q3 j3 e3])])) := Lib.hid (by
        rw [List.set_append_right _ _ (by have := HLC.out; rw [List.length_map]; omega), List.length_map, HLC.out, Nat.sub_self, pairCs_flat, List.map_append]
        rfl)
      have HLS6 := Lib.hid hls6
      have HLEN : Hid (((mcs.map pairC) ++ [zero6]).length = acc.length + 1) := Lib.hid (by rw [List.length_append, List.length_map, HLC.out]; rfl)
      clear hls6 hrow6
      refine wpAnyU_two' (i := 11) (j := 13) hO rfl rfl (by kernel_rfl) (by kernel_rfl) (by kernel_rfl) (fun K hK => ?_) (fun K hK => ?_)
      · obtain ⟨hro, hth, hkg⟩ := row_stored (i := acc.length) (g := g6) (c := [.string key, .int .i64 k3, .int .i64 m3, .string s3, .slice p3 i3 d3, .slice q3 j3 e3]) HR6.out HLS6.out rfl HLEN.out (Nat.lt_succ_self _) rfl
        rw [HSET.out] at hro
        have HRO := Lib.hid hro
        have HKG := Lib.hid hkg
        clear hro hkg
        refine wp_store_mid 60 (.tmp 36) (.tmp 32) rfl g6 (acc.length * 6) #[.string key, .int .i64 k3, .int .i64 m3, .string s3, .slice p3 i3 d3, .slice q3 j3 e3] rfl rfl hth (by kernel_rfl) (by simp [Value.oneCell']) ?_
        refine hK _ _ (.inr (.inl (by kernel_rfl))) ?_
        clear hK K
        try simp only [Act.put, List.setIfInBounds_toArray, List.set_cons_zero, List.set_cons_succ]
        have hb7 := HKG.out.heap HB6.out (by simpa using HBG.out)
        have HB7 := Lib.hid hb7
        have c3 := cell_head (o := 4) (v := .slice ak acc.length ck) hb7 rfl
        have z3 := free_head (o := 4) hb7
        clear hb7
        refine wpAnyU_one' (i := 13) hO rfl (by kernel_rfl) (by kernel_rfl) (fun K hK => ?_)
        go_simp
        refine hK _ _ (.inr (.inl (by kernel_rfl))) ?_
        clear hK K
        try simp only [Act.put, List.setIfInBounds_toArray, List.set_cons_zero, List.set_cons_succ]
        refine wpAnyU_done' hO (by kernel_rfl) ?_ _
        subst hR
        try clear hQp hO O
        clear c3 z3 hth
        have hbF := block_setCell (i := 4) (v := .slice (some ⟨g6, 0, none⟩) (acc.length + 1) d6) HB7.out rfl
        have hkF := ((HKG.out.mono (Y := [bv, g6]) (by simp)).setCell (p := ⟨bv, 4, none⟩) (.inl (by simp)) (.slice (some ⟨g6, 0, none⟩) (acc.length + 1) d6))
        have hrF := row_kept HRO.out (kept_set _ bv 4 (.slice (some ⟨g6, 0, none⟩) (acc.length + 1) d6)) (fun i hi hx => by simp [Value.ownBlock] at hi hx; exact HBG.out (by rw [← hx, ← hi]))
        revert hbF hkF hrF
        generalize World.setCell _ ⟨bv, 4, none⟩ (.slice (some ⟨g6, 0, none⟩) (acc.length + 1) d6) = wF
        intro hbF hkF hrF
        have HCF : MCap W bv b2 b3 b6 bm p d wF := (HJ.out.cap.step HP.out ((HK5.out.mono (Y := p :: bv :: g6 :: (Value.slice ak acc.length ck).ownBlock.toList) (by simp)).trans' ((HK6.out.mono (fun i hi => by simp at hi ⊢; exact .inr (.inr (.inr hi)))).trans' (hkF.mono (fun i hi => by simp at hi ⊢; rcases hi with h | h; exact .inr (.inl h); exact .inr (.inr (.inl h)))))) (fun i hi => by
          have h9 := HG6.out
          have hwz := HWZ.out
          have h5z := HK5.out.size
          rcases List.mem_cons.1 hi with h | hi
          · exact .inl h
          rcases List.mem_cons.1 hi with h | hi
          · exact .inr (.inl h)
          rcases List.mem_cons.1 hi with h | hi
          · subst h
            rcases h9 with h9 | h9
            · exact .inr (.inr (.inr (HLT.out _ h9).1))
            · exact .inr (.inr (.inr (by omega)))
          · exact .inr (.inr (.inr (HLT.out _ (Option.mem_toList.1 hi)).1))))
        have hfar : ∀ b, b < W.heap.size → b ≠ bv → b ∉ [bv, g6] := fun b h1 h2 hx => by
          have := HLTF.out.1
          simp at hx
          rcases hx with hx | hx
          · exact h2 hx
          · omega
        have hown : ∀ b, b < W.heap.size → b ∉ (Value.slice ak acc.length ck).ownBlock.toList := fun b h1 hx => by have := (HLT.out _ (Option.mem_toList.1 hx)).1; omega
        have HPF : Hid (∀ x, PS w5 p S 4097 x → PS wF p S 4097 x) := Lib.hid (fun x h => (h.kept HK6.out (hown _ HP.out.hp)).kept hkF (hfar _ HP.out.hp (by have := HP.out.ltv; omega)))
        have hsaw := ((HJ.out.saw.kept HK5.out (by have := HP.out.ltm; simp; omega)).kept HK6.out (hown _ HP.out.hm)).kept hkF (hfar _ HP.out.hm HP.out.vm.symm)
        go_wp2_with fail
        go_end0
        refine ⟨rfl, pairAns_of HXX.out HSD5.out HPF.out ⟨HCF, _, _, _, hbF⟩ (fun v hv => ?_)⟩
        rw [HKK.out]
        have h9 := HJ.out.snoc (key := key) HP.out HCF hsaw hbF HK5.out HK6.out hkF rfl HG6.out hrF hv HSZ3.out
        rw [List.map_append]
        exact ⟨_, _, h9⟩
      · have c3 := cell_head (o := 4) (v := .slice ak acc.length ck) HB6.out rfl
        have z3 := free_head (o := 4) HB6.out
        go_simp
        refine hK _ _ (.inr (.inl (by kernel_rfl))) ?_
        clear hK K
        try simp only [Act.put, List.setIfInBounds_toArray, List.set_cons_zero, List.set_cons_succ]
        clear c3 z3
        have hb7 := block_setCell (i := 4) (v := .slice (some ⟨g6, 0, none⟩) (acc.length + 1) d6) HB6.out rfl
        have HB7 := Lib.hid hb7
        have HK7 := Lib.hid (kept_set w6 bv 4 (.slice (some ⟨g6, 0, none⟩) (acc.length + 1) d6))
        clear hb7
        revert HB7 HK7
        generalize w6.setCell ⟨bv, 4, none⟩ (.slice (some ⟨g6, 0, none⟩) (acc.length + 1) d6) = w7
        intro HB7 HK7
        have hrow7 := row_kept HR6.out HK7.out (fun i hi hx => by simp [Value.ownBlock] at hi hx; exact HBG.out (by rw [← hx, ← hi]))
        obtain ⟨hro, hth, hkg⟩ := row_stored (i := acc.length) (g := g6) (c := [.string key, .int .i64 k3, .int .i64 m3, .string s3, .slice p3 i3 d3, .slice q3 j3 e3]) hrow7 HLS6.out rfl HLEN.out (Nat.lt_succ_self _) rfl
        rw [HSET.out] at hro
        have HRO := Lib.hid hro
        have HKG := Lib.hid hkg
        clear hro hkg hrow7
        refine wpAnyU_one' (i := 11) hO rfl (by kernel_rfl) (by kernel_rfl) (fun K hK => ?_)
        refine wp_store_mid 60 (.tmp 36) (.tmp 32) rfl g6 (acc.length * 6) #[.string key, .int .i64 k3, .int .i64 m3, .string s3, .slice p3 i3 d3, .slice q3 j3 e3] rfl rfl hth (by kernel_rfl) (by simp [Value.oneCell']) ?_
        refine hK _ _ (.inr (.inl (by kernel_rfl))) ?_
        clear hK K
        try simp only [Act.put, List.setIfInBounds_toArray, List.set_cons_zero, List.set_cons_succ]
        refine wpAnyU_done' hO (by kernel_rfl) ?_ _
        subst hR
        try clear hQp hO O
        clear hth
        have hbF := HKG.out.heap HB7.out (by simpa using HBG.out)
        have hkF := ((HK7.out.mono (Y := [bv, g6]) (by simp)).trans' (HKG.out.mono (Y := [bv, g6]) (by simp)))
        have hrF := HRO.out
        revert hbF hkF hrF
        generalize World.setCells _ g6 (acc.length * 6) (#[.string key, .int .i64 k3, .int .i64 m3, .string s3, .slice p3 i3 d3, .slice q3 j3 e3] : Array Value).toList = wF
        intro hbF hkF hrF
        have HCF : MCap W bv b2 b3 b6 bm p d wF := (HJ.out.cap.step HP.out ((HK5.out.mono (Y := p :: bv :: g6 :: (Value.slice ak acc.length ck).ownBlock.toList) (by simp)).trans' ((HK6.out.mono (fun i hi => by simp at hi ⊢; exact .inr (.inr (.inr hi)))).trans' (hkF.mono (fun i hi => by simp at hi ⊢; rcases hi with h | h; exact .inr (.inl h); exact .inr (.inr (.inl h)))))) (fun i hi => by
          have h9 := HG6.out
          have hwz := HWZ.out
          have h5z := HK5.out.size
          rcases List.mem_cons.1 hi with h | hi
          · exact .inl h
          rcases List.mem_cons.1 hi with h | hi
          · exact .inr (.inl h)
          rcases List.mem_cons.1 hi with h | hi
          · subst h
            rcases h9 with h9 | h9
            · exact .inr (.inr (.inr (HLT.out _ h9).1))
            · exact .inr (.inr (.inr (by omega)))
          · exact .inr (.inr (.inr (HLT.out _ (Option.mem_toList.1 hi)).1))))
        have hfar : ∀ b, b < W.heap.size → b ≠ bv → b ∉ [bv, g6] := fun b h1 h2 hx => by
          have := HLTF.out.1
          simp at hx
          rcases hx with hx | hx
          · exact h2 hx
          · omega
        have hown : ∀ b, b < W.heap.size → b ∉ (Value.slice ak acc.length ck).ownBlock.toList := fun b h1 hx => by have := (HLT.out _ (Option.mem_toList.1 hx)).1; omega
        have HPF : Hid (∀ x, PS w5 p S 4097 x → PS wF p S 4097 x) := Lib.hid (fun x h => (h.kept HK6.out (hown _ HP.out.hp)).kept hkF (hfar _ HP.out.hp (by have := HP.out.ltv; omega)))
        have hsaw := ((HJ.out.saw.kept HK5.out (by have := HP.out.ltm; simp; omega)).kept HK6.out (hown _ HP.out.hm)).kept hkF (hfar _ HP.out.hm HP.out.vm.symm)
        go_wp2_with fail
        go_end0
        refine ⟨rfl, pairAns_of HXX.out HSD5.out HPF.out ⟨HCF, _, _, _, hbF⟩ (fun v hv => ?_)⟩
        rw [HKK.out]
        have h9 := HJ.out.snoc (key := key) HP.out HCF hsaw hbF HK5.out HK6.out hkF rfl HG6.out hrF hv HSZ3.out
        rw [List.map_append]
        exact ⟨_, _, h9⟩
end
end Go.Proofs.YtpbphdkjjoipnaaGreatDoor
