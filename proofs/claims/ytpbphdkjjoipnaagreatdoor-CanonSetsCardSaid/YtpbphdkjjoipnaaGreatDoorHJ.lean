/- Parts of one proof, merged: XPH XPI XPJ XPK. -/
import Derived.Test.YtpbphdkjjoipnaaGreatDoorHI
import Derived.Test.YtpbphdkjjoipnaaGreatDoorHB
import Derived.Test.YtpbphdkjjoipnaaGreatDoorHA
import Derived.Test.YtpbphdkjjoipnaaGreatDoorHE
import Derived.Test.YtpbphdkjjoipnaaGreatDoorHD
set_option linter.all false
set_option maxHeartbeats 12800000
set_option maxRecDepth 10000
set_option linter.unusedVariables false
set_option linter.unusedSimpArgs false
set_option linter.unnecessarySimpa false
namespace Go.Proofs.YtpbphdkjjoipnaaGreatDoor
open Go.Proofs.Tryz
open Go.RowKit
def ZY : List Value := [.int .i64 0, .int .i64 0, .string ⟨#[]⟩, .slice none 0 0, .slice none 0 0]
def jk (cs : List Value) : Prop := ∃ k m s p i c q j d, cs = [.int .i64 k, .int .i64 m, .string s, .slice p i c, .slice q j d]
theorem jk.len {cs : List Value} (h : jk cs) : cs.length = 5 := by obtain ⟨_, _, _, _, _, _, _, _, _, rfl⟩ := h; rfl
theorem jk.one {cs : List Value} (h : jk cs) : ∀ u, u ∈ cs → u.oneCell' = true := by
 obtain ⟨_, _, _, _, _, _, _, _, _, rfl⟩ := h
 intro u hu
 simp only [List.mem_cons, List.not_mem_nil, or_false] at hu
 rcases hu with rfl | rfl | rfl | rfl | rfl <;> rfl
def xU (d : Nat) (X : PX) (p : Nat) (S : ByteArray) (w : World) (e : Ending) (w' : World) : Prop :=
 ∃ cs : List Value, e = .returned (.agg cs.toArray) ∧ jk cs ∧ zb [p] w w' ∧
  match X with
  | .inl x => PS w' p S 4097 (.inl x)
  | .inr (s, c) => match zr d s c with
   | .inl x => PS w' p S 4097 (.inl x)
   | .inr (v, r, c') => PS w' p S 4097 (.inr (r, c')) ∧ yS d w.heap.size w' cs v
def Y8 : PX → Prop | .inl _ => True | .inr (_, c) => c ≤ 4096
def xf (d : Nat) : Prop := ∀ {w : World} {p : Nat} {S : ByteArray} {X : PX}, PS w p S 4097 X → Y8 X → S.size ≤ 262144 → xr p w →
 Calls Tryz.prog 49 #[.pointer (some ⟨p, 0, none⟩), .int .i64 d] w fun e w' => xU d X p S w e w'
structure Qt (W : World) (bv b2 b3 p d : Nat) (w : World) : Prop where
 ptr : w.heap[b2]? = some (.cells #[.pointer (some ⟨p, 0, none⟩)] 61 (0, 0))
 dep : w.heap[b3]? = some (.cells #[.int .i64 d] 3 (0, 0))
 kept : zb [p, bv] W w
structure LPos (W : World) (bv b2 b3 p : Nat) : Prop where
 hp : p < W.heap.size
 hv : bv < W.heap.size
 h2 : b2 < W.heap.size
 h3 : b3 < W.heap.size
 lt : p < bv
 pv : p ≠ bv
 p2 : p ≠ b2
 p3 : p ≠ b3
 v2 : bv ≠ b2
 v3 : bv ≠ b3
structure LJ (W : World) (bv b2 b3 p d : Nat) (acc : List (V d)) (w : World) (vl : Value) (lcs : List (List Value)) : Prop where
 cap : Qt W bv b2 b3 p d w
 blk : w.heap[bv]? = some (.cells (qj 5 0 ⟨#[]⟩ vl (.slice none 0 0)) 25 (0, 0))
 row : w.ownsRow W.heap.size 25 5 vl acc.length lcs.flatten
 all : yc (Rep d (fun g => W.heap.size ≤ g ∧ vl.ownBlock ≠ some g) w) lcs acc
structure LBad (W : World) (bv b2 b3 p d : Nat) (w : World) : Prop where
 cap : Qt W bv b2 b3 p d w
 blk : ∃ a n c, w.heap[bv]? = some (.cells (qj 5 0 ⟨#[]⟩ (.slice a n c) (.slice none 0 0)) 25 (0, 0))
section
variable {W w w' : World} {bv b2 b3 p d : Nat}
theorem Qt.step (h : Qt W bv b2 b3 p d w) (hp : LPos W bv b2 b3 p) {X : List Nat} (k : zb X w w') (hX : ∀ g, g ∈ X → g = p ∨ g = bv ∨ W.heap.size ≤ g) : Qt W bv b2 b3 p d w' := by
 have hz := h.kept.size
 refine ⟨k.heap h.ptr ?_, k.heap h.dep ?_, h.kept.trans k ?_⟩
 ·intro hx
  rcases hX _ hx with e | e | e
  ·exact hp.p2 e.symm
  ·exact hp.v2 e.symm
  ·have := hp.h2; omega
 ·intro hx
  rcases hX _ hx with e | e | e
  ·exact hp.p3 e.symm
  ·exact hp.v3 e.symm
  ·have := hp.h3; omega
 ·intro g hg
  rcases hX _ hg with e | e | e
  ·exact .inl (by simp [e])
  ·exact .inl (by simp [e])
  ·exact .inr e
theorem LJ.step {acc : List (V d)} {vl : Value} {lcs : List (List Value)} (h : LJ W bv b2 b3 p d acc w vl lcs) (hp : LPos W bv b2 b3 p) (k : zb [p] w w') : LJ W bv b2 b3 p d acc w' vl lcs :=
 ⟨h.cap.step hp k (fun g hg => by simp at hg; exact .inl hg), k.heap h.blk (by simpa using hp.pv.symm), zh h.row k (fun g hg hx => by simp at hx; have := (h.row.lt g hg).1; have := hp.hp; omega), h.all.mono fun _ _ _ r => r.move k (fun g _ q => ⟨fun hx => by simp at hx; have := hp.hp; omega, q⟩)⟩
theorem LBad.step (h : LBad W bv b2 b3 p d w) (hp : LPos W bv b2 b3 p) (k : zb [p] w w') : LBad W bv b2 b3 p d w' := by
 obtain ⟨a, n, c, hb⟩ := h.blk
 exact ⟨h.cap.step hp k (fun g hg => by simp at hg; exact .inl hg), a, n, c, k.heap hb (by simpa using hp.pv.symm)⟩
theorem LJ.bad {acc : List (V d)} {vl : Value} {lcs : List (List Value)} (h : LJ W bv b2 b3 p d acc w vl lcs) : LBad W bv b2 b3 p d w := by
 obtain ⟨a, c, rfl, -, -⟩ := (Slc.of_row h.row).form
 exact ⟨h.cap, _, _, _, h.blk⟩
theorem LJ.snoc {acc : List (V d)} {vl vl' : Value} {lcs : List (List Value)} {w5 w6 wF : World} {cs : List Value} {v : V d} {g Bc : Nat} (h : LJ W bv b2 b3 p d acc w vl lcs) (hp : LPos W bv b2 b3 p)
  (hcap : Qt W bv b2 b3 p d wF) (hblk : wF.heap[bv]? = some (.cells (qj 5 0 ⟨#[]⟩ vl' (.slice none 0 0)) 25 (0, 0)))
  (k5 : zb [p] w w5) (k6 : zb vl.ownBlock.toList w5 w6) (kF : zb [bv, g] w6 wF) (hown : vl'.ownBlock = some g) (hg : vl.ownBlock = some g ∨ g = w5.heap.size) (hrow : wF.ownsRow W.heap.size 25 5 vl' (acc.length + 1) (lcs ++ [cs]).flatten)
  (hrep : Rep d (fun i => Bc ≤ i) w5 cs v) (hB : w.heap.size ≤ Bc) : LJ W bv b2 b3 p d (acc ++ [v]) wF vl' (lcs ++ [cs]) := by
 have hpw := hp.hp
 have hvw := hp.hv
 have hz := h.cap.kept.size
 have hz5 := k5.size
 refine ⟨hcap, hblk, by rw [List.length_append]; exact hrow, yc.snoc (h.all.mono fun c y _ r => ?_) ?_⟩
 ·refine ((r.move (T := fun i => W.heap.size ≤ i ∧ vl.ownBlock ≠ some i ∧ i < w.heap.size) k5 (fun i hi q => ⟨fun hx => by simp at hx; omega, q.1, q.2, hi⟩)).move (T := fun i => W.heap.size ≤ i ∧ vl.ownBlock ≠ some i ∧ i < w.heap.size) k6 (fun i hi q => ⟨fun hx => q.2.1 (Option.mem_toList.1 hx), q⟩)).move kF (fun i hi q => ⟨fun hx => ?_, q.1, fun hx => ?_⟩)
  ·simp at hx
   rcases hx with hx | hx
   ·omega
   ·rcases hg with hg | hg
    ·exact q.2.1 (by rw [hg, hx])
    ·omega
  ·rw [hown] at hx
   injection hx with hx
   rcases hg with hg | hg
   ·exact q.2.1 (by rw [hg, hx])
   ·omega
 ·refine (hrep.move (T := fun i => Bc ≤ i ∧ i < w5.heap.size ∧ vl.ownBlock ≠ some i) k6 (fun i hi q => ⟨fun hx => ?_, q, hi, fun hx => ?_⟩)).move kF (fun i hi q => ⟨fun hx => ?_, by omega, fun hx => ?_⟩)
  ·have := (h.row.lt i (Option.mem_toList.1 hx)).2; omega
  ·have := (h.row.lt i hx).2; omega
  ·simp at hx
   rcases hx with hx | hx
   ·omega
   ·rcases hg with hg | hg
    ·exact q.2.2 (by rw [hg, hx])
    ·omega
  ·rw [hown] at hx
   injection hx with hx
   rcases hg with hg | hg
   ·exact q.2.2 (by rw [hg, hx])
   ·omega
theorem Qt.tabs (h : Qt W bv b2 b3 p d w) (hp : LPos W bv b2 b3 p) (hT : xr p W) : xr p w := by
 obtain ⟨Wt, h1, h2, h3⟩ := hT
 have := hp.lt
 exact ⟨Wt, h1, h2.trans h.kept (fun i hi => by simp at hi; exact .inr (by omega)), h3⟩
def bP (W : World) (bv b2 b3 p d : Nat) (S : ByteArray) (s : List UInt8) (c : Nat) (acc : List (V d)) (w' : World) : Prop :=
 match ym (zr d) s c acc with
 | .inl x => PS w' p S 4097 (.inl x) ∧ LBad W bv b2 b3 p d w'
 | .inr (acc', r, c') => PS w' p S 4097 (.inr (r, c')) ∧ ∃ vl lcs, LJ W bv b2 b3 p d acc' w' vl lcs
theorem vn {S : ByteArray} {s : List UInt8} {c : Nat} {acc : List (V d)}
  (h1 : ∀ x, zr d s c = .inl x → PS w' p S 4097 (.inl x) ∧ LBad W bv b2 b3 p d w')
  (h2 : ∀ v r c', zr d s c = .inr (v, r, c') → PS w' p S 4097 (.inr (r, c')) ∧ ∃ vl lcs, LJ W bv b2 b3 p d (acc ++ [v]) w' vl lcs) : bP W bv b2 b3 p d S s c acc w' := by
 unfold bP ym
 cases h : zr d s c with
 | inl x => exact h1 x h
 | inr y => obtain ⟨v, r, c'⟩ := y; exact h2 v r c' h
def y9 (d : Nat) (s : List UInt8) (c p : Nat) (S : ByteArray) (Bc : Nat) (cs : List Value) (w' : World) : Prop :=
 match zr d s c with
 | .inl x => PS w' p S 4097 (.inl x)
 | .inr (v, r, c') => PS w' p S 4097 (.inr (r, c')) ∧ Rep d (fun i => Bc ≤ i) w' cs v
theorem y9.kept0 {s : List UInt8} {c Bc : Nat} {S : ByteArray} {cs : List Value} (h : y9 d s c p S Bc cs w) (k : zb [] w w') : y9 d s c p S Bc cs w' := by
 unfold y9 at *
 cases e : zr d s c with
 | inl x => rw [e] at h; exact PS.kept0 h k
 | inr y => obtain ⟨v, r, c'⟩ := y; rw [e] at h; exact ⟨PS.kept0 h.1 k, h.2.kept0 k⟩
theorem xU.said {s : List UInt8} {c : Nat} {S : ByteArray} {e : Ending} (h : xU d (.inr (s, c)) p S w e w') : ∃ cs : List Value, e = .returned (.agg cs.toArray) ∧ jk cs ∧ zb [p] w w' ∧ y9 d s c p S w.heap.size cs w' := by
 obtain ⟨cs, h1, h2, h3, h4⟩ := h
 refine ⟨cs, h1, h2, h3, ?_⟩
 unfold y9
 simp only at h4
 cases e : zr d s c with
 | inl x => rw [e] at h4; exact h4
 | inr y => obtain ⟨v, r, c'⟩ := y; rw [e] at h4; exact ⟨h4.1, h4.2.rep⟩
end
section
variable {W w : World} {bv b2 b3 p d : Nat} {S : ByteArray} {s : List UInt8} {c : Nat} {acc : List (V d)} {vl : Value} {lcs : List (List Value)}
theorem list1_any (IH0 : xf d) (hp : LPos W bv b2 b3 p) (hj : LJ W bv b2 b3 p d acc w vl lcs) (hs : PS w p S 4097 (.inr (s, c))) (hc : c ≤ 4096) (hS : S.size ≤ 262144) (hT : xr p W) (hn : acc.length ≤ 5000) :
  Calls Tryz.prog 159 #[.pointer (some ⟨bv, 0, none⟩), .pointer (some ⟨b2, 0, none⟩), .pointer (some ⟨b3, 0, none⟩)] w fun e w' => e = .returned (.tuple #[]) ∧ bP W bv b2 b3 p d S s c acc w' := by
 obtain ⟨ak, ck, rfl, -, -⟩ := (Slc.of_row hj.row).form
 have HJ := qI hj
 have HP := qI hp
 have Gc : Hid (∀ g, (Value.slice ak acc.length ck).ownBlock = some g → W.heap.size ≤ g ∧ g < w.heap.size) := qI (fun g hg => hj.row.lt g hg)
 have Gu : Hid (W.heap.size ≤ w.heap.size) := qI hj.cap.kept.size
 have Gy : Hid (lcs.length = acc.length) := qI hj.all.1
 have Ma : Hid (∀ x, x ∈ lcs → x.length = 5) := qI (fun x hx => by
  obtain ⟨j, hj', rfl⟩ := List.getElem_of_mem hx
  exact (hj.all.2 j _ _ (List.getElem?_eq_getElem hj') (List.getElem?_eq_getElem (by rw [← hj.all.1]; exact hj'))).len)
 have CV : Hid (∀ w', zb [] w w' → Calls Tryz.prog 49 #[.pointer (some ⟨p, 0, none⟩), .int .i64 d] w' fun e w2 => xU d (.inr (s, c)) p S w' e w2) := qI (fun w' k => IH0 (hs.kept0 k) hc hS ((hj.cap.tabs hp hT).step (k.mono (by simp))))
 have f3 := za (o := 3) (v := .slice ak acc.length ck) hj.blk rfl
 have f2 := za (o := 0) (v := .pointer (some ⟨p, 0, none⟩)) hj.cap.ptr rfl
 have f1 := za (o := 0) (v := .int .i64 d) hj.cap.dep rfl
 have HN := qI hn
 clear hj hs IH0 hc hn hT hp
 go_enter func159, ntmps159
 go_wp2_with fail
 refine xX (n := 12) (fun w' : World => w'.cell? ⟨bv, 3, none⟩ = some (.slice ak acc.length ck) ∧ w'.cell? ⟨b2, 0, none⟩ = some (.pointer (some ⟨p, 0, none⟩)) ∧ w'.cell? ⟨b3, 0, none⟩ = some (.int .i64 d)) 7 (by kernel_rfl) (by kernel_rfl) ?_
 change yl _ _ _ _ _ _ _ _ _ w.drew
 have hSS : (fun w' : World => w'.cell? ⟨bv, 3, none⟩ = some (.slice ak acc.length ck) ∧ w'.cell? ⟨b2, 0, none⟩ = some (.pointer (some ⟨p, 0, none⟩)) ∧ w'.cell? ⟨b3, 0, none⟩ = some (.int .i64 d)) w.drew := ⟨f3, f2, f1⟩
 have Jd : Hid (zb [] w w.drew) := qI (zb.refl _ _).drew
 clear f1 f2 f3
 revert hSS Jd
 generalize w.drew = WD
 intro hSS Jd
 refine xC ?_
 intro O R hO hR
 have hQp : ∀ c a (d : Nat) v w, R (.panic c) (a.put (some d) v) w → R (.panic c) a w := by subst hR; exact fun _ _ _ _ _ h => h
 refine qU 0 ?_ hO rfl rfl (by kernel_rfl) hQp (fun w hSw => ?_) hSS ?_
 rotate_left
 ·go_simp; try with_reducible rfl
 try simp only [zA,zN,zB,zC,zD]
 refine qU 1 ?_ hO rfl rfl (by kernel_rfl) hQp (fun w hSw => ?_) hSS ?_
 rotate_left
 ·obtain ⟨s0, s1, s2⟩ := hSw; go_simp; try with_reducible rfl
 try simp only [zA,zN,zB,zC,zD]
 refine qU 2 ?_ hO rfl rfl (by kernel_rfl) hQp (fun w hSw => ?_) hSS ?_
 rotate_left
 ·obtain ⟨s0, s1, s2⟩ := hSw; go_simp; try with_reducible rfl
 try simp only [zA,zN,zB,zC,zD]
 refine qU 3 ?_ hO rfl rfl (by kernel_rfl) hQp (fun w hSw => ?_) hSS ?_
 rotate_left
 ·obtain ⟨s0, s1, s2⟩ := hSw; go_simp; try with_reducible rfl
 try simp only [zA,zN,zB,zC,zD]
 refine qU 5 ?_ hO rfl rfl (by kernel_rfl) hQp (fun w hSw => ?_) hSS ?_
 rotate_left
 ·go_simp; try with_reducible rfl
 try simp only [zA,zN,zB,zC,zD]
 refine yz (i := 4) (j := 6) hO rfl rfl (by kernel_rfl) (by kernel_rfl) (by kernel_rfl) (fun K hK => ?_) (fun K hK => ?_)
 ·go_simp
  refine Calls.mono (CV.o _ Jd.o) ?_
  rintro e w3 hans
  obtain ⟨cs3, rfl, hsh, hk3, hsd⟩ := hans.said
  have Gz := qI hsh
  have Jj := qI hk3
  have Je := qI ((Jd.o.mono (Y := [p]) (by simp)).trans' hk3)
  have Ja := qI hsd
  have Gh : Hid (w.heap.size ≤ WD.heap.size) := qI Jd.o.size
  have hS3 : (fun w' : World => w'.cell? ⟨bv, 3, none⟩ = some (.slice ak acc.length ck) ∧ w'.cell? ⟨b2, 0, none⟩ = some (.pointer (some ⟨p, 0, none⟩)) ∧ w'.cell? ⟨b3, 0, none⟩ = some (.int .i64 d)) w3 := ⟨hk3.cell hSS.1 (by simpa using HP.o.pv.symm), hk3.cell hSS.2.1 (by simpa using HP.o.p2.symm), hk3.cell hSS.2.2 (by simpa using HP.o.p3.symm)⟩
  clear hans hsh hk3 hsd
  refine hK _ _ (.inr (.inr hS3)) ?_
  clear hK K
  try simp only [zA,zN,zB,zC,zD]
  clear hSS
  have hSS := hS3
  clear hS3
  refine qV 6 hO rfl (by kernel_rfl) (fun K hK => ?_)
  go_simp
  have Ge : Hid (zb [] w3 (w3.alloc (.cells #[.int .i64 0, .int .i64 0, .string ⟨#[]⟩, .slice none 0 0, .slice none 0 0] 25))) := qI ((zb.refl [] w3).alloc _)
  have Gb := qI (yL w3 [.int .i64 0, .int .i64 0, .string ⟨#[]⟩, .slice none 0 0, .slice none 0 0] 5 1 25 w3.heap.size rfl rfl (by decide))
  have hS4 : (fun w' : World => w'.cell? ⟨bv, 3, none⟩ = some (.slice ak acc.length ck) ∧ w'.cell? ⟨b2, 0, none⟩ = some (.pointer (some ⟨p, 0, none⟩)) ∧ w'.cell? ⟨b3, 0, none⟩ = some (.int .i64 d)) (w3.alloc (.cells #[.int .i64 0, .int .i64 0, .string ⟨#[]⟩, .slice none 0 0, .slice none 0 0] 25)) := ⟨Ge.o.cell hSS.1 (by simp), Ge.o.cell hSS.2.1 (by simp), Ge.o.cell hSS.2.2 (by simp)⟩
  refine hK _ _ (.inr (.inr hS4)) ?_
  clear hK K
  try simp only [zA,zN,zB,zC,zD]
  clear hSS
  have hSS := hS4
  clear hS4
  revert hSS Ge Gb
  generalize w3.alloc (.cells #[.int .i64 0, .int .i64 0, .string ⟨#[]⟩, .slice none 0 0, .slice none 0 0] 25) = w5
  intro Ge Gb hSS
  have Ga := qI (Je.o.then Ge.o)
  have Gf := qI (Ja.o.kept0 Ge.o)
  clear Ja
  have Jz := qI hSS
  have hrow5 := zh HJ.o.row Ga.o (fun i hi hx => by simp at hx; have := (Gc.o i hi).1; have := HP.o.hp; omega)
  refine qV 7 hO rfl (by kernel_rfl) (fun K hK => ?_)
  refine yp bj hrow5 Gb.o (by intro u hu; simp only [List.mem_cons, List.not_mem_nil, or_false] at hu; rcases hu with rfl | rfl | rfl | rfl | rfl <;> rfl) (by have := HN.o; simp only [maxLen]; omega) (by have := HN.o; omega) (by have := Ga.o.size; have := Gu.o; omega) (.tmp 4) (.tmp 9) rfl rfl rfl ?_
  intro b6 d6 w6 hown6 hk6 hg6
  obtain ⟨g6, rfl⟩ : ∃ g6, b6 = some ⟨g6, 0, none⟩ := by
   rcases hown6.2 with ⟨h, h1⟩ | ⟨g, cap, cur, hv, _⟩
   ·omega
   ·simp only [Value.slice.injEq] at hv; exact ⟨g, hv.1⟩
  have Gi := qI hown6
  have Gd := qI hk6
  have Gp : Hid ((Value.slice ak acc.length ck).ownBlock = some g6 ∨ g6 = w5.heap.size) := qI (by
   rcases hg6 with h | h
   ·exact .inl (by rw [← h]; rfl)
   ·exact .inr (by simpa [Value.ownBlock] using h))
  have Gg : Hid (W.heap.size ≤ g6 ∧ g6 < w6.heap.size) := qI (hown6.lt g6 rfl)
  have Gr : Hid (w6.heap[bv]? = some (.cells (qj 5 0 ⟨#[]⟩ (.slice ak acc.length ck) (.slice none 0 0)) 25 (0, 0))) := qI (hk6.heap (Ga.o.heap HJ.o.blk (by simpa using HP.o.pv.symm)) (fun hx => by have := (Gc.o _ (Option.mem_toList.1 hx)).1; have := HP.o.hv; omega))
  have Gs : Hid (bv ≠ g6) := qI (by have := Gg.o.1; have := HP.o.hv; omega)
  clear hrow5 hown6 hk6 hg6 hSS
  refine hK _ _ (.inl rfl) ?_
  clear hK K
  try simp only [zA,zN,zB,zC,zD]
  have hnI : (acc.length : Int) < (acc.length : Int) + 1 := by omega
  refine qW 8 ?_ hO rfl rfl (by kernel_rfl) hQp (fun w _ => ?_) ?_
  rotate_left
  ·go_simp; try with_reducible rfl
  try simp only [zA,zN,zB,zC,zD]
  refine qW 10 ?_ hO rfl rfl (by kernel_rfl) hQp (fun w _ => ?_) ?_
  rotate_left
  ·go_simp; try with_reducible rfl
  try simp only [zA,zN,zB,zC,zD]
  have hls5 : ∀ x, x ∈ lcs ++ [ZY] → x.length = 5 := fun x hx => by
   rcases List.mem_append.1 hx with hx | hx
   ·exact Ma.o x hx
   ·simp at hx; subst hx; rfl
  have hrow6 : w6.ownsRow W.heap.size 25 5 (.slice (some ⟨g6, 0, none⟩) (acc.length + 1) d6) (acc.length + 1) (lcs ++ [ZY]).flatten := by
   have h9 := Gi.o
   rw [List.flatten_append]
   simp only [List.flatten_cons, List.flatten_nil, List.append_nil]
   exact h9
  have Jb := qI hrow6
  have Gj : Hid ((lcs ++ [ZY]).set acc.length cs3 = lcs ++ [cs3]) := qI (by
   rw [List.set_append_right _ _ (by have := Gy.o; omega), Gy.o, Nat.sub_self]
   rfl)
  have Jf := qI hls5
  have Gk : Hid ((lcs ++ [ZY]).length = acc.length + 1) := qI (by rw [List.length_append, Gy.o]; rfl)
  clear hls5 hrow6
  refine yz (i := 9) (j := 11) hO rfl rfl (by kernel_rfl) (by kernel_rfl) (by kernel_rfl) (fun K hK => ?_) (fun K hK => ?_)
  ·obtain ⟨hro, hth, hkg⟩ := yn (i := acc.length) (g := g6) (c := cs3) Jb.o Jf.o rfl Gk.o (Nat.lt_succ_self _) Gz.o.len
   rw [Gj.o] at hro
   have Gw := qI hro
   have Gl := qI hkg
   clear hro hkg
   refine wp_store_mid 25 (.tmp 11) (.tmp 7) rfl g6 (acc.length * 5) cs3.toArray rfl rfl (by rw [List.size_toArray, Gz.o.len]; exact hth) (by rw [List.size_toArray, Gz.o.len]; kernel_rfl) (all_oneCell_toArray Gz.o.one) ?_
   refine hK _ _ (.inr (.inl (by kernel_rfl))) ?_
   clear hK K
   try simp only [zA,zN,zB,zC,zD]
   have hb7 := Gl.o.heap Gr.o (by simpa using Gs.o)
   have Gm := qI hb7
   have c3 := za (o := 3) (v := .slice ak acc.length ck) hb7 rfl
   have z3 := zc (o := 3) hb7
   clear hb7
   refine qV 11 hO rfl (by kernel_rfl) (fun K hK => ?_)
   go_simp
   refine hK _ _ (.inr (.inl (by kernel_rfl))) ?_
   clear hK K
   try simp only [zA,zN,zB,zC,zD]
   refine zS hO (by kernel_rfl) ?_ _
   subst hR
   try clear hQp hO O
   clear c3 z3 hth
   have hbF := zf (i := 3) (v := .slice (some ⟨g6, 0, none⟩) (acc.length + 1) d6) Gm.o rfl
   have hkF := ((Gl.o.mono (Y := [bv, g6]) (by simp)).setCell (p := ⟨bv, 3, none⟩) (.inl (by simp)) (.slice (some ⟨g6, 0, none⟩) (acc.length + 1) d6))
   have hrF := zh Gw.o (zT _ bv 3 (.slice (some ⟨g6, 0, none⟩) (acc.length + 1) d6)) (fun i hi hx => by simp [Value.ownBlock] at hi hx; exact Gs.o (by rw [← hx, ← hi]))
   revert hbF hkF hrF
   generalize World.setCell _ ⟨bv, 3, none⟩ (.slice (some ⟨g6, 0, none⟩) (acc.length + 1) d6) = wF
   intro hbF hkF hrF
   have Gn : Qt W bv b2 b3 p d wF := (HJ.o.cap.step HP.o ((Ga.o.mono (Y := p :: bv :: g6 :: (Value.slice ak acc.length ck).ownBlock.toList) (by simp)).trans' ((Gd.o.mono (fun i hi => by simp at hi ⊢; exact .inr (.inr (.inr hi)))).trans' (hkF.mono (fun i hi => by simp at hi ⊢; rcases hi with h | h; exact .inr (.inl h); exact .inr (.inr (.inl h)))))) (fun i hi => by
    have h9 := Gp.o
    have hwz := Gu.o
    have h5z := Ga.o.size
    rcases List.mem_cons.1 hi with h | hi
    ·exact .inl h
    rcases List.mem_cons.1 hi with h | hi
    ·exact .inr (.inl h)
    rcases List.mem_cons.1 hi with h | hi
    ·subst h
     rcases h9 with h9 | h9
     ·exact .inr (.inr (Gc.o _ h9).1)
     ·exact .inr (.inr (by omega))
    ·exact .inr (.inr (Gc.o _ (Option.mem_toList.1 hi)).1)))
   have Gv : Hid (∀ x, PS w5 p S 4097 x → PS wF p S 4097 x) := qI (fun x h => (h.kept Gd.o (fun hx => by have := (Gc.o _ (Option.mem_toList.1 hx)).1; have := HP.o.hp; omega)).kept hkF (fun hx => by
    have h9 := Gp.o
    have hwz := Gu.o
    have h5z := Ga.o.size
    have hpp := HP.o.hp
    simp at hx
    rcases hx with hx | hx
    ·exact HP.o.pv hx
    ·subst hx
     rcases h9 with h9 | h9
     ·have := (Gc.o _ h9).1; omega
     ·omega))
   go_wp2_with fail
   go_end0
   refine ⟨rfl, vn (fun x hx => ?_) (fun v r c' hx => ?_)⟩
   ·have h9 := Gf.o
    unfold y9 at h9
    rw [hx] at h9
    exact ⟨Gv.o _ h9, Gn, _, _, _, hbF⟩
   ·have h9 := Gf.o
    unfold y9 at h9
    rw [hx] at h9
    exact ⟨Gv.o _ h9.1, _, _, HJ.o.snoc HP.o Gn hbF Ga.o Gd.o hkF rfl Gp.o hrF h9.2 (Gh.o)⟩
  ·have c3 := za (o := 3) (v := .slice ak acc.length ck) Gr.o rfl
   have z3 := zc (o := 3) Gr.o
   go_simp
   refine hK _ _ (.inr (.inl (by kernel_rfl))) ?_
   clear hK K
   try simp only [zA,zN,zB,zC,zD]
   clear c3 z3
   have hb7 := zf (i := 3) (v := .slice (some ⟨g6, 0, none⟩) (acc.length + 1) d6) Gr.o rfl
   have Gm := qI hb7
   have Gt := qI (zT w6 bv 3 (.slice (some ⟨g6, 0, none⟩) (acc.length + 1) d6))
   clear hb7
   revert Gm Gt
   generalize w6.setCell ⟨bv, 3, none⟩ (.slice (some ⟨g6, 0, none⟩) (acc.length + 1) d6) = w7
   intro Gm Gt
   have hrow7 := zh Jb.o Gt.o (fun i hi hx => by simp [Value.ownBlock] at hi hx; exact Gs.o (by rw [← hx, ← hi]))
   obtain ⟨hro, hth, hkg⟩ := yn (i := acc.length) (g := g6) (c := cs3) hrow7 Jf.o rfl Gk.o (Nat.lt_succ_self _) Gz.o.len
   rw [Gj.o] at hro
   have Gw := qI hro
   have Gl := qI hkg
   clear hro hkg hrow7
   refine qV 9 hO rfl (by kernel_rfl) (fun K hK => ?_)
   refine wp_store_mid 25 (.tmp 11) (.tmp 7) rfl g6 (acc.length * 5) cs3.toArray rfl rfl (by rw [List.size_toArray, Gz.o.len]; exact hth) (by rw [List.size_toArray, Gz.o.len]; kernel_rfl) (all_oneCell_toArray Gz.o.one) ?_
   refine hK _ _ (.inr (.inl (by kernel_rfl))) ?_
   clear hK K
   try simp only [zA,zN,zB,zC,zD]
   refine zS hO (by kernel_rfl) ?_ _
   subst hR
   try clear hQp hO O
   clear hth
   have hbF := Gl.o.heap Gm.o (by simpa using Gs.o)
   have hkF := ((Gt.o.mono (Y := [bv, g6]) (by simp)).trans' (Gl.o.mono (Y := [bv, g6]) (by simp)))
   have hrF := Gw.o
   revert hbF hkF hrF
   generalize World.setCells _ g6 (acc.length * 5) cs3.toArray.toList = wF
   intro hbF hkF hrF
   have Gn : Qt W bv b2 b3 p d wF := (HJ.o.cap.step HP.o ((Ga.o.mono (Y := p :: bv :: g6 :: (Value.slice ak acc.length ck).ownBlock.toList) (by simp)).trans' ((Gd.o.mono (fun i hi => by simp at hi ⊢; exact .inr (.inr (.inr hi)))).trans' (hkF.mono (fun i hi => by simp at hi ⊢; rcases hi with h | h; exact .inr (.inl h); exact .inr (.inr (.inl h)))))) (fun i hi => by
    have h9 := Gp.o
    have hwz := Gu.o
    have h5z := Ga.o.size
    rcases List.mem_cons.1 hi with h | hi
    ·exact .inl h
    rcases List.mem_cons.1 hi with h | hi
    ·exact .inr (.inl h)
    rcases List.mem_cons.1 hi with h | hi
    ·subst h
     rcases h9 with h9 | h9
     ·exact .inr (.inr (Gc.o _ h9).1)
     ·exact .inr (.inr (by omega))
    ·exact .inr (.inr (Gc.o _ (Option.mem_toList.1 hi)).1)))
   have Gv : Hid (∀ x, PS w5 p S 4097 x → PS wF p S 4097 x) := qI (fun x h => (h.kept Gd.o (fun hx => by have := (Gc.o _ (Option.mem_toList.1 hx)).1; have := HP.o.hp; omega)).kept hkF (fun hx => by
    have h9 := Gp.o
    have hwz := Gu.o
    have h5z := Ga.o.size
    have hpp := HP.o.hp
    simp at hx
    rcases hx with hx | hx
    ·exact HP.o.pv hx
    ·subst hx
     rcases h9 with h9 | h9
     ·have := (Gc.o _ h9).1; omega
     ·omega))
   go_wp2_with fail
   go_end0
   refine ⟨rfl, vn (fun x hx => ?_) (fun v r c' hx => ?_)⟩
   ·have h9 := Gf.o
    unfold y9 at h9
    rw [hx] at h9
    exact ⟨Gv.o _ h9, Gn, _, _, _, hbF⟩
   ·have h9 := Gf.o
    unfold y9 at h9
    rw [hx] at h9
    exact ⟨Gv.o _ h9.1, _, _, HJ.o.snoc HP.o Gn hbF Ga.o Gd.o hkF rfl Gp.o hrF h9.2 (Gh.o)⟩
 ·go_simp
  have Ge : Hid (zb [] WD (WD.alloc (.cells #[.int .i64 0, .int .i64 0, .string ⟨#[]⟩, .slice none 0 0, .slice none 0 0] 25))) := qI ((zb.refl [] WD).alloc _)
  have Gb := qI (yL WD [.int .i64 0, .int .i64 0, .string ⟨#[]⟩, .slice none 0 0, .slice none 0 0] 5 1 25 WD.heap.size rfl rfl (by decide))
  have hS4 : (fun w' : World => w'.cell? ⟨bv, 3, none⟩ = some (.slice ak acc.length ck) ∧ w'.cell? ⟨b2, 0, none⟩ = some (.pointer (some ⟨p, 0, none⟩)) ∧ w'.cell? ⟨b3, 0, none⟩ = some (.int .i64 d)) (WD.alloc (.cells #[.int .i64 0, .int .i64 0, .string ⟨#[]⟩, .slice none 0 0, .slice none 0 0] 25)) := ⟨Ge.o.cell hSS.1 (by simp), Ge.o.cell hSS.2.1 (by simp), Ge.o.cell hSS.2.2 (by simp)⟩
  refine hK _ _ (.inr (.inr hS4)) ?_
  clear hK K
  try simp only [zA,zN,zB,zC,zD]
  clear hSS
  have hSS := hS4
  clear hS4
  revert hSS Ge Gb
  generalize WD.alloc (.cells #[.int .i64 0, .int .i64 0, .string ⟨#[]⟩, .slice none 0 0, .slice none 0 0] 25) = w4
  intro Ge Gb hSS
  have Jg := qI (Jd.o.then Ge.o)
  refine qV 4 hO rfl (by kernel_rfl) (fun K hK => ?_)
  go_simp
  refine Calls.mono (CV.o _ Jg.o) ?_
  rintro e w5 hans
  obtain ⟨cs3, rfl, hsh, hk3, hsd⟩ := hans.said
  have Gz := qI hsh
  have Jj := qI hk3
  have Je := qI ((Jg.o.mono (Y := [p]) (by simp)).trans' hk3)
  have Ja := qI hsd
  have Gh : Hid (w.heap.size ≤ w4.heap.size) := qI Jg.o.size
  have hS3 : (fun w' : World => w'.cell? ⟨bv, 3, none⟩ = some (.slice ak acc.length ck) ∧ w'.cell? ⟨b2, 0, none⟩ = some (.pointer (some ⟨p, 0, none⟩)) ∧ w'.cell? ⟨b3, 0, none⟩ = some (.int .i64 d)) w5 := ⟨hk3.cell hSS.1 (by simpa using HP.o.pv.symm), hk3.cell hSS.2.1 (by simpa using HP.o.p2.symm), hk3.cell hSS.2.2 (by simpa using HP.o.p3.symm)⟩
  clear hans hsh hk3 hsd
  refine hK _ _ (.inr (.inr hS3)) ?_
  clear hK K
  try simp only [zA,zN,zB,zC,zD]
  clear hSS
  have hSS := hS3
  clear hS3
  have Ga := qI Je.o
  have Gf := qI Ja.o
  have Jc := qI Gb.o
  clear Gb
  have Gb := qI (Jc.o.kept Jj.o (fun i hi hx => by simp [jJ] at hi hx; have := Jd.o.size; have := Gu.o; have := HP.o.hp; omega))
  clear Ja
  have Jz := qI hSS
  have hrow5 := zh HJ.o.row Ga.o (fun i hi hx => by simp at hx; have := (Gc.o i hi).1; have := HP.o.hp; omega)
  refine qV 7 hO rfl (by kernel_rfl) (fun K hK => ?_)
  refine yp bj hrow5 Gb.o (by intro u hu; simp only [List.mem_cons, List.not_mem_nil, or_false] at hu; rcases hu with rfl | rfl | rfl | rfl | rfl <;> rfl) (by have := HN.o; simp only [maxLen]; omega) (by have := HN.o; omega) (by have := Ga.o.size; have := Gu.o; omega) (.tmp 4) (.tmp 9) rfl rfl rfl ?_
  intro b6 d6 w6 hown6 hk6 hg6
  obtain ⟨g6, rfl⟩ : ∃ g6, b6 = some ⟨g6, 0, none⟩ := by
   rcases hown6.2 with ⟨h, h1⟩ | ⟨g, cap, cur, hv, _⟩
   ·omega
   ·simp only [Value.slice.injEq] at hv; exact ⟨g, hv.1⟩
  have Gi := qI hown6
  have Gd := qI hk6
  have Gp : Hid ((Value.slice ak acc.length ck).ownBlock = some g6 ∨ g6 = w5.heap.size) := qI (by
   rcases hg6 with h | h
   ·exact .inl (by rw [← h]; rfl)
   ·exact .inr (by simpa [Value.ownBlock] using h))
  have Gg : Hid (W.heap.size ≤ g6 ∧ g6 < w6.heap.size) := qI (hown6.lt g6 rfl)
  have Gr : Hid (w6.heap[bv]? = some (.cells (qj 5 0 ⟨#[]⟩ (.slice ak acc.length ck) (.slice none 0 0)) 25 (0, 0))) := qI (hk6.heap (Ga.o.heap HJ.o.blk (by simpa using HP.o.pv.symm)) (fun hx => by have := (Gc.o _ (Option.mem_toList.1 hx)).1; have := HP.o.hv; omega))
  have Gs : Hid (bv ≠ g6) := qI (by have := Gg.o.1; have := HP.o.hv; omega)
  clear hrow5 hown6 hk6 hg6 hSS
  refine hK _ _ (.inl rfl) ?_
  clear hK K
  try simp only [zA,zN,zB,zC,zD]
  have hnI : (acc.length : Int) < (acc.length : Int) + 1 := by omega
  refine qW 8 ?_ hO rfl rfl (by kernel_rfl) hQp (fun w _ => ?_) ?_
  rotate_left
  ·go_simp; try with_reducible rfl
  try simp only [zA,zN,zB,zC,zD]
  refine qW 10 ?_ hO rfl rfl (by kernel_rfl) hQp (fun w _ => ?_) ?_
  rotate_left
  ·go_simp; try with_reducible rfl
  try simp only [zA,zN,zB,zC,zD]
  have hls5 : ∀ x, x ∈ lcs ++ [ZY] → x.length = 5 := fun x hx => by
   rcases List.mem_append.1 hx with hx | hx
   ·exact Ma.o x hx
   ·simp at hx; subst hx; rfl
  have hrow6 : w6.ownsRow W.heap.size 25 5 (.slice (some ⟨g6, 0, none⟩) (acc.length + 1) d6) (acc.length + 1) (lcs ++ [ZY]).flatten := by
   have h9 := Gi.o
   rw [List.flatten_append]
   simp only [List.flatten_cons, List.flatten_nil, List.append_nil]
   exact h9
  have Jb := qI hrow6
  have Gj : Hid ((lcs ++ [ZY]).set acc.length cs3 = lcs ++ [cs3]) := qI (by
   rw [List.set_append_right _ _ (by have := Gy.o; omega), Gy.o, Nat.sub_self]
   rfl)
  have Jf := qI hls5
  have Gk : Hid ((lcs ++ [ZY]).length = acc.length + 1) := qI (by rw [List.length_append, Gy.o]; rfl)
  clear hls5 hrow6
  refine yz (i := 9) (j := 11) hO rfl rfl (by kernel_rfl) (by kernel_rfl) (by kernel_rfl) (fun K hK => ?_) (fun K hK => ?_)
  ·obtain ⟨hro, hth, hkg⟩ := yn (i := acc.length) (g := g6) (c := cs3) Jb.o Jf.o rfl Gk.o (Nat.lt_succ_self _) Gz.o.len
   rw [Gj.o] at hro
   have Gw := qI hro
   have Gl := qI hkg
   clear hro hkg
   refine wp_store_mid 25 (.tmp 11) (.tmp 7) rfl g6 (acc.length * 5) cs3.toArray rfl rfl (by rw [List.size_toArray, Gz.o.len]; exact hth) (by rw [List.size_toArray, Gz.o.len]; kernel_rfl) (all_oneCell_toArray Gz.o.one) ?_
   refine hK _ _ (.inr (.inl (by kernel_rfl))) ?_
   clear hK K
   try simp only [zA,zN,zB,zC,zD]
   have hb7 := Gl.o.heap Gr.o (by simpa using Gs.o)
   have Gm := qI hb7
   have c3 := za (o := 3) (v := .slice ak acc.length ck) hb7 rfl
   have z3 := zc (o := 3) hb7
   clear hb7
   refine qV 11 hO rfl (by kernel_rfl) (fun K hK => ?_)
   go_simp
   refine hK _ _ (.inr (.inl (by kernel_rfl))) ?_
   clear hK K
   try simp only [zA,zN,zB,zC,zD]
   refine zS hO (by kernel_rfl) ?_ _
   subst hR
   try clear hQp hO O
   clear c3 z3 hth
   have hbF := zf (i := 3) (v := .slice (some ⟨g6, 0, none⟩) (acc.length + 1) d6) Gm.o rfl
   have hkF := ((Gl.o.mono (Y := [bv, g6]) (by simp)).setCell (p := ⟨bv, 3, none⟩) (.inl (by simp)) (.slice (some ⟨g6, 0, none⟩) (acc.length + 1) d6))
   have hrF := zh Gw.o (zT _ bv 3 (.slice (some ⟨g6, 0, none⟩) (acc.length + 1) d6)) (fun i hi hx => by simp [Value.ownBlock] at hi hx; exact Gs.o (by rw [← hx, ← hi]))
   revert hbF hkF hrF
   generalize World.setCell _ ⟨bv, 3, none⟩ (.slice (some ⟨g6, 0, none⟩) (acc.length + 1) d6) = wF
   intro hbF hkF hrF
   have Gn : Qt W bv b2 b3 p d wF := (HJ.o.cap.step HP.o ((Ga.o.mono (Y := p :: bv :: g6 :: (Value.slice ak acc.length ck).ownBlock.toList) (by simp)).trans' ((Gd.o.mono (fun i hi => by simp at hi ⊢; exact .inr (.inr (.inr hi)))).trans' (hkF.mono (fun i hi => by simp at hi ⊢; rcases hi with h | h; exact .inr (.inl h); exact .inr (.inr (.inl h)))))) (fun i hi => by
    have h9 := Gp.o
    have hwz := Gu.o
    have h5z := Ga.o.size
    rcases List.mem_cons.1 hi with h | hi
    ·exact .inl h
    rcases List.mem_cons.1 hi with h | hi
    ·exact .inr (.inl h)
    rcases List.mem_cons.1 hi with h | hi
    ·subst h
     rcases h9 with h9 | h9
     ·exact .inr (.inr (Gc.o _ h9).1)
     ·exact .inr (.inr (by omega))
    ·exact .inr (.inr (Gc.o _ (Option.mem_toList.1 hi)).1)))
   have Gv : Hid (∀ x, PS w5 p S 4097 x → PS wF p S 4097 x) := qI (fun x h => (h.kept Gd.o (fun hx => by have := (Gc.o _ (Option.mem_toList.1 hx)).1; have := HP.o.hp; omega)).kept hkF (fun hx => by
    have h9 := Gp.o
    have hwz := Gu.o
    have h5z := Ga.o.size
    have hpp := HP.o.hp
    simp at hx
    rcases hx with hx | hx
    ·exact HP.o.pv hx
    ·subst hx
     rcases h9 with h9 | h9
     ·have := (Gc.o _ h9).1; omega
     ·omega))
   go_wp2_with fail
   go_end0
   refine ⟨rfl, vn (fun x hx => ?_) (fun v r c' hx => ?_)⟩
   ·have h9 := Gf.o
    unfold y9 at h9
    rw [hx] at h9
    exact ⟨Gv.o _ h9, Gn, _, _, _, hbF⟩
   ·have h9 := Gf.o
    unfold y9 at h9
    rw [hx] at h9
    exact ⟨Gv.o _ h9.1, _, _, HJ.o.snoc HP.o Gn hbF Ga.o Gd.o hkF rfl Gp.o hrF h9.2 (Gh.o)⟩
  ·have c3 := za (o := 3) (v := .slice ak acc.length ck) Gr.o rfl
   have z3 := zc (o := 3) Gr.o
   go_simp
   refine hK _ _ (.inr (.inl (by kernel_rfl))) ?_
   clear hK K
   try simp only [zA,zN,zB,zC,zD]
   clear c3 z3
   have hb7 := zf (i := 3) (v := .slice (some ⟨g6, 0, none⟩) (acc.length + 1) d6) Gr.o rfl
   have Gm := qI hb7
   have Gt := qI (zT w6 bv 3 (.slice (some ⟨g6, 0, none⟩) (acc.length + 1) d6))
   clear hb7
   revert Gm Gt
   generalize w6.setCell ⟨bv, 3, none⟩ (.slice (some ⟨g6, 0, none⟩) (acc.length + 1) d6) = w7
   intro Gm Gt
   have hrow7 := zh Jb.o Gt.o (fun i hi hx => by simp [Value.ownBlock] at hi hx; exact Gs.o (by rw [← hx, ← hi]))
   obtain ⟨hro, hth, hkg⟩ := yn (i := acc.length) (g := g6) (c := cs3) hrow7 Jf.o rfl Gk.o (Nat.lt_succ_self _) Gz.o.len
   rw [Gj.o] at hro
   have Gw := qI hro
   have Gl := qI hkg
   clear hro hkg hrow7
   refine qV 9 hO rfl (by kernel_rfl) (fun K hK => ?_)
   refine wp_store_mid 25 (.tmp 11) (.tmp 7) rfl g6 (acc.length * 5) cs3.toArray rfl rfl (by rw [List.size_toArray, Gz.o.len]; exact hth) (by rw [List.size_toArray, Gz.o.len]; kernel_rfl) (all_oneCell_toArray Gz.o.one) ?_
   refine hK _ _ (.inr (.inl (by kernel_rfl))) ?_
   clear hK K
   try simp only [zA,zN,zB,zC,zD]
   refine zS hO (by kernel_rfl) ?_ _
   subst hR
   try clear hQp hO O
   clear hth
   have hbF := Gl.o.heap Gm.o (by simpa using Gs.o)
   have hkF := ((Gt.o.mono (Y := [bv, g6]) (by simp)).trans' (Gl.o.mono (Y := [bv, g6]) (by simp)))
   have hrF := Gw.o
   revert hbF hkF hrF
   generalize World.setCells _ g6 (acc.length * 5) cs3.toArray.toList = wF
   intro hbF hkF hrF
   have Gn : Qt W bv b2 b3 p d wF := (HJ.o.cap.step HP.o ((Ga.o.mono (Y := p :: bv :: g6 :: (Value.slice ak acc.length ck).ownBlock.toList) (by simp)).trans' ((Gd.o.mono (fun i hi => by simp at hi ⊢; exact .inr (.inr (.inr hi)))).trans' (hkF.mono (fun i hi => by simp at hi ⊢; rcases hi with h | h; exact .inr (.inl h); exact .inr (.inr (.inl h)))))) (fun i hi => by
    have h9 := Gp.o
    have hwz := Gu.o
    have h5z := Ga.o.size
    rcases List.mem_cons.1 hi with h | hi
    ·exact .inl h
    rcases List.mem_cons.1 hi with h | hi
    ·exact .inr (.inl h)
    rcases List.mem_cons.1 hi with h | hi
    ·subst h
     rcases h9 with h9 | h9
     ·exact .inr (.inr (Gc.o _ h9).1)
     ·exact .inr (.inr (by omega))
    ·exact .inr (.inr (Gc.o _ (Option.mem_toList.1 hi)).1)))
   have Gv : Hid (∀ x, PS w5 p S 4097 x → PS wF p S 4097 x) := qI (fun x h => (h.kept Gd.o (fun hx => by have := (Gc.o _ (Option.mem_toList.1 hx)).1; have := HP.o.hp; omega)).kept hkF (fun hx => by
    have h9 := Gp.o
    have hwz := Gu.o
    have h5z := Ga.o.size
    have hpp := HP.o.hp
    simp at hx
    rcases hx with hx | hx
    ·exact HP.o.pv hx
    ·subst hx
     rcases h9 with h9 | h9
     ·have := (Gc.o _ h9).1; omega
     ·omega))
   go_wp2_with fail
   go_end0
   refine ⟨rfl, vn (fun x hx => ?_) (fun v r c' hx => ?_)⟩
   ·have h9 := Gf.o
    unfold y9 at h9
    rw [hx] at h9
    exact ⟨Gv.o _ h9, Gn, _, _, _, hbF⟩
   ·have h9 := Gf.o
    unfold y9 at h9
    rw [hx] at h9
    exact ⟨Gv.o _ h9.1, _, _, HJ.o.snoc HP.o Gn hbF Ga.o Gd.o hkF rfl Gp.o hrF h9.2 (Gh.o)⟩
end
def kA : List Value := [.string ⟨#[]⟩, .int .i64 0, .int .i64 0, .string ⟨#[]⟩, .slice none 0 0, .slice none 0 0]
structure bX (W : World) (bv b2 b3 b6 bm p d : Nat) (w : World) : Prop where
 ptr : w.heap[b2]? = some (.cells #[.pointer (some ⟨p, 0, none⟩)] 61 (0, 0))
 dep : w.heap[b3]? = some (.cells #[.int .i64 d] 3 (0, 0))
 box : w.heap[b6]? = some (.cells #[.map (some bm)] 176 (0, 0))
 kept : zb [p, bv, bm] W w
structure MPos (W : World) (bv b2 b3 b6 bm p : Nat) : Prop where
 hp : p < W.heap.size
 hv : bv < W.heap.size
 hm : bm < W.heap.size
 h2 : b2 < W.heap.size
 h3 : b3 < W.heap.size
 h6 : b6 < W.heap.size
 ltv : p < bv
 ltm : p < bm
 p2 : b2 ≠ p
 p3 : b3 ≠ p
 p6 : b6 ≠ p
 v2 : b2 ≠ bv
 v3 : b3 ≠ bv
 v6 : b6 ≠ bv
 m2 : b2 ≠ bm
 m3 : b3 ≠ bm
 m6 : b6 ≠ bm
 vm : bv ≠ bm
structure MJ (W : World) (bv b2 b3 b6 bm p d : Nat) (seen : List ByteArray) (acc : List (ByteArray × V d)) (w : World) (vm : Value) (mcs : List (ByteArray × List Value)) : Prop where
 cap : bX W bv b2 b3 b6 bm p d w
 saw : xN w bm seen
 blk : w.heap[bv]? = some (.cells (qj 6 0 ⟨#[]⟩ (.slice none 0 0) vm) 25 (0, 0))
 row : w.ownsRow W.heap.size 60 6 vm acc.length (zQ mcs)
 all : yc (jj (Rep d (fun g => W.heap.size ≤ g ∧ vm.ownBlock ≠ some g) w)) mcs acc
structure MBad (W : World) (bv b2 b3 b6 bm p d : Nat) (w : World) : Prop where
 cap : bX W bv b2 b3 b6 bm p d w
 blk : ∃ a n c, w.heap[bv]? = some (.cells (qj 6 0 ⟨#[]⟩ (.slice none 0 0) (.slice a n c)) 25 (0, 0))
section
variable {W w w' : World} {bv b2 b3 b6 bm p d : Nat}
theorem bX.step (h : bX W bv b2 b3 b6 bm p d w) (hp : MPos W bv b2 b3 b6 bm p) {X : List Nat} (k : zb X w w') (hX : ∀ g, g ∈ X → g = p ∨ g = bv ∨ g = bm ∨ W.heap.size ≤ g) : bX W bv b2 b3 b6 bm p d w' := by
 have hz := h.kept.size
 have far : ∀ b, b < W.heap.size → b ≠ p → b ≠ bv → b ≠ bm → b ∉ X := fun b h1 h2 h3 h4 hx => by
  rcases hX _ hx with e | e | e | e
  ·exact h2 e
  ·exact h3 e
  ·exact h4 e
  ·omega
 refine ⟨k.heap h.ptr (far _ hp.h2 hp.p2 hp.v2 hp.m2), k.heap h.dep (far _ hp.h3 hp.p3 hp.v3 hp.m3), k.heap h.box (far _ hp.h6 hp.p6 hp.v6 hp.m6), h.kept.trans k ?_⟩
 intro g hg
 rcases hX _ hg with e | e | e | e
 ·exact .inl (by simp [e])
 ·exact .inl (by simp [e])
 ·exact .inl (by simp [e])
 ·exact .inr e
theorem bX.tabs (h : bX W bv b2 b3 b6 bm p d w) (hp : MPos W bv b2 b3 b6 bm p) (hT : xr p W) : xr p w := by
 obtain ⟨Wt, h1, h2, h3⟩ := hT
 have := hp.ltv
 have := hp.ltm
 exact ⟨Wt, h1, h2.trans h.kept (fun i hi => by simp at hi; exact .inr (by omega)), h3⟩
theorem MJ.step {seen : List ByteArray} {acc : List (ByteArray × V d)} {vm : Value} {mcs : List (ByteArray × List Value)} (h : MJ W bv b2 b3 b6 bm p d seen acc w vm mcs) (hp : MPos W bv b2 b3 b6 bm p) (k : zb [p] w w') : MJ W bv b2 b3 b6 bm p d seen acc w' vm mcs :=
 ⟨h.cap.step hp k (fun g hg => by simp at hg; exact .inl hg), h.saw.kept k (by have := hp.ltm; simp; omega), k.heap h.blk (by have := hp.ltv; simp; omega), zh h.row k (fun g hg hx => by simp at hx; have := (h.row.lt g hg).1; have := hp.hp; omega), h.all.mono fun _ _ _ r => ⟨r.1, r.2.move k (fun g _ q => ⟨fun hx => by simp at hx; have := hp.hp; omega, q⟩)⟩⟩
theorem MJ.put {seen seen' : List ByteArray} {acc : List (ByteArray × V d)} {vm : Value} {mcs : List (ByteArray × List Value)} (h : MJ W bv b2 b3 b6 bm p d seen acc w vm mcs) (hp : MPos W bv b2 b3 b6 bm p) (k : zb [bm] w w') (hs : xN w' bm seen') : MJ W bv b2 b3 b6 bm p d seen' acc w' vm mcs :=
 ⟨h.cap.step hp k (fun g hg => by simp at hg; exact .inr (.inr (.inl hg))), hs, k.heap h.blk (by simpa using hp.vm), zh h.row k (fun g hg hx => by simp at hx; have := (h.row.lt g hg).1; have := hp.hm; omega), h.all.mono fun _ _ _ r => ⟨r.1, r.2.move k (fun g _ q => ⟨fun hx => by simp at hx; have := hp.hm; omega, q⟩)⟩⟩
theorem MBad.step (h : MBad W bv b2 b3 b6 bm p d w) (hp : MPos W bv b2 b3 b6 bm p) (k : zb [p] w w') : MBad W bv b2 b3 b6 bm p d w' := by
 obtain ⟨a, n, c, hb⟩ := h.blk
 exact ⟨h.cap.step hp k (fun g hg => by simp at hg; exact .inl hg), a, n, c, k.heap hb (by have := hp.ltv; simp; omega)⟩
theorem MJ.bad {seen : List ByteArray} {acc : List (ByteArray × V d)} {vm : Value} {mcs : List (ByteArray × List Value)} (h : MJ W bv b2 b3 b6 bm p d seen acc w vm mcs) : MBad W bv b2 b3 b6 bm p d w := by
 obtain ⟨a, c, rfl, -, -⟩ := (Slc.of_row h.row).form
 exact ⟨h.cap, _, _, _, h.blk⟩
theorem MJ.snoc {seen : List ByteArray} {acc : List (ByteArray × V d)} {vm vm' : Value} {mcs : List (ByteArray × List Value)} {w5 w6 wF : World} {cs : List Value} {key : ByteArray} {v : V d} {g Bc : Nat} (h : MJ W bv b2 b3 b6 bm p d seen acc w vm mcs) (hp : MPos W bv b2 b3 b6 bm p)
  (hcap : bX W bv b2 b3 b6 bm p d wF) (hsaw : xN wF bm seen) (hblk : wF.heap[bv]? = some (.cells (qj 6 0 ⟨#[]⟩ (.slice none 0 0) vm') 25 (0, 0)))
  (k5 : zb [p] w w5) (k6 : zb vm.ownBlock.toList w5 w6) (kF : zb [bv, g] w6 wF) (hown : vm'.ownBlock = some g) (hg : vm.ownBlock = some g ∨ g = w5.heap.size) (hrow : wF.ownsRow W.heap.size 60 6 vm' (acc.length + 1) (zQ (mcs ++ [(key, cs)])))
  (hrep : Rep d (fun i => Bc ≤ i) w5 cs v) (hB : w.heap.size ≤ Bc) : MJ W bv b2 b3 b6 bm p d seen (acc ++ [(key, v)]) wF vm' (mcs ++ [(key, cs)]) := by
 have hpw := hp.hp
 have hvw := hp.hv
 have hz := h.cap.kept.size
 have hz5 := k5.size
 refine ⟨hcap, hsaw, hblk, by rw [List.length_append]; exact hrow, yc.snoc (h.all.mono fun c y _ r => ⟨r.1, ?_⟩) ⟨rfl, ?_⟩⟩
 ·refine ((r.2.move (T := fun i => W.heap.size ≤ i ∧ vm.ownBlock ≠ some i ∧ i < w.heap.size) k5 (fun i hi q => ⟨fun hx => by simp at hx; omega, q.1, q.2, hi⟩)).move (T := fun i => W.heap.size ≤ i ∧ vm.ownBlock ≠ some i ∧ i < w.heap.size) k6 (fun i hi q => ⟨fun hx => q.2.1 (Option.mem_toList.1 hx), q⟩)).move kF (fun i hi q => ⟨fun hx => ?_, q.1, fun hx => ?_⟩)
  ·simp at hx
   rcases hx with hx | hx
   ·omega
   ·rcases hg with hg | hg
    ·exact q.2.1 (by rw [hg, hx])
    ·omega
  ·rw [hown] at hx
   injection hx with hx
   rcases hg with hg | hg
   ·exact q.2.1 (by rw [hg, hx])
   ·omega
 ·refine (hrep.move (T := fun i => Bc ≤ i ∧ i < w5.heap.size ∧ vm.ownBlock ≠ some i) k6 (fun i hi q => ⟨fun hx => ?_, q, hi, fun hx => ?_⟩)).move kF (fun i hi q => ⟨fun hx => ?_, by omega, fun hx => ?_⟩)
  ·have := (h.row.lt i (Option.mem_toList.1 hx)).2; omega
  ·have := (h.row.lt i hx).2; omega
  ·simp at hx
   rcases hx with hx | hx
   ·omega
   ·rcases hg with hg | hg
    ·exact q.2.2 (by rw [hg, hx])
    ·omega
  ·rw [hown] at hx
   injection hx with hx
   rcases hg with hg | hg
   ·exact q.2.2 (by rw [hg, hx])
   ·omega
def kB (seen : List ByteArray) (x : PX) : PX := vO [58] (qi (if seen.any (fun k => decide (k = zg (YG (qi x)))) = true then Q0 53 (Zy (qi x)) else Zy (qi x)))
def vR (x : PX) : ByteArray := zg (YG (qi x))
theorem head_eat (r : List UInt8) (c : Nat) : vO [58] (.inr (r, c)) = if r.head? = some 58 then .inr (r.tail, c) else .inl 50 := by
 unfold vO
 rw [ji]
 by_cases h : r.head? = some 58
 ·rw [decide_eq_true h, if_pos rfl, if_pos h]
  show (Sum.inr (r.drop 1, c) : PX) = _
  rw [List.drop_one]
 ·rw [decide_eq_false h, if_neg (by decide), if_neg h]
  rfl
theorem pairStep_eq {d : Nat} (s : List UInt8) (c : Nat) (acc : List (ByteArray × V d)) : yj (zr d) s c acc = match kB (acc.map (fun q => q.1)) (.inr (s, c)) with
  | .inl e => .inl e
  | .inr (s', c') => match zr d s' c' with
   | .inl e => .inl e
   | .inr (v, r, c'') => .inr (acc ++ [(vR (.inr (s, c)), v)], r, c'') := by
 have ha : ∀ k : List UInt8, (acc.map (fun q => q.1)).any (fun x => decide (x = zg k)) = acc.any (fun q => decide (q.1 = zg k)) := fun k => by rw [List.any_map]; rfl
 unfold yj kB vR
 have hs : qi (.inr (s, c)) = .inr (zp s, c) := rfl
 rw [hs]
 cases hu : qd (zp s) with
 | inl e =>
  rw [(bw hu).1, (bw hu).2]
  simp only
  have h9 : ∀ b : Bool, (if b = true then Q0 53 (Sum.inl e : PX) else Sum.inl e) = Sum.inl e := fun b => by cases b <;> rfl
  rw [h9]
  rfl
 | inr y =>
  obtain ⟨k, r⟩ := y
  rw [(bL hu).1, (bL hu).2, ha]
  simp only
  by_cases h1 : acc.any (fun q => decide (q.1 = zg k)) = true
  ·rw [if_pos h1, if_pos h1]
   rfl
  ·rw [if_neg h1, if_neg h1]
   have h2 : qi (.inr (r, c)) = .inr (zp r, c) := rfl
   rw [h2, head_eat]
   by_cases h3 : (zp r).head? = some 58
   ·rw [if_pos h3, if_pos h3]
    simp only
    cases zr d (zp r).tail c with
    | inl e => rfl
    | inr z => obtain ⟨v, q, c2⟩ := z; rfl
   ·rw [if_neg h3, if_neg h3]
theorem pairX_cnt (seen : List ByteArray) (s : List UInt8) (c : Nat) (hc : c ≤ 4096) : Y8 (kB seen (.inr (s, c))) := by
 unfold kB
 have h1 : ∀ x, Y8 x → Y8 (qi x) := fun x h => by cases x with | inl e => exact h | inr q => exact h
 have h2 : ∀ x, Y8 x → Y8 (vO [58] x) := fun x h => by
  cases x with
  | inl e => exact trivial
  | inr q => obtain ⟨r, c⟩ := q; rw [head_eat]; split; exact h; exact trivial
 have h3 : ∀ x, Y8 x → Y8 (Zy x) := fun x h => by
  cases x with
  | inl e => exact h
  | inr q =>
   obtain ⟨r, c⟩ := q
   unfold Zy
   simp only
   split
   ·exact trivial
   ·exact h
 refine h2 _ (h1 _ ?_)
 have h4 := h3 _ (h1 (.inr (s, c)) hc)
 split
 ·revert h4
  cases Zy (qi (.inr (s, c))) with
  | inl e => exact fun _ => trivial
  | inr q => exact fun _ => trivial
 ·exact h4
def bI (W : World) (bv b2 b3 b6 bm p d : Nat) (S : ByteArray) (s : List UInt8) (c : Nat) (acc : List (ByteArray × V d)) (w' : World) : Prop :=
 match yj (zr d) s c acc with
 | .inl x => PS w' p S 4097 (.inl x) ∧ MBad W bv b2 b3 b6 bm p d w'
 | .inr (acc', r, c') => PS w' p S 4097 (.inr (r, c')) ∧ ∃ vm mcs, MJ W bv b2 b3 b6 bm p d (acc'.map (fun q => q.1)) acc' w' vm mcs
def jY (d : Nat) (X : PX) (p : Nat) (S : ByteArray) (Bc : Nat) (cs : List Value) (w' : World) : Prop :=
 match X with
 | .inl x => PS w' p S 4097 (.inl x)
 | .inr (s, c) => y9 d s c p S Bc cs w'
theorem jY.kept0 {X : PX} {Bc : Nat} {S : ByteArray} {cs : List Value} (h : jY d X p S Bc cs w) (k : zb [] w w') : jY d X p S Bc cs w' := by
 cases X with
 | inl x => exact PS.kept0 h k
 | inr y => obtain ⟨s, c⟩ := y; exact y9.kept0 h k
theorem xU.saidX {X : PX} {S : ByteArray} {e : Ending} (h : xU d X p S w e w') : ∃ cs : List Value, e = .returned (.agg cs.toArray) ∧ jk cs ∧ zb [p] w w' ∧ jY d X p S w.heap.size cs w' := by
 cases X with
 | inl x => obtain ⟨cs, h1, h2, h3, h4⟩ := h; exact ⟨cs, h1, h2, h3, h4⟩
 | inr y => obtain ⟨s, c⟩ := y; exact xU.said h
theorem xS {S : ByteArray} {s : List UInt8} {c : Nat} {acc : List (ByteArray × V d)} {X : PX} {wS : World} {Bc : Nat} {cs : List Value} (hX : kB (acc.map (fun q => q.1)) (.inr (s, c)) = X) (hsd : jY d X p S Bc cs wS)
  (hPS : ∀ x, PS wS p S 4097 x → PS w' p S 4097 x) (h1 : MBad W bv b2 b3 b6 bm p d w')
  (h2 : ∀ v, Rep d (fun i => Bc ≤ i) wS cs v → ∃ vm mcs, MJ W bv b2 b3 b6 bm p d ((acc ++ [(vR (.inr (s, c)), v)]).map (fun q => q.1)) (acc ++ [(vR (.inr (s, c)), v)]) w' vm mcs) : bI W bv b2 b3 b6 bm p d S s c acc w' := by
 unfold bI
 rw [pairStep_eq, hX]
 cases X with
 | inl x => exact ⟨hPS _ hsd, h1⟩
 | inr y =>
  obtain ⟨s', c'⟩ := y
  unfold jY y9 at hsd
  simp only at hsd ⊢
  cases h : zr d s' c' with
  | inl x => rw [h] at hsd; exact ⟨hPS _ hsd, h1⟩
  | inr z =>
   obtain ⟨v, r, c''⟩ := z
   rw [h] at hsd
   exact ⟨hPS _ hsd.1, h2 v hsd.2⟩
end
section
variable {W w : World} {bv b2 b3 b6 bm p d : Nat} {S : ByteArray} {s : List UInt8} {c : Nat} {acc : List (ByteArray × V d)} {vm : Value} {mcs : List (ByteArray × List Value)}
theorem lit_size {S : ByteArray} {x : PX} {w : World} {p B : Nat} (h : PS w p S B x) : (zg (YG x)).size ≤ S.size := by
 rw [zK]
 cases x with
 | inl e => simp [YG]
 | inr q =>
  obtain ⟨r, c⟩ := q
  obtain ⟨i, h1, hi, hc, hr⟩ := h.open_ok
  have hl := yv hr hi
  cases hu : qd r with
  | inl e => rw [(bw hu).2]; simp
  | inr y =>
   obtain ⟨t, r'⟩ := y
   rw [(bL hu).2]
   have := (bG hu).2
   omega
theorem pairs1_any (IH0 : xf d) (hp : MPos W bv b2 b3 b6 bm p) (hj : MJ W bv b2 b3 b6 bm p d (acc.map (fun q => q.1)) acc w vm mcs) (hs : PS w p S 4097 (.inr (s, c))) (hc : c ≤ 4096) (hS : S.size ≤ 262144) (hT : xr p W) (hn : acc.length ≤ 5000) :
  Calls Tryz.prog 160 #[.pointer (some ⟨b2, 0, none⟩), .pointer (some ⟨b6, 0, none⟩), .pointer (some ⟨bv, 0, none⟩), .pointer (some ⟨b3, 0, none⟩)] w fun e w' => e = .returned (.tuple #[]) ∧ bI W bv b2 b3 b6 bm p d S s c acc w' := by
 obtain ⟨ak, ck, rfl, -, -⟩ := (Slc.of_row hj.row).form
 have HJ := qI hj
 have HP := qI hp
 have HT := qI hT
 have HN := qI hn
 have Mb := @qI (xf d) (by exact @IH0)
 have f2 := za (o := 0) (v := .pointer (some ⟨p, 0, none⟩)) hj.cap.ptr rfl
 have CS1 := qI (xe hs hS)
 have Jv := qI (pairX_cnt (acc.map (fun q => q.1)) s c hc)
 have Jk : Hid (kB (acc.map (fun q => q.1)) (.inr (s, c)) = vO [58] (qi (if (acc.map (fun q => q.1)).any (fun k => decide (k = vR (.inr (s, c)))) = true then Q0 53 (Zy (qi (.inr (s, c)))) else Zy (qi (.inr (s, c)))))) := qI rfl
 have Jd : Hid (vR (.inr (s, c)) = zg (YG (qi (.inr (s, c))))) := qI rfl
 have Mc : Hid ((acc.map (fun q => q.1)).length ≤ 5000) := qI (by rw [List.length_map]; exact hn)
 clear hj hs IH0 hc hn hT hp
 revert CS1 Jd Jk
 generalize qi (.inr (s, c)) = X1
 intro CS1 Jk Jd
 go_enter func160, ntmps160
 go_wp2_with fail
 refine CS1.o.mono ?_
 rintro e w1 ⟨rfl, hp1, hk1⟩
 have Jp := qI (HJ.o.step HP.o hk1)
 have Md := qI hp1
 have f2' := za (o := 0) (v := .pointer (some ⟨p, 0, none⟩)) Jp.o.cap.ptr rfl
 obtain ⟨i1, c1, e1, ha1, hi1, hc1⟩ := hp1.places
 have l1 := za (o := 1) (v := .int .i64 i1) ha1 rfl
 have Mf := qI hi1
 have Jw := qI (lit_size hp1)
 have CL := qI (Z5 hp1 (Jp.o.cap.tabs HP.o HT.o) hS)
 rw [← Jd.o] at CL Jw
 clear hk1 hp1 f2 ha1 hi1 hc1
 go_wp2_with fail
 refine CL.o.mono ?_
 rintro e w2 ⟨rfl, hp2, hk2⟩
 have Jl := qI (Jp.o.step HP.o hk2)
 have Jx := qI hp2
 have g2 := za (o := 0) (v := .pointer (some ⟨p, 0, none⟩)) Jl.o.cap.ptr rfl
 have g6 := za (o := 0) (v := .map (some bm)) Jl.o.cap.box rfl
 have hlook := Jl.o.saw.look (vR (.inr (s, c))) (by have := Jw.o; omega)
 clear hk2 hp2 f2' l1
 cases hb : (acc.map (fun q => q.1)).any (fun k => decide (k = vR (.inr (s, c))))
 ·rw [hb] at hlook Jk
  have Jq : Hid (kB (acc.map (fun q => q.1)) (.inr (s, c)) = vO [58] (qi (Zy X1))) := qI Jk.o
  clear hb
  obtain ⟨w4, hput, hs4, hk4⟩ := Jl.o.saw.put (vR (.inr (s, c))) (by have := Jw.o; omega) (by have := Mc.o; omega)
  have Jm := qI (Jl.o.put HP.o hk4 hs4)
  have Jr := qI (Jx.o.kept hk4 (by have := HP.o.ltm; simp; omega))
  have m2 := za (o := 0) (v := .pointer (some ⟨p, 0, none⟩)) Jm.o.cap.ptr rfl
  clear hs4 hk4
  have CS4 := qI (xe Jr.o hS)
  go_wp2_with fail
  refine CS4.o.mono ?_
  rintro e w5 ⟨rfl, hp5, hk5⟩
  have Jn := qI (Jm.o.step HP.o hk5)
  have Js := qI hp5
  have n2 := za (o := 0) (v := .pointer (some ⟨p, 0, none⟩)) Jn.o.cap.ptr rfl
  clear hp5 hk5 m2 hput
  have CN5 := qI (kP Js.o hS ⟨#[58]⟩)
  rw [show (⟨#[58]⟩ : ByteArray).data.toList = [58] from rfl, ← Jq.o] at CN5
  go_wp2_with fail
  refine CN5.o.mono ?_
  rintro e w0 ⟨rfl, hp6, hk6⟩
  have hj0 := Jn.o.step HP.o hk6
  have Jt := qI hp6
  clear hp6 hk6 n2 CN5 CS4 CL CS1 Md Jx Jr Js Jp Jl Jm Jn
  clear HJ
  have HJ := qI hj0
  have Gc : Hid (∀ g, (Value.slice ak acc.length ck).ownBlock = some g → W.heap.size ≤ g ∧ g < w0.heap.size) := qI (fun g hg => hj0.row.lt g hg)
  have Gu : Hid (W.heap.size ≤ w0.heap.size) := qI hj0.cap.kept.size
  have Gy : Hid (mcs.length = acc.length) := qI hj0.all.1
  have Ju : Hid (∀ x, x ∈ mcs.map zM → x.length = 6) := qI (fun x hx => by
   obtain ⟨q, hq, rfl⟩ := List.mem_map.1 hx
   obtain ⟨j, hj', rfl⟩ := List.getElem_of_mem hq
   have h9 := (hj0.all.2 j _ _ (List.getElem?_eq_getElem hj') (List.getElem?_eq_getElem (by rw [← hj0.all.1]; exact hj'))).2.len
   simp [zM, h9])
  have CV : Hid (∀ w', zb [] w0 w' → Calls Tryz.prog 49 #[.pointer (some ⟨p, 0, none⟩), .int .i64 d] w' fun e w2 => xU d (kB (acc.map (fun q => q.1)) (.inr (s, c))) p S w' e w2) := qI (fun w' k => Mb.o (Jt.o.kept0 k) Jv.o hS ((hj0.cap.tabs HP.o HT.o).step (k.mono (by simp))))
  have f3 := za (o := 4) (v := .slice ak acc.length ck) hj0.blk rfl
  have f2 := za (o := 0) (v := .pointer (some ⟨p, 0, none⟩)) hj0.cap.ptr rfl
  have f1 := za (o := 0) (v := .int .i64 d) hj0.cap.dep rfl
  clear hj0 Jk Jq Jt Jv
  have Jo : Hid (kB (acc.map (fun q => q.1)) (.inr (s, c)) = kB (acc.map (fun q => q.1)) (.inr (s, c))) := qI rfl
  revert CV Jo
  generalize hXX : kB (acc.map (fun q => q.1)) (.inr (s, c)) = X
  have Jh := qI hXX
  clear hXX
  intro CV Jo
  clear Jo
  generalize hkk : vR (.inr (s, c)) = key at *
  have Ji := qI hkk
  clear hkk
  go_wp2_with fail
  refine xX (n := 14) (fun w' : World => w'.cell? ⟨bv, 4, none⟩ = some (.slice ak acc.length ck) ∧ w'.cell? ⟨b2, 0, none⟩ = some (.pointer (some ⟨p, 0, none⟩)) ∧ w'.cell? ⟨b3, 0, none⟩ = some (.int .i64 d)) 9 (by kernel_rfl) (by kernel_rfl) ?_
  change yl _ _ _ _ _ _ _ _ _ w0.drew
  have hSS : (fun w' : World => w'.cell? ⟨bv, 4, none⟩ = some (.slice ak acc.length ck) ∧ w'.cell? ⟨b2, 0, none⟩ = some (.pointer (some ⟨p, 0, none⟩)) ∧ w'.cell? ⟨b3, 0, none⟩ = some (.int .i64 d)) w0.drew := ⟨f3, f2, f1⟩
  have Gq : Hid (zb [] w0 w0.drew) := qI (zb.refl _ _).drew
  clear f1 f2 f3
  revert hSS Gq
  generalize w0.drew = WD
  intro hSS Gq
  refine xC ?_
  intro O R hO hR
  have hQp : ∀ c a (d : Nat) v w, R (.panic c) (a.put (some d) v) w → R (.panic c) a w := by subst hR; exact fun _ _ _ _ _ h => h
  refine qU 0 ?_ hO rfl rfl (by kernel_rfl) hQp (fun w hSw => ?_) hSS ?_
  rotate_left
  ·go_simp; try with_reducible rfl
  try simp only [zA,zN,zB,zC,zD]
  refine qU 1 ?_ hO rfl rfl (by kernel_rfl) hQp (fun w hSw => ?_) hSS ?_
  rotate_left
  ·obtain ⟨s0, s1, s2⟩ := hSw; go_simp; try with_reducible rfl
  try simp only [zA,zN,zB,zC,zD]
  refine qU 3 ?_ hO rfl rfl (by kernel_rfl) hQp (fun w hSw => ?_) hSS ?_
  rotate_left
  ·obtain ⟨s0, s1, s2⟩ := hSw; go_simp; try with_reducible rfl
  try simp only [zA,zN,zB,zC,zD]
  refine qU 4 ?_ hO rfl rfl (by kernel_rfl) hQp (fun w hSw => ?_) hSS ?_
  rotate_left
  ·obtain ⟨s0, s1, s2⟩ := hSw; go_simp; try with_reducible rfl
  try simp only [zA,zN,zB,zC,zD]
  refine qU 2 ?_ hO rfl rfl (by kernel_rfl) hQp (fun w hSw => ?_) hSS ?_
  rotate_left
  ·go_simp; try with_reducible rfl
  try simp only [zA,zN,zB,zC,zD]
  refine qU 7 ?_ hO rfl rfl (by kernel_rfl) hQp (fun w hSw => ?_) hSS ?_
  rotate_left
  ·go_simp; try with_reducible rfl
  try simp only [zA,zN,zB,zC,zD]
  refine yz (i := 5) (j := 8) hO rfl rfl (by kernel_rfl) (by kernel_rfl) (by kernel_rfl) (fun K hK => ?_) (fun K hK => ?_)
  ·go_simp
   refine Calls.mono (CV.o _ Gq.o) ?_
   rintro e w3 hans
   obtain ⟨cs3, rfl, hsh, hk3, hsd⟩ := hans.saidX
   obtain ⟨k3, m3, s3, p3, i3, d3, q3, j3, e3, rfl⟩ := hsh
   have Jj := qI hk3
   have Je := qI ((Gq.o.mono (Y := [p]) (by simp)).trans' hk3)
   have Ja := qI hsd
   have Gh : Hid (w0.heap.size ≤ WD.heap.size) := qI Gq.o.size
   have hS3 : (fun w' : World => w'.cell? ⟨bv, 4, none⟩ = some (.slice ak acc.length ck) ∧ w'.cell? ⟨b2, 0, none⟩ = some (.pointer (some ⟨p, 0, none⟩)) ∧ w'.cell? ⟨b3, 0, none⟩ = some (.int .i64 d)) w3 := ⟨hk3.cell hSS.1 (by have := HP.o.ltv; simp; omega), hk3.cell hSS.2.1 (by simpa using HP.o.p2), hk3.cell hSS.2.2 (by simpa using HP.o.p3)⟩
   clear hans hk3 hsd
   refine hK _ _ (.inr (.inr hS3)) ?_
   clear hK K
   try simp only [zA,zN,zB,zC,zD]
   clear hSS
   have hSS := hS3
   clear hS3
   refine qU 6 ?_ hO rfl rfl (by kernel_rfl) hQp (fun w hSw => ?_) hSS ?_
   rotate_left
   ·go_simp; try with_reducible rfl
   try simp only [zA,zN,zB,zC,zD]
   refine qV 8 hO rfl (by kernel_rfl) (fun K hK => ?_)
   go_simp
   have Ge : Hid (zb [] w3 (w3.alloc (.cells #[.string ⟨#[]⟩, .int .i64 0, .int .i64 0, .string ⟨#[]⟩, .slice none 0 0, .slice none 0 0] 60))) := qI ((zb.refl [] w3).alloc _)
   have Gb := qI (yL w3 [.string ⟨#[]⟩, .int .i64 0, .int .i64 0, .string ⟨#[]⟩, .slice none 0 0, .slice none 0 0] 6 1 60 w3.heap.size rfl rfl (by decide))
   have hS4 : (fun w' : World => w'.cell? ⟨bv, 4, none⟩ = some (.slice ak acc.length ck) ∧ w'.cell? ⟨b2, 0, none⟩ = some (.pointer (some ⟨p, 0, none⟩)) ∧ w'.cell? ⟨b3, 0, none⟩ = some (.int .i64 d)) (w3.alloc (.cells #[.string ⟨#[]⟩, .int .i64 0, .int .i64 0, .string ⟨#[]⟩, .slice none 0 0, .slice none 0 0] 60)) := ⟨Ge.o.cell hSS.1 (by simp), Ge.o.cell hSS.2.1 (by simp), Ge.o.cell hSS.2.2 (by simp)⟩
   refine hK _ _ (.inr (.inr hS4)) ?_
   clear hK K
   try simp only [zA,zN,zB,zC,zD]
   clear hSS
   have hSS := hS4
   clear hS4
   revert hSS Ge Gb
   generalize w3.alloc (.cells #[.string ⟨#[]⟩, .int .i64 0, .int .i64 0, .string ⟨#[]⟩, .slice none 0 0, .slice none 0 0] 60) = w5
   intro Ge Gb hSS
   have Ga := qI (Je.o.then Ge.o)
   have Gf := qI (Ja.o.kept0 Ge.o)
   clear Ja
   have hrow5 := zh HJ.o.row Ga.o (fun i hi hx => by simp at hx; have := (Gc.o i hi).1; have := HP.o.hp; omega)
   refine qV 9 hO rfl (by kernel_rfl) (fun K hK => ?_)
   refine yp kD hrow5 Gb.o (by intro u hu; simp only [List.mem_cons, List.not_mem_nil, or_false] at hu; rcases hu with rfl | rfl | rfl | rfl | rfl | rfl <;> rfl) (by have := HN.o; simp only [maxLen]; omega) (by have := HN.o; omega) (by have := Ga.o.size; have := Gu.o; omega) (.tmp 27) (.tmp 34) rfl rfl rfl ?_
   intro bb6 d6 w6 hown6 hk6 hg6
   obtain ⟨g6, rfl⟩ : ∃ g6, bb6 = some ⟨g6, 0, none⟩ := by
    rcases hown6.2 with ⟨h, h1⟩ | ⟨g, cap, cur, hv, _⟩
    ·omega
    ·simp only [Value.slice.injEq] at hv; exact ⟨g, hv.1⟩
   have Gi := qI hown6
   have Gd := qI hk6
   have Gp : Hid ((Value.slice ak acc.length ck).ownBlock = some g6 ∨ g6 = w5.heap.size) := qI (by
    rcases hg6 with h | h
    ·exact .inl (by rw [← h]; rfl)
    ·exact .inr (by simpa [Value.ownBlock] using h))
   have Gg : Hid (W.heap.size ≤ g6 ∧ g6 < w6.heap.size) := qI (hown6.lt g6 rfl)
   have Gr : Hid (w6.heap[bv]? = some (.cells (qj 6 0 ⟨#[]⟩ (.slice none 0 0) (.slice ak acc.length ck)) 25 (0, 0))) := qI (hk6.heap (Ga.o.heap HJ.o.blk (by have := HP.o.ltv; simp; omega)) (fun hx => by have := (Gc.o _ (Option.mem_toList.1 hx)).1; have := HP.o.hv; omega))
   have Gs : Hid (bv ≠ g6) := qI (by have := Gg.o.1; have := HP.o.hv; omega)
   clear hrow5 hown6 hk6 hg6 hSS
   refine hK _ _ (.inl rfl) ?_
   clear hK K
   try simp only [zA,zN,zB,zC,zD]
   have hnI : (acc.length : Int) < (acc.length : Int) + 1 := by omega
   refine qW 10 ?_ hO rfl rfl (by kernel_rfl) hQp (fun w _ => ?_) ?_
   rotate_left
   ·go_simp; try with_reducible rfl
   try simp only [zA,zN,zB,zC,zD]
   refine qW 12 ?_ hO rfl rfl (by kernel_rfl) hQp (fun w _ => ?_) ?_
   rotate_left
   ·go_simp; try with_reducible rfl
   try simp only [zA,zN,zB,zC,zD]
   have hls6 : ∀ x, x ∈ (mcs.map zM) ++ [kA] → x.length = 6 := fun x hx => by
    rcases List.mem_append.1 hx with hx | hx
    ·exact Ju.o x hx
    ·simp at hx; subst hx; rfl
   have hrow6 : w6.ownsRow W.heap.size 60 6 (.slice (some ⟨g6, 0, none⟩) (acc.length + 1) d6) (acc.length + 1) ((mcs.map zM) ++ [kA]).flatten := by
    have h9 := Gi.o
    rw [zP] at h9
    rw [List.flatten_append]
    simp only [List.flatten_cons, List.flatten_nil, List.append_nil]
    exact h9
   have Jb := qI hrow6
   have Gj : Hid ((((mcs.map zM) ++ [kA]).set acc.length [.string key, .int .i64 k3, .int .i64 m3, .string s3, .slice p3 i3 d3, .slice q3 j3 e3]).flatten = zQ (mcs ++ [(key, [.int .i64 k3, .int .i64 m3, .string s3, .slice p3 i3 d3, .slice q3 j3 e3])])) := qI (by
    rw [List.set_append_right _ _ (by have := Gy.o; rw [List.length_map]; omega), List.length_map, Gy.o, Nat.sub_self, zP, List.map_append]
    rfl)
   have Gx := qI hls6
   have Gk : Hid (((mcs.map zM) ++ [kA]).length = acc.length + 1) := qI (by rw [List.length_append, List.length_map, Gy.o]; rfl)
   clear hls6 hrow6
   refine yz (i := 11) (j := 13) hO rfl rfl (by kernel_rfl) (by kernel_rfl) (by kernel_rfl) (fun K hK => ?_) (fun K hK => ?_)
   ·obtain ⟨hro, hth, hkg⟩ := yn (i := acc.length) (g := g6) (c := [.string key, .int .i64 k3, .int .i64 m3, .string s3, .slice p3 i3 d3, .slice q3 j3 e3]) Jb.o Gx.o rfl Gk.o (Nat.lt_succ_self _) rfl
    rw [Gj.o] at hro
    have Gw := qI hro
    have Gl := qI hkg
    clear hro hkg
    refine wp_store_mid 60 (.tmp 36) (.tmp 32) rfl g6 (acc.length * 6) #[.string key, .int .i64 k3, .int .i64 m3, .string s3, .slice p3 i3 d3, .slice q3 j3 e3] rfl rfl hth (by kernel_rfl) (by simp [Value.oneCell']) ?_
    refine hK _ _ (.inr (.inl (by kernel_rfl))) ?_
    clear hK K
    try simp only [zA,zN,zB,zC,zD]
    have hb7 := Gl.o.heap Gr.o (by simpa using Gs.o)
    have Gm := qI hb7
    have c3 := za (o := 4) (v := .slice ak acc.length ck) hb7 rfl
    have z3 := zc (o := 4) hb7
    clear hb7
    refine qV 13 hO rfl (by kernel_rfl) (fun K hK => ?_)
    go_simp
    refine hK _ _ (.inr (.inl (by kernel_rfl))) ?_
    clear hK K
    try simp only [zA,zN,zB,zC,zD]
    refine zS hO (by kernel_rfl) ?_ _
    subst hR
    try clear hQp hO O
    clear c3 z3 hth
    have hbF := zf (i := 4) (v := .slice (some ⟨g6, 0, none⟩) (acc.length + 1) d6) Gm.o rfl
    have hkF := ((Gl.o.mono (Y := [bv, g6]) (by simp)).setCell (p := ⟨bv, 4, none⟩) (.inl (by simp)) (.slice (some ⟨g6, 0, none⟩) (acc.length + 1) d6))
    have hrF := zh Gw.o (zT _ bv 4 (.slice (some ⟨g6, 0, none⟩) (acc.length + 1) d6)) (fun i hi hx => by simp [Value.ownBlock] at hi hx; exact Gs.o (by rw [← hx, ← hi]))
    revert hbF hkF hrF
    generalize World.setCell _ ⟨bv, 4, none⟩ (.slice (some ⟨g6, 0, none⟩) (acc.length + 1) d6) = wF
    intro hbF hkF hrF
    have Gn : bX W bv b2 b3 b6 bm p d wF := (HJ.o.cap.step HP.o ((Ga.o.mono (Y := p :: bv :: g6 :: (Value.slice ak acc.length ck).ownBlock.toList) (by simp)).trans' ((Gd.o.mono (fun i hi => by simp at hi ⊢; exact .inr (.inr (.inr hi)))).trans' (hkF.mono (fun i hi => by simp at hi ⊢; rcases hi with h | h; exact .inr (.inl h); exact .inr (.inr (.inl h)))))) (fun i hi => by
     have h9 := Gp.o
     have hwz := Gu.o
     have h5z := Ga.o.size
     rcases List.mem_cons.1 hi with h | hi
     ·exact .inl h
     rcases List.mem_cons.1 hi with h | hi
     ·exact .inr (.inl h)
     rcases List.mem_cons.1 hi with h | hi
     ·subst h
      rcases h9 with h9 | h9
      ·exact .inr (.inr (.inr (Gc.o _ h9).1))
      ·exact .inr (.inr (.inr (by omega)))
     ·exact .inr (.inr (.inr (Gc.o _ (Option.mem_toList.1 hi)).1))))
    have hfar : ∀ b, b < W.heap.size → b ≠ bv → b ∉ [bv, g6] := fun b h1 h2 hx => by
     have := Gg.o.1
     simp at hx
     rcases hx with hx | hx
     ·exact h2 hx
     ·omega
    have hown : ∀ b, b < W.heap.size → b ∉ (Value.slice ak acc.length ck).ownBlock.toList := fun b h1 hx => by have := (Gc.o _ (Option.mem_toList.1 hx)).1; omega
    have Gv : Hid (∀ x, PS w5 p S 4097 x → PS wF p S 4097 x) := qI (fun x h => (h.kept Gd.o (hown _ HP.o.hp)).kept hkF (hfar _ HP.o.hp (by have := HP.o.ltv; omega)))
    have hsaw := ((HJ.o.saw.kept Ga.o (by have := HP.o.ltm; simp; omega)).kept Gd.o (hown _ HP.o.hm)).kept hkF (hfar _ HP.o.hm HP.o.vm.symm)
    go_wp2_with fail
    go_end0
    refine ⟨rfl, xS Jh.o Gf.o Gv.o ⟨Gn, _, _, _, hbF⟩ (fun v hv => ?_)⟩
    rw [Ji.o]
    have h9 := HJ.o.snoc (key := key) HP.o Gn hsaw hbF Ga.o Gd.o hkF rfl Gp.o hrF hv Gh.o
    rw [List.map_append]
    exact ⟨_, _, h9⟩
   ·have c3 := za (o := 4) (v := .slice ak acc.length ck) Gr.o rfl
    have z3 := zc (o := 4) Gr.o
    go_simp
    refine hK _ _ (.inr (.inl (by kernel_rfl))) ?_
    clear hK K
    try simp only [zA,zN,zB,zC,zD]
    clear c3 z3
    have hb7 := zf (i := 4) (v := .slice (some ⟨g6, 0, none⟩) (acc.length + 1) d6) Gr.o rfl
    have Gm := qI hb7
    have Gt := qI (zT w6 bv 4 (.slice (some ⟨g6, 0, none⟩) (acc.length + 1) d6))
    clear hb7
    revert Gm Gt
    generalize w6.setCell ⟨bv, 4, none⟩ (.slice (some ⟨g6, 0, none⟩) (acc.length + 1) d6) = w7
    intro Gm Gt
    have hrow7 := zh Jb.o Gt.o (fun i hi hx => by simp [Value.ownBlock] at hi hx; exact Gs.o (by rw [← hx, ← hi]))
    obtain ⟨hro, hth, hkg⟩ := yn (i := acc.length) (g := g6) (c := [.string key, .int .i64 k3, .int .i64 m3, .string s3, .slice p3 i3 d3, .slice q3 j3 e3]) hrow7 Gx.o rfl Gk.o (Nat.lt_succ_self _) rfl
    rw [Gj.o] at hro
    have Gw := qI hro
    have Gl := qI hkg
    clear hro hkg hrow7
    refine qV 11 hO rfl (by kernel_rfl) (fun K hK => ?_)
    refine wp_store_mid 60 (.tmp 36) (.tmp 32) rfl g6 (acc.length * 6) #[.string key, .int .i64 k3, .int .i64 m3, .string s3, .slice p3 i3 d3, .slice q3 j3 e3] rfl rfl hth (by kernel_rfl) (by simp [Value.oneCell']) ?_
    refine hK _ _ (.inr (.inl (by kernel_rfl))) ?_
    clear hK K
    try simp only [zA,zN,zB,zC,zD]
    refine zS hO (by kernel_rfl) ?_ _
    subst hR
    try clear hQp hO O
    clear hth
    have hbF := Gl.o.heap Gm.o (by simpa using Gs.o)
    have hkF := ((Gt.o.mono (Y := [bv, g6]) (by simp)).trans' (Gl.o.mono (Y := [bv, g6]) (by simp)))
    have hrF := Gw.o
    revert hbF hkF hrF
    generalize World.setCells _ g6 (acc.length * 6) (#[.string key, .int .i64 k3, .int .i64 m3, .string s3, .slice p3 i3 d3, .slice q3 j3 e3] : Array Value).toList = wF
    intro hbF hkF hrF
    have Gn : bX W bv b2 b3 b6 bm p d wF := (HJ.o.cap.step HP.o ((Ga.o.mono (Y := p :: bv :: g6 :: (Value.slice ak acc.length ck).ownBlock.toList) (by simp)).trans' ((Gd.o.mono (fun i hi => by simp at hi ⊢; exact .inr (.inr (.inr hi)))).trans' (hkF.mono (fun i hi => by simp at hi ⊢; rcases hi with h | h; exact .inr (.inl h); exact .inr (.inr (.inl h)))))) (fun i hi => by
     have h9 := Gp.o
     have hwz := Gu.o
     have h5z := Ga.o.size
     rcases List.mem_cons.1 hi with h | hi
     ·exact .inl h
     rcases List.mem_cons.1 hi with h | hi
     ·exact .inr (.inl h)
     rcases List.mem_cons.1 hi with h | hi
     ·subst h
      rcases h9 with h9 | h9
      ·exact .inr (.inr (.inr (Gc.o _ h9).1))
      ·exact .inr (.inr (.inr (by omega)))
     ·exact .inr (.inr (.inr (Gc.o _ (Option.mem_toList.1 hi)).1))))
    have hfar : ∀ b, b < W.heap.size → b ≠ bv → b ∉ [bv, g6] := fun b h1 h2 hx => by
     have := Gg.o.1
     simp at hx
     rcases hx with hx | hx
     ·exact h2 hx
     ·omega
    have hown : ∀ b, b < W.heap.size → b ∉ (Value.slice ak acc.length ck).ownBlock.toList := fun b h1 hx => by have := (Gc.o _ (Option.mem_toList.1 hx)).1; omega
    have Gv : Hid (∀ x, PS w5 p S 4097 x → PS wF p S 4097 x) := qI (fun x h => (h.kept Gd.o (hown _ HP.o.hp)).kept hkF (hfar _ HP.o.hp (by have := HP.o.ltv; omega)))
    have hsaw := ((HJ.o.saw.kept Ga.o (by have := HP.o.ltm; simp; omega)).kept Gd.o (hown _ HP.o.hm)).kept hkF (hfar _ HP.o.hm HP.o.vm.symm)
    go_wp2_with fail
    go_end0
    refine ⟨rfl, xS Jh.o Gf.o Gv.o ⟨Gn, _, _, _, hbF⟩ (fun v hv => ?_)⟩
    rw [Ji.o]
    have h9 := HJ.o.snoc (key := key) HP.o Gn hsaw hbF Ga.o Gd.o hkF rfl Gp.o hrF hv Gh.o
    rw [List.map_append]
    exact ⟨_, _, h9⟩
  ·go_simp
   have Ge : Hid (zb [] WD (WD.alloc (.cells #[.string ⟨#[]⟩, .int .i64 0, .int .i64 0, .string ⟨#[]⟩, .slice none 0 0, .slice none 0 0] 60))) := qI ((zb.refl [] WD).alloc _)
   have Gb := qI (yL WD [.string ⟨#[]⟩, .int .i64 0, .int .i64 0, .string ⟨#[]⟩, .slice none 0 0, .slice none 0 0] 6 1 60 WD.heap.size rfl rfl (by decide))
   have hS4 : (fun w' : World => w'.cell? ⟨bv, 4, none⟩ = some (.slice ak acc.length ck) ∧ w'.cell? ⟨b2, 0, none⟩ = some (.pointer (some ⟨p, 0, none⟩)) ∧ w'.cell? ⟨b3, 0, none⟩ = some (.int .i64 d)) (WD.alloc (.cells #[.string ⟨#[]⟩, .int .i64 0, .int .i64 0, .string ⟨#[]⟩, .slice none 0 0, .slice none 0 0] 60)) := ⟨Ge.o.cell hSS.1 (by simp), Ge.o.cell hSS.2.1 (by simp), Ge.o.cell hSS.2.2 (by simp)⟩
   refine hK _ _ (.inr (.inr hS4)) ?_
   clear hK K
   try simp only [zA,zN,zB,zC,zD]
   clear hSS
   have hSS := hS4
   clear hS4
   revert hSS Ge Gb
   generalize WD.alloc (.cells #[.string ⟨#[]⟩, .int .i64 0, .int .i64 0, .string ⟨#[]⟩, .slice none 0 0, .slice none 0 0] 60) = w4
   intro Ge Gb hSS
   have Jg := qI (Gq.o.then Ge.o)
   refine qV 5 hO rfl (by kernel_rfl) (fun K hK => ?_)
   go_simp
   refine Calls.mono (CV.o _ Jg.o) ?_
   rintro e w5 hans
   obtain ⟨cs3, rfl, hsh, hk3, hsd⟩ := hans.saidX
   obtain ⟨k3, m3, s3, p3, i3, d3, q3, j3, e3, rfl⟩ := hsh
   have Jj := qI hk3
   have Je := qI ((Jg.o.mono (Y := [p]) (by simp)).trans' hk3)
   have Ja := qI hsd
   have Gh : Hid (w0.heap.size ≤ w4.heap.size) := qI Jg.o.size
   have hS3 : (fun w' : World => w'.cell? ⟨bv, 4, none⟩ = some (.slice ak acc.length ck) ∧ w'.cell? ⟨b2, 0, none⟩ = some (.pointer (some ⟨p, 0, none⟩)) ∧ w'.cell? ⟨b3, 0, none⟩ = some (.int .i64 d)) w5 := ⟨hk3.cell hSS.1 (by have := HP.o.ltv; simp; omega), hk3.cell hSS.2.1 (by simpa using HP.o.p2), hk3.cell hSS.2.2 (by simpa using HP.o.p3)⟩
   clear hans hk3 hsd
   refine hK _ _ (.inr (.inr hS3)) ?_
   clear hK K
   try simp only [zA,zN,zB,zC,zD]
   clear hSS
   have hSS := hS3
   clear hS3
   refine qU 6 ?_ hO rfl rfl (by kernel_rfl) hQp (fun w hSw => ?_) hSS ?_
   rotate_left
   ·go_simp; try with_reducible rfl
   try simp only [zA,zN,zB,zC,zD]
   have Ga := qI Je.o
   have Gf := qI Ja.o
   have Jc := qI Gb.o
   clear Gb
   have Gb := qI (Jc.o.kept Jj.o (fun i hi hx => by simp [jJ] at hi hx; have := Gq.o.size; have := Gu.o; have := HP.o.hp; omega))
   clear Ja
   have hrow5 := zh HJ.o.row Ga.o (fun i hi hx => by simp at hx; have := (Gc.o i hi).1; have := HP.o.hp; omega)
   refine qV 9 hO rfl (by kernel_rfl) (fun K hK => ?_)
   refine yp kD hrow5 Gb.o (by intro u hu; simp only [List.mem_cons, List.not_mem_nil, or_false] at hu; rcases hu with rfl | rfl | rfl | rfl | rfl | rfl <;> rfl) (by have := HN.o; simp only [maxLen]; omega) (by have := HN.o; omega) (by have := Ga.o.size; have := Gu.o; omega) (.tmp 27) (.tmp 34) rfl rfl rfl ?_
   intro bb6 d6 w6 hown6 hk6 hg6
   obtain ⟨g6, rfl⟩ : ∃ g6, bb6 = some ⟨g6, 0, none⟩ := by
    rcases hown6.2 with ⟨h, h1⟩ | ⟨g, cap, cur, hv, _⟩
    ·omega
    ·simp only [Value.slice.injEq] at hv; exact ⟨g, hv.1⟩
   have Gi := qI hown6
   have Gd := qI hk6
   have Gp : Hid ((Value.slice ak acc.length ck).ownBlock = some g6 ∨ g6 = w5.heap.size) := qI (by
    rcases hg6 with h | h
    ·exact .inl (by rw [← h]; rfl)
    ·exact .inr (by simpa [Value.ownBlock] using h))
   have Gg : Hid (W.heap.size ≤ g6 ∧ g6 < w6.heap.size) := qI (hown6.lt g6 rfl)
   have Gr : Hid (w6.heap[bv]? = some (.cells (qj 6 0 ⟨#[]⟩ (.slice none 0 0) (.slice ak acc.length ck)) 25 (0, 0))) := qI (hk6.heap (Ga.o.heap HJ.o.blk (by have := HP.o.ltv; simp; omega)) (fun hx => by have := (Gc.o _ (Option.mem_toList.1 hx)).1; have := HP.o.hv; omega))
   have Gs : Hid (bv ≠ g6) := qI (by have := Gg.o.1; have := HP.o.hv; omega)
   clear hrow5 hown6 hk6 hg6 hSS
   refine hK _ _ (.inl rfl) ?_
   clear hK K
   try simp only [zA,zN,zB,zC,zD]
   have hnI : (acc.length : Int) < (acc.length : Int) + 1 := by omega
   refine qW 10 ?_ hO rfl rfl (by kernel_rfl) hQp (fun w _ => ?_) ?_
   rotate_left
   ·go_simp; try with_reducible rfl
   try simp only [zA,zN,zB,zC,zD]
   refine qW 12 ?_ hO rfl rfl (by kernel_rfl) hQp (fun w _ => ?_) ?_
   rotate_left
   ·go_simp; try with_reducible rfl
   try simp only [zA,zN,zB,zC,zD]
   have hls6 : ∀ x, x ∈ (mcs.map zM) ++ [kA] → x.length = 6 := fun x hx => by
    rcases List.mem_append.1 hx with hx | hx
    ·exact Ju.o x hx
    ·simp at hx; subst hx; rfl
   have hrow6 : w6.ownsRow W.heap.size 60 6 (.slice (some ⟨g6, 0, none⟩) (acc.length + 1) d6) (acc.length + 1) ((mcs.map zM) ++ [kA]).flatten := by
    have h9 := Gi.o
    rw [zP] at h9
    rw [List.flatten_append]
    simp only [List.flatten_cons, List.flatten_nil, List.append_nil]
    exact h9
   have Jb := qI hrow6
   have Gj : Hid ((((mcs.map zM) ++ [kA]).set acc.length [.string key, .int .i64 k3, .int .i64 m3, .string s3, .slice p3 i3 d3, .slice q3 j3 e3]).flatten = zQ (mcs ++ [(key, [.int .i64 k3, .int .i64 m3, .string s3, .slice p3 i3 d3, .slice q3 j3 e3])])) := qI (by
    rw [List.set_append_right _ _ (by have := Gy.o; rw [List.length_map]; omega), List.length_map, Gy.o, Nat.sub_self, zP, List.map_append]
    rfl)
   have Gx := qI hls6
   have Gk : Hid (((mcs.map zM) ++ [kA]).length = acc.length + 1) := qI (by rw [List.length_append, List.length_map, Gy.o]; rfl)
   clear hls6 hrow6
   refine yz (i := 11) (j := 13) hO rfl rfl (by kernel_rfl) (by kernel_rfl) (by kernel_rfl) (fun K hK => ?_) (fun K hK => ?_)
   ·obtain ⟨hro, hth, hkg⟩ := yn (i := acc.length) (g := g6) (c := [.string key, .int .i64 k3, .int .i64 m3, .string s3, .slice p3 i3 d3, .slice q3 j3 e3]) Jb.o Gx.o rfl Gk.o (Nat.lt_succ_self _) rfl
    rw [Gj.o] at hro
    have Gw := qI hro
    have Gl := qI hkg
    clear hro hkg
    refine wp_store_mid 60 (.tmp 36) (.tmp 32) rfl g6 (acc.length * 6) #[.string key, .int .i64 k3, .int .i64 m3, .string s3, .slice p3 i3 d3, .slice q3 j3 e3] rfl rfl hth (by kernel_rfl) (by simp [Value.oneCell']) ?_
    refine hK _ _ (.inr (.inl (by kernel_rfl))) ?_
    clear hK K
    try simp only [zA,zN,zB,zC,zD]
    have hb7 := Gl.o.heap Gr.o (by simpa using Gs.o)
    have Gm := qI hb7
    have c3 := za (o := 4) (v := .slice ak acc.length ck) hb7 rfl
    have z3 := zc (o := 4) hb7
    clear hb7
    refine qV 13 hO rfl (by kernel_rfl) (fun K hK => ?_)
    go_simp
    refine hK _ _ (.inr (.inl (by kernel_rfl))) ?_
    clear hK K
    try simp only [zA,zN,zB,zC,zD]
    refine zS hO (by kernel_rfl) ?_ _
    subst hR
    try clear hQp hO O
    clear c3 z3 hth
    have hbF := zf (i := 4) (v := .slice (some ⟨g6, 0, none⟩) (acc.length + 1) d6) Gm.o rfl
    have hkF := ((Gl.o.mono (Y := [bv, g6]) (by simp)).setCell (p := ⟨bv, 4, none⟩) (.inl (by simp)) (.slice (some ⟨g6, 0, none⟩) (acc.length + 1) d6))
    have hrF := zh Gw.o (zT _ bv 4 (.slice (some ⟨g6, 0, none⟩) (acc.length + 1) d6)) (fun i hi hx => by simp [Value.ownBlock] at hi hx; exact Gs.o (by rw [← hx, ← hi]))
    revert hbF hkF hrF
    generalize World.setCell _ ⟨bv, 4, none⟩ (.slice (some ⟨g6, 0, none⟩) (acc.length + 1) d6) = wF
    intro hbF hkF hrF
    have Gn : bX W bv b2 b3 b6 bm p d wF := (HJ.o.cap.step HP.o ((Ga.o.mono (Y := p :: bv :: g6 :: (Value.slice ak acc.length ck).ownBlock.toList) (by simp)).trans' ((Gd.o.mono (fun i hi => by simp at hi ⊢; exact .inr (.inr (.inr hi)))).trans' (hkF.mono (fun i hi => by simp at hi ⊢; rcases hi with h | h; exact .inr (.inl h); exact .inr (.inr (.inl h)))))) (fun i hi => by
     have h9 := Gp.o
     have hwz := Gu.o
     have h5z := Ga.o.size
     rcases List.mem_cons.1 hi with h | hi
     ·exact .inl h
     rcases List.mem_cons.1 hi with h | hi
     ·exact .inr (.inl h)
     rcases List.mem_cons.1 hi with h | hi
     ·subst h
      rcases h9 with h9 | h9
      ·exact .inr (.inr (.inr (Gc.o _ h9).1))
      ·exact .inr (.inr (.inr (by omega)))
     ·exact .inr (.inr (.inr (Gc.o _ (Option.mem_toList.1 hi)).1))))
    have hfar : ∀ b, b < W.heap.size → b ≠ bv → b ∉ [bv, g6] := fun b h1 h2 hx => by
     have := Gg.o.1
     simp at hx
     rcases hx with hx | hx
     ·exact h2 hx
     ·omega
    have hown : ∀ b, b < W.heap.size → b ∉ (Value.slice ak acc.length ck).ownBlock.toList := fun b h1 hx => by have := (Gc.o _ (Option.mem_toList.1 hx)).1; omega
    have Gv : Hid (∀ x, PS w5 p S 4097 x → PS wF p S 4097 x) := qI (fun x h => (h.kept Gd.o (hown _ HP.o.hp)).kept hkF (hfar _ HP.o.hp (by have := HP.o.ltv; omega)))
    have hsaw := ((HJ.o.saw.kept Ga.o (by have := HP.o.ltm; simp; omega)).kept Gd.o (hown _ HP.o.hm)).kept hkF (hfar _ HP.o.hm HP.o.vm.symm)
    go_wp2_with fail
    go_end0
    refine ⟨rfl, xS Jh.o Gf.o Gv.o ⟨Gn, _, _, _, hbF⟩ (fun v hv => ?_)⟩
    rw [Ji.o]
    have h9 := HJ.o.snoc (key := key) HP.o Gn hsaw hbF Ga.o Gd.o hkF rfl Gp.o hrF hv Gh.o
    rw [List.map_append]
    exact ⟨_, _, h9⟩
   ·have c3 := za (o := 4) (v := .slice ak acc.length ck) Gr.o rfl
    have z3 := zc (o := 4) Gr.o
    go_simp
    refine hK _ _ (.inr (.inl (by kernel_rfl))) ?_
    clear hK K
    try simp only [zA,zN,zB,zC,zD]
    clear c3 z3
    have hb7 := zf (i := 4) (v := .slice (some ⟨g6, 0, none⟩) (acc.length + 1) d6) Gr.o rfl
    have Gm := qI hb7
    have Gt := qI (zT w6 bv 4 (.slice (some ⟨g6, 0, none⟩) (acc.length + 1) d6))
    clear hb7
    revert Gm Gt
    generalize w6.setCell ⟨bv, 4, none⟩ (.slice (some ⟨g6, 0, none⟩) (acc.length + 1) d6) = w7
    intro Gm Gt
    have hrow7 := zh Jb.o Gt.o (fun i hi hx => by simp [Value.ownBlock] at hi hx; exact Gs.o (by rw [← hx, ← hi]))
    obtain ⟨hro, hth, hkg⟩ := yn (i := acc.length) (g := g6) (c := [.string key, .int .i64 k3, .int .i64 m3, .string s3, .slice p3 i3 d3, .slice q3 j3 e3]) hrow7 Gx.o rfl Gk.o (Nat.lt_succ_self _) rfl
    rw [Gj.o] at hro
    have Gw := qI hro
    have Gl := qI hkg
    clear hro hkg hrow7
    refine qV 11 hO rfl (by kernel_rfl) (fun K hK => ?_)
    refine wp_store_mid 60 (.tmp 36) (.tmp 32) rfl g6 (acc.length * 6) #[.string key, .int .i64 k3, .int .i64 m3, .string s3, .slice p3 i3 d3, .slice q3 j3 e3] rfl rfl hth (by kernel_rfl) (by simp [Value.oneCell']) ?_
    refine hK _ _ (.inr (.inl (by kernel_rfl))) ?_
    clear hK K
    try simp only [zA,zN,zB,zC,zD]
    refine zS hO (by kernel_rfl) ?_ _
    subst hR
    try clear hQp hO O
    clear hth
    have hbF := Gl.o.heap Gm.o (by simpa using Gs.o)
    have hkF := ((Gt.o.mono (Y := [bv, g6]) (by simp)).trans' (Gl.o.mono (Y := [bv, g6]) (by simp)))
    have hrF := Gw.o
    revert hbF hkF hrF
    generalize World.setCells _ g6 (acc.length * 6) (#[.string key, .int .i64 k3, .int .i64 m3, .string s3, .slice p3 i3 d3, .slice q3 j3 e3] : Array Value).toList = wF
    intro hbF hkF hrF
    have Gn : bX W bv b2 b3 b6 bm p d wF := (HJ.o.cap.step HP.o ((Ga.o.mono (Y := p :: bv :: g6 :: (Value.slice ak acc.length ck).ownBlock.toList) (by simp)).trans' ((Gd.o.mono (fun i hi => by simp at hi ⊢; exact .inr (.inr (.inr hi)))).trans' (hkF.mono (fun i hi => by simp at hi ⊢; rcases hi with h | h; exact .inr (.inl h); exact .inr (.inr (.inl h)))))) (fun i hi => by
     have h9 := Gp.o
     have hwz := Gu.o
     have h5z := Ga.o.size
     rcases List.mem_cons.1 hi with h | hi
     ·exact .inl h
     rcases List.mem_cons.1 hi with h | hi
     ·exact .inr (.inl h)
     rcases List.mem_cons.1 hi with h | hi
     ·subst h
      rcases h9 with h9 | h9
      ·exact .inr (.inr (.inr (Gc.o _ h9).1))
      ·exact .inr (.inr (.inr (by omega)))
     ·exact .inr (.inr (.inr (Gc.o _ (Option.mem_toList.1 hi)).1))))
    have hfar : ∀ b, b < W.heap.size → b ≠ bv → b ∉ [bv, g6] := fun b h1 h2 hx => by
     have := Gg.o.1
     simp at hx
     rcases hx with hx | hx
     ·exact h2 hx
     ·omega
    have hown : ∀ b, b < W.heap.size → b ∉ (Value.slice ak acc.length ck).ownBlock.toList := fun b h1 hx => by have := (Gc.o _ (Option.mem_toList.1 hx)).1; omega
    have Gv : Hid (∀ x, PS w5 p S 4097 x → PS wF p S 4097 x) := qI (fun x h => (h.kept Gd.o (hown _ HP.o.hp)).kept hkF (hfar _ HP.o.hp (by have := HP.o.ltv; omega)))
    have hsaw := ((HJ.o.saw.kept Ga.o (by have := HP.o.ltm; simp; omega)).kept Gd.o (hown _ HP.o.hm)).kept hkF (hfar _ HP.o.hm HP.o.vm.symm)
    go_wp2_with fail
    go_end0
    refine ⟨rfl, xS Jh.o Gf.o Gv.o ⟨Gn, _, _, _, hbF⟩ (fun v hv => ?_)⟩
    rw [Ji.o]
    have h9 := HJ.o.snoc (key := key) HP.o Gn hsaw hbF Ga.o Gd.o hkF rfl Gp.o hrF hv Gh.o
    rw [List.map_append]
    exact ⟨_, _, h9⟩
 ·rw [hb] at hlook Jk
  have Jq : Hid (kB (acc.map (fun q => q.1)) (.inr (s, c)) = vO [58] (qi (Q0 53 (Zy X1)))) := qI Jk.o
  clear hb
  go_wp2_with fail
  refine (yt Jx.o i1 53 Mf.o (by decide) (by decide)).mono ?_
  rintro e w3 ⟨rfl, hp3, hk3⟩
  have Jy := qI (Jl.o.step HP.o hk3)
  have Me := qI hp3
  clear hlook g2 g6
  have g6 := za (o := 0) (v := .map (some bm)) Jy.o.cap.box rfl
  clear hp3 hk3
  obtain ⟨w4, hput, hs4, hk4⟩ := Jy.o.saw.put (vR (.inr (s, c))) (by have := Jw.o; omega) (by have := Mc.o; omega)
  have Jm := qI (Jy.o.put HP.o hk4 hs4)
  have Jr := qI (Me.o.kept hk4 (by have := HP.o.ltm; simp; omega))
  have m2 := za (o := 0) (v := .pointer (some ⟨p, 0, none⟩)) Jm.o.cap.ptr rfl
  clear hs4 hk4
  have CS4 := qI (xe Jr.o hS)
  go_wp2_with fail
  refine CS4.o.mono ?_
  rintro e w5 ⟨rfl, hp5, hk5⟩
  have Jn := qI (Jm.o.step HP.o hk5)
  have Js := qI hp5
  have n2 := za (o := 0) (v := .pointer (some ⟨p, 0, none⟩)) Jn.o.cap.ptr rfl
  clear hp5 hk5 m2 hput
  have CN5 := qI (kP Js.o hS ⟨#[58]⟩)
  rw [show (⟨#[58]⟩ : ByteArray).data.toList = [58] from rfl, ← Jq.o] at CN5
  go_wp2_with fail
  refine CN5.o.mono ?_
  rintro e w0 ⟨rfl, hp6, hk6⟩
  have hj0 := Jn.o.step HP.o hk6
  have Jt := qI hp6
  clear Jy Me
  clear hp6 hk6 n2 CN5 CS4 CL CS1 Md Jx Jr Js Jp Jl Jm Jn
  clear HJ
  have HJ := qI hj0
  have Gc : Hid (∀ g, (Value.slice ak acc.length ck).ownBlock = some g → W.heap.size ≤ g ∧ g < w0.heap.size) := qI (fun g hg => hj0.row.lt g hg)
  have Gu : Hid (W.heap.size ≤ w0.heap.size) := qI hj0.cap.kept.size
  have Gy : Hid (mcs.length = acc.length) := qI hj0.all.1
  have Ju : Hid (∀ x, x ∈ mcs.map zM → x.length = 6) := qI (fun x hx => by
   obtain ⟨q, hq, rfl⟩ := List.mem_map.1 hx
   obtain ⟨j, hj', rfl⟩ := List.getElem_of_mem hq
   have h9 := (hj0.all.2 j _ _ (List.getElem?_eq_getElem hj') (List.getElem?_eq_getElem (by rw [← hj0.all.1]; exact hj'))).2.len
   simp [zM, h9])
  have CV : Hid (∀ w', zb [] w0 w' → Calls Tryz.prog 49 #[.pointer (some ⟨p, 0, none⟩), .int .i64 d] w' fun e w2 => xU d (kB (acc.map (fun q => q.1)) (.inr (s, c))) p S w' e w2) := qI (fun w' k => Mb.o (Jt.o.kept0 k) Jv.o hS ((hj0.cap.tabs HP.o HT.o).step (k.mono (by simp))))
  have f3 := za (o := 4) (v := .slice ak acc.length ck) hj0.blk rfl
  have f2 := za (o := 0) (v := .pointer (some ⟨p, 0, none⟩)) hj0.cap.ptr rfl
  have f1 := za (o := 0) (v := .int .i64 d) hj0.cap.dep rfl
  clear hj0 Jk Jq Jt Jv
  have Jo : Hid (kB (acc.map (fun q => q.1)) (.inr (s, c)) = kB (acc.map (fun q => q.1)) (.inr (s, c))) := qI rfl
  revert CV Jo
  generalize hXX : kB (acc.map (fun q => q.1)) (.inr (s, c)) = X
  have Jh := qI hXX
  clear hXX
  intro CV Jo
  clear Jo
  generalize hkk : vR (.inr (s, c)) = key at *
  have Ji := qI hkk
  clear hkk
  go_wp2_with fail
  refine xX (n := 14) (fun w' : World => w'.cell? ⟨bv, 4, none⟩ = some (.slice ak acc.length ck) ∧ w'.cell? ⟨b2, 0, none⟩ = some (.pointer (some ⟨p, 0, none⟩)) ∧ w'.cell? ⟨b3, 0, none⟩ = some (.int .i64 d)) 9 (by kernel_rfl) (by kernel_rfl) ?_
  change yl _ _ _ _ _ _ _ _ _ w0.drew
  have hSS : (fun w' : World => w'.cell? ⟨bv, 4, none⟩ = some (.slice ak acc.length ck) ∧ w'.cell? ⟨b2, 0, none⟩ = some (.pointer (some ⟨p, 0, none⟩)) ∧ w'.cell? ⟨b3, 0, none⟩ = some (.int .i64 d)) w0.drew := ⟨f3, f2, f1⟩
  have Gq : Hid (zb [] w0 w0.drew) := qI (zb.refl _ _).drew
  clear f1 f2 f3
  revert hSS Gq
  generalize w0.drew = WD
  intro hSS Gq
  refine xC ?_
  intro O R hO hR
  have hQp : ∀ c a (d : Nat) v w, R (.panic c) (a.put (some d) v) w → R (.panic c) a w := by subst hR; exact fun _ _ _ _ _ h => h
  refine qU 0 ?_ hO rfl rfl (by kernel_rfl) hQp (fun w hSw => ?_) hSS ?_
  rotate_left
  ·go_simp; try with_reducible rfl
  try simp only [zA,zN,zB,zC,zD]
  refine qU 1 ?_ hO rfl rfl (by kernel_rfl) hQp (fun w hSw => ?_) hSS ?_
  rotate_left
  ·obtain ⟨s0, s1, s2⟩ := hSw; go_simp; try with_reducible rfl
  try simp only [zA,zN,zB,zC,zD]
  refine qU 3 ?_ hO rfl rfl (by kernel_rfl) hQp (fun w hSw => ?_) hSS ?_
  rotate_left
  ·obtain ⟨s0, s1, s2⟩ := hSw; go_simp; try with_reducible rfl
  try simp only [zA,zN,zB,zC,zD]
  refine qU 4 ?_ hO rfl rfl (by kernel_rfl) hQp (fun w hSw => ?_) hSS ?_
  rotate_left
  ·obtain ⟨s0, s1, s2⟩ := hSw; go_simp; try with_reducible rfl
  try simp only [zA,zN,zB,zC,zD]
  refine qU 2 ?_ hO rfl rfl (by kernel_rfl) hQp (fun w hSw => ?_) hSS ?_
  rotate_left
  ·go_simp; try with_reducible rfl
  try simp only [zA,zN,zB,zC,zD]
  refine qU 7 ?_ hO rfl rfl (by kernel_rfl) hQp (fun w hSw => ?_) hSS ?_
  rotate_left
  ·go_simp; try with_reducible rfl
  try simp only [zA,zN,zB,zC,zD]
  refine yz (i := 5) (j := 8) hO rfl rfl (by kernel_rfl) (by kernel_rfl) (by kernel_rfl) (fun K hK => ?_) (fun K hK => ?_)
  ·go_simp
   refine Calls.mono (CV.o _ Gq.o) ?_
   rintro e w3 hans
   obtain ⟨cs3, rfl, hsh, hk3, hsd⟩ := hans.saidX
   obtain ⟨k3, m3, s3, p3, i3, d3, q3, j3, e3, rfl⟩ := hsh
   have Jj := qI hk3
   have Je := qI ((Gq.o.mono (Y := [p]) (by simp)).trans' hk3)
   have Ja := qI hsd
   have Gh : Hid (w0.heap.size ≤ WD.heap.size) := qI Gq.o.size
   have hS3 : (fun w' : World => w'.cell? ⟨bv, 4, none⟩ = some (.slice ak acc.length ck) ∧ w'.cell? ⟨b2, 0, none⟩ = some (.pointer (some ⟨p, 0, none⟩)) ∧ w'.cell? ⟨b3, 0, none⟩ = some (.int .i64 d)) w3 := ⟨hk3.cell hSS.1 (by have := HP.o.ltv; simp; omega), hk3.cell hSS.2.1 (by simpa using HP.o.p2), hk3.cell hSS.2.2 (by simpa using HP.o.p3)⟩
   clear hans hk3 hsd
   refine hK _ _ (.inr (.inr hS3)) ?_
   clear hK K
   try simp only [zA,zN,zB,zC,zD]
   clear hSS
   have hSS := hS3
   clear hS3
   refine qU 6 ?_ hO rfl rfl (by kernel_rfl) hQp (fun w hSw => ?_) hSS ?_
   rotate_left
   ·go_simp; try with_reducible rfl
   try simp only [zA,zN,zB,zC,zD]
   refine qV 8 hO rfl (by kernel_rfl) (fun K hK => ?_)
   go_simp
   have Ge : Hid (zb [] w3 (w3.alloc (.cells #[.string ⟨#[]⟩, .int .i64 0, .int .i64 0, .string ⟨#[]⟩, .slice none 0 0, .slice none 0 0] 60))) := qI ((zb.refl [] w3).alloc _)
   have Gb := qI (yL w3 [.string ⟨#[]⟩, .int .i64 0, .int .i64 0, .string ⟨#[]⟩, .slice none 0 0, .slice none 0 0] 6 1 60 w3.heap.size rfl rfl (by decide))
   have hS4 : (fun w' : World => w'.cell? ⟨bv, 4, none⟩ = some (.slice ak acc.length ck) ∧ w'.cell? ⟨b2, 0, none⟩ = some (.pointer (some ⟨p, 0, none⟩)) ∧ w'.cell? ⟨b3, 0, none⟩ = some (.int .i64 d)) (w3.alloc (.cells #[.string ⟨#[]⟩, .int .i64 0, .int .i64 0, .string ⟨#[]⟩, .slice none 0 0, .slice none 0 0] 60)) := ⟨Ge.o.cell hSS.1 (by simp), Ge.o.cell hSS.2.1 (by simp), Ge.o.cell hSS.2.2 (by simp)⟩
   refine hK _ _ (.inr (.inr hS4)) ?_
   clear hK K
   try simp only [zA,zN,zB,zC,zD]
   clear hSS
   have hSS := hS4
   clear hS4
   revert hSS Ge Gb
   generalize w3.alloc (.cells #[.string ⟨#[]⟩, .int .i64 0, .int .i64 0, .string ⟨#[]⟩, .slice none 0 0, .slice none 0 0] 60) = w5
   intro Ge Gb hSS
   have Ga := qI (Je.o.then Ge.o)
   have Gf := qI (Ja.o.kept0 Ge.o)
   clear Ja
   have hrow5 := zh HJ.o.row Ga.o (fun i hi hx => by simp at hx; have := (Gc.o i hi).1; have := HP.o.hp; omega)
   refine qV 9 hO rfl (by kernel_rfl) (fun K hK => ?_)
   refine yp kD hrow5 Gb.o (by intro u hu; simp only [List.mem_cons, List.not_mem_nil, or_false] at hu; rcases hu with rfl | rfl | rfl | rfl | rfl | rfl <;> rfl) (by have := HN.o; simp only [maxLen]; omega) (by have := HN.o; omega) (by have := Ga.o.size; have := Gu.o; omega) (.tmp 27) (.tmp 34) rfl rfl rfl ?_
   intro bb6 d6 w6 hown6 hk6 hg6
   obtain ⟨g6, rfl⟩ : ∃ g6, bb6 = some ⟨g6, 0, none⟩ := by
    rcases hown6.2 with ⟨h, h1⟩ | ⟨g, cap, cur, hv, _⟩
    ·omega
    ·simp only [Value.slice.injEq] at hv; exact ⟨g, hv.1⟩
   have Gi := qI hown6
   have Gd := qI hk6
   have Gp : Hid ((Value.slice ak acc.length ck).ownBlock = some g6 ∨ g6 = w5.heap.size) := qI (by
    rcases hg6 with h | h
    ·exact .inl (by rw [← h]; rfl)
    ·exact .inr (by simpa [Value.ownBlock] using h))
   have Gg : Hid (W.heap.size ≤ g6 ∧ g6 < w6.heap.size) := qI (hown6.lt g6 rfl)
   have Gr : Hid (w6.heap[bv]? = some (.cells (qj 6 0 ⟨#[]⟩ (.slice none 0 0) (.slice ak acc.length ck)) 25 (0, 0))) := qI (hk6.heap (Ga.o.heap HJ.o.blk (by have := HP.o.ltv; simp; omega)) (fun hx => by have := (Gc.o _ (Option.mem_toList.1 hx)).1; have := HP.o.hv; omega))
   have Gs : Hid (bv ≠ g6) := qI (by have := Gg.o.1; have := HP.o.hv; omega)
   clear hrow5 hown6 hk6 hg6 hSS
   refine hK _ _ (.inl rfl) ?_
   clear hK K
   try simp only [zA,zN,zB,zC,zD]
   have hnI : (acc.length : Int) < (acc.length : Int) + 1 := by omega
   refine qW 10 ?_ hO rfl rfl (by kernel_rfl) hQp (fun w _ => ?_) ?_
   rotate_left
   ·go_simp; try with_reducible rfl
   try simp only [zA,zN,zB,zC,zD]
   refine qW 12 ?_ hO rfl rfl (by kernel_rfl) hQp (fun w _ => ?_) ?_
   rotate_left
   ·go_simp; try with_reducible rfl
   try simp only [zA,zN,zB,zC,zD]
   have hls6 : ∀ x, x ∈ (mcs.map zM) ++ [kA] → x.length = 6 := fun x hx => by
    rcases List.mem_append.1 hx with hx | hx
    ·exact Ju.o x hx
    ·simp at hx; subst hx; rfl
   have hrow6 : w6.ownsRow W.heap.size 60 6 (.slice (some ⟨g6, 0, none⟩) (acc.length + 1) d6) (acc.length + 1) ((mcs.map zM) ++ [kA]).flatten := by
    have h9 := Gi.o
    rw [zP] at h9
    rw [List.flatten_append]
    simp only [List.flatten_cons, List.flatten_nil, List.append_nil]
    exact h9
   have Jb := qI hrow6
   have Gj : Hid ((((mcs.map zM) ++ [kA]).set acc.length [.string key, .int .i64 k3, .int .i64 m3, .string s3, .slice p3 i3 d3, .slice q3 j3 e3]).flatten = zQ (mcs ++ [(key, [.int .i64 k3, .int .i64 m3, .string s3, .slice p3 i3 d3, .slice q3 j3 e3])])) := qI (by
    rw [List.set_append_right _ _ (by have := Gy.o; rw [List.length_map]; omega), List.length_map, Gy.o, Nat.sub_self, zP, List.map_append]
    rfl)
   have Gx := qI hls6
   have Gk : Hid (((mcs.map zM) ++ [kA]).length = acc.length + 1) := qI (by rw [List.length_append, List.length_map, Gy.o]; rfl)
   clear hls6 hrow6
   refine yz (i := 11) (j := 13) hO rfl rfl (by kernel_rfl) (by kernel_rfl) (by kernel_rfl) (fun K hK => ?_) (fun K hK => ?_)
   ·obtain ⟨hro, hth, hkg⟩ := yn (i := acc.length) (g := g6) (c := [.string key, .int .i64 k3, .int .i64 m3, .string s3, .slice p3 i3 d3, .slice q3 j3 e3]) Jb.o Gx.o rfl Gk.o (Nat.lt_succ_self _) rfl
    rw [Gj.o] at hro
    have Gw := qI hro
    have Gl := qI hkg
    clear hro hkg
    refine wp_store_mid 60 (.tmp 36) (.tmp 32) rfl g6 (acc.length * 6) #[.string key, .int .i64 k3, .int .i64 m3, .string s3, .slice p3 i3 d3, .slice q3 j3 e3] rfl rfl hth (by kernel_rfl) (by simp [Value.oneCell']) ?_
    refine hK _ _ (.inr (.inl (by kernel_rfl))) ?_
    clear hK K
    try simp only [zA,zN,zB,zC,zD]
    have hb7 := Gl.o.heap Gr.o (by simpa using Gs.o)
    have Gm := qI hb7
    have c3 := za (o := 4) (v := .slice ak acc.length ck) hb7 rfl
    have z3 := zc (o := 4) hb7
    clear hb7
    refine qV 13 hO rfl (by kernel_rfl) (fun K hK => ?_)
    go_simp
    refine hK _ _ (.inr (.inl (by kernel_rfl))) ?_
    clear hK K
    try simp only [zA,zN,zB,zC,zD]
    refine zS hO (by kernel_rfl) ?_ _
    subst hR
    try clear hQp hO O
    clear c3 z3 hth
    have hbF := zf (i := 4) (v := .slice (some ⟨g6, 0, none⟩) (acc.length + 1) d6) Gm.o rfl
    have hkF := ((Gl.o.mono (Y := [bv, g6]) (by simp)).setCell (p := ⟨bv, 4, none⟩) (.inl (by simp)) (.slice (some ⟨g6, 0, none⟩) (acc.length + 1) d6))
    have hrF := zh Gw.o (zT _ bv 4 (.slice (some ⟨g6, 0, none⟩) (acc.length + 1) d6)) (fun i hi hx => by simp [Value.ownBlock] at hi hx; exact Gs.o (by rw [← hx, ← hi]))
    revert hbF hkF hrF
    generalize World.setCell _ ⟨bv, 4, none⟩ (.slice (some ⟨g6, 0, none⟩) (acc.length + 1) d6) = wF
    intro hbF hkF hrF
    have Gn : bX W bv b2 b3 b6 bm p d wF := (HJ.o.cap.step HP.o ((Ga.o.mono (Y := p :: bv :: g6 :: (Value.slice ak acc.length ck).ownBlock.toList) (by simp)).trans' ((Gd.o.mono (fun i hi => by simp at hi ⊢; exact .inr (.inr (.inr hi)))).trans' (hkF.mono (fun i hi => by simp at hi ⊢; rcases hi with h | h; exact .inr (.inl h); exact .inr (.inr (.inl h)))))) (fun i hi => by
     have h9 := Gp.o
     have hwz := Gu.o
     have h5z := Ga.o.size
     rcases List.mem_cons.1 hi with h | hi
     ·exact .inl h
     rcases List.mem_cons.1 hi with h | hi
     ·exact .inr (.inl h)
     rcases List.mem_cons.1 hi with h | hi
     ·subst h
      rcases h9 with h9 | h9
      ·exact .inr (.inr (.inr (Gc.o _ h9).1))
      ·exact .inr (.inr (.inr (by omega)))
     ·exact .inr (.inr (.inr (Gc.o _ (Option.mem_toList.1 hi)).1))))
    have hfar : ∀ b, b < W.heap.size → b ≠ bv → b ∉ [bv, g6] := fun b h1 h2 hx => by
     have := Gg.o.1
     simp at hx
     rcases hx with hx | hx
     ·exact h2 hx
     ·omega
    have hown : ∀ b, b < W.heap.size → b ∉ (Value.slice ak acc.length ck).ownBlock.toList := fun b h1 hx => by have := (Gc.o _ (Option.mem_toList.1 hx)).1; omega
    have Gv : Hid (∀ x, PS w5 p S 4097 x → PS wF p S 4097 x) := qI (fun x h => (h.kept Gd.o (hown _ HP.o.hp)).kept hkF (hfar _ HP.o.hp (by have := HP.o.ltv; omega)))
    have hsaw := ((HJ.o.saw.kept Ga.o (by have := HP.o.ltm; simp; omega)).kept Gd.o (hown _ HP.o.hm)).kept hkF (hfar _ HP.o.hm HP.o.vm.symm)
    go_wp2_with fail
    go_end0
    refine ⟨rfl, xS Jh.o Gf.o Gv.o ⟨Gn, _, _, _, hbF⟩ (fun v hv => ?_)⟩
    rw [Ji.o]
    have h9 := HJ.o.snoc (key := key) HP.o Gn hsaw hbF Ga.o Gd.o hkF rfl Gp.o hrF hv Gh.o
    rw [List.map_append]
    exact ⟨_, _, h9⟩
   ·have c3 := za (o := 4) (v := .slice ak acc.length ck) Gr.o rfl
    have z3 := zc (o := 4) Gr.o
    go_simp
    refine hK _ _ (.inr (.inl (by kernel_rfl))) ?_
    clear hK K
    try simp only [zA,zN,zB,zC,zD]
    clear c3 z3
    have hb7 := zf (i := 4) (v := .slice (some ⟨g6, 0, none⟩) (acc.length + 1) d6) Gr.o rfl
    have Gm := qI hb7
    have Gt := qI (zT w6 bv 4 (.slice (some ⟨g6, 0, none⟩) (acc.length + 1) d6))
    clear hb7
    revert Gm Gt
    generalize w6.setCell ⟨bv, 4, none⟩ (.slice (some ⟨g6, 0, none⟩) (acc.length + 1) d6) = w7
    intro Gm Gt
    have hrow7 := zh Jb.o Gt.o (fun i hi hx => by simp [Value.ownBlock] at hi hx; exact Gs.o (by rw [← hx, ← hi]))
    obtain ⟨hro, hth, hkg⟩ := yn (i := acc.length) (g := g6) (c := [.string key, .int .i64 k3, .int .i64 m3, .string s3, .slice p3 i3 d3, .slice q3 j3 e3]) hrow7 Gx.o rfl Gk.o (Nat.lt_succ_self _) rfl
    rw [Gj.o] at hro
    have Gw := qI hro
    have Gl := qI hkg
    clear hro hkg hrow7
    refine qV 11 hO rfl (by kernel_rfl) (fun K hK => ?_)
    refine wp_store_mid 60 (.tmp 36) (.tmp 32) rfl g6 (acc.length * 6) #[.string key, .int .i64 k3, .int .i64 m3, .string s3, .slice p3 i3 d3, .slice q3 j3 e3] rfl rfl hth (by kernel_rfl) (by simp [Value.oneCell']) ?_
    refine hK _ _ (.inr (.inl (by kernel_rfl))) ?_
    clear hK K
    try simp only [zA,zN,zB,zC,zD]
    refine zS hO (by kernel_rfl) ?_ _
    subst hR
    try clear hQp hO O
    clear hth
    have hbF := Gl.o.heap Gm.o (by simpa using Gs.o)
    have hkF := ((Gt.o.mono (Y := [bv, g6]) (by simp)).trans' (Gl.o.mono (Y := [bv, g6]) (by simp)))
    have hrF := Gw.o
    revert hbF hkF hrF
    generalize World.setCells _ g6 (acc.length * 6) (#[.string key, .int .i64 k3, .int .i64 m3, .string s3, .slice p3 i3 d3, .slice q3 j3 e3] : Array Value).toList = wF
    intro hbF hkF hrF
    have Gn : bX W bv b2 b3 b6 bm p d wF := (HJ.o.cap.step HP.o ((Ga.o.mono (Y := p :: bv :: g6 :: (Value.slice ak acc.length ck).ownBlock.toList) (by simp)).trans' ((Gd.o.mono (fun i hi => by simp at hi ⊢; exact .inr (.inr (.inr hi)))).trans' (hkF.mono (fun i hi => by simp at hi ⊢; rcases hi with h | h; exact .inr (.inl h); exact .inr (.inr (.inl h)))))) (fun i hi => by
     have h9 := Gp.o
     have hwz := Gu.o
     have h5z := Ga.o.size
     rcases List.mem_cons.1 hi with h | hi
     ·exact .inl h
     rcases List.mem_cons.1 hi with h | hi
     ·exact .inr (.inl h)
     rcases List.mem_cons.1 hi with h | hi
     ·subst h
      rcases h9 with h9 | h9
      ·exact .inr (.inr (.inr (Gc.o _ h9).1))
      ·exact .inr (.inr (.inr (by omega)))
     ·exact .inr (.inr (.inr (Gc.o _ (Option.mem_toList.1 hi)).1))))
    have hfar : ∀ b, b < W.heap.size → b ≠ bv → b ∉ [bv, g6] := fun b h1 h2 hx => by
     have := Gg.o.1
     simp at hx
     rcases hx with hx | hx
     ·exact h2 hx
     ·omega
    have hown : ∀ b, b < W.heap.size → b ∉ (Value.slice ak acc.length ck).ownBlock.toList := fun b h1 hx => by have := (Gc.o _ (Option.mem_toList.1 hx)).1; omega
    have Gv : Hid (∀ x, PS w5 p S 4097 x → PS wF p S 4097 x) := qI (fun x h => (h.kept Gd.o (hown _ HP.o.hp)).kept hkF (hfar _ HP.o.hp (by have := HP.o.ltv; omega)))
    have hsaw := ((HJ.o.saw.kept Ga.o (by have := HP.o.ltm; simp; omega)).kept Gd.o (hown _ HP.o.hm)).kept hkF (hfar _ HP.o.hm HP.o.vm.symm)
    go_wp2_with fail
    go_end0
    refine ⟨rfl, xS Jh.o Gf.o Gv.o ⟨Gn, _, _, _, hbF⟩ (fun v hv => ?_)⟩
    rw [Ji.o]
    have h9 := HJ.o.snoc (key := key) HP.o Gn hsaw hbF Ga.o Gd.o hkF rfl Gp.o hrF hv Gh.o
    rw [List.map_append]
    exact ⟨_, _, h9⟩
  ·go_simp
   have Ge : Hid (zb [] WD (WD.alloc (.cells #[.string ⟨#[]⟩, .int .i64 0, .int .i64 0, .string ⟨#[]⟩, .slice none 0 0, .slice none 0 0] 60))) := qI ((zb.refl [] WD).alloc _)
   have Gb := qI (yL WD [.string ⟨#[]⟩, .int .i64 0, .int .i64 0, .string ⟨#[]⟩, .slice none 0 0, .slice none 0 0] 6 1 60 WD.heap.size rfl rfl (by decide))
   have hS4 : (fun w' : World => w'.cell? ⟨bv, 4, none⟩ = some (.slice ak acc.length ck) ∧ w'.cell? ⟨b2, 0, none⟩ = some (.pointer (some ⟨p, 0, none⟩)) ∧ w'.cell? ⟨b3, 0, none⟩ = some (.int .i64 d)) (WD.alloc (.cells #[.string ⟨#[]⟩, .int .i64 0, .int .i64 0, .string ⟨#[]⟩, .slice none 0 0, .slice none 0 0] 60)) := ⟨Ge.o.cell hSS.1 (by simp), Ge.o.cell hSS.2.1 (by simp), Ge.o.cell hSS.2.2 (by simp)⟩
   refine hK _ _ (.inr (.inr hS4)) ?_
   clear hK K
   try simp only [zA,zN,zB,zC,zD]
   clear hSS
   have hSS := hS4
   clear hS4
   revert hSS Ge Gb
   generalize WD.alloc (.cells #[.string ⟨#[]⟩, .int .i64 0, .int .i64 0, .string ⟨#[]⟩, .slice none 0 0, .slice none 0 0] 60) = w4
   intro Ge Gb hSS
   have Jg := qI (Gq.o.then Ge.o)
   refine qV 5 hO rfl (by kernel_rfl) (fun K hK => ?_)
   go_simp
   refine Calls.mono (CV.o _ Jg.o) ?_
   rintro e w5 hans
   obtain ⟨cs3, rfl, hsh, hk3, hsd⟩ := hans.saidX
   obtain ⟨k3, m3, s3, p3, i3, d3, q3, j3, e3, rfl⟩ := hsh
   have Jj := qI hk3
   have Je := qI ((Jg.o.mono (Y := [p]) (by simp)).trans' hk3)
   have Ja := qI hsd
   have Gh : Hid (w0.heap.size ≤ w4.heap.size) := qI Jg.o.size
   have hS3 : (fun w' : World => w'.cell? ⟨bv, 4, none⟩ = some (.slice ak acc.length ck) ∧ w'.cell? ⟨b2, 0, none⟩ = some (.pointer (some ⟨p, 0, none⟩)) ∧ w'.cell? ⟨b3, 0, none⟩ = some (.int .i64 d)) w5 := ⟨hk3.cell hSS.1 (by have := HP.o.ltv; simp; omega), hk3.cell hSS.2.1 (by simpa using HP.o.p2), hk3.cell hSS.2.2 (by simpa using HP.o.p3)⟩
   clear hans hk3 hsd
   refine hK _ _ (.inr (.inr hS3)) ?_
   clear hK K
   try simp only [zA,zN,zB,zC,zD]
   clear hSS
   have hSS := hS3
   clear hS3
   refine qU 6 ?_ hO rfl rfl (by kernel_rfl) hQp (fun w hSw => ?_) hSS ?_
   rotate_left
   ·go_simp; try with_reducible rfl
   try simp only [zA,zN,zB,zC,zD]
   have Ga := qI Je.o
   have Gf := qI Ja.o
   have Jc := qI Gb.o
   clear Gb
   have Gb := qI (Jc.o.kept Jj.o (fun i hi hx => by simp [jJ] at hi hx; have := Gq.o.size; have := Gu.o; have := HP.o.hp; omega))
   clear Ja
   have hrow5 := zh HJ.o.row Ga.o (fun i hi hx => by simp at hx; have := (Gc.o i hi).1; have := HP.o.hp; omega)
   refine qV 9 hO rfl (by kernel_rfl) (fun K hK => ?_)
   refine yp kD hrow5 Gb.o (by intro u hu; simp only [List.mem_cons, List.not_mem_nil, or_false] at hu; rcases hu with rfl | rfl | rfl | rfl | rfl | rfl <;> rfl) (by have := HN.o; simp only [maxLen]; omega) (by have := HN.o; omega) (by have := Ga.o.size; have := Gu.o; omega) (.tmp 27) (.tmp 34) rfl rfl rfl ?_
   intro bb6 d6 w6 hown6 hk6 hg6
   obtain ⟨g6, rfl⟩ : ∃ g6, bb6 = some ⟨g6, 0, none⟩ := by
    rcases hown6.2 with ⟨h, h1⟩ | ⟨g, cap, cur, hv, _⟩
    ·omega
    ·simp only [Value.slice.injEq] at hv; exact ⟨g, hv.1⟩
   have Gi := qI hown6
   have Gd := qI hk6
   have Gp : Hid ((Value.slice ak acc.length ck).ownBlock = some g6 ∨ g6 = w5.heap.size) := qI (by
    rcases hg6 with h | h
    ·exact .inl (by rw [← h]; rfl)
    ·exact .inr (by simpa [Value.ownBlock] using h))
   have Gg : Hid (W.heap.size ≤ g6 ∧ g6 < w6.heap.size) := qI (hown6.lt g6 rfl)
   have Gr : Hid (w6.heap[bv]? = some (.cells (qj 6 0 ⟨#[]⟩ (.slice none 0 0) (.slice ak acc.length ck)) 25 (0, 0))) := qI (hk6.heap (Ga.o.heap HJ.o.blk (by have := HP.o.ltv; simp; omega)) (fun hx => by have := (Gc.o _ (Option.mem_toList.1 hx)).1; have := HP.o.hv; omega))
   have Gs : Hid (bv ≠ g6) := qI (by have := Gg.o.1; have := HP.o.hv; omega)
   clear hrow5 hown6 hk6 hg6 hSS
   refine hK _ _ (.inl rfl) ?_
   clear hK K
   try simp only [zA,zN,zB,zC,zD]
   have hnI : (acc.length : Int) < (acc.length : Int) + 1 := by omega
   refine qW 10 ?_ hO rfl rfl (by kernel_rfl) hQp (fun w _ => ?_) ?_
   rotate_left
   ·go_simp; try with_reducible rfl
   try simp only [zA,zN,zB,zC,zD]
   refine qW 12 ?_ hO rfl rfl (by kernel_rfl) hQp (fun w _ => ?_) ?_
   rotate_left
   ·go_simp; try with_reducible rfl
   try simp only [zA,zN,zB,zC,zD]
   have hls6 : ∀ x, x ∈ (mcs.map zM) ++ [kA] → x.length = 6 := fun x hx => by
    rcases List.mem_append.1 hx with hx | hx
    ·exact Ju.o x hx
    ·simp at hx; subst hx; rfl
   have hrow6 : w6.ownsRow W.heap.size 60 6 (.slice (some ⟨g6, 0, none⟩) (acc.length + 1) d6) (acc.length + 1) ((mcs.map zM) ++ [kA]).flatten := by
    have h9 := Gi.o
    rw [zP] at h9
    rw [List.flatten_append]
    simp only [List.flatten_cons, List.flatten_nil, List.append_nil]
    exact h9
   have Jb := qI hrow6
   have Gj : Hid ((((mcs.map zM) ++ [kA]).set acc.length [.string key, .int .i64 k3, .int .i64 m3, .string s3, .slice p3 i3 d3, .slice q3 j3 e3]).flatten = zQ (mcs ++ [(key, [.int .i64 k3, .int .i64 m3, .string s3, .slice p3 i3 d3, .slice q3 j3 e3])])) := qI (by
    rw [List.set_append_right _ _ (by have := Gy.o; rw [List.length_map]; omega), List.length_map, Gy.o, Nat.sub_self, zP, List.map_append]
    rfl)
   have Gx := qI hls6
   have Gk : Hid (((mcs.map zM) ++ [kA]).length = acc.length + 1) := qI (by rw [List.length_append, List.length_map, Gy.o]; rfl)
   clear hls6 hrow6
   refine yz (i := 11) (j := 13) hO rfl rfl (by kernel_rfl) (by kernel_rfl) (by kernel_rfl) (fun K hK => ?_) (fun K hK => ?_)
   ·obtain ⟨hro, hth, hkg⟩ := yn (i := acc.length) (g := g6) (c := [.string key, .int .i64 k3, .int .i64 m3, .string s3, .slice p3 i3 d3, .slice q3 j3 e3]) Jb.o Gx.o rfl Gk.o (Nat.lt_succ_self _) rfl
    rw [Gj.o] at hro
    have Gw := qI hro
    have Gl := qI hkg
    clear hro hkg
    refine wp_store_mid 60 (.tmp 36) (.tmp 32) rfl g6 (acc.length * 6) #[.string key, .int .i64 k3, .int .i64 m3, .string s3, .slice p3 i3 d3, .slice q3 j3 e3] rfl rfl hth (by kernel_rfl) (by simp [Value.oneCell']) ?_
    refine hK _ _ (.inr (.inl (by kernel_rfl))) ?_
    clear hK K
    try simp only [zA,zN,zB,zC,zD]
    have hb7 := Gl.o.heap Gr.o (by simpa using Gs.o)
    have Gm := qI hb7
    have c3 := za (o := 4) (v := .slice ak acc.length ck) hb7 rfl
    have z3 := zc (o := 4) hb7
    clear hb7
    refine qV 13 hO rfl (by kernel_rfl) (fun K hK => ?_)
    go_simp
    refine hK _ _ (.inr (.inl (by kernel_rfl))) ?_
    clear hK K
    try simp only [zA,zN,zB,zC,zD]
    refine zS hO (by kernel_rfl) ?_ _
    subst hR
    try clear hQp hO O
    clear c3 z3 hth
    have hbF := zf (i := 4) (v := .slice (some ⟨g6, 0, none⟩) (acc.length + 1) d6) Gm.o rfl
    have hkF := ((Gl.o.mono (Y := [bv, g6]) (by simp)).setCell (p := ⟨bv, 4, none⟩) (.inl (by simp)) (.slice (some ⟨g6, 0, none⟩) (acc.length + 1) d6))
    have hrF := zh Gw.o (zT _ bv 4 (.slice (some ⟨g6, 0, none⟩) (acc.length + 1) d6)) (fun i hi hx => by simp [Value.ownBlock] at hi hx; exact Gs.o (by rw [← hx, ← hi]))
    revert hbF hkF hrF
    generalize World.setCell _ ⟨bv, 4, none⟩ (.slice (some ⟨g6, 0, none⟩) (acc.length + 1) d6) = wF
    intro hbF hkF hrF
    have Gn : bX W bv b2 b3 b6 bm p d wF := (HJ.o.cap.step HP.o ((Ga.o.mono (Y := p :: bv :: g6 :: (Value.slice ak acc.length ck).ownBlock.toList) (by simp)).trans' ((Gd.o.mono (fun i hi => by simp at hi ⊢; exact .inr (.inr (.inr hi)))).trans' (hkF.mono (fun i hi => by simp at hi ⊢; rcases hi with h | h; exact .inr (.inl h); exact .inr (.inr (.inl h)))))) (fun i hi => by
     have h9 := Gp.o
     have hwz := Gu.o
     have h5z := Ga.o.size
     rcases List.mem_cons.1 hi with h | hi
     ·exact .inl h
     rcases List.mem_cons.1 hi with h | hi
     ·exact .inr (.inl h)
     rcases List.mem_cons.1 hi with h | hi
     ·subst h
      rcases h9 with h9 | h9
      ·exact .inr (.inr (.inr (Gc.o _ h9).1))
      ·exact .inr (.inr (.inr (by omega)))
     ·exact .inr (.inr (.inr (Gc.o _ (Option.mem_toList.1 hi)).1))))
    have hfar : ∀ b, b < W.heap.size → b ≠ bv → b ∉ [bv, g6] := fun b h1 h2 hx => by
     have := Gg.o.1
     simp at hx
     rcases hx with hx | hx
     ·exact h2 hx
     ·omega
    have hown : ∀ b, b < W.heap.size → b ∉ (Value.slice ak acc.length ck).ownBlock.toList := fun b h1 hx => by have := (Gc.o _ (Option.mem_toList.1 hx)).1; omega
    have Gv : Hid (∀ x, PS w5 p S 4097 x → PS wF p S 4097 x) := qI (fun x h => (h.kept Gd.o (hown _ HP.o.hp)).kept hkF (hfar _ HP.o.hp (by have := HP.o.ltv; omega)))
    have hsaw := ((HJ.o.saw.kept Ga.o (by have := HP.o.ltm; simp; omega)).kept Gd.o (hown _ HP.o.hm)).kept hkF (hfar _ HP.o.hm HP.o.vm.symm)
    go_wp2_with fail
    go_end0
    refine ⟨rfl, xS Jh.o Gf.o Gv.o ⟨Gn, _, _, _, hbF⟩ (fun v hv => ?_)⟩
    rw [Ji.o]
    have h9 := HJ.o.snoc (key := key) HP.o Gn hsaw hbF Ga.o Gd.o hkF rfl Gp.o hrF hv Gh.o
    rw [List.map_append]
    exact ⟨_, _, h9⟩
   ·have c3 := za (o := 4) (v := .slice ak acc.length ck) Gr.o rfl
    have z3 := zc (o := 4) Gr.o
    go_simp
    refine hK _ _ (.inr (.inl (by kernel_rfl))) ?_
    clear hK K
    try simp only [zA,zN,zB,zC,zD]
    clear c3 z3
    have hb7 := zf (i := 4) (v := .slice (some ⟨g6, 0, none⟩) (acc.length + 1) d6) Gr.o rfl
    have Gm := qI hb7
    have Gt := qI (zT w6 bv 4 (.slice (some ⟨g6, 0, none⟩) (acc.length + 1) d6))
    clear hb7
    revert Gm Gt
    generalize w6.setCell ⟨bv, 4, none⟩ (.slice (some ⟨g6, 0, none⟩) (acc.length + 1) d6) = w7
    intro Gm Gt
    have hrow7 := zh Jb.o Gt.o (fun i hi hx => by simp [Value.ownBlock] at hi hx; exact Gs.o (by rw [← hx, ← hi]))
    obtain ⟨hro, hth, hkg⟩ := yn (i := acc.length) (g := g6) (c := [.string key, .int .i64 k3, .int .i64 m3, .string s3, .slice p3 i3 d3, .slice q3 j3 e3]) hrow7 Gx.o rfl Gk.o (Nat.lt_succ_self _) rfl
    rw [Gj.o] at hro
    have Gw := qI hro
    have Gl := qI hkg
    clear hro hkg hrow7
    refine qV 11 hO rfl (by kernel_rfl) (fun K hK => ?_)
    refine wp_store_mid 60 (.tmp 36) (.tmp 32) rfl g6 (acc.length * 6) #[.string key, .int .i64 k3, .int .i64 m3, .string s3, .slice p3 i3 d3, .slice q3 j3 e3] rfl rfl hth (by kernel_rfl) (by simp [Value.oneCell']) ?_
    refine hK _ _ (.inr (.inl (by kernel_rfl))) ?_
    clear hK K
    try simp only [zA,zN,zB,zC,zD]
    refine zS hO (by kernel_rfl) ?_ _
    subst hR
    try clear hQp hO O
    clear hth
    have hbF := Gl.o.heap Gm.o (by simpa using Gs.o)
    have hkF := ((Gt.o.mono (Y := [bv, g6]) (by simp)).trans' (Gl.o.mono (Y := [bv, g6]) (by simp)))
    have hrF := Gw.o
    revert hbF hkF hrF
    generalize World.setCells _ g6 (acc.length * 6) (#[.string key, .int .i64 k3, .int .i64 m3, .string s3, .slice p3 i3 d3, .slice q3 j3 e3] : Array Value).toList = wF
    intro hbF hkF hrF
    have Gn : bX W bv b2 b3 b6 bm p d wF := (HJ.o.cap.step HP.o ((Ga.o.mono (Y := p :: bv :: g6 :: (Value.slice ak acc.length ck).ownBlock.toList) (by simp)).trans' ((Gd.o.mono (fun i hi => by simp at hi ⊢; exact .inr (.inr (.inr hi)))).trans' (hkF.mono (fun i hi => by simp at hi ⊢; rcases hi with h | h; exact .inr (.inl h); exact .inr (.inr (.inl h)))))) (fun i hi => by
     have h9 := Gp.o
     have hwz := Gu.o
     have h5z := Ga.o.size
     rcases List.mem_cons.1 hi with h | hi
     ·exact .inl h
     rcases List.mem_cons.1 hi with h | hi
     ·exact .inr (.inl h)
     rcases List.mem_cons.1 hi with h | hi
     ·subst h
      rcases h9 with h9 | h9
      ·exact .inr (.inr (.inr (Gc.o _ h9).1))
      ·exact .inr (.inr (.inr (by omega)))
     ·exact .inr (.inr (.inr (Gc.o _ (Option.mem_toList.1 hi)).1))))
    have hfar : ∀ b, b < W.heap.size → b ≠ bv → b ∉ [bv, g6] := fun b h1 h2 hx => by
     have := Gg.o.1
     simp at hx
     rcases hx with hx | hx
     ·exact h2 hx
     ·omega
    have hown : ∀ b, b < W.heap.size → b ∉ (Value.slice ak acc.length ck).ownBlock.toList := fun b h1 hx => by have := (Gc.o _ (Option.mem_toList.1 hx)).1; omega
    have Gv : Hid (∀ x, PS w5 p S 4097 x → PS wF p S 4097 x) := qI (fun x h => (h.kept Gd.o (hown _ HP.o.hp)).kept hkF (hfar _ HP.o.hp (by have := HP.o.ltv; omega)))
    have hsaw := ((HJ.o.saw.kept Ga.o (by have := HP.o.ltm; simp; omega)).kept Gd.o (hown _ HP.o.hm)).kept hkF (hfar _ HP.o.hm HP.o.vm.symm)
    go_wp2_with fail
    go_end0
    refine ⟨rfl, xS Jh.o Gf.o Gv.o ⟨Gn, _, _, _, hbF⟩ (fun v hv => ?_)⟩
    rw [Ji.o]
    have h9 := HJ.o.snoc (key := key) HP.o Gn hsaw hbF Ga.o Gd.o hkF rfl Gp.o hrF hv Gh.o
    rw [List.map_append]
    exact ⟨_, _, h9⟩
end
end Go.Proofs.YtpbphdkjjoipnaaGreatDoor
