/- Parts of one proof, merged: XPA XPB XPC XPD XPE XPF XPG. -/
import Derived.Test.YtpbphdkjjoipnaaGreatDoorFD
import Derived.Test.YtpbphdkjjoipnaaGreatDoorFC
import Derived.Test.YtpbphdkjjoipnaaGreatDoorFB
import Derived.Test.YtpbphdkjjoipnaaGreatDoorFF
import Derived.Test.YtpbphdkjjoipnaaGreatDoorFE
set_option linter.all false
set_option maxHeartbeats 12800000
set_option maxRecDepth 10000
set_option linter.unusedVariables false
set_option linter.unusedSimpArgs false
set_option linter.unnecessarySimpa false
namespace Go.Proofs.YtpbphdkjjoipnaaGreatDoor
open Go.RowKit
def PSt (At : Nat → Nat → Int → Prop) (S : ByteArray) (B : Nat) (x : Sum Int (List UInt8 × Nat)) : Prop :=
 ∃ (i c : Nat) (e : Int), At i c e ∧ i ≤ S.size ∧ c ≤ B ∧ (match x with
  | .inl e' => e = e' ∧ 0 < e ∧ e ≤ 1000
  | .inr (r, c') => e = 0 ∧ S.data.toList.drop i = r ∧ c = c')
def PAt (w : World) (p : Nat) (S : ByteArray) (i c : Nat) (e : Int) : Prop := w.heap[p]? = some (.cells #[.string S, .int .i64 i, .int .i64 c, .int .i64 e] 63 (0, 0))
def PS (w : World) (p : Nat) (S : ByteArray) (B : Nat) (x : Sum Int (List UInt8 × Nat)) : Prop := PSt (PAt w p S) S B x
section
variable {w w' : World} {p B : Nat} {S : ByteArray} {x : Sum Int (List UInt8 × Nat)} {X : List Nat}
theorem PS.kept (h : PS w p S B x) (k : zc X w w') (hp : p ∉ X) : PS w' p S B x := by
 obtain ⟨i, c, e, h1, h2⟩ := h
 exact ⟨i, c, e, k.heap h1 hp, h2⟩
theorem PS.kept0 (h : PS w p S B x) (k : zc [] w w') : PS w' p S B x := h.kept k (by simp)
theorem PS.lt (h : PS w p S B x) : p < w.heap.size := by obtain ⟨i, c, e, h1, h2⟩ := h; exact lt_of_block h1
theorem PAt.cells {i c : Nat} {e : Int} (h : PAt w p S i c e) : w.cell? ⟨p, 0, none⟩ = some (.string S) ∧ w.cell? ⟨p, 1, none⟩ = some (.int .i64 i) ∧ w.cell? ⟨p, 2, none⟩ = some (.int .i64 c) ∧ w.cell? ⟨p, 3, none⟩ = some (.int .i64 e) ∧ ∀ o, w.frozen? ⟨p, o, none⟩ = false :=
 ⟨zb (o := 0) h rfl, zb (o := 1) h rfl, zb (o := 2) h rfl, zb (o := 3) h rfl, fun o => zg h⟩
theorem PAt.set1 {i c : Nat} {e : Int} (h : PAt w p S i c e) (k : Nat) : PAt (w.setCell ⟨p, 1, none⟩ (.int .i64 (k : Nat))) p S k c e := ze h rfl
theorem PAt.set2 {i c : Nat} {e : Int} (h : PAt w p S i c e) (k : Nat) : PAt (w.setCell ⟨p, 2, none⟩ (.int .i64 (k : Nat))) p S i k e := ze h rfl
theorem PAt.set3 {i c : Nat} {e : Int} (h : PAt w p S i c e) (k : Int) : PAt (w.setCell ⟨p, 3, none⟩ (.int .i64 k)) p S i c k := ze h rfl
theorem zT (w : World) (p o : Nat) (v : Value) : zc [p] w (w.setCell ⟨p, o, none⟩ v) := (zc.refl [p] w).setCell (p := ⟨p, o, none⟩) (.inl (by simp)) v
theorem PS.good {i c : Nat} (h : PAt w p S i c 0) (hi : i ≤ S.size) (hc : c ≤ B) : PS w p S B (.inr (S.data.toList.drop i, c)) := ⟨i, c, 0, h, hi, hc, rfl, rfl, rfl⟩
theorem PS.bad {i c : Nat} {e : Int} (h : PAt w p S i c e) (hi : i ≤ S.size) (hc : c ≤ B) (h0 : 0 < e) (h1 : e ≤ 1000) : PS w p S B (.inl e) := ⟨i, c, e, h, hi, hc, rfl, h0, h1⟩
theorem PS.open_ok {r : List UInt8} {c : Nat} (h : PS w p S B (.inr (r, c))) : ∃ i, PAt w p S i c 0 ∧ i ≤ S.size ∧ c ≤ B ∧ S.data.toList.drop i = r := by
 obtain ⟨i, c', e, h1, h2, h3, rfl, h5, rfl⟩ := h
 exact ⟨i, h1, h2, h3, h5⟩
theorem PS.open_bad {e : Int} (h : PS w p S B (.inl e)) : ∃ i c : Nat, PAt w p S i c e ∧ i ≤ S.size ∧ c ≤ B ∧ 0 < e ∧ e ≤ 1000 := by
 obtain ⟨i, c', e', h1, h2, h3, rfl, h5, h6⟩ := h
 exact ⟨i, c', h1, h2, h3, h5, h6⟩
end
theorem xu.step {b : Nat} {W w : World} (h : xu b W) (k : zc [b] W w) : xu b w := by
 obtain ⟨Wt, h1, h2, h3⟩ := h
 exact ⟨Wt, h1, h2.trans k (fun i hi => by simp at hi; subst hi; exact .inr h3), h3⟩
theorem xu.here {b : Nat} {w : World} (h : xu b w) : yU w := h.at (zc.refl _ _)
theorem rest_str {S : ByteArray} {i : Nat} {r : List UInt8} (h : S.data.toList.drop i = r) : S.extract i S.size = zf r := kA (by rw [jJ, h, zo])
theorem yx {S : ByteArray} {i : Nat} {r : List UInt8} (h : S.data.toList.drop i = r) (hi : i ≤ S.size) : i + r.length = S.size := by
 rw [← h, List.length_drop]
 have : S.data.toList.length = S.size := by simp
 omega
section
variable {w : World} {p B : Nat} {S : ByteArray} {x : PX}
theorem yv (h : PS w p S B x) (k : Nat) (e : Int) (hk : k ≤ S.size) (h0 : 0 < e) (h9 : e ≤ 1000) :
  Calls Tryz.prog 51 #[.pointer (some ⟨p, 0, none⟩), .int .i64 k, .int .i64 e] w fun r w' => r = .returned (.bool false) ∧ PS w' p S B (Kh e x) ∧ zc [p] w w' := by
 cases x with
 | inl e0 =>
  obtain ⟨i, c, h1, hi, hc, h2, h3⟩ := h.open_bad
  obtain ⟨c0, c1, c2, c3, fz⟩ := h1.cells
  obtain ⟨f, -⟩ := zy (a := e0) (b := 0) (by omega)
  have H := qI h
  clear h h1 fz
  go_enter Tryz.func51, Tryz.ntmps51
  go_wp2_with fail
  go_ret
  exact ⟨rfl, H.o, zc.refl _ _⟩
 | inr q =>
  obtain ⟨r, c⟩ := q
  obtain ⟨i, h1, hi, hc, hr⟩ := h.open_ok
  obtain ⟨c0, c1, c2, c3, fz⟩ := h1.cells
  have f1 := fz 1
  have f3 := fz 3
  have H := qI h1
  clear h h1 fz hr
  go_enter Tryz.func51, Tryz.ntmps51
  go_wp2_with fail
  go_ret
  exact ⟨rfl, PS.bad ((H.o.set1 k).set3 e) hk hc h0 h9, (zT _ _ _ _).trans' (zT _ _ _ _)⟩
theorem qw (h : PS w p S B x) (hS : S.size ≤ 262144) :
  Calls Tryz.prog 50 #[.pointer (some ⟨p, 0, none⟩)] w fun r w' => r = .returned (.string (zf (qN x))) ∧ zc [] w w' := by
 cases x with
 | inl e0 =>
  obtain ⟨i, c, h1, hi, hc, h2, h3⟩ := h.open_bad
  obtain ⟨c0, c1, c2, c3, fz⟩ := h1.cells
  obtain ⟨-, f⟩ := zy (a := e0) (b := 0) (by omega)
  clear h h1 fz
  go_enter Tryz.func50, Tryz.ntmps50
  go_wp2_with fail
  go_ret
  exact ⟨rfl, zc.refl _ _⟩
 | inr q =>
  obtain ⟨r, c⟩ := q
  obtain ⟨i, h1, hi, hc, hr⟩ := h.open_ok
  obtain ⟨c0, c1, c2, c3, fz⟩ := h1.cells
  have HE : Hid (S.extract i S.size = zf r) := qI (rest_str hr)
  have hiI : (i : Int) ≤ S.size := by omega
  have e0 := zv c0
  have e1 := zv c1
  clear h h1 fz hr hc
  go_enter Tryz.func50, Tryz.ntmps50
  go_wp2_with fail
  refine zR w (by kernel_rfl) (by kernel_rfl) (zc.refl _ _) ?_
  clear c0 c1 c2 c3
  repeat go_big_quiet_step (fail)
  refine wpQuiet_nil ?_
  intro w2 hk2
  clear e0 e1
  go_wp2_with fail
  go_ret
  rw [HE.o]
  exact ⟨rfl, hk2⟩
theorem skip_place {i : Nat} (hi : i ≤ S.size) : ∃ k, i ≤ k ∧ k ≤ S.size ∧ S.data.toList.drop k = zr (S.data.toList.drop i) ∧ k = i + ((S.data.toList.drop i).length - (zr (S.data.toList.drop i)).length) ∧ (zr (S.data.toList.drop i)).length ≤ (S.data.toList.drop i).length := by
 obtain ⟨k, h1, h2, h3, h4, h5⟩ := drop_skip S.data.toList i
 exact ⟨k, h1, by have := h2 (by simpa using hi); simpa using this, h3, h4, h5⟩
theorem blanks_low : ∀ (j : Nat) b, (⟨#[32, 9, 10, 13]⟩ : ByteArray).data.toList[j]? = some b → b.toNat < 128 := by
 intro j b h
 match j, h with
 | 0, h => injection h with h; subst h; decide
 | 1, h => injection h with h; subst h; decide
 | 2, h => injection h with h; subst h; decide
 | 3, h => injection h with h; subst h; decide
theorem Ky (s : List UInt8) (w : World) : Calls Tryz.prog 114 #[.string (zf s), .string ⟨#[32, 9, 10, 13]⟩] w fun e w' => e = .returned (.string (zf (zr s))) ∧ zc [] w w' :=
 (YD (zf s) ⟨#[32, 9, 10, 13]⟩ w (by decide) blanks_low).mono fun e w' ⟨h1, h2⟩ => ⟨by rw [h1, zo]; exact congrArg (fun l => Ending.returned (Value.string (zf l))) (trim_blanks s), h2⟩
theorem xn (h : PS w p S B x) (hS : S.size ≤ 262144) :
  Calls Tryz.prog 79 #[.pointer (some ⟨p, 0, none⟩)] w fun r w' => r = .returned (.tuple #[]) ∧ PS w' p S B (qg x) ∧ zc [p] w w' := by
 obtain ⟨i, c, e, h1, hi, hc, hx⟩ := h
 have CR : Hid (∀ w', PAt w' p S i c e → Calls Tryz.prog 50 #[.pointer (some ⟨p, 0, none⟩)] w' fun r w' => r = .returned (.string (zf (qN x))) ∧ _) := qI (fun w' h' => qw (w := w') ⟨i, c, e, h', hi, hc, hx⟩ hS)
 have HX := qI hx
 obtain ⟨k, hk1, hk2, hk3⟩ : ∃ k : Nat, k = i + ((qN x).length - (zr (qN x)).length) ∧ k ≤ S.size ∧ (∀ w', PAt w' p S k c e → PS w' p S B (qg x)) := by
  cases x with
  | inl e0 => exact ⟨i, by simp [qN, zr], hi, fun w' h' => ⟨i, c, e, h', hi, hc, hx⟩⟩
  | inr q =>
   obtain ⟨r, c'⟩ := q
   obtain ⟨he, hr, hcc⟩ := hx
   subst he
   subst hr
   obtain ⟨k, k1, k2, k3, k4, k5⟩ := skip_place (S := S) hi
   exact ⟨k, k4, k2, fun w' h' => ⟨k, c, 0, h', k2, hc, rfl, k3, hcc⟩⟩
 have HP := qI hk3
 have hle := x8 (qN x)
 have Je : Hid ((zf (qN x)).size = (qN x).length ∧ (zf (zr (qN x))).size = (zr (qN x)).length) := qI ⟨zG _, zG _⟩
 have CT := qI (Ky (qN x))
 have hrl : (qN x).length ≤ 262144 := by
  cases x with
  | inl e0 => simp [qN]
  | inr q =>
   obtain ⟨r, c'⟩ := q
   have := yx hx.2.1 hi
   show r.length ≤ _
   omega
 have hs1 := Je.o
 clear hx hk3 HX
 revert CR CT hs1 hle hrl hk1
 generalize zf (zr (qN x)) = T2
 generalize zf (qN x) = T1
 generalize (zr (qN x)).length = n2
 generalize (qN x).length = n1
 intro CR hk1 hle CT hrl hs1
 obtain ⟨g1, g2⟩ := hs1
 have g1I : (T1.size : Int) = n1 := by omega
 have g2I : (T2.size : Int) = n2 := by omega
 have Ji : Hid ((k : Int) = (i : Int) + ((T1.size : Int) - (T2.size : Int))) := qI (by omega)
 have b1 : (T2.size : Int) ≤ T1.size := by omega
 have b2 : (T1.size : Int) ≤ 262144 := by omega
 have b3 : (i : Int) ≤ 262144 := by omega
 clear g1 g2 g1I g2I hk1 hle hrl Je
 obtain ⟨c0, c1, c2, c3, fz⟩ := h1.cells
 have H1 := qI h1
 clear fz c0 c2 c3 c1
 go_enter Tryz.func79, Tryz.ntmps79
 refine zj (n := 16) (fun w' : World => PAt w' p S i c e ∧ zc [] w w') 15 (by kernel_rfl) (by kernel_rfl) ?_
 change zS _ _ _ _ _ _ _ _ _ w.drew
 have hSS : (fun w' : World => PAt w' p S i c e ∧ zc [] w w') w.drew := ⟨(zc.refl [] w).drew.heap H1.o (by simp), (zc.refl [] w).drew⟩
 clear h1
 revert hSS
 generalize w.drew = WD
 intro hSS
 refine zu ?_
 intro O R hO hR
 have hQp : ∀ c a (d : Nat) v w, R (.panic c) (a.put (some d) v) w → R (.panic c) a w := by subst hR; exact fun _ _ _ _ _ h => h
 refine za (i := 0) (v := ?_) hO rfl rfl (by kernel_rfl) (by kernel_rfl) (by kernel_rfl) (by kernel_rfl) hQp (Or.inl ⟨by kernel_rfl, fun w hSw => ?_⟩) hSS ?_
 rotate_left
 ·go_simp; try with_reducible rfl
 try simp only [zA,zN,zB,zC,zD]
 refine za (i := 1) (v := ?_) hO rfl rfl (by kernel_rfl) (by kernel_rfl) (by kernel_rfl) (by kernel_rfl) hQp (Or.inl ⟨by kernel_rfl, fun w hSw => ?_⟩) hSS ?_
 rotate_left
 ·go_simp; try with_reducible rfl
 try simp only [zA,zN,zB,zC,zD]
 refine za (i := 2) (v := ?_) hO rfl rfl (by kernel_rfl) (by kernel_rfl) (by kernel_rfl) (by kernel_rfl) hQp (Or.inl ⟨by kernel_rfl, fun w hSw => ?_⟩) hSS ?_
 rotate_left
 ·go_simp; try with_reducible rfl
 try simp only [zA,zN,zB,zC,zD]
 refine za (i := 3) (v := ?_) hO rfl rfl (by kernel_rfl) (by kernel_rfl) (by kernel_rfl) (by kernel_rfl) hQp (Or.inl ⟨by kernel_rfl, fun w hSw => ?_⟩) hSS ?_
 rotate_left
 ·obtain ⟨s0, s1, s2, s3, s4⟩ := hSw.1.cells; go_simp; try with_reducible rfl
 try simp only [zA,zN,zB,zC,zD]
 refine za (i := 4) (v := ?_) hO rfl rfl (by kernel_rfl) (by kernel_rfl) (by kernel_rfl) (by kernel_rfl) hQp (Or.inl ⟨by kernel_rfl, fun w hSw => ?_⟩) hSS ?_
 rotate_left
 ·go_simp; try with_reducible rfl
 try simp only [zA,zN,zB,zC,zD]
 refine za (i := 7) (v := ?_) hO rfl rfl (by kernel_rfl) (by kernel_rfl) (by kernel_rfl) (by kernel_rfl) hQp (Or.inl ⟨by kernel_rfl, fun w hSw => ?_⟩) hSS ?_
 rotate_left
 ·go_simp; try with_reducible rfl
 try simp only [zA,zN,zB,zC,zD]
 refine zd (i := 5) hO rfl (by kernel_rfl) (by kernel_rfl) (fun K hK => ?_)
 go_simp
 refine Calls.mono (CR.o _ hSS.1) ?_
 rintro r w2 ⟨rfl, hk2⟩
 have hS2 : (fun w' : World => PAt w' p S i c e ∧ zc [] w w') w2 := ⟨hk2.heap hSS.1 (by simp), hSS.2.then hk2⟩
 refine hK _ _ (.inr hS2) ?_
 clear hK K
 try simp only [zA,zN,zB,zC,zD]
 clear hSS hk2
 have hSS := hS2
 clear hS2
 refine za (i := 6) (v := ?_) hO rfl rfl (by kernel_rfl) (by kernel_rfl) (by kernel_rfl) (by kernel_rfl) hQp (Or.inl ⟨by kernel_rfl, fun w hSw => ?_⟩) hSS ?_
 rotate_left
 ·go_simp; try with_reducible rfl
 try simp only [zA,zN,zB,zC,zD]
 refine zd (i := 8) hO rfl (by kernel_rfl) (by kernel_rfl) (fun K hK => ?_)
 go_simp
 refine Calls.mono (CR.o _ hSS.1) ?_
 rintro r w3 ⟨rfl, hk3⟩
 have hS3 : (fun w' : World => PAt w' p S i c e ∧ zc [] w w') w3 := ⟨hk3.heap hSS.1 (by simp), hSS.2.then hk3⟩
 refine hK _ _ (.inr hS3) ?_
 clear hK K
 try simp only [zA,zN,zB,zC,zD]
 clear hSS hk3
 have hSS := hS3
 clear hS3
 refine zd (i := 9) hO rfl (by kernel_rfl) (by kernel_rfl) (fun K hK => ?_)
 go_simp
 refine Calls.mono (CT.o _) ?_
 rintro r w4 ⟨rfl, hk4⟩
 have hS4 : (fun w' : World => PAt w' p S i c e ∧ zc [] w w') w4 := ⟨hk4.heap hSS.1 (by simp), hSS.2.then hk4⟩
 refine hK _ _ (.inr hS4) ?_
 clear hK K
 try simp only [zA,zN,zB,zC,zD]
 clear hSS hk4
 have hSS := hS4
 clear hS4
 have HS := qI hSS
 refine za (i := 10) (v := ?_) hO rfl rfl (by kernel_rfl) (by kernel_rfl) (by kernel_rfl) (by kernel_rfl) hQp (Or.inl ⟨by kernel_rfl, fun w hSw => ?_⟩) hSS ?_
 rotate_left
 ·go_simp; try with_reducible rfl
 try simp only [zA,zN,zB,zC,zD]
 refine za (i := 11) (v := ?_) hO rfl rfl (by kernel_rfl) (by kernel_rfl) (by kernel_rfl) (by kernel_rfl) hQp (Or.inl ⟨by kernel_rfl, fun w hSw => ?_⟩) hSS ?_
 rotate_left
 ·go_simp; try with_reducible rfl
 try simp only [zA,zN,zB,zC,zD]
 refine za (i := 12) (v := ?_) hO rfl rfl (by kernel_rfl) (by kernel_rfl) (by kernel_rfl) (by kernel_rfl) hQp (Or.inl ⟨by kernel_rfl, fun w hSw => ?_⟩) hSS ?_
 rotate_left
 ·go_simp; try with_reducible rfl
 try simp only [zA,zN,zB,zC,zD]
 refine zd (i := 13) hO rfl (by kernel_rfl) (by kernel_rfl) (fun K hK => ?_)
 go_simp
 refine hK _ _ (.inr hSS) ?_
 clear hK K
 try simp only [zA,zN,zB,zC,zD]
 refine za (i := 14) (v := ?_) hO rfl rfl (by kernel_rfl) (by kernel_rfl) (by kernel_rfl) (by kernel_rfl) hQp (Or.inl ⟨by kernel_rfl, fun w hSw => ?_⟩) hSS ?_
 rotate_left
 ·go_simp; try with_reducible rfl
 try simp only [zA,zN,zB,zC,zD]
 obtain ⟨s0, s1, s2, s3, fz⟩ := hSS.1.cells
 have f1 := fz 1
 clear fz
 refine zd (i := 15) hO rfl (by kernel_rfl) (by kernel_rfl) (fun K hK => ?_)
 go_simp
 refine hK _ _ (.inl rfl) ?_
 clear hK K
 try simp only [zA,zN,zB,zC,zD]
 refine zt hO (by kernel_rfl) ?_ _
 subst hR
 try clear hQp hO O
 clear s0 s1 s2 s3 f1 hSS
 go_wp2_with fail
 go_end0
 rw [show IntKind.i64.wrap ((i : Int) + IntKind.i64.wrap ((T1.size : Int) - (T2.size : Int))) = (k : Int) by rw [IntKind.wrap_i64, IntKind.wrap_i64]; have := Ji.o; omega]
 exact ⟨rfl, HP.o _ (HS.o.1.set1 k), HS.o.2.mono (by simp) |>.trans' (zT _ _ _ _)⟩
end
section
variable {w : World} {p B : Nat} {S : ByteArray} {x : PX}
theorem PS.places (h : PS w p S B x) : ∃ (i c : Nat) (e : Int), PAt w p S i c e ∧ i ≤ S.size ∧ c ≤ B := by
 obtain ⟨i, c, e, h1, h2, h3, _⟩ := h
 exact ⟨i, c, e, h1, h2, h3⟩
theorem ZJ {W : List UInt8} {r : List UInt8} (h : W.isPrefixOf r = true) : W.length ≤ r.length := by
 rw [List.isPrefixOf_iff_prefix] at h
 exact h.length_le
theorem yW (h : PS w p S B x) (hS : S.size ≤ 262144) (W : ByteArray) :
  Calls Tryz.prog 120 #[.pointer (some ⟨p, 0, none⟩), .string W] w fun r w' => r = .returned (.bool (bX W.data.toList x)) ∧ PS w' p S B (eatX W.data.toList x) ∧ zc [p] w w' := by
 cases x with
 | inl e0 =>
  obtain ⟨i, c, h1, hi, hc, h2, h3⟩ := h.open_bad
  obtain ⟨c0, c1, c2, c3, fz⟩ := h1.cells
  obtain ⟨-, f⟩ := zy (a := e0) (b := 0) (by omega)
  have H := qI h
  clear h h1 fz
  go_enter Tryz.func120, Tryz.ntmps120
  go_wp2_with fail
  go_ret
  exact ⟨rfl, H.o, zc.refl _ _⟩
 | inr q =>
  obtain ⟨r, c⟩ := q
  have CR := qI (qw h hS)
  obtain ⟨i, h1, hi, hc, hr⟩ := h.open_ok
  obtain ⟨c0, c1, c2, c3, fz⟩ := h1.cells
  have H := qI h
  have H1 := qI h1
  have HR := qI hr
  have HL := qI (yx hr hi)
  cases hb : W.data.toList.isPrefixOf r with
  | false =>
   have HB : Hid (bX W.data.toList (.inr (r, c)) = false) := qI hb
   have CP := qI (fun w' => xB (zf r) W w')
   simp only [zo, hb] at CP
   clear h h1 fz hr hb
   go_enter Tryz.func120, Tryz.ntmps120
   go_wp2_with (first
    | (go_at_call 50; refine CR.o.mono ?_; rintro e1 w1 ⟨rfl, hk1⟩; have Gc := qI hk1; clear hk1)
    | (go_at_call 88; refine (CP.o _).mono ?_; rintro e2 w2 ⟨rfl, rfl⟩))
   go_ret
   rw [HB.o, ZP HB.o]
   exact ⟨rfl, H.o.kept0 Gc.o, Gc.o.mono (by simp)⟩
  | true =>
   have HB : Hid (bX W.data.toList (.inr (r, c)) = true) := qI hb
   have CP := qI (fun w' => xB (zf r) W w')
   simp only [zo, hb] at CP
   have hroom := ZJ hb
   have HW : Hid (W.data.toList.length = W.size) := qI (by simp)
   have hiW : i + W.size ≤ S.size := by have := HL.o; have := HW.o; omega
   have hiWI : (i : Int) + W.size ≤ 262144 := by omega
   have HD : Hid (S.data.toList.drop (i + W.size) = r.drop W.data.toList.length) := qI (by rw [HW.o, ← hr, List.drop_drop])
   clear h h1 fz hr hb hroom
   go_enter Tryz.func120, Tryz.ntmps120
   go_wp2_with (first
    | (go_at_call 50; refine CR.o.mono ?_; rintro e1 w1 ⟨rfl, hk1⟩; have Gc := qI hk1; have hP1 := hk1.heap H1.o (by simp); have Gb := qI hP1; have d1 := zb (o := 1) (v := .int .i64 i) hP1 rfl; have d2 := zg (o := 1) hP1; clear hk1 hP1 c0 c1 c2 c3)
    | (go_at_call 88; refine (CP.o _).mono ?_; rintro e2 w2 ⟨rfl, rfl⟩))
   go_ret
   rw [HB.o, Q5 HB.o]
   have h9 := PAt.set1 (w := w1) Gb.o (i + W.size)
   refine ⟨rfl, ?_, (Gc.o.mono (by simp)).trans' (zT _ _ _ _)⟩
   have h8 := PS.good h9 hiW hc
   rw [HD.o] at h8
   exact h8
theorem kJ (h : PS w p S B x) (hS : S.size ≤ 262144) (W : ByteArray) :
  Calls Tryz.prog 161 #[.pointer (some ⟨p, 0, none⟩), .string W] w fun r w' => r = .returned (.tuple #[]) ∧ PS w' p S B (vA W.data.toList x) ∧ zc [p] w w' := by
 have CE := qI (yW h hS W)
 clear h
 cases hb : bX W.data.toList x with
 | true =>
  rw [hb] at CE
  have HN := qI (K9 hb)
  have HE := qI (Q5 hb)
  clear hb
  go_enter Tryz.func161, Tryz.ntmps161
  go_wp2_with (go_at_call 120; refine CE.o.mono ?_; rintro e1 w1 ⟨rfl, hp1, hk1⟩; have Gb := qI hp1; have Gc := qI hk1; clear hp1 hk1)
  go_end0
  rw [HN.o, ← HE.o]
  exact ⟨rfl, Gb.o, Gc.o⟩
 | false =>
  rw [hb] at CE
  have HN := qI (ZW hb)
  have HE := qI (ZP hb)
  clear hb
  go_enter Tryz.func161, Tryz.ntmps161
  go_wp2_with (go_at_call 120; refine CE.o.mono ?_; rintro e1 w1 ⟨rfl, hp1, hk1⟩; rw [HE.o] at hp1; have Gb := qI hp1; have Gc := qI hk1; obtain ⟨i, c, e, h1, hi, hc⟩ := hp1.places; obtain ⟨c0, c1, c2, c3, fz⟩ := h1.cells; clear hp1 hk1 h1 fz)
  refine (yv Gb.o i 50 hi (by decide) (by decide)).mono ?_
  rintro e2 w2 ⟨rfl, hp2, hk2⟩
  go_wp2_with fail
  go_end0
  rw [HN.o]
  exact ⟨rfl, hp2, Gc.o.trans' hk2⟩
theorem digits_low : ∀ (j : Nat) b, (⟨#[48, 49, 50, 51, 52, 53, 54, 55, 56, 57]⟩ : ByteArray).data.toList[j]? = some b → b.toNat < 128 := by
 intro j b h
 have hm : b ∈ ([48, 49, 50, 51, 52, 53, 54, 55, 56, 57] : List UInt8) := List.mem_of_getElem? h
 simp only [List.mem_cons, List.not_mem_nil, or_false] at hm
 rcases hm with rfl | rfl | rfl | rfl | rfl | rfl | rfl | rfl | rfl | rfl <;> decide
theorem KP (s : List UInt8) (w : World) : Calls Tryz.prog 114 #[.string (zf s), .string ⟨#[48, 49, 50, 51, 52, 53, 54, 55, 56, 57]⟩] w fun e w' => e = .returned (.string (zf (s.dropWhile yJ))) ∧ zc [] w w' :=
 (YD (zf s) ⟨#[48, 49, 50, 51, 52, 53, 54, 55, 56, 57]⟩ w (by decide) digits_low).mono fun e w' ⟨h1, h2⟩ => ⟨by rw [h1, zo]; exact congrArg (fun l => Ending.returned (Value.string (zf l))) (trim_digits s), h2⟩
theorem prun_any {r : List UInt8} {c : Nat} (h : PS w p S B (.inr (r, c))) (hS : S.size ≤ 262144) :
  Calls Tryz.prog 162 #[.pointer (some ⟨p, 0, none⟩)] w fun e w' => e = .returned (.int .i64 ((r.takeWhile yJ).length : Nat)) ∧ zc [] w w' := by
 have H := qI h
 have CR : Hid (∀ w', zc [] w w' → Calls Tryz.prog 50 #[.pointer (some ⟨p, 0, none⟩)] w' fun e w2 => e = .returned (.string (zf r)) ∧ zc [] w' w2) := qI (fun w' k => qw (h.kept0 k) hS)
 have CT := qI (KP r)
 obtain ⟨i, h1, hi, hc, hr⟩ := h.open_ok
 have hl := yx hr hi
 obtain ⟨e1, e2⟩ := run_len r
 have hs1 := zG r
 have hs2 := zG (r.dropWhile yJ)
 have HE : Hid (((r.takeWhile yJ).length : Int) = ((zf r).size : Int) - ((zf (r.dropWhile yJ)).size : Int)) := qI (by omega)
 have b1 : ((zf (r.dropWhile yJ)).size : Int) ≤ (zf r).size := by omega
 have b2 : ((zf r).size : Int) ≤ 262144 := by omega
 clear h h1 hr hl e1 e2 hs1 hs2
 revert CR CT HE b1 b2
 generalize zf (r.dropWhile yJ) = T2
 generalize zf r = T1
 intro CR CT HE b1 b2
 go_enter Tryz.func162, Tryz.ntmps162
 go_wp2_with fail
 refine (CR.o _ (zc.refl _ _)).mono ?_
 rintro e w1 ⟨rfl, hk1⟩
 have Gc := qI hk1
 clear hk1
 go_wp2_with fail
 refine (CR.o _ Gc.o).mono ?_
 rintro e w2 ⟨rfl, hk2⟩
 have Ga := qI (Gc.o.then hk2)
 clear hk2
 go_wp2_with (go_at_call 114; refine (CT.o _).mono ?_; rintro e w3 ⟨rfl, hk3⟩)
 go_ret
 rw [HE.o]
 exact ⟨rfl, Ga.o.then hk3⟩
end
section
variable {w : World} {p B : Nat} {S : ByteArray} {x : PX}
theorem bz {r t r' : List UInt8} {c : Nat} (h : qe r = .inr (t, r')) : bW (.inr (r, c)) = .inr (r', c) ∧ Yw (.inr (r, c)) = t := by
 unfold bW Yw; simp only [h]; exact ⟨trivial, trivial⟩
theorem bg {r : List UInt8} {c : Nat} {e : Int} (h : qe r = .inl e) : bW (.inr (r, c)) = .inl e ∧ Yw (.inr (r, c)) = [] := by
 unfold bW Yw; simp only [h]; exact ⟨trivial, trivial⟩
theorem Zx (h : PS w p S B x) (hT : xu p w) (hS : S.size ≤ 262144) :
  Calls Tryz.prog 119 #[.pointer (some ⟨p, 0, none⟩)] w fun e w' => e = .returned (.string (zf (Yw x))) ∧ PS w' p S B (bW x) ∧ zc [p] w w' := by
 cases x with
 | inl e0 =>
  obtain ⟨i, c, h1, hi, hc, h2, h3⟩ := h.open_bad
  obtain ⟨c0, c1, c2, c3, fz⟩ := h1.cells
  obtain ⟨-, f⟩ := zy (a := e0) (b := 0) (by omega)
  have H := qI h
  clear h h1 fz
  go_enter Tryz.func119, Tryz.ntmps119
  go_wp2_with fail
  go_ret
  exact ⟨rfl, H.o, zc.refl _ _⟩
 | inr q =>
  obtain ⟨r, c⟩ := q
  have CR := qI (qw h hS)
  obtain ⟨i, h1, hi, hc, hr⟩ := h.open_ok
  obtain ⟨c0, c1, c2, c3, fz⟩ := h1.cells
  have H := qI h
  have H1 := qI h1
  have hlen := yx hr hi
  have HR := qI hr
  have CU : Hid (∀ w', zc [] w w' → Calls Tryz.prog 157 #[.string (zf r)] w' fun e w2 => vH r e ∧ zc [] w' w2) := qI (fun w' k => by
   have h9 := utfUnquote (hT.here.kept0 k) (zf r) (by rw [zG]; omega)
   rw [zo] at h9
   exact h9)
  cases hu : qe r with
  | inl e0 =>
   obtain ⟨HX, HY⟩ := bg (c := c) hu
   have HX := qI HX
   have HY := qI HY
   have he := unq_err hu
   obtain ⟨f1, f2⟩ := zy (a := e0) (b := 0) (by omega)
   have he0 : 0 < e0 ∧ e0 ≤ 1000 := by omega
   have HU := qI hu
   clear h h1 fz hr hu he
   go_enter Tryz.func119, Tryz.ntmps119
   go_wp2_with (go_at_call 50; refine CR.o.mono ?_; rintro e1 w1 ⟨rfl, hk1⟩; have Gc := qI hk1; clear hk1)
   refine (CU.o _ Gc.o).mono ?_
   rintro e2 w2 ⟨ha, hk2⟩
   unfold vH at ha
   rw [HU.o] at ha
   obtain ⟨k, hk, rfl⟩ := ha
   have Ga := qI (Gc.o.then hk2)
   have hP2 := Ga.o.heap H1.o (by simp)
   have d1 := zb (o := 1) (v := .int .i64 i) hP2 rfl
   have hik : i + k ≤ S.size := by omega
   have hikI : (i : Int) + k ≤ 262144 := by omega
   clear hk2 hP2 c0 c1 c2 c3
   go_wp2_with fail
   refine (yv (H.o.kept0 Ga.o) (i + k) e0 hik he0.1 he0.2).mono ?_
   rintro e3 w3 ⟨rfl, hp3, hk3⟩
   go_wp2_with fail
   go_ret
   rw [HX.o, HY.o]
   exact ⟨rfl, hp3, (Ga.o.mono (by simp)).trans' hk3⟩
  | inr y =>
   obtain ⟨t, r'⟩ := y
   obtain ⟨HX, HY⟩ := bz (c := c) hu
   have HX := qI HX
   have HY := qI HY
   have HU := qI hu
   clear h h1 fz hr hu
   go_enter Tryz.func119, Tryz.ntmps119
   go_wp2_with (go_at_call 50; refine CR.o.mono ?_; rintro e1 w1 ⟨rfl, hk1⟩; have Gc := qI hk1; clear hk1)
   refine (CU.o _ Gc.o).mono ?_
   rintro e2 w2 ⟨ha, hk2⟩
   unfold vH at ha
   rw [HU.o] at ha
   obtain ⟨k, hk, hd, hk1', rfl⟩ := ha
   have Ga := qI (Gc.o.then hk2)
   have hP2 := Ga.o.heap H1.o (by simp)
   have Jj := qI hP2
   have d1 := zb (o := 1) (v := .int .i64 i) hP2 rfl
   have d2 := zg (o := 1) hP2
   have hik : i + k ≤ S.size := by omega
   have hikI : (i : Int) + k ≤ 262144 := by omega
   have HD : Hid (S.data.toList.drop (i + k) = r') := qI (by rw [← List.drop_drop, HR.o, hd])
   clear hk2 hP2 c0 c1 c2 c3 hd
   go_wp2_with fail
   go_ret
   rw [HX.o, HY.o]
   have h9 := PS.good (PAt.set1 Jj.o (i + k)) hik hc
   rw [HD.o] at h9
   exact ⟨rfl, h9, (Ga.o.mono (by simp)).trans' (zT _ _ _ _)⟩
end
def qr (D : Nat) (e : Ending) : Prop := if 9007199254740991 < D then e = .returned (.tuple #[.int .i64 0, .bool false]) else e = .returned (.tuple #[.int .i64 D, .bool true])
theorem sumAns_big {D : Nat} (h : 9007199254740991 < D) : qr D (.returned (.tuple #[.int .i64 0, .bool false])) := by unfold qr; rw [if_pos h]
theorem sumAns_fine {D : Nat} (h : D ≤ 9007199254740991) : qr D (.returned (.tuple #[.int .i64 D, .bool true])) := by unfold qr; rw [if_neg (by omega)]
theorem psum_any (s : ByteArray) (hs : s.size ≤ 262144) (hd : ∀ c, c ∈ s.data.toList → 48 ≤ c.toNat ∧ c.toNat ≤ 57) (w : World) :
  Calls Tryz.prog 163 #[.string s] w fun e w' => qr (zP s.data.toList) e ∧ zc [] w w' := by
 have HD := qI hd
 have HL : Hid (s.data.toList.length = s.size) := qI (by simp)
 clear hd
 go_enter Tryz.func163, Tryz.ntmps163
 go_wp2_with fail
 go_loopw [4] (fun n wr => ∃ pos : Nat, wr = w.iter s pos ∧ pos ≤ s.size ∧ n = .int .i64 (zP (s.data.toList.take pos)) ∧ zP (s.data.toList.take pos) ≤ 9007199254740991) (fun _ wr => s.size - wr.iterPos w.heap.size)
 case atStart => exact ⟨0, rfl, Nat.zero_le _, rfl, Nat.zero_le _⟩
 case round =>
  obtain ⟨pos, rfl, hpos, rfl, hle⟩ := hrel
  by_cases hp : pos < s.size
  ·have hpl : pos < s.data.toList.length := by rw [HL.o]; exact hp
   have hc := HD.o (s[pos]'hp) (List.getElem_mem hpl)
   have hsn := sum_take s.data.toList pos hpl
   have hmo := sum_mono s.data.toList (pos + 1)
   have hda := decode_ascii s pos hp (by omega)
   have hnx : ∀ ty, (Instr.next (.pointer (some ⟨w.heap.size, 0, none⟩)) true ty).run Tryz.prog (w.iter s pos) = _ := fun ty => run_next_any w s pos ty hp
   rw [hda] at hnx
   have Ja : Hid (zP (s.data.toList.take (pos + 1)) = 10 * zP (s.data.toList.take pos) + ((s[pos]'hp).toNat - 48)) := qI hsn
   have Jb := qI hmo
   have hI : (zP (s.data.toList.take pos) : Int) ≤ 9007199254740991 := by omega
   clear hda hsn hmo hle hpl
   revert hc Ja hnx hI Jb
   generalize (s[pos]'hp) = c
   generalize zP (s.data.toList.take pos) = D
   generalize hD2 : zP (s.data.toList.take (pos + 1)) = D2
   intro hc hnx Ja Jb hI
   have Jf := qI hD2
   clear hD2
   obtain ⟨hc1, hc2⟩ := hc
   have hc1I : (48 : Int) ≤ c.toNat := by omega
   have hc2I : (c.toNat : Int) ≤ 57 := by omega
   have HE : Hid ((D2 : Int) = 10 * D + (c.toNat - 48)) := qI (by have := Ja.o; omega)
   by_cases hbig : 9007199254740991 < 10 * (D : Int) + (c.toNat - 48)
   ·have HB : Hid (9007199254740991 < zP s.data.toList) := qI (by have := HE.o; have := Jb.o; omega)
    clear hc1 hc2
    go_wp2_with fail
    go_ret2
    exact ⟨sumAns_big HB.o, (zc.refl _ _).alloc _⟩
   ·clear hc1 hc2
    go_wp2_with fail
    go_roundw
    case rel => exact ⟨pos + 1, rfl, by omega, by rw [Jf.o, HE.o], by have := HE.o; have := Jf.o; omega⟩
    case measure => simp; omega
  ·obtain rfl : pos = s.size := by omega
   have hnx : ∀ ty, (Instr.next (.pointer (some ⟨w.heap.size, 0, none⟩)) true ty).run Tryz.prog (w.iter s s.size) = _ := fun ty => run_next_end w s s.size ty hp
   have HT : Hid (s.data.toList.take s.size = s.data.toList) := qI (List.take_of_length_le (by rw [HL.o]; exact Nat.le_refl _))
   have hle' := qI hle
   clear hle
   go_wp2_with fail
   go_ret2
   have h9 := hle'.o
   rw [HT.o] at h9
   rw [HT.o]
   exact ⟨sumAns_fine h9, (zc.refl _ _).alloc _⟩
def ym (k n : Int) (s : ByteArray) : Array Value := #[.int .i64 k, .int .i64 n, .string s, .slice none 0 0, .slice none 0 0]
theorem jC (n : Int) (w : World) : Calls Tryz.prog 164 #[.int .i64 n] w fun e w' => e = .returned (.agg (ym 3 n ⟨#[]⟩)) ∧ zc [] w w' := by
 go_enter Tryz.func164, Tryz.ntmps164
 go_wp2_with fail
 exact bodyPost_ret (v := .agg (ym 3 n ⟨#[]⟩)) (by simp [results, Tryz.results164, go_sem, ym]) rfl ⟨rfl, (zc.refl _ _).alloc _⟩
theorem vtext_any (s : ByteArray) (w : World) : Calls Tryz.prog 118 #[.string s] w fun e w' => e = .returned (.agg (ym 4 0 s)) ∧ zc [] w w' := by
 go_enter Tryz.func118, Tryz.ntmps118
 go_wp2_with fail
 exact bodyPost_ret (v := .agg (ym 4 0 s)) (by simp [results, Tryz.results118, go_sem, ym]) rfl ⟨rfl, (zc.refl _ _).alloc _⟩
theorem vnull_any (w : World) : Calls Tryz.prog 154 #[] w fun e w' => e = .returned (.agg (ym 1 0 ⟨#[]⟩)) ∧ zc [] w w' := by
 go_enter Tryz.func154, Tryz.ntmps154
 go_wp2_with fail
 exact bodyPost_ret (v := .agg (ym 1 0 ⟨#[]⟩)) (by simp [results, Tryz.results154, go_sem, ym]) rfl ⟨rfl, (zc.refl _ _).alloc _⟩
theorem JO (b : Bool) (w : World) : Calls Tryz.prog 155 #[.bool b] w fun e w' => e = .returned (.agg (ym 2 (if b then 1 else 0) ⟨#[]⟩)) ∧ zc [] w w' := by
 cases b
 ·go_enter Tryz.func155, Tryz.ntmps155
  go_wp2_with fail
  exact bodyPost_ret (v := .agg (ym 2 0 ⟨#[]⟩)) (by simp [results, Tryz.results155, go_sem, ym]) rfl ⟨rfl, (zc.refl _ _).alloc _⟩
 ·go_enter Tryz.func155, Tryz.ntmps155
  go_wp2_with fail
  exact bodyPost_ret (v := .agg (ym 2 1 ⟨#[]⟩)) (by simp [results, Tryz.results155, go_sem, ym]) rfl ⟨rfl, (zc.refl _ _).alloc _⟩
def zeroA : Array Value := #[.int .i64 0, .int .i64 0, .string ⟨#[]⟩, .slice none 0 0, .slice none 0 0]
def xf (w : World) (r : Nat) : Prop := w.heap[r]? = some (.cells zeroA 25 (0, 0))
theorem xf.kept {w w' : World} {r : Nat} {X : List Nat} (h : xf w r) (k : zc X w w') (hr : r ∉ X) : xf w' r := k.heap h hr
theorem xf.facts {w : World} {r : Nat} (h : xf w r) : (w.cell? ⟨r, 0, none⟩ = some (.int .i64 0) ∧ w.cell? ⟨r, 1, none⟩ = some (.int .i64 0) ∧ w.cell? ⟨r, 2, none⟩ = some (.string ⟨#[]⟩) ∧ w.cell? ⟨r, 3, none⟩ = some (.slice none 0 0) ∧ w.cell? ⟨r, 4, none⟩ = some (.slice none 0 0)) ∧
  w.frozen? ⟨r, 0, none⟩ = false ∧ w.frozen? ⟨r, 1, none⟩ = false ∧ w.frozen? ⟨r, 2, none⟩ = false ∧ w.frozen? ⟨r, 3, none⟩ = false ∧ w.frozen? ⟨r, 4, none⟩ = false := by
 unfold xf zeroA at h
 exact ⟨⟨zb (o := 0) h rfl, zb (o := 1) h rfl, zb (o := 2) h rfl, zb (o := 3) h rfl, zb (o := 4) h rfl⟩, zg h, zg h, zg h, zg h, zg h⟩
theorem xf.stored {w WF : World} {r : Nat} {b0 b1 b2 b3 b4 : Value} (h : xf w r) (e : WF = zQ w r b0 b1 b2 b3 b4) :
  zc [r] w WF ∧ WF.cell? ⟨r, 0, none⟩ = some b0 ∧ WF.cell? ⟨r, 1, none⟩ = some b1 ∧ WF.cell? ⟨r, 2, none⟩ = some b2 ∧ WF.cell? ⟨r, 3, none⟩ = some b3 ∧ WF.cell? ⟨r, 4, none⟩ = some b4 := by
 obtain ⟨k, hb⟩ := Kq h e
 exact ⟨k, zb (o := 0) hb rfl, zb (o := 1) hb rfl, zb (o := 2) hb rfl, zb (o := 3) hb rfl, zb (o := 4) hb rfl⟩
theorem yM (w : World) : xf (w.alloc (.cells #[.int .i64 0, .int .i64 0, .string ⟨#[]⟩, .slice none 0 0, .slice none 0 0] 25)) w.heap.size := zp rfl
def xK (r : List UInt8) : Option (Int × Int) := if jA.isPrefixOf r = true then some (1, 0) else if jB.isPrefixOf r = true then some (2, 1) else if qU.isPrefixOf r = true then some (2, 0) else none
def xX (r : List UInt8) (e : Ending) : Prop :=
 match xK r with
 | some (k, n) => e = .returned (.tuple #[.agg (ym k n ⟨#[]⟩), .bool true])
 | none => e = .returned (.tuple #[.agg (ym 0 0 ⟨#[]⟩), .bool false])
section
variable {w : World} {p B : Nat} {S : ByteArray} {x : PX}
theorem jL {r : List UInt8} {c : Nat} (h : PS w p S B (.inr (r, c))) (hS : S.size ≤ 262144) :
  Calls Tryz.prog 50 #[.pointer (some ⟨p, 0, none⟩)] w fun e w' => e = .returned (.string (zf r)) ∧ zc [] w w' := qw h hS
theorem Yy {r : List UInt8} {c : Nat} (h : PS w p S B (.inr (r, c))) (hS : S.size ≤ 262144) :
  Calls Tryz.prog 115 #[.pointer (some ⟨p, 0, none⟩)] w fun e w' => xX r e ∧ zc [] w w' := by
 obtain ⟨W0, Gh⟩ : ∃ W0, Hid (W0 = w.alloc (.cells #[.int .i64 0, .int .i64 0, .string ⟨#[]⟩, .slice none 0 0, .slice none 0 0] 25)) := ⟨_, qI rfl⟩
 have Gu : Hid (zc [] w W0) := qI (by rw [Gh.o]; exact (zc.refl [] w).alloc _)
 have Gi : Hid (xf W0 w.heap.size) := qI (by rw [Gh.o]; exact yM w)
 have CR := qI (jL (h.kept0 Gu.o) hS)
 have CN : Hid (∀ w', _) := qI (fun w' => xB (zf r) ⟨#[110, 117, 108, 108]⟩ w')
 have CT : Hid (∀ w', _) := qI (fun w' => xB (zf r) ⟨#[116, 114, 117, 101]⟩ w')
 have CF : Hid (∀ w', _) := qI (fun w' => xB (zf r) ⟨#[102, 97, 108, 115, 101]⟩ w')
 rw [zo, show (⟨#[110, 117, 108, 108]⟩ : ByteArray).data.toList = jA from rfl] at CN
 rw [zo, show (⟨#[116, 114, 117, 101]⟩ : ByteArray).data.toList = jB from rfl] at CT
 rw [zo, show (⟨#[102, 97, 108, 115, 101]⟩ : ByteArray).data.toList = qU from rfl] at CF
 have HD : Hid (xK r = if jA.isPrefixOf r = true then some (1, 0) else if jB.isPrefixOf r = true then some (2, 1) else if qU.isPrefixOf r = true then some (2, 0) else none) := qI rfl
 have HA : Hid (∀ k n e, xK r = some (k, n) → e = .returned (.tuple #[.agg (ym k n ⟨#[]⟩), .bool true]) → xX r e) := qI (fun k n e h he => by unfold xX; rw [h]; exact he)
 have Jk : Hid (∀ e, xK r = none → e = .returned (.tuple #[.agg (ym 0 0 ⟨#[]⟩), .bool false]) → xX r e) := qI (fun e h he => by unfold xX; rw [h]; exact he)
 clear h
 cases hn : jA.isPrefixOf r with
 | true =>
  have HV : Hid (xK r = some (1, 0)) := qI (by rw [HD.o, hn]; rfl)
  rw [hn] at CN
  clear hn
  go_enter Tryz.func115, Tryz.ntmps115
  go_wp2_with fail
  rw [← Gh.o]
  refine CR.o.mono ?_
  rintro e w1 ⟨rfl, hk1⟩
  have Gc := qI hk1
  clear hk1
  go_wp2_with fail
  refine (CN.o _).mono ?_
  rintro e w2 ⟨rfl, rfl⟩
  go_wp2_with fail
  refine (vnull_any _).mono ?_
  rintro e w3 ⟨rfl, hk3⟩
  unfold ym
  have Gg := qI (Gc.o.then hk3)
  clear hk3
  obtain ⟨⟨d0, d1, d2, d3, d4⟩, f0, f1, f2, f3, f4⟩ := (Gi.o.kept Gg.o (by simp)).facts
  go_wp2_with fail
  obtain ⟨WF, e⟩ : ∃ WF, WF = zQ w3 w.heap.size (.int .i64 1) (.int .i64 0) (.string ⟨#[]⟩) (.slice none 0 0) (.slice none 0 0) := ⟨_, rfl⟩
  obtain ⟨KF, x0, x1, x2, x3, x4⟩ := (Gi.o.kept Gg.o (by simp)).stored e
  unfold zQ at e
  rw [← e]
  exact bodyPost_ret (v := .tuple #[.agg #[.int .i64 1, .int .i64 0, .string ⟨#[]⟩, .slice none 0 0, .slice none 0 0], .bool true]) (by simp [results, Tryz.results115, go_sem, x0, x1, x2, x3, x4]) rfl ⟨HA.o _ _ _ HV.o rfl, (Gu.o.then Gg.o).trans KF (fun i hi => by simp at hi; exact .inr (by omega))⟩
 | false =>
 rw [hn] at CN
 cases htr : jB.isPrefixOf r with
 | true =>
  have HV : Hid (xK r = some (2, 1)) := qI (by rw [HD.o, hn, htr]; rfl)
  rw [htr] at CT
  clear hn htr
  go_enter Tryz.func115, Tryz.ntmps115
  go_wp2_with fail
  rw [← Gh.o]
  refine CR.o.mono ?_
  rintro e w1 ⟨rfl, hk1⟩
  have Gc := qI hk1
  clear hk1
  go_wp2_with fail
  refine (CN.o _).mono ?_
  rintro e w2 ⟨rfl, rfl⟩
  go_wp2_with fail
  refine (CT.o _).mono ?_
  rintro e w2 ⟨rfl, rfl⟩
  go_wp2_with fail
  refine (JO true _).mono ?_
  rintro e w3 ⟨rfl, hk3⟩
  rw [show ym 2 (if true = true then 1 else 0) ⟨#[]⟩ = ym 2 1 ⟨#[]⟩ from rfl]
  unfold ym
  have Gg := qI (Gc.o.then hk3)
  clear hk3
  obtain ⟨⟨d0, d1, d2, d3, d4⟩, f0, f1, f2, f3, f4⟩ := (Gi.o.kept Gg.o (by simp)).facts
  go_wp2_with fail
  obtain ⟨WF, e⟩ : ∃ WF, WF = zQ w3 w.heap.size (.int .i64 2) (.int .i64 1) (.string ⟨#[]⟩) (.slice none 0 0) (.slice none 0 0) := ⟨_, rfl⟩
  obtain ⟨KF, x0, x1, x2, x3, x4⟩ := (Gi.o.kept Gg.o (by simp)).stored e
  unfold zQ at e
  rw [← e]
  exact bodyPost_ret (v := .tuple #[.agg #[.int .i64 2, .int .i64 1, .string ⟨#[]⟩, .slice none 0 0, .slice none 0 0], .bool true]) (by simp [results, Tryz.results115, go_sem, x0, x1, x2, x3, x4]) rfl ⟨HA.o _ _ _ HV.o rfl, (Gu.o.then Gg.o).trans KF (fun i hi => by simp at hi; exact .inr (by omega))⟩
 | false =>
 rw [htr] at CT
 cases hfa : qU.isPrefixOf r with
 | true =>
  have HV : Hid (xK r = some (2, 0)) := qI (by rw [HD.o, hn, htr, hfa]; rfl)
  rw [hfa] at CF
  clear hn htr hfa
  go_enter Tryz.func115, Tryz.ntmps115
  go_wp2_with fail
  rw [← Gh.o]
  refine CR.o.mono ?_
  rintro e w1 ⟨rfl, hk1⟩
  have Gc := qI hk1
  clear hk1
  go_wp2_with fail
  refine (CN.o _).mono ?_
  rintro e w2 ⟨rfl, rfl⟩
  go_wp2_with fail
  refine (CT.o _).mono ?_
  rintro e w2 ⟨rfl, rfl⟩
  go_wp2_with fail
  refine (CF.o _).mono ?_
  rintro e w2 ⟨rfl, rfl⟩
  go_wp2_with fail
  refine (JO false _).mono ?_
  rintro e w3 ⟨rfl, hk3⟩
  rw [show ym 2 (if false = true then 1 else 0) ⟨#[]⟩ = ym 2 0 ⟨#[]⟩ from rfl]
  unfold ym
  have Gg := qI (Gc.o.then hk3)
  clear hk3
  obtain ⟨⟨d0, d1, d2, d3, d4⟩, f0, f1, f2, f3, f4⟩ := (Gi.o.kept Gg.o (by simp)).facts
  go_wp2_with fail
  obtain ⟨WF, e⟩ : ∃ WF, WF = zQ w3 w.heap.size (.int .i64 2) (.int .i64 0) (.string ⟨#[]⟩) (.slice none 0 0) (.slice none 0 0) := ⟨_, rfl⟩
  obtain ⟨KF, x0, x1, x2, x3, x4⟩ := (Gi.o.kept Gg.o (by simp)).stored e
  unfold zQ at e
  rw [← e]
  exact bodyPost_ret (v := .tuple #[.agg #[.int .i64 2, .int .i64 0, .string ⟨#[]⟩, .slice none 0 0, .slice none 0 0], .bool true]) (by simp [results, Tryz.results115, go_sem, x0, x1, x2, x3, x4]) rfl ⟨HA.o _ _ _ HV.o rfl, (Gu.o.then Gg.o).trans KF (fun i hi => by simp at hi; exact .inr (by omega))⟩
 | false =>
  have HV : Hid (xK r = none) := qI (by rw [HD.o, hn, htr, hfa]; rfl)
  rw [hfa] at CF
  clear hn htr hfa
  go_enter Tryz.func115, Tryz.ntmps115
  go_wp2_with fail
  rw [← Gh.o]
  refine CR.o.mono ?_
  rintro e w1 ⟨rfl, hk1⟩
  have Gc := qI hk1
  clear hk1
  go_wp2_with fail
  refine (CN.o _).mono ?_
  rintro e w2 ⟨rfl, rfl⟩
  go_wp2_with fail
  refine (CT.o _).mono ?_
  rintro e w2 ⟨rfl, rfl⟩
  go_wp2_with fail
  refine (CF.o _).mono ?_
  rintro e w2 ⟨rfl, rfl⟩
  have Gg := qI Gc.o
  obtain ⟨⟨d0, d1, d2, d3, d4⟩, f0, f1, f2, f3, f4⟩ := (Gi.o.kept Gg.o (by simp)).facts
  go_wp2_with fail
  obtain ⟨WF, e⟩ : ∃ WF, WF = zQ w1 w.heap.size (.int .i64 0) (.int .i64 0) (.string ⟨#[]⟩) (.slice none 0 0) (.slice none 0 0) := ⟨_, rfl⟩
  obtain ⟨KF, x0, x1, x2, x3, x4⟩ := (Gi.o.kept Gg.o (by simp)).stored e
  unfold zQ at e
  rw [← e]
  exact bodyPost_ret (v := .tuple #[.agg #[.int .i64 0, .int .i64 0, .string ⟨#[]⟩, .slice none 0 0, .slice none 0 0], .bool false]) (by simp [results, Tryz.results115, go_sem, x0, x1, x2, x3, x4]) rfl ⟨Jk.o _ HV.o rfl, (Gu.o.then Gg.o).trans KF (fun i hi => by simp at hi; exact .inr (by omega))⟩
end
theorem J6 (k n : Int) (hk : (k = 1 ∧ n = 0) ∨ (k = 2 ∧ n = 1) ∨ (k = 2 ∧ n = 0)) (w : World) :
  Calls Tryz.prog 117 #[.agg #[.int .i64 k, .int .i64 n, .string ⟨#[]⟩, .slice none 0 0, .slice none 0 0]] w fun e w' => e = .returned (.int .i64 (if k = 2 ∧ n = 0 then 5 else 4)) ∧ zc [] w w' := by
 rcases hk with ⟨rfl, rfl⟩ | ⟨rfl, rfl⟩ | ⟨rfl, rfl⟩
 ·go_enter Tryz.func117, Tryz.ntmps117
  go_wp2_with fail
  go_ret
  exact ⟨rfl, (zc.refl _ _).alloc _⟩
 ·go_enter Tryz.func117, Tryz.ntmps117
  go_wp2_with fail
  go_ret
  exact ⟨rfl, (zc.refl _ _).alloc _⟩
 ·go_enter Tryz.func117, Tryz.ntmps117
  go_wp2_with fail
  go_ret
  exact ⟨rfl, (zc.refl _ _).alloc _⟩
theorem word_begins (r : List UInt8) : yQ r = ((xK r).isSome || ku r [34, 91, 123, 45, 48, 49, 50, 51, 52, 53, 54, 55, 56, 57]) := by
 unfold yQ xK
 cases jA.isPrefixOf r <;> cases jB.isPrefixOf r <;> cases qU.isPrefixOf r <;> rfl
section
variable {w : World} {p B : Nat} {S : ByteArray} {x : PX}
theorem jd {r : List UInt8} {c : Nat} (h : PS w p S B (.inr (r, c))) (hS : S.size ≤ 262144) :
  Calls Tryz.prog 80 #[.pointer (some ⟨p, 0, none⟩)] w fun e w' => e = .returned (.bool (yQ r)) ∧ zc [] w w' := by
 have CW := qI (Yy h hS)
 have H := qI h
 have HB := qI (word_begins r)
 clear h
 cases hw : xK r with
 | some q =>
  obtain ⟨k, n⟩ := q
  have HE : Hid (yQ r = true) := qI (by rw [HB.o, hw]; rfl)
  have HW := qI hw
  clear hw
  go_enter Tryz.func80, Tryz.ntmps80
  go_wp2_with fail
  refine CW.o.mono ?_
  rintro e w1 ⟨ha, hk1⟩
  unfold xX at ha
  rw [HW.o] at ha
  subst ha
  unfold ym
  have Gc := qI hk1
  clear hk1
  go_wp2_with fail
  refine (jL (H.o.kept0 (Gc.o.alloc _)) hS).mono ?_
  rintro e w2 ⟨rfl, hk2⟩
  go_wp2_with fail
  go_ret
  rw [HE.o]
  exact ⟨rfl, (Gc.o.alloc _).then hk2⟩
 | none =>
  rw [hw] at HB
  have HW := qI hw
  clear hw
  cases r with
  | nil =>
   have HE : Hid (yQ [] = false) := qI rfl
   go_enter Tryz.func80, Tryz.ntmps80
   go_wp2_with fail
   refine CW.o.mono ?_
   rintro e w1 ⟨ha, hk1⟩
   unfold xX at ha
   rw [HW.o] at ha
   subst ha
   unfold ym
   have Gc := qI hk1
   clear hk1
   go_wp2_with fail
   refine (jL (H.o.kept0 (Gc.o.alloc _)) hS).mono ?_
   rintro e w2 ⟨rfl, hk2⟩
   rw [show zf [] = ⟨#[]⟩ from rfl]
   go_wp2_with fail
   go_ret
   rw [HE.o]
   exact ⟨rfl, (Gc.o.alloc _).then hk2⟩
  | cons a t =>
   have HE : Hid (yQ (a :: t) = ([34, 91, 123, 45, 48, 49, 50, 51, 52, 53, 54, 55, 56, 57] : List UInt8).contains a) := qI (by rw [HB.o]; rfl)
   have hne : zf (a :: t) ≠ ⟨#[]⟩ := fun e => by
    have h9 := congrArg (fun s : ByteArray => s.data.toList) e
    simp only [zo] at h9
    cases h9
   obtain ⟨g1, g2⟩ := qf hne
   have hsz : 0 < (zf (a :: t)).size := by rw [zG]; simp
   have h0 : (zf (a :: t))[0]'hsz = a := rfl
   have CI : Hid (∀ w', _) := qI (fun w' => x5 ⟨#[34, 91, 123, 45, 48, 49, 50, 51, 52, 53, 54, 55, 56, 57]⟩ (a.toNat : Int) w')
   rw [show ((a.toNat : Int)).toNat.toUInt8 = a by simp, show (⟨#[34, 91, 123, 45, 48, 49, 50, 51, 52, 53, 54, 55, 56, 57]⟩ : ByteArray).data.toList = [34, 91, 123, 45, 48, 49, 50, 51, 52, 53, 54, 55, 56, 57] from rfl] at CI
   have hic := qD [34, 91, 123, 45, 48, 49, 50, 51, 52, 53, 54, 55, 56, 57] a
   have Jl : Hid (decide (0 ≤ Lib.indexByte [34, 91, 123, 45, 48, 49, 50, 51, 52, 53, 54, 55, 56, 57] a) = yQ (a :: t)) := qI (by
    rw [HE.o]
    cases hc : ([34, 91, 123, 45, 48, 49, 50, 51, 52, 53, 54, 55, 56, 57] : List UInt8).contains a with
    | true => exact decide_eq_true (hic.2 hc)
    | false => exact decide_eq_false (fun q => by rw [hic.1 q] at hc; cases hc))
   have CR : Hid (∀ w', zc [] w w' → _) := qI (fun w' (k : zc [] w w') => jL (H.o.kept0 k) hS)
   rw [← Jl.o]
   clear hic hne HE HB H
   revert CR CI g1 g2 hsz h0
   generalize Lib.indexByte [34, 91, 123, 45, 48, 49, 50, 51, 52, 53, 54, 55, 56, 57] a = z
   generalize zf (a :: t) = T
   intro g1 g2 hsz h0 CI CR
   have hszI : (0 : Int) < T.size := by omega
   go_enter Tryz.func80, Tryz.ntmps80
   go_wp2_with fail
   refine CW.o.mono ?_
   rintro e w1 ⟨ha, hk1⟩
   unfold xX at ha
   rw [HW.o] at ha
   subst ha
   unfold ym
   have Gc := qI hk1
   clear hk1
   go_wp2_with fail
   refine (CR.o _ (Gc.o.alloc _)).mono ?_
   rintro e w2 ⟨rfl, hk2⟩
   have Ga := qI ((Gc.o.alloc _).then hk2)
   clear hk2
   go_wp2_with fail
   refine (CI.o _).mono ?_
   rintro e w3 ⟨rfl, rfl⟩
   go_wp2_with fail
   go_ret
   exact ⟨rfl, Ga.o⟩
end
theorem KV (r : List UInt8) (c : Nat) : bX [45] (.inr (r, c)) = KN r := je 45 r c
theorem eatX_minus (r : List UInt8) (c : Nat) : eatX [45] (.inr (r, c)) = .inr (qy r, c) := by
 unfold eatX qy
 rw [KV]
 cases KN r with
 | true =>
  rw [if_pos rfl, if_pos rfl]
  show (Sum.inr (r.drop 1, c) : PX) = _
  rw [List.drop_one]
 | false => rw [if_neg (by decide), if_neg (by decide)]
def Z7 (r : List UInt8) (c : Nat) (p : Nat) (S : ByteArray) (B : Nat) (e : Ending) (w' : World) : Prop :=
 match qM r with
 | .inl x => e = .returned (.agg (ym 0 0 ⟨#[]⟩)) ∧ PS w' p S B (.inl x)
 | .inr (n, r') => e = .returned (.agg (ym 3 n ⟨#[]⟩)) ∧ PS w' p S B (.inr (r', c))
theorem xe {r : List UInt8} {c p B : Nat} {S : ByteArray} {w' : World} {x : Int} (h : qM r = .inl x) (h2 : PS w' p S B (.inl x)) : Z7 r c p S B (.returned (.agg (ym 0 0 ⟨#[]⟩))) w' := by unfold Z7; rw [h]; exact ⟨rfl, h2⟩
theorem kH {r r' : List UInt8} {c p B : Nat} {S : ByteArray} {w' : World} {n : Int} (h : qM r = .inr (n, r')) (h2 : PS w' p S B (.inr (r', c))) : Z7 r c p S B (.returned (.agg (ym 3 n ⟨#[]⟩))) w' := by unfold Z7; rw [h]; exact ⟨rfl, h2⟩
section
variable {w : World} {p B : Nat} {S : ByteArray} {x : PX}
theorem pnumber_any {r : List UInt8} {c : Nat} (h : PS w p S B (.inr (r, c))) (hS : S.size ≤ 262144) :
  Calls Tryz.prog 123 #[.pointer (some ⟨p, 0, none⟩)] w fun e w' => Z7 r c p S B e w' ∧ zc [p] w w' := by
 obtain ⟨W0, Gh⟩ : ∃ W0, Hid (W0 = w.alloc (.cells #[.int .i64 0, .int .i64 0, .string ⟨#[]⟩, .slice none 0 0, .slice none 0 0] 25)) := ⟨_, qI rfl⟩
 have Gu : Hid (zc [] w W0) := qI (by rw [Gh.o]; exact (zc.refl [] w).alloc _)
 have Gi : Hid (xf W0 w.heap.size) := qI (by rw [Gh.o]; exact yM w)
 have Gf : Hid (w.heap.size ∉ [p]) := qI (by have := h.lt; simp; omega)
 have Jm := qI (h.kept0 Gu.o)
 have CE := qI (yW Jm.o hS ⟨#[45]⟩)
 rw [show (⟨#[45]⟩ : ByteArray).data.toList = [45] from rfl, KV, eatX_minus] at CE
 obtain ⟨i, h1, hi, hc, hr⟩ := (h.kept0 Gu.o).open_ok
 have hlen := yx hr hi
 obtain ⟨c0, c1, c2, c3, fz⟩ := h1.cells
 have CR : Hid (∀ w' (y : PX) (l : List UInt8), y = .inr (l, c) → PS w' p S B y → _) := qI (fun w' y l (e : y = .inr (l, c)) (k : PS w' p S B y) => jL (r := l) (c := c) (by rw [← e]; exact k) hS)
 have CU : Hid (∀ w', PS w' p S B (.inr (qy r, c)) → _) := qI (fun w' (k : PS w' p S B (.inr (qy r, c))) => prun_any k hS)
 obtain ⟨t1, t2⟩ := run_take (qy r)
 change (qy r).take (qz r).length = qz r at t1
 have Jg : Hid ((qy r).drop (qz r).length = (qy r).dropWhile yJ) := qI t2
 have hnl : (qz r).length ≤ (qy r).length := by have := congrArg List.length t1; rw [List.length_take] at this; have e : (qz r).length = ((qy r).takeWhile yJ).length := rfl; omega
 have hrl : (qy r).length ≤ r.length := by unfold qy; split <;> simp
 have hX : (zf (qy r)).extract 0 (qz r).length = zf (qz r) := kA (by rw [vV (zf (qy r)) 0 (qz r).length (by rw [zG]; exact hnl), zo, zo]; exact t1)
 have hTs : ((qz r).length : Int) ≤ (zf (qy r)).size := by rw [zG]; omega
 have Jc := qI (numD_dig r)
 have Jd : Hid ((qz r).length ≤ (qy r).length) := qI hnl
 have Gz : Hid ((zf (qz r)).size = (qz r).length ∧ (qz r).length ≤ 262144) := qI ⟨zG _, by omega⟩
 have hsz := Gz.o
 have CS : Hid (∀ w', _) := qI (fun w' => psum_any (zf (qz r)) (by omega) (by rw [zo]; exact numD_dig r) w')
 rw [zo] at CS
 clear h h1 fz t1 t2 hr hnl hrl hlen c0 c2 c3 hsz
 have CU2 : Hid (∀ w', PS w' p S B (.inr (qy r, c)) → Calls Tryz.prog 162 #[.pointer (some ⟨p, 0, none⟩)] w' fun e w2 => e = .returned (.int .i64 ((qz r).length : Nat)) ∧ zc [] w' w2) := qI CU.o
 clear CU
 cases hd : qz r with
 | nil =>
  have HN := qI (num_none hd)
  rw [hd] at hX hTs CU2
  rw [show zf [] = ⟨#[]⟩ from rfl] at hX
  clear Jc CS Gz Jg hd
  rw [List.length_nil] at hX hTs
  rw [Gh.o] at c1
  go_enter Tryz.func123, Tryz.ntmps123
  go_wp2_with fail
  rw [← Gh.o]
  refine CE.o.mono ?_
  rintro e w1 ⟨rfl, hp1, hk1⟩
  have Gb := qI hp1
  have Gc := qI hk1
  clear hp1 hk1 c1
  go_wp2_with fail
  refine (CR.o w1 _ _ rfl Gb.o).mono ?_
  rintro e w2 ⟨rfl, hk2⟩
  have Ga := qI hk2
  clear hk2
  go_wp2_with fail
  refine (CU2.o w2 (Gb.o.kept0 Ga.o)).mono ?_
  rintro e w3 ⟨rfl, hk3⟩
  have Gk := qI ((Gb.o.kept0 Ga.o).kept0 hk3)
  have Gg := qI ((Gc.o.then Ga.o).then hk3)
  clear hk3
  rw [show ((([] : List UInt8).length : Nat) : Int) = 0 from rfl]
  go_wp2_with fail
  refine (yv Gk.o i 50 hi (by decide) (by decide)).mono ?_
  rintro e w9 ⟨rfl, hp9, hk9⟩
  have Gl := qI hp9
  have Gd := qI (Gg.o.trans' hk9)
  obtain ⟨⟨d0, d1, d2, d3, d4⟩, f0, f1, f2, f3, f4⟩ := (Gi.o.kept Gd.o Gf.o).facts
  clear hp9 hk9
  go_wp2_with fail
  obtain ⟨WF, e⟩ : ∃ WF, WF = zQ w9 w.heap.size (.int .i64 0) (.int .i64 0) (.string ⟨#[]⟩) (.slice none 0 0) (.slice none 0 0) := ⟨_, rfl⟩
  obtain ⟨KF, x0, x1, x2, x3, x4⟩ := (Gi.o.kept Gd.o Gf.o).stored e
  unfold zQ at e
  rw [← e]
  exact bodyPost_ret (v := .agg #[.int .i64 0, .int .i64 0, .string ⟨#[]⟩, .slice none 0 0, .slice none 0 0]) (by simp [results, Tryz.results123, go_sem, x0, x1, x2, x3, x4]) rfl ⟨xe HN.o (Gl.o.kept KF (fun hx => Gf.o (by simp at hx; simp [hx]))), ((Gu.o.mono (by simp)).trans' Gd.o).trans KF (fun i hi => by simp at hi; exact .inr (by omega))⟩
 | cons d t =>
  have HD := qI hd
  rw [hd] at hX hTs CU2 Gz CS Jg
  have hsl := Gz.o
  rw [List.length_cons] at hX hTs hsl
  have hne : zf (d :: t) ≠ ⟨#[]⟩ := fun e => by
   have h9 := congrArg (fun s : ByteArray => s.data.toList) e
   simp only [zo] at h9
   cases h9
  obtain ⟨g1, g2⟩ := qf hne
  have hs0 : 0 < (zf (d :: t)).size := by omega
  have h0 : (zf (d :: t))[0]'hs0 = d := rfl
  have hs0I : (0 : Int) < (zf (d :: t)).size := by omega
  have hsI : ((zf (d :: t)).size : Int) = (t.length : Int) + 1 := by omega
  have Jh := qI hsI
  have hd1 := Jc.o d (by rw [HD.o]; simp)
  have Gx : Hid (t.length + 1 ≤ (qy r).length) := qI (by have h9 := Jd.o; rw [HD.o, List.length_cons] at h9; exact h9)
  clear hne hsI Gz hsl Jc
  have hsI : ((zf (d :: t)).size : Int) = (t.length : Int) + 1 := Jh.o
  cases hm : KN r with
  | true =>
   rw [hm] at CE
   by_cases h48 : d = 48
   ·subst h48
    have HN := qI (num_zero HD.o (.inl hm))
    rw [Gh.o] at c1
    go_enter Tryz.func123, Tryz.ntmps123
    go_wp2_with fail
    rw [← Gh.o]
    refine CE.o.mono ?_
    rintro e w1 ⟨rfl, hp1, hk1⟩
    have Gb := qI hp1
    have Gc := qI hk1
    clear hp1 hk1 c1
    go_wp2_with fail
    refine (CR.o w1 _ _ rfl Gb.o).mono ?_
    rintro e w2 ⟨rfl, hk2⟩
    have Ga := qI hk2
    clear hk2
    go_wp2_with fail
    refine (CU2.o w2 (Gb.o.kept0 Ga.o)).mono ?_
    rintro e w3 ⟨rfl, hk3⟩
    have Gk := qI ((Gb.o.kept0 Ga.o).kept0 hk3)
    have Gg := qI ((Gc.o.then Ga.o).then hk3)
    clear hk3
    go_wp2_with fail
    refine (yv Gk.o i 50 hi (by decide) (by decide)).mono ?_
    rintro e w9 ⟨rfl, hp9, hk9⟩
    have Gl := qI hp9
    have Gd := qI (Gg.o.trans' hk9)
    obtain ⟨⟨d0, d1, d2, d3, d4⟩, f0, f1, f2, f3, f4⟩ := (Gi.o.kept Gd.o Gf.o).facts
    clear hp9 hk9
    go_wp2_with fail
    obtain ⟨WF, e⟩ : ∃ WF, WF = zQ w9 w.heap.size (.int .i64 0) (.int .i64 0) (.string ⟨#[]⟩) (.slice none 0 0) (.slice none 0 0) := ⟨_, rfl⟩
    obtain ⟨KF, x0, x1, x2, x3, x4⟩ := (Gi.o.kept Gd.o Gf.o).stored e
    unfold zQ at e
    rw [← e]
    exact bodyPost_ret (v := .agg #[.int .i64 0, .int .i64 0, .string ⟨#[]⟩, .slice none 0 0, .slice none 0 0]) (by simp [results, Tryz.results123, go_sem, x0, x1, x2, x3, x4]) rfl ⟨xe HN.o (Gl.o.kept KF (fun hx => Gf.o (by simp at hx; simp [hx]))), ((Gu.o.mono (by simp)).trans' Gd.o).trans KF (fun i hi => by simp at hi; exact .inr (by omega))⟩
   ·have h48n : d.toNat ≠ 48 := fun q => h48 (UInt8.toNat_inj.1 q)
    obtain ⟨k1, k2⟩ := zy (a := (d.toNat : Int)) (b := 48) (by omega)
    have HF := Q7 HD.o (fun q => h48 q.1)
    rw [HD.o] at HF
    clear h48n h48
    rw [hm] at HF
    cases h3 : (qy r).drop (d :: t).length with
    | nil =>
     have H3 := qI h3
     rw [h3, show ku [] [46, 101, 69] = false from rfl, if_neg (by decide)] at HF
     by_cases hb : 9007199254740991 < zP (d :: t)
     ·have HN : Hid (qM r = .inl 52) := qI (by rw [HF, if_pos hb])
      have Gm : Hid (9007199254740991 < zP (d :: t)) := qI hb
      clear HF hb
      rw [Gh.o] at c1
      go_enter Tryz.func123, Tryz.ntmps123
      go_wp2_with fail
      rw [← Gh.o]
      refine CE.o.mono ?_
      rintro e w1 ⟨rfl, hp1, hk1⟩
      have Gb := qI hp1
      have Gc := qI hk1
      clear hp1 hk1 c1
      go_wp2_with fail
      refine (CR.o w1 _ _ rfl Gb.o).mono ?_
      rintro e w2 ⟨rfl, hk2⟩
      have Ga := qI hk2
      clear hk2
      go_wp2_with fail
      refine (CU2.o w2 (Gb.o.kept0 Ga.o)).mono ?_
      rintro e w3 ⟨rfl, hk3⟩
      have Gk := qI ((Gb.o.kept0 Ga.o).kept0 hk3)
      have Gg := qI ((Gc.o.then Ga.o).then hk3)
      clear hk3
      obtain ⟨i3, hp3, hi3, hc3, hr3⟩ := Gk.o.open_ok
      have hl3 := yx hr3 hi3
      have Ge := qI hp3
      have e1 := zb (o := 1) (v := .int .i64 i3) hp3 rfl
      have e2 := zg (o := 1) hp3
      have hi3k : i3 + (d :: t).length ≤ S.size := by have := Gx.o; rw [List.length_cons] at *; omega
      have Gp := qI hi3k
      have Gq := qI hr3
      have Gr : Hid (i3 ≤ S.size ∧ c ≤ B) := qI ⟨hi3, hc3⟩
      have hi3I : (i3 : Int) + (t.length : Int) + 1 ≤ 262144 := by rw [List.length_cons] at hi3k; omega
      clear hp3 hr3 hl3 hi3k hc3
      go_wp2_with fail
      have hp4 : PS (w3.setCell ⟨p, 1, none⟩ (.int .i64 ((i3 + (d :: t).length : Nat)))) p S B (.inr ([], c)) := by
       have h9 := PS.good (Ge.o.set1 (i3 + (d :: t).length)) Gp.o Gr.o.2
       rw [← List.drop_drop, Gq.o, H3.o] at h9
       exact h9
      rw [show ((i3 + (d :: t).length : Nat) : Int) = (i3 : Int) + ((t.length : Int) + 1) by simp only [List.length_cons, List.length_nil]; omega] at hp4
      have hk4 := (Gg.o).trans' (zT w3 p 1 (.int .i64 ((i3 : Int) + ((t.length : Int) + 1))))
      clear e1 e2
      revert hp4 hk4
      generalize w3.setCell ⟨p, 1, none⟩ (.int .i64 ((i3 : Int) + ((t.length : Int) + 1))) = w4
      intro hp4 hk4
      have Gj := qI hp4
      have Gs := qI hk4
      clear hp4 hk4
      refine (CR.o w4 _ _ rfl Gj.o).mono ?_
      rintro e w5 ⟨rfl, hk5⟩
      have Gn := qI (Gj.o.kept0 hk5)
      have Gt := qI (Gs.o.then hk5)
      clear hk5
      rw [show zf [] = ⟨#[]⟩ from rfl]
      go_wp2_with fail
      refine (CS.o _).mono ?_
      rintro e w7 ⟨ha7, hk7⟩
      unfold qr at ha7
      rw [if_pos Gm.o] at ha7
      subst ha7
      have Gv := qI (Gn.o.kept0 hk7)
      have Gw := qI (Gt.o.then hk7)
      clear hk7
      go_wp2_with fail
      refine (yv Gv.o i 52 hi (by decide) (by decide)).mono ?_
      rintro e w9 ⟨rfl, hp9, hk9⟩
      have Gl := qI hp9
      have Gd := qI (Gw.o.trans' hk9)
      obtain ⟨⟨d0, d1, d2, d3, d4⟩, f0, f1, f2, f3, f4⟩ := (Gi.o.kept Gd.o Gf.o).facts
      clear hp9 hk9
      go_wp2_with fail
      obtain ⟨WF, e⟩ : ∃ WF, WF = zQ w9 w.heap.size (.int .i64 0) (.int .i64 0) (.string ⟨#[]⟩) (.slice none 0 0) (.slice none 0 0) := ⟨_, rfl⟩
      obtain ⟨KF, x0, x1, x2, x3, x4⟩ := (Gi.o.kept Gd.o Gf.o).stored e
      unfold zQ at e
      rw [← e]
      exact bodyPost_ret (v := .agg #[.int .i64 0, .int .i64 0, .string ⟨#[]⟩, .slice none 0 0, .slice none 0 0]) (by simp [results, Tryz.results123, go_sem, x0, x1, x2, x3, x4]) rfl ⟨xe HN.o (Gl.o.kept KF (fun hx => Gf.o (by simp at hx; simp [hx]))), ((Gu.o.mono (by simp)).trans' Gd.o).trans KF (fun i hi => by simp at hi; exact .inr (by omega))⟩
     ·have HN : Hid (qM r = .inr (-(zP (d :: t) : Int), [])) := qI (by rw [HF, if_neg hb]; rfl)
      have Gm : Hid (¬ 9007199254740991 < zP (d :: t)) := qI hb
      have hbI : (zP (d :: t) : Int) ≤ 9007199254740991 := by omega
      clear HF hb
      revert CS HN Gm hbI
      generalize zP (d :: t) = D
      intro CS HN Gm hbI
      have Gy := qI hbI
      clear hbI
      rw [Gh.o] at c1
      go_enter Tryz.func123, Tryz.ntmps123
      go_wp2_with fail
      rw [← Gh.o]
      refine CE.o.mono ?_
      rintro e w1 ⟨rfl, hp1, hk1⟩
      have Gb := qI hp1
      have Gc := qI hk1
      clear hp1 hk1 c1
      go_wp2_with fail
      refine (CR.o w1 _ _ rfl Gb.o).mono ?_
      rintro e w2 ⟨rfl, hk2⟩
      have Ga := qI hk2
      clear hk2
      go_wp2_with fail
      refine (CU2.o w2 (Gb.o.kept0 Ga.o)).mono ?_
      rintro e w3 ⟨rfl, hk3⟩
      have Gk := qI ((Gb.o.kept0 Ga.o).kept0 hk3)
      have Gg := qI ((Gc.o.then Ga.o).then hk3)
      clear hk3
      obtain ⟨i3, hp3, hi3, hc3, hr3⟩ := Gk.o.open_ok
      have hl3 := yx hr3 hi3
      have Ge := qI hp3
      have e1 := zb (o := 1) (v := .int .i64 i3) hp3 rfl
      have e2 := zg (o := 1) hp3
      have hi3k : i3 + (d :: t).length ≤ S.size := by have := Gx.o; rw [List.length_cons] at *; omega
      have Gp := qI hi3k
      have Gq := qI hr3
      have Gr : Hid (i3 ≤ S.size ∧ c ≤ B) := qI ⟨hi3, hc3⟩
      have hi3I : (i3 : Int) + (t.length : Int) + 1 ≤ 262144 := by rw [List.length_cons] at hi3k; omega
      clear hp3 hr3 hl3 hi3k hc3
      go_wp2_with fail
      have hp4 : PS (w3.setCell ⟨p, 1, none⟩ (.int .i64 ((i3 + (d :: t).length : Nat)))) p S B (.inr ([], c)) := by
       have h9 := PS.good (Ge.o.set1 (i3 + (d :: t).length)) Gp.o Gr.o.2
       rw [← List.drop_drop, Gq.o, H3.o] at h9
       exact h9
      rw [show ((i3 + (d :: t).length : Nat) : Int) = (i3 : Int) + ((t.length : Int) + 1) by simp only [List.length_cons, List.length_nil]; omega] at hp4
      have hk4 := (Gg.o).trans' (zT w3 p 1 (.int .i64 ((i3 : Int) + ((t.length : Int) + 1))))
      clear e1 e2
      revert hp4 hk4
      generalize w3.setCell ⟨p, 1, none⟩ (.int .i64 ((i3 : Int) + ((t.length : Int) + 1))) = w4
      intro hp4 hk4
      have Gj := qI hp4
      have Gs := qI hk4
      clear hp4 hk4
      refine (CR.o w4 _ _ rfl Gj.o).mono ?_
      rintro e w5 ⟨rfl, hk5⟩
      have Gn := qI (Gj.o.kept0 hk5)
      have Gt := qI (Gs.o.then hk5)
      clear hk5
      rw [show zf [] = ⟨#[]⟩ from rfl]
      go_wp2_with fail
      refine (CS.o _).mono ?_
      rintro e w7 ⟨ha7, hk7⟩
      unfold qr at ha7
      rw [if_neg Gm.o] at ha7
      subst ha7
      have Gv := qI (Gn.o.kept0 hk7)
      have Gw := qI (Gt.o.then hk7)
      clear hk7
      have hbI := Gy.o
      go_wp2_with fail
      refine (jC (-(D : Int)) _).mono ?_
      rintro e w9 ⟨rfl, hk9⟩
      unfold ym
      have Gl := qI (Gv.o.kept0 hk9)
      have Gd := qI (Gw.o.then hk9)
      clear hk9
      obtain ⟨⟨d0, d1, d2, d3, d4⟩, f0, f1, f2, f3, f4⟩ := (Gi.o.kept Gd.o Gf.o).facts
      go_wp2_with fail
      obtain ⟨WF, e⟩ : ∃ WF, WF = zQ w9 w.heap.size (.int .i64 3) (.int .i64 (-(D : Int))) (.string ⟨#[]⟩) (.slice none 0 0) (.slice none 0 0) := ⟨_, rfl⟩
      obtain ⟨KF, x0, x1, x2, x3, x4⟩ := (Gi.o.kept Gd.o Gf.o).stored e
      unfold zQ at e
      rw [← e]
      exact bodyPost_ret (v := .agg #[.int .i64 3, .int .i64 (-(D : Int)), .string ⟨#[]⟩, .slice none 0 0, .slice none 0 0]) (by simp [results, Tryz.results123, go_sem, x0, x1, x2, x3, x4]) rfl ⟨kH HN.o (Gl.o.kept KF (fun hx => Gf.o (by simp at hx; simp [hx]))), ((Gu.o.mono (by simp)).trans' Gd.o).trans KF (fun i hi => by simp at hi; exact .inr (by omega))⟩
    | cons a q =>
     have H3 := qI h3
     rw [h3, show ku (a :: q) [46, 101, 69] = ([46, 101, 69] : List UInt8).contains a from rfl] at HF
     have hneA : zf (a :: q) ≠ ⟨#[]⟩ := fun e => by
      have h9 := congrArg (fun s : ByteArray => s.data.toList) e
      simp only [zo] at h9
      cases h9
     obtain ⟨j1, j2⟩ := qf hneA
     have ha0 : 0 < (zf (a :: q)).size := by rw [zG]; simp
     have ha : (zf (a :: q))[0]'ha0 = a := rfl
     have ha0I : (0 : Int) < (zf (a :: q)).size := by omega
     have CI : Hid (∀ w', _) := qI (fun w' => x5 ⟨#[46, 101, 69]⟩ (a.toNat : Int) w')
     rw [show ((a.toNat : Int)).toNat.toUInt8 = a by simp, show (⟨#[46, 101, 69]⟩ : ByteArray).data.toList = [46, 101, 69] from rfl] at CI
     have hic := qD [46, 101, 69] a
     clear hneA
     cases hc2 : ([46, 101, 69] : List UInt8).contains a with
     | true =>
      have hz0 : 0 ≤ Lib.indexByte [46, 101, 69] a := hic.2 hc2
      rw [hc2, if_pos rfl] at HF
      have HN := qI HF
      clear hic hc2 HF CS
      revert CI hz0
      generalize Lib.indexByte [46, 101, 69] a = z
      intro CI hz0
      rw [Gh.o] at c1
      go_enter Tryz.func123, Tryz.ntmps123
      go_wp2_with fail
      rw [← Gh.o]
      refine CE.o.mono ?_
      rintro e w1 ⟨rfl, hp1, hk1⟩
      have Gb := qI hp1
      have Gc := qI hk1
      clear hp1 hk1 c1
      go_wp2_with fail
      refine (CR.o w1 _ _ rfl Gb.o).mono ?_
      rintro e w2 ⟨rfl, hk2⟩
      have Ga := qI hk2
      clear hk2
      go_wp2_with fail
      refine (CU2.o w2 (Gb.o.kept0 Ga.o)).mono ?_
      rintro e w3 ⟨rfl, hk3⟩
      have Gk := qI ((Gb.o.kept0 Ga.o).kept0 hk3)
      have Gg := qI ((Gc.o.then Ga.o).then hk3)
      clear hk3
      obtain ⟨i3, hp3, hi3, hc3, hr3⟩ := Gk.o.open_ok
      have hl3 := yx hr3 hi3
      have Ge := qI hp3
      have e1 := zb (o := 1) (v := .int .i64 i3) hp3 rfl
      have e2 := zg (o := 1) hp3
      have hi3k : i3 + (d :: t).length ≤ S.size := by have := Gx.o; rw [List.length_cons] at *; omega
      have Gp := qI hi3k
      have Gq := qI hr3
      have Gr : Hid (i3 ≤ S.size ∧ c ≤ B) := qI ⟨hi3, hc3⟩
      have hi3I : (i3 : Int) + (t.length : Int) + 1 ≤ 262144 := by rw [List.length_cons] at hi3k; omega
      clear hp3 hr3 hl3 hi3k hc3
      go_wp2_with fail
      have hp4 : PS (w3.setCell ⟨p, 1, none⟩ (.int .i64 ((i3 + (d :: t).length : Nat)))) p S B (.inr (a :: q, c)) := by
       have h9 := PS.good (Ge.o.set1 (i3 + (d :: t).length)) Gp.o Gr.o.2
       rw [← List.drop_drop, Gq.o, H3.o] at h9
       exact h9
      rw [show ((i3 + (d :: t).length : Nat) : Int) = (i3 : Int) + ((t.length : Int) + 1) by simp only [List.length_cons, List.length_nil]; omega] at hp4
      have hk4 := (Gg.o).trans' (zT w3 p 1 (.int .i64 ((i3 : Int) + ((t.length : Int) + 1))))
      clear e1 e2
      revert hp4 hk4
      generalize w3.setCell ⟨p, 1, none⟩ (.int .i64 ((i3 : Int) + ((t.length : Int) + 1))) = w4
      intro hp4 hk4
      have Gj := qI hp4
      have Gs := qI hk4
      clear hp4 hk4
      refine (CR.o w4 _ _ rfl Gj.o).mono ?_
      rintro e w5 ⟨rfl, hk5⟩
      have Gn := qI (Gj.o.kept0 hk5)
      have Gt := qI (Gs.o.then hk5)
      clear hk5
      go_wp2_with fail
      refine (CI.o _).mono ?_
      rintro e w6 ⟨rfl, rfl⟩
      obtain ⟨i5, c5, e5, hp5, hi5, hc5⟩ := Gn.o.places
      have l1 := zb (o := 1) (v := .int .i64 i5) hp5 rfl
      clear hp5
      go_wp2_with fail
      refine (yv Gn.o i5 51 hi5 (by decide) (by decide)).mono ?_
      rintro e w9 ⟨rfl, hp9, hk9⟩
      have Gl := qI hp9
      have Gd := qI (Gt.o.trans' hk9)
      obtain ⟨⟨d0, d1, d2, d3, d4⟩, f0, f1, f2, f3, f4⟩ := (Gi.o.kept Gd.o Gf.o).facts
      clear hp9 hk9
      go_wp2_with fail
      obtain ⟨WF, e⟩ : ∃ WF, WF = zQ w9 w.heap.size (.int .i64 0) (.int .i64 0) (.string ⟨#[]⟩) (.slice none 0 0) (.slice none 0 0) := ⟨_, rfl⟩
      obtain ⟨KF, x0, x1, x2, x3, x4⟩ := (Gi.o.kept Gd.o Gf.o).stored e
      unfold zQ at e
      rw [← e]
      exact bodyPost_ret (v := .agg #[.int .i64 0, .int .i64 0, .string ⟨#[]⟩, .slice none 0 0, .slice none 0 0]) (by simp [results, Tryz.results123, go_sem, x0, x1, x2, x3, x4]) rfl ⟨xe HN.o (Gl.o.kept KF (fun hx => Gf.o (by simp at hx; simp [hx]))), ((Gu.o.mono (by simp)).trans' Gd.o).trans KF (fun i hi => by simp at hi; exact .inr (by omega))⟩
     | false =>
      have hz0 : Lib.indexByte [46, 101, 69] a < 0 := by
       rcases Int.lt_or_le (Lib.indexByte [46, 101, 69] a) 0 with h | h
       ·exact h
       ·rw [hic.1 h] at hc2; cases hc2
      rw [hc2, if_neg (by decide)] at HF
      have hzd : decide (0 ≤ Lib.indexByte [46, 101, 69] a) = false := decide_eq_false (by omega)
      clear hic hc2 hz0
      revert CI hzd
      generalize Lib.indexByte [46, 101, 69] a = z
      intro CI hzd
      by_cases hb : 9007199254740991 < zP (d :: t)
      ·have HN : Hid (qM r = .inl 52) := qI (by rw [HF, if_pos hb])
       have Gm : Hid (9007199254740991 < zP (d :: t)) := qI hb
       clear HF hb
       rw [Gh.o] at c1
       go_enter Tryz.func123, Tryz.ntmps123
       go_wp2_with fail
       rw [← Gh.o]
       refine CE.o.mono ?_
       rintro e w1 ⟨rfl, hp1, hk1⟩
       have Gb := qI hp1
       have Gc := qI hk1
       clear hp1 hk1 c1
       go_wp2_with fail
       refine (CR.o w1 _ _ rfl Gb.o).mono ?_
       rintro e w2 ⟨rfl, hk2⟩
       have Ga := qI hk2
       clear hk2
       go_wp2_with fail
       refine (CU2.o w2 (Gb.o.kept0 Ga.o)).mono ?_
       rintro e w3 ⟨rfl, hk3⟩
       have Gk := qI ((Gb.o.kept0 Ga.o).kept0 hk3)
       have Gg := qI ((Gc.o.then Ga.o).then hk3)
       clear hk3
       obtain ⟨i3, hp3, hi3, hc3, hr3⟩ := Gk.o.open_ok
       have hl3 := yx hr3 hi3
       have Ge := qI hp3
       have e1 := zb (o := 1) (v := .int .i64 i3) hp3 rfl
       have e2 := zg (o := 1) hp3
       have hi3k : i3 + (d :: t).length ≤ S.size := by have := Gx.o; rw [List.length_cons] at *; omega
       have Gp := qI hi3k
       have Gq := qI hr3
       have Gr : Hid (i3 ≤ S.size ∧ c ≤ B) := qI ⟨hi3, hc3⟩
       have hi3I : (i3 : Int) + (t.length : Int) + 1 ≤ 262144 := by rw [List.length_cons] at hi3k; omega
       clear hp3 hr3 hl3 hi3k hc3
       go_wp2_with fail
       have hp4 : PS (w3.setCell ⟨p, 1, none⟩ (.int .i64 ((i3 + (d :: t).length : Nat)))) p S B (.inr (a :: q, c)) := by
        have h9 := PS.good (Ge.o.set1 (i3 + (d :: t).length)) Gp.o Gr.o.2
        rw [← List.drop_drop, Gq.o, H3.o] at h9
        exact h9
       rw [show ((i3 + (d :: t).length : Nat) : Int) = (i3 : Int) + ((t.length : Int) + 1) by simp only [List.length_cons, List.length_nil]; omega] at hp4
       have hk4 := (Gg.o).trans' (zT w3 p 1 (.int .i64 ((i3 : Int) + ((t.length : Int) + 1))))
       clear e1 e2
       revert hp4 hk4
       generalize w3.setCell ⟨p, 1, none⟩ (.int .i64 ((i3 : Int) + ((t.length : Int) + 1))) = w4
       intro hp4 hk4
       have Gj := qI hp4
       have Gs := qI hk4
       clear hp4 hk4
       refine (CR.o w4 _ _ rfl Gj.o).mono ?_
       rintro e w5 ⟨rfl, hk5⟩
       have Gn := qI (Gj.o.kept0 hk5)
       have Gt := qI (Gs.o.then hk5)
       clear hk5
       go_wp2_with fail
       refine (CI.o _).mono ?_
       rintro e w6 ⟨rfl, rfl⟩
       go_wp2_with fail
       refine (CS.o _).mono ?_
       rintro e w7 ⟨ha7, hk7⟩
       unfold qr at ha7
       rw [if_pos Gm.o] at ha7
       subst ha7
       have Gv := qI (Gn.o.kept0 hk7)
       have Gw := qI (Gt.o.then hk7)
       clear hk7
       go_wp2_with fail
       refine (yv Gv.o i 52 hi (by decide) (by decide)).mono ?_
       rintro e w9 ⟨rfl, hp9, hk9⟩
       have Gl := qI hp9
       have Gd := qI (Gw.o.trans' hk9)
       obtain ⟨⟨d0, d1, d2, d3, d4⟩, f0, f1, f2, f3, f4⟩ := (Gi.o.kept Gd.o Gf.o).facts
       clear hp9 hk9
       go_wp2_with fail
       obtain ⟨WF, e⟩ : ∃ WF, WF = zQ w9 w.heap.size (.int .i64 0) (.int .i64 0) (.string ⟨#[]⟩) (.slice none 0 0) (.slice none 0 0) := ⟨_, rfl⟩
       obtain ⟨KF, x0, x1, x2, x3, x4⟩ := (Gi.o.kept Gd.o Gf.o).stored e
       unfold zQ at e
       rw [← e]
       exact bodyPost_ret (v := .agg #[.int .i64 0, .int .i64 0, .string ⟨#[]⟩, .slice none 0 0, .slice none 0 0]) (by simp [results, Tryz.results123, go_sem, x0, x1, x2, x3, x4]) rfl ⟨xe HN.o (Gl.o.kept KF (fun hx => Gf.o (by simp at hx; simp [hx]))), ((Gu.o.mono (by simp)).trans' Gd.o).trans KF (fun i hi => by simp at hi; exact .inr (by omega))⟩
      ·have HN : Hid (qM r = .inr (-(zP (d :: t) : Int), a :: q)) := qI (by rw [HF, if_neg hb]; rfl)
       have Gm : Hid (¬ 9007199254740991 < zP (d :: t)) := qI hb
       have hbI : (zP (d :: t) : Int) ≤ 9007199254740991 := by omega
       clear HF hb
       revert CS HN Gm hbI
       generalize zP (d :: t) = D
       intro CS HN Gm hbI
       have Gy := qI hbI
       clear hbI
       rw [Gh.o] at c1
       go_enter Tryz.func123, Tryz.ntmps123
       go_wp2_with fail
       rw [← Gh.o]
       refine CE.o.mono ?_
       rintro e w1 ⟨rfl, hp1, hk1⟩
       have Gb := qI hp1
       have Gc := qI hk1
       clear hp1 hk1 c1
       go_wp2_with fail
       refine (CR.o w1 _ _ rfl Gb.o).mono ?_
       rintro e w2 ⟨rfl, hk2⟩
       have Ga := qI hk2
       clear hk2
       go_wp2_with fail
       refine (CU2.o w2 (Gb.o.kept0 Ga.o)).mono ?_
       rintro e w3 ⟨rfl, hk3⟩
       have Gk := qI ((Gb.o.kept0 Ga.o).kept0 hk3)
       have Gg := qI ((Gc.o.then Ga.o).then hk3)
       clear hk3
       obtain ⟨i3, hp3, hi3, hc3, hr3⟩ := Gk.o.open_ok
       have hl3 := yx hr3 hi3
       have Ge := qI hp3
       have e1 := zb (o := 1) (v := .int .i64 i3) hp3 rfl
       have e2 := zg (o := 1) hp3
       have hi3k : i3 + (d :: t).length ≤ S.size := by have := Gx.o; rw [List.length_cons] at *; omega
       have Gp := qI hi3k
       have Gq := qI hr3
       have Gr : Hid (i3 ≤ S.size ∧ c ≤ B) := qI ⟨hi3, hc3⟩
       have hi3I : (i3 : Int) + (t.length : Int) + 1 ≤ 262144 := by rw [List.length_cons] at hi3k; omega
       clear hp3 hr3 hl3 hi3k hc3
       go_wp2_with fail
       have hp4 : PS (w3.setCell ⟨p, 1, none⟩ (.int .i64 ((i3 + (d :: t).length : Nat)))) p S B (.inr (a :: q, c)) := by
        have h9 := PS.good (Ge.o.set1 (i3 + (d :: t).length)) Gp.o Gr.o.2
        rw [← List.drop_drop, Gq.o, H3.o] at h9
        exact h9
       rw [show ((i3 + (d :: t).length : Nat) : Int) = (i3 : Int) + ((t.length : Int) + 1) by simp only [List.length_cons, List.length_nil]; omega] at hp4
       have hk4 := (Gg.o).trans' (zT w3 p 1 (.int .i64 ((i3 : Int) + ((t.length : Int) + 1))))
       clear e1 e2
       revert hp4 hk4
       generalize w3.setCell ⟨p, 1, none⟩ (.int .i64 ((i3 : Int) + ((t.length : Int) + 1))) = w4
       intro hp4 hk4
       have Gj := qI hp4
       have Gs := qI hk4
       clear hp4 hk4
       refine (CR.o w4 _ _ rfl Gj.o).mono ?_
       rintro e w5 ⟨rfl, hk5⟩
       have Gn := qI (Gj.o.kept0 hk5)
       have Gt := qI (Gs.o.then hk5)
       clear hk5
       go_wp2_with fail
       refine (CI.o _).mono ?_
       rintro e w6 ⟨rfl, rfl⟩
       go_wp2_with fail
       refine (CS.o _).mono ?_
       rintro e w7 ⟨ha7, hk7⟩
       unfold qr at ha7
       rw [if_neg Gm.o] at ha7
       subst ha7
       have Gv := qI (Gn.o.kept0 hk7)
       have Gw := qI (Gt.o.then hk7)
       clear hk7
       have hbI := Gy.o
       go_wp2_with fail
       refine (jC (-(D : Int)) _).mono ?_
       rintro e w9 ⟨rfl, hk9⟩
       unfold ym
       have Gl := qI (Gv.o.kept0 hk9)
       have Gd := qI (Gw.o.then hk9)
       clear hk9
       obtain ⟨⟨d0, d1, d2, d3, d4⟩, f0, f1, f2, f3, f4⟩ := (Gi.o.kept Gd.o Gf.o).facts
       go_wp2_with fail
       obtain ⟨WF, e⟩ : ∃ WF, WF = zQ w9 w.heap.size (.int .i64 3) (.int .i64 (-(D : Int))) (.string ⟨#[]⟩) (.slice none 0 0) (.slice none 0 0) := ⟨_, rfl⟩
       obtain ⟨KF, x0, x1, x2, x3, x4⟩ := (Gi.o.kept Gd.o Gf.o).stored e
       unfold zQ at e
       rw [← e]
       exact bodyPost_ret (v := .agg #[.int .i64 3, .int .i64 (-(D : Int)), .string ⟨#[]⟩, .slice none 0 0, .slice none 0 0]) (by simp [results, Tryz.results123, go_sem, x0, x1, x2, x3, x4]) rfl ⟨kH HN.o (Gl.o.kept KF (fun hx => Gf.o (by simp at hx; simp [hx]))), ((Gu.o.mono (by simp)).trans' Gd.o).trans KF (fun i hi => by simp at hi; exact .inr (by omega))⟩
  | false =>
   rw [hm] at CE
   by_cases h48 : d = 48
   ·by_cases ht0 : t = []
    ·have HF := Q7 HD.o (fun q => by rcases q.2 with q | q; rw [hm] at q; cases q; exact q ht0)
     rw [HD.o] at HF
     subst ht0 h48
     clear hsI
     have hsI : ((zf ((48 : UInt8) :: [])).size : Int) = 1 := Jh.o
     have hX' : (zf (qy r)).extract 0 1 = zf ((48 : UInt8) :: []) := hX
     have hTs' : (1 : Int) ≤ (zf (qy r)).size := hTs
     have CU3 : Hid (∀ w', PS w' p S B (.inr (qy r, c)) → Calls Tryz.prog 162 #[.pointer (some ⟨p, 0, none⟩)] w' fun e w2 => e = .returned (.int .i64 1) ∧ zc [] w' w2) := qI CU2.o
     clear hX hTs CU2
     have hX := hX'
     have hTs := hTs'
     have CU2 := CU3
     clear hX' hTs' CU3
     rw [hm] at HF
     cases h3 : (qy r).drop ((48 : UInt8) :: []).length with
     | nil =>
      have H3 := qI h3
      rw [h3, show ku [] [46, 101, 69] = false from rfl, if_neg (by decide)] at HF
      by_cases hb : 9007199254740991 < zP ((48 : UInt8) :: [])
      ·exact absurd hb (by decide)
      ·have HN : Hid (qM r = .inr ((zP ((48 : UInt8) :: []) : Int), [])) := qI (by rw [HF, if_neg hb]; rfl)
       have Gm : Hid (¬ 9007199254740991 < zP ((48 : UInt8) :: [])) := qI hb
       have hbI : (zP ((48 : UInt8) :: []) : Int) ≤ 9007199254740991 := by omega
       clear HF hb
       revert CS HN Gm hbI
       generalize zP ((48 : UInt8) :: []) = D
       intro CS HN Gm hbI
       have Gy := qI hbI
       clear hbI
       rw [Gh.o] at c1
       go_enter Tryz.func123, Tryz.ntmps123
       go_wp2_with fail
       rw [← Gh.o]
       refine CE.o.mono ?_
       rintro e w1 ⟨rfl, hp1, hk1⟩
       have Gb := qI hp1
       have Gc := qI hk1
       clear hp1 hk1 c1
       go_wp2_with fail
       refine (CR.o w1 _ _ rfl Gb.o).mono ?_
       rintro e w2 ⟨rfl, hk2⟩
       have Ga := qI hk2
       clear hk2
       go_wp2_with fail
       refine (CU2.o w2 (Gb.o.kept0 Ga.o)).mono ?_
       rintro e w3 ⟨rfl, hk3⟩
       have Gk := qI ((Gb.o.kept0 Ga.o).kept0 hk3)
       have Gg := qI ((Gc.o.then Ga.o).then hk3)
       clear hk3
       obtain ⟨i3, hp3, hi3, hc3, hr3⟩ := Gk.o.open_ok
       have hl3 := yx hr3 hi3
       have Ge := qI hp3
       have e1 := zb (o := 1) (v := .int .i64 i3) hp3 rfl
       have e2 := zg (o := 1) hp3
       have hi3k : i3 + ((48 : UInt8) :: []).length ≤ S.size := by have := Gx.o; rw [List.length_cons] at *; omega
       have Gp := qI hi3k
       have Gq := qI hr3
       have Gr : Hid (i3 ≤ S.size ∧ c ≤ B) := qI ⟨hi3, hc3⟩
       have hi3I : (i3 : Int) + 1 ≤ 262144 := by rw [List.length_cons] at hi3k; omega
       clear hp3 hr3 hl3 hi3k hc3
       go_wp2_with fail
       have hp4 : PS (w3.setCell ⟨p, 1, none⟩ (.int .i64 ((i3 + ((48 : UInt8) :: []).length : Nat)))) p S B (.inr ([], c)) := by
        have h9 := PS.good (Ge.o.set1 (i3 + ((48 : UInt8) :: []).length)) Gp.o Gr.o.2
        rw [← List.drop_drop, Gq.o, H3.o] at h9
        exact h9
       rw [show ((i3 + ((48 : UInt8) :: []).length : Nat) : Int) = (i3 : Int) + 1 by simp only [List.length_cons, List.length_nil]; omega] at hp4
       have hk4 := (Gg.o).trans' (zT w3 p 1 (.int .i64 ((i3 : Int) + 1)))
       clear e1 e2
       revert hp4 hk4
       generalize w3.setCell ⟨p, 1, none⟩ (.int .i64 ((i3 : Int) + 1)) = w4
       intro hp4 hk4
       have Gj := qI hp4
       have Gs := qI hk4
       clear hp4 hk4
       refine (CR.o w4 _ _ rfl Gj.o).mono ?_
       rintro e w5 ⟨rfl, hk5⟩
       have Gn := qI (Gj.o.kept0 hk5)
       have Gt := qI (Gs.o.then hk5)
       clear hk5
       rw [show zf [] = ⟨#[]⟩ from rfl]
       go_wp2_with fail
       refine (CS.o _).mono ?_
       rintro e w7 ⟨ha7, hk7⟩
       unfold qr at ha7
       rw [if_neg Gm.o] at ha7
       subst ha7
       have Gv := qI (Gn.o.kept0 hk7)
       have Gw := qI (Gt.o.then hk7)
       clear hk7
       have hbI := Gy.o
       go_wp2_with fail
       refine (jC (D : Int) _).mono ?_
       rintro e w9 ⟨rfl, hk9⟩
       unfold ym
       have Gl := qI (Gv.o.kept0 hk9)
       have Gd := qI (Gw.o.then hk9)
       clear hk9
       obtain ⟨⟨d0, d1, d2, d3, d4⟩, f0, f1, f2, f3, f4⟩ := (Gi.o.kept Gd.o Gf.o).facts
       go_wp2_with fail
       obtain ⟨WF, e⟩ : ∃ WF, WF = zQ w9 w.heap.size (.int .i64 3) (.int .i64 (D : Int)) (.string ⟨#[]⟩) (.slice none 0 0) (.slice none 0 0) := ⟨_, rfl⟩
       obtain ⟨KF, x0, x1, x2, x3, x4⟩ := (Gi.o.kept Gd.o Gf.o).stored e
       unfold zQ at e
       rw [← e]
       exact bodyPost_ret (v := .agg #[.int .i64 3, .int .i64 (D : Int), .string ⟨#[]⟩, .slice none 0 0, .slice none 0 0]) (by simp [results, Tryz.results123, go_sem, x0, x1, x2, x3, x4]) rfl ⟨kH HN.o (Gl.o.kept KF (fun hx => Gf.o (by simp at hx; simp [hx]))), ((Gu.o.mono (by simp)).trans' Gd.o).trans KF (fun i hi => by simp at hi; exact .inr (by omega))⟩
     | cons a q =>
      have H3 := qI h3
      rw [h3, show ku (a :: q) [46, 101, 69] = ([46, 101, 69] : List UInt8).contains a from rfl] at HF
      have hneA : zf (a :: q) ≠ ⟨#[]⟩ := fun e => by
       have h9 := congrArg (fun s : ByteArray => s.data.toList) e
       simp only [zo] at h9
       cases h9
      obtain ⟨j1, j2⟩ := qf hneA
      have ha0 : 0 < (zf (a :: q)).size := by rw [zG]; simp
      have ha : (zf (a :: q))[0]'ha0 = a := rfl
      have ha0I : (0 : Int) < (zf (a :: q)).size := by omega
      have CI : Hid (∀ w', _) := qI (fun w' => x5 ⟨#[46, 101, 69]⟩ (a.toNat : Int) w')
      rw [show ((a.toNat : Int)).toNat.toUInt8 = a by simp, show (⟨#[46, 101, 69]⟩ : ByteArray).data.toList = [46, 101, 69] from rfl] at CI
      have hic := qD [46, 101, 69] a
      clear hneA
      cases hc2 : ([46, 101, 69] : List UInt8).contains a with
      | true =>
       have hz0 : 0 ≤ Lib.indexByte [46, 101, 69] a := hic.2 hc2
       rw [hc2, if_pos rfl] at HF
       have HN := qI HF
       clear hic hc2 HF CS
       revert CI hz0
       generalize Lib.indexByte [46, 101, 69] a = z
       intro CI hz0
       rw [Gh.o] at c1
       go_enter Tryz.func123, Tryz.ntmps123
       go_wp2_with fail
       rw [← Gh.o]
       refine CE.o.mono ?_
       rintro e w1 ⟨rfl, hp1, hk1⟩
       have Gb := qI hp1
       have Gc := qI hk1
       clear hp1 hk1 c1
       go_wp2_with fail
       refine (CR.o w1 _ _ rfl Gb.o).mono ?_
       rintro e w2 ⟨rfl, hk2⟩
       have Ga := qI hk2
       clear hk2
       go_wp2_with fail
       refine (CU2.o w2 (Gb.o.kept0 Ga.o)).mono ?_
       rintro e w3 ⟨rfl, hk3⟩
       have Gk := qI ((Gb.o.kept0 Ga.o).kept0 hk3)
       have Gg := qI ((Gc.o.then Ga.o).then hk3)
       clear hk3
       obtain ⟨i3, hp3, hi3, hc3, hr3⟩ := Gk.o.open_ok
       have hl3 := yx hr3 hi3
       have Ge := qI hp3
       have e1 := zb (o := 1) (v := .int .i64 i3) hp3 rfl
       have e2 := zg (o := 1) hp3
       have hi3k : i3 + ((48 : UInt8) :: []).length ≤ S.size := by have := Gx.o; rw [List.length_cons] at *; omega
       have Gp := qI hi3k
       have Gq := qI hr3
       have Gr : Hid (i3 ≤ S.size ∧ c ≤ B) := qI ⟨hi3, hc3⟩
       have hi3I : (i3 : Int) + 1 ≤ 262144 := by rw [List.length_cons] at hi3k; omega
       clear hp3 hr3 hl3 hi3k hc3
       go_wp2_with fail
       have hp4 : PS (w3.setCell ⟨p, 1, none⟩ (.int .i64 ((i3 + ((48 : UInt8) :: []).length : Nat)))) p S B (.inr (a :: q, c)) := by
        have h9 := PS.good (Ge.o.set1 (i3 + ((48 : UInt8) :: []).length)) Gp.o Gr.o.2
        rw [← List.drop_drop, Gq.o, H3.o] at h9
        exact h9
       rw [show ((i3 + ((48 : UInt8) :: []).length : Nat) : Int) = (i3 : Int) + 1 by simp only [List.length_cons, List.length_nil]; omega] at hp4
       have hk4 := (Gg.o).trans' (zT w3 p 1 (.int .i64 ((i3 : Int) + 1)))
       clear e1 e2
       revert hp4 hk4
       generalize w3.setCell ⟨p, 1, none⟩ (.int .i64 ((i3 : Int) + 1)) = w4
       intro hp4 hk4
       have Gj := qI hp4
       have Gs := qI hk4
       clear hp4 hk4
       refine (CR.o w4 _ _ rfl Gj.o).mono ?_
       rintro e w5 ⟨rfl, hk5⟩
       have Gn := qI (Gj.o.kept0 hk5)
       have Gt := qI (Gs.o.then hk5)
       clear hk5
       go_wp2_with fail
       refine (CI.o _).mono ?_
       rintro e w6 ⟨rfl, rfl⟩
       obtain ⟨i5, c5, e5, hp5, hi5, hc5⟩ := Gn.o.places
       have l1 := zb (o := 1) (v := .int .i64 i5) hp5 rfl
       clear hp5
       go_wp2_with fail
       refine (yv Gn.o i5 51 hi5 (by decide) (by decide)).mono ?_
       rintro e w9 ⟨rfl, hp9, hk9⟩
       have Gl := qI hp9
       have Gd := qI (Gt.o.trans' hk9)
       obtain ⟨⟨d0, d1, d2, d3, d4⟩, f0, f1, f2, f3, f4⟩ := (Gi.o.kept Gd.o Gf.o).facts
       clear hp9 hk9
       go_wp2_with fail
       obtain ⟨WF, e⟩ : ∃ WF, WF = zQ w9 w.heap.size (.int .i64 0) (.int .i64 0) (.string ⟨#[]⟩) (.slice none 0 0) (.slice none 0 0) := ⟨_, rfl⟩
       obtain ⟨KF, x0, x1, x2, x3, x4⟩ := (Gi.o.kept Gd.o Gf.o).stored e
       unfold zQ at e
       rw [← e]
       exact bodyPost_ret (v := .agg #[.int .i64 0, .int .i64 0, .string ⟨#[]⟩, .slice none 0 0, .slice none 0 0]) (by simp [results, Tryz.results123, go_sem, x0, x1, x2, x3, x4]) rfl ⟨xe HN.o (Gl.o.kept KF (fun hx => Gf.o (by simp at hx; simp [hx]))), ((Gu.o.mono (by simp)).trans' Gd.o).trans KF (fun i hi => by simp at hi; exact .inr (by omega))⟩
      | false =>
       have hz0 : Lib.indexByte [46, 101, 69] a < 0 := by
        rcases Int.lt_or_le (Lib.indexByte [46, 101, 69] a) 0 with h | h
        ·exact h
        ·rw [hic.1 h] at hc2; cases hc2
       rw [hc2, if_neg (by decide)] at HF
       have hzd : decide (0 ≤ Lib.indexByte [46, 101, 69] a) = false := decide_eq_false (by omega)
       clear hic hc2 hz0
       revert CI hzd
       generalize Lib.indexByte [46, 101, 69] a = z
       intro CI hzd
       by_cases hb : 9007199254740991 < zP ((48 : UInt8) :: [])
       ·exact absurd hb (by decide)
       ·have HN : Hid (qM r = .inr ((zP ((48 : UInt8) :: []) : Int), a :: q)) := qI (by rw [HF, if_neg hb]; rfl)
        have Gm : Hid (¬ 9007199254740991 < zP ((48 : UInt8) :: [])) := qI hb
        have hbI : (zP ((48 : UInt8) :: []) : Int) ≤ 9007199254740991 := by omega
        clear HF hb
        revert CS HN Gm hbI
        generalize zP ((48 : UInt8) :: []) = D
        intro CS HN Gm hbI
        have Gy := qI hbI
        clear hbI
        rw [Gh.o] at c1
        go_enter Tryz.func123, Tryz.ntmps123
        go_wp2_with fail
        rw [← Gh.o]
        refine CE.o.mono ?_
        rintro e w1 ⟨rfl, hp1, hk1⟩
        have Gb := qI hp1
        have Gc := qI hk1
        clear hp1 hk1 c1
        go_wp2_with fail
        refine (CR.o w1 _ _ rfl Gb.o).mono ?_
        rintro e w2 ⟨rfl, hk2⟩
        have Ga := qI hk2
        clear hk2
        go_wp2_with fail
        refine (CU2.o w2 (Gb.o.kept0 Ga.o)).mono ?_
        rintro e w3 ⟨rfl, hk3⟩
        have Gk := qI ((Gb.o.kept0 Ga.o).kept0 hk3)
        have Gg := qI ((Gc.o.then Ga.o).then hk3)
        clear hk3
        obtain ⟨i3, hp3, hi3, hc3, hr3⟩ := Gk.o.open_ok
        have hl3 := yx hr3 hi3
        have Ge := qI hp3
        have e1 := zb (o := 1) (v := .int .i64 i3) hp3 rfl
        have e2 := zg (o := 1) hp3
        have hi3k : i3 + ((48 : UInt8) :: []).length ≤ S.size := by have := Gx.o; rw [List.length_cons] at *; omega
        have Gp := qI hi3k
        have Gq := qI hr3
        have Gr : Hid (i3 ≤ S.size ∧ c ≤ B) := qI ⟨hi3, hc3⟩
        have hi3I : (i3 : Int) + 1 ≤ 262144 := by rw [List.length_cons] at hi3k; omega
        clear hp3 hr3 hl3 hi3k hc3
        go_wp2_with fail
        have hp4 : PS (w3.setCell ⟨p, 1, none⟩ (.int .i64 ((i3 + ((48 : UInt8) :: []).length : Nat)))) p S B (.inr (a :: q, c)) := by
         have h9 := PS.good (Ge.o.set1 (i3 + ((48 : UInt8) :: []).length)) Gp.o Gr.o.2
         rw [← List.drop_drop, Gq.o, H3.o] at h9
         exact h9
        rw [show ((i3 + ((48 : UInt8) :: []).length : Nat) : Int) = (i3 : Int) + 1 by simp only [List.length_cons, List.length_nil]; omega] at hp4
        have hk4 := (Gg.o).trans' (zT w3 p 1 (.int .i64 ((i3 : Int) + 1)))
        clear e1 e2
        revert hp4 hk4
        generalize w3.setCell ⟨p, 1, none⟩ (.int .i64 ((i3 : Int) + 1)) = w4
        intro hp4 hk4
        have Gj := qI hp4
        have Gs := qI hk4
        clear hp4 hk4
        refine (CR.o w4 _ _ rfl Gj.o).mono ?_
        rintro e w5 ⟨rfl, hk5⟩
        have Gn := qI (Gj.o.kept0 hk5)
        have Gt := qI (Gs.o.then hk5)
        clear hk5
        go_wp2_with fail
        refine (CI.o _).mono ?_
        rintro e w6 ⟨rfl, rfl⟩
        go_wp2_with fail
        refine (CS.o _).mono ?_
        rintro e w7 ⟨ha7, hk7⟩
        unfold qr at ha7
        rw [if_neg Gm.o] at ha7
        subst ha7
        have Gv := qI (Gn.o.kept0 hk7)
        have Gw := qI (Gt.o.then hk7)
        clear hk7
        have hbI := Gy.o
        go_wp2_with fail
        refine (jC (D : Int) _).mono ?_
        rintro e w9 ⟨rfl, hk9⟩
        unfold ym
        have Gl := qI (Gv.o.kept0 hk9)
        have Gd := qI (Gw.o.then hk9)
        clear hk9
        obtain ⟨⟨d0, d1, d2, d3, d4⟩, f0, f1, f2, f3, f4⟩ := (Gi.o.kept Gd.o Gf.o).facts
        go_wp2_with fail
        obtain ⟨WF, e⟩ : ∃ WF, WF = zQ w9 w.heap.size (.int .i64 3) (.int .i64 (D : Int)) (.string ⟨#[]⟩) (.slice none 0 0) (.slice none 0 0) := ⟨_, rfl⟩
        obtain ⟨KF, x0, x1, x2, x3, x4⟩ := (Gi.o.kept Gd.o Gf.o).stored e
        unfold zQ at e
        rw [← e]
        exact bodyPost_ret (v := .agg #[.int .i64 3, .int .i64 (D : Int), .string ⟨#[]⟩, .slice none 0 0, .slice none 0 0]) (by simp [results, Tryz.results123, go_sem, x0, x1, x2, x3, x4]) rfl ⟨kH HN.o (Gl.o.kept KF (fun hx => Gf.o (by simp at hx; simp [hx]))), ((Gu.o.mono (by simp)).trans' Gd.o).trans KF (fun i hi => by simp at hi; exact .inr (by omega))⟩
    ·subst h48
     have hs1 : (1 : Int) < (t.length : Int) + 1 := by have := List.length_pos_iff.2 ht0; omega
     have HN := qI (num_zero HD.o (.inr ht0))
     rw [Gh.o] at c1
     go_enter Tryz.func123, Tryz.ntmps123
     go_wp2_with fail
     rw [← Gh.o]
     refine CE.o.mono ?_
     rintro e w1 ⟨rfl, hp1, hk1⟩
     have Gb := qI hp1
     have Gc := qI hk1
     clear hp1 hk1 c1
     go_wp2_with fail
     refine (CR.o w1 _ _ rfl Gb.o).mono ?_
     rintro e w2 ⟨rfl, hk2⟩
     have Ga := qI hk2
     clear hk2
     go_wp2_with fail
     refine (CU2.o w2 (Gb.o.kept0 Ga.o)).mono ?_
     rintro e w3 ⟨rfl, hk3⟩
     have Gk := qI ((Gb.o.kept0 Ga.o).kept0 hk3)
     have Gg := qI ((Gc.o.then Ga.o).then hk3)
     clear hk3
     go_wp2_with fail
     refine (yv Gk.o i 50 hi (by decide) (by decide)).mono ?_
     rintro e w9 ⟨rfl, hp9, hk9⟩
     have Gl := qI hp9
     have Gd := qI (Gg.o.trans' hk9)
     obtain ⟨⟨d0, d1, d2, d3, d4⟩, f0, f1, f2, f3, f4⟩ := (Gi.o.kept Gd.o Gf.o).facts
     clear hp9 hk9
     go_wp2_with fail
     obtain ⟨WF, e⟩ : ∃ WF, WF = zQ w9 w.heap.size (.int .i64 0) (.int .i64 0) (.string ⟨#[]⟩) (.slice none 0 0) (.slice none 0 0) := ⟨_, rfl⟩
     obtain ⟨KF, x0, x1, x2, x3, x4⟩ := (Gi.o.kept Gd.o Gf.o).stored e
     unfold zQ at e
     rw [← e]
     exact bodyPost_ret (v := .agg #[.int .i64 0, .int .i64 0, .string ⟨#[]⟩, .slice none 0 0, .slice none 0 0]) (by simp [results, Tryz.results123, go_sem, x0, x1, x2, x3, x4]) rfl ⟨xe HN.o (Gl.o.kept KF (fun hx => Gf.o (by simp at hx; simp [hx]))), ((Gu.o.mono (by simp)).trans' Gd.o).trans KF (fun i hi => by simp at hi; exact .inr (by omega))⟩
   ·have h48n : d.toNat ≠ 48 := fun q => h48 (UInt8.toNat_inj.1 q)
    obtain ⟨k1, k2⟩ := zy (a := (d.toNat : Int)) (b := 48) (by omega)
    have HF := Q7 HD.o (fun q => h48 q.1)
    rw [HD.o] at HF
    clear h48n h48
    rw [hm] at HF
    cases h3 : (qy r).drop (d :: t).length with
    | nil =>
     have H3 := qI h3
     rw [h3, show ku [] [46, 101, 69] = false from rfl, if_neg (by decide)] at HF
     by_cases hb : 9007199254740991 < zP (d :: t)
     ·have HN : Hid (qM r = .inl 52) := qI (by rw [HF, if_pos hb])
      have Gm : Hid (9007199254740991 < zP (d :: t)) := qI hb
      clear HF hb
      rw [Gh.o] at c1
      go_enter Tryz.func123, Tryz.ntmps123
      go_wp2_with fail
      rw [← Gh.o]
      refine CE.o.mono ?_
      rintro e w1 ⟨rfl, hp1, hk1⟩
      have Gb := qI hp1
      have Gc := qI hk1
      clear hp1 hk1 c1
      go_wp2_with fail
      refine (CR.o w1 _ _ rfl Gb.o).mono ?_
      rintro e w2 ⟨rfl, hk2⟩
      have Ga := qI hk2
      clear hk2
      go_wp2_with fail
      refine (CU2.o w2 (Gb.o.kept0 Ga.o)).mono ?_
      rintro e w3 ⟨rfl, hk3⟩
      have Gk := qI ((Gb.o.kept0 Ga.o).kept0 hk3)
      have Gg := qI ((Gc.o.then Ga.o).then hk3)
      clear hk3
      obtain ⟨i3, hp3, hi3, hc3, hr3⟩ := Gk.o.open_ok
      have hl3 := yx hr3 hi3
      have Ge := qI hp3
      have e1 := zb (o := 1) (v := .int .i64 i3) hp3 rfl
      have e2 := zg (o := 1) hp3
      have hi3k : i3 + (d :: t).length ≤ S.size := by have := Gx.o; rw [List.length_cons] at *; omega
      have Gp := qI hi3k
      have Gq := qI hr3
      have Gr : Hid (i3 ≤ S.size ∧ c ≤ B) := qI ⟨hi3, hc3⟩
      have hi3I : (i3 : Int) + (t.length : Int) + 1 ≤ 262144 := by rw [List.length_cons] at hi3k; omega
      clear hp3 hr3 hl3 hi3k hc3
      go_wp2_with fail
      have hp4 : PS (w3.setCell ⟨p, 1, none⟩ (.int .i64 ((i3 + (d :: t).length : Nat)))) p S B (.inr ([], c)) := by
       have h9 := PS.good (Ge.o.set1 (i3 + (d :: t).length)) Gp.o Gr.o.2
       rw [← List.drop_drop, Gq.o, H3.o] at h9
       exact h9
      rw [show ((i3 + (d :: t).length : Nat) : Int) = (i3 : Int) + ((t.length : Int) + 1) by simp only [List.length_cons, List.length_nil]; omega] at hp4
      have hk4 := (Gg.o).trans' (zT w3 p 1 (.int .i64 ((i3 : Int) + ((t.length : Int) + 1))))
      clear e1 e2
      revert hp4 hk4
      generalize w3.setCell ⟨p, 1, none⟩ (.int .i64 ((i3 : Int) + ((t.length : Int) + 1))) = w4
      intro hp4 hk4
      have Gj := qI hp4
      have Gs := qI hk4
      clear hp4 hk4
      refine (CR.o w4 _ _ rfl Gj.o).mono ?_
      rintro e w5 ⟨rfl, hk5⟩
      have Gn := qI (Gj.o.kept0 hk5)
      have Gt := qI (Gs.o.then hk5)
      clear hk5
      rw [show zf [] = ⟨#[]⟩ from rfl]
      go_wp2_with fail
      refine (CS.o _).mono ?_
      rintro e w7 ⟨ha7, hk7⟩
      unfold qr at ha7
      rw [if_pos Gm.o] at ha7
      subst ha7
      have Gv := qI (Gn.o.kept0 hk7)
      have Gw := qI (Gt.o.then hk7)
      clear hk7
      go_wp2_with fail
      refine (yv Gv.o i 52 hi (by decide) (by decide)).mono ?_
      rintro e w9 ⟨rfl, hp9, hk9⟩
      have Gl := qI hp9
      have Gd := qI (Gw.o.trans' hk9)
      obtain ⟨⟨d0, d1, d2, d3, d4⟩, f0, f1, f2, f3, f4⟩ := (Gi.o.kept Gd.o Gf.o).facts
      clear hp9 hk9
      go_wp2_with fail
      obtain ⟨WF, e⟩ : ∃ WF, WF = zQ w9 w.heap.size (.int .i64 0) (.int .i64 0) (.string ⟨#[]⟩) (.slice none 0 0) (.slice none 0 0) := ⟨_, rfl⟩
      obtain ⟨KF, x0, x1, x2, x3, x4⟩ := (Gi.o.kept Gd.o Gf.o).stored e
      unfold zQ at e
      rw [← e]
      exact bodyPost_ret (v := .agg #[.int .i64 0, .int .i64 0, .string ⟨#[]⟩, .slice none 0 0, .slice none 0 0]) (by simp [results, Tryz.results123, go_sem, x0, x1, x2, x3, x4]) rfl ⟨xe HN.o (Gl.o.kept KF (fun hx => Gf.o (by simp at hx; simp [hx]))), ((Gu.o.mono (by simp)).trans' Gd.o).trans KF (fun i hi => by simp at hi; exact .inr (by omega))⟩
     ·have HN : Hid (qM r = .inr ((zP (d :: t) : Int), [])) := qI (by rw [HF, if_neg hb]; rfl)
      have Gm : Hid (¬ 9007199254740991 < zP (d :: t)) := qI hb
      have hbI : (zP (d :: t) : Int) ≤ 9007199254740991 := by omega
      clear HF hb
      revert CS HN Gm hbI
      generalize zP (d :: t) = D
      intro CS HN Gm hbI
      have Gy := qI hbI
      clear hbI
      rw [Gh.o] at c1
      go_enter Tryz.func123, Tryz.ntmps123
      go_wp2_with fail
      rw [← Gh.o]
      refine CE.o.mono ?_
      rintro e w1 ⟨rfl, hp1, hk1⟩
      have Gb := qI hp1
      have Gc := qI hk1
      clear hp1 hk1 c1
      go_wp2_with fail
      refine (CR.o w1 _ _ rfl Gb.o).mono ?_
      rintro e w2 ⟨rfl, hk2⟩
      have Ga := qI hk2
      clear hk2
      go_wp2_with fail
      refine (CU2.o w2 (Gb.o.kept0 Ga.o)).mono ?_
      rintro e w3 ⟨rfl, hk3⟩
      have Gk := qI ((Gb.o.kept0 Ga.o).kept0 hk3)
      have Gg := qI ((Gc.o.then Ga.o).then hk3)
      clear hk3
      obtain ⟨i3, hp3, hi3, hc3, hr3⟩ := Gk.o.open_ok
      have hl3 := yx hr3 hi3
      have Ge := qI hp3
      have e1 := zb (o := 1) (v := .int .i64 i3) hp3 rfl
      have e2 := zg (o := 1) hp3
      have hi3k : i3 + (d :: t).length ≤ S.size := by have := Gx.o; rw [List.length_cons] at *; omega
      have Gp := qI hi3k
      have Gq := qI hr3
      have Gr : Hid (i3 ≤ S.size ∧ c ≤ B) := qI ⟨hi3, hc3⟩
      have hi3I : (i3 : Int) + (t.length : Int) + 1 ≤ 262144 := by rw [List.length_cons] at hi3k; omega
      clear hp3 hr3 hl3 hi3k hc3
      go_wp2_with fail
      have hp4 : PS (w3.setCell ⟨p, 1, none⟩ (.int .i64 ((i3 + (d :: t).length : Nat)))) p S B (.inr ([], c)) := by
       have h9 := PS.good (Ge.o.set1 (i3 + (d :: t).length)) Gp.o Gr.o.2
       rw [← List.drop_drop, Gq.o, H3.o] at h9
       exact h9
      rw [show ((i3 + (d :: t).length : Nat) : Int) = (i3 : Int) + ((t.length : Int) + 1) by simp only [List.length_cons, List.length_nil]; omega] at hp4
      have hk4 := (Gg.o).trans' (zT w3 p 1 (.int .i64 ((i3 : Int) + ((t.length : Int) + 1))))
      clear e1 e2
      revert hp4 hk4
      generalize w3.setCell ⟨p, 1, none⟩ (.int .i64 ((i3 : Int) + ((t.length : Int) + 1))) = w4
      intro hp4 hk4
      have Gj := qI hp4
      have Gs := qI hk4
      clear hp4 hk4
      refine (CR.o w4 _ _ rfl Gj.o).mono ?_
      rintro e w5 ⟨rfl, hk5⟩
      have Gn := qI (Gj.o.kept0 hk5)
      have Gt := qI (Gs.o.then hk5)
      clear hk5
      rw [show zf [] = ⟨#[]⟩ from rfl]
      go_wp2_with fail
      refine (CS.o _).mono ?_
      rintro e w7 ⟨ha7, hk7⟩
      unfold qr at ha7
      rw [if_neg Gm.o] at ha7
      subst ha7
      have Gv := qI (Gn.o.kept0 hk7)
      have Gw := qI (Gt.o.then hk7)
      clear hk7
      have hbI := Gy.o
      go_wp2_with fail
      refine (jC (D : Int) _).mono ?_
      rintro e w9 ⟨rfl, hk9⟩
      unfold ym
      have Gl := qI (Gv.o.kept0 hk9)
      have Gd := qI (Gw.o.then hk9)
      clear hk9
      obtain ⟨⟨d0, d1, d2, d3, d4⟩, f0, f1, f2, f3, f4⟩ := (Gi.o.kept Gd.o Gf.o).facts
      go_wp2_with fail
      obtain ⟨WF, e⟩ : ∃ WF, WF = zQ w9 w.heap.size (.int .i64 3) (.int .i64 (D : Int)) (.string ⟨#[]⟩) (.slice none 0 0) (.slice none 0 0) := ⟨_, rfl⟩
      obtain ⟨KF, x0, x1, x2, x3, x4⟩ := (Gi.o.kept Gd.o Gf.o).stored e
      unfold zQ at e
      rw [← e]
      exact bodyPost_ret (v := .agg #[.int .i64 3, .int .i64 (D : Int), .string ⟨#[]⟩, .slice none 0 0, .slice none 0 0]) (by simp [results, Tryz.results123, go_sem, x0, x1, x2, x3, x4]) rfl ⟨kH HN.o (Gl.o.kept KF (fun hx => Gf.o (by simp at hx; simp [hx]))), ((Gu.o.mono (by simp)).trans' Gd.o).trans KF (fun i hi => by simp at hi; exact .inr (by omega))⟩
    | cons a q =>
     have H3 := qI h3
     rw [h3, show ku (a :: q) [46, 101, 69] = ([46, 101, 69] : List UInt8).contains a from rfl] at HF
     have hneA : zf (a :: q) ≠ ⟨#[]⟩ := fun e => by
      have h9 := congrArg (fun s : ByteArray => s.data.toList) e
      simp only [zo] at h9
      cases h9
     obtain ⟨j1, j2⟩ := qf hneA
     have ha0 : 0 < (zf (a :: q)).size := by rw [zG]; simp
     have ha : (zf (a :: q))[0]'ha0 = a := rfl
     have ha0I : (0 : Int) < (zf (a :: q)).size := by omega
     have CI : Hid (∀ w', _) := qI (fun w' => x5 ⟨#[46, 101, 69]⟩ (a.toNat : Int) w')
     rw [show ((a.toNat : Int)).toNat.toUInt8 = a by simp, show (⟨#[46, 101, 69]⟩ : ByteArray).data.toList = [46, 101, 69] from rfl] at CI
     have hic := qD [46, 101, 69] a
     clear hneA
     cases hc2 : ([46, 101, 69] : List UInt8).contains a with
     | true =>
      have hz0 : 0 ≤ Lib.indexByte [46, 101, 69] a := hic.2 hc2
      rw [hc2, if_pos rfl] at HF
      have HN := qI HF
      clear hic hc2 HF CS
      revert CI hz0
      generalize Lib.indexByte [46, 101, 69] a = z
      intro CI hz0
      rw [Gh.o] at c1
      go_enter Tryz.func123, Tryz.ntmps123
      go_wp2_with fail
      rw [← Gh.o]
      refine CE.o.mono ?_
      rintro e w1 ⟨rfl, hp1, hk1⟩
      have Gb := qI hp1
      have Gc := qI hk1
      clear hp1 hk1 c1
      go_wp2_with fail
      refine (CR.o w1 _ _ rfl Gb.o).mono ?_
      rintro e w2 ⟨rfl, hk2⟩
      have Ga := qI hk2
      clear hk2
      go_wp2_with fail
      refine (CU2.o w2 (Gb.o.kept0 Ga.o)).mono ?_
      rintro e w3 ⟨rfl, hk3⟩
      have Gk := qI ((Gb.o.kept0 Ga.o).kept0 hk3)
      have Gg := qI ((Gc.o.then Ga.o).then hk3)
      clear hk3
      obtain ⟨i3, hp3, hi3, hc3, hr3⟩ := Gk.o.open_ok
      have hl3 := yx hr3 hi3
      have Ge := qI hp3
      have e1 := zb (o := 1) (v := .int .i64 i3) hp3 rfl
      have e2 := zg (o := 1) hp3
      have hi3k : i3 + (d :: t).length ≤ S.size := by have := Gx.o; rw [List.length_cons] at *; omega
      have Gp := qI hi3k
      have Gq := qI hr3
      have Gr : Hid (i3 ≤ S.size ∧ c ≤ B) := qI ⟨hi3, hc3⟩
      have hi3I : (i3 : Int) + (t.length : Int) + 1 ≤ 262144 := by rw [List.length_cons] at hi3k; omega
      clear hp3 hr3 hl3 hi3k hc3
      go_wp2_with fail
      have hp4 : PS (w3.setCell ⟨p, 1, none⟩ (.int .i64 ((i3 + (d :: t).length : Nat)))) p S B (.inr (a :: q, c)) := by
       have h9 := PS.good (Ge.o.set1 (i3 + (d :: t).length)) Gp.o Gr.o.2
       rw [← List.drop_drop, Gq.o, H3.o] at h9
       exact h9
      rw [show ((i3 + (d :: t).length : Nat) : Int) = (i3 : Int) + ((t.length : Int) + 1) by simp only [List.length_cons, List.length_nil]; omega] at hp4
      have hk4 := (Gg.o).trans' (zT w3 p 1 (.int .i64 ((i3 : Int) + ((t.length : Int) + 1))))
      clear e1 e2
      revert hp4 hk4
      generalize w3.setCell ⟨p, 1, none⟩ (.int .i64 ((i3 : Int) + ((t.length : Int) + 1))) = w4
      intro hp4 hk4
      have Gj := qI hp4
      have Gs := qI hk4
      clear hp4 hk4
      refine (CR.o w4 _ _ rfl Gj.o).mono ?_
      rintro e w5 ⟨rfl, hk5⟩
      have Gn := qI (Gj.o.kept0 hk5)
      have Gt := qI (Gs.o.then hk5)
      clear hk5
      go_wp2_with fail
      refine (CI.o _).mono ?_
      rintro e w6 ⟨rfl, rfl⟩
      obtain ⟨i5, c5, e5, hp5, hi5, hc5⟩ := Gn.o.places
      have l1 := zb (o := 1) (v := .int .i64 i5) hp5 rfl
      clear hp5
      go_wp2_with fail
      refine (yv Gn.o i5 51 hi5 (by decide) (by decide)).mono ?_
      rintro e w9 ⟨rfl, hp9, hk9⟩
      have Gl := qI hp9
      have Gd := qI (Gt.o.trans' hk9)
      obtain ⟨⟨d0, d1, d2, d3, d4⟩, f0, f1, f2, f3, f4⟩ := (Gi.o.kept Gd.o Gf.o).facts
      clear hp9 hk9
      go_wp2_with fail
      obtain ⟨WF, e⟩ : ∃ WF, WF = zQ w9 w.heap.size (.int .i64 0) (.int .i64 0) (.string ⟨#[]⟩) (.slice none 0 0) (.slice none 0 0) := ⟨_, rfl⟩
      obtain ⟨KF, x0, x1, x2, x3, x4⟩ := (Gi.o.kept Gd.o Gf.o).stored e
      unfold zQ at e
      rw [← e]
      exact bodyPost_ret (v := .agg #[.int .i64 0, .int .i64 0, .string ⟨#[]⟩, .slice none 0 0, .slice none 0 0]) (by simp [results, Tryz.results123, go_sem, x0, x1, x2, x3, x4]) rfl ⟨xe HN.o (Gl.o.kept KF (fun hx => Gf.o (by simp at hx; simp [hx]))), ((Gu.o.mono (by simp)).trans' Gd.o).trans KF (fun i hi => by simp at hi; exact .inr (by omega))⟩
     | false =>
      have hz0 : Lib.indexByte [46, 101, 69] a < 0 := by
       rcases Int.lt_or_le (Lib.indexByte [46, 101, 69] a) 0 with h | h
       ·exact h
       ·rw [hic.1 h] at hc2; cases hc2
      rw [hc2, if_neg (by decide)] at HF
      have hzd : decide (0 ≤ Lib.indexByte [46, 101, 69] a) = false := decide_eq_false (by omega)
      clear hic hc2 hz0
      revert CI hzd
      generalize Lib.indexByte [46, 101, 69] a = z
      intro CI hzd
      by_cases hb : 9007199254740991 < zP (d :: t)
      ·have HN : Hid (qM r = .inl 52) := qI (by rw [HF, if_pos hb])
       have Gm : Hid (9007199254740991 < zP (d :: t)) := qI hb
       clear HF hb
       rw [Gh.o] at c1
       go_enter Tryz.func123, Tryz.ntmps123
       go_wp2_with fail
       rw [← Gh.o]
       refine CE.o.mono ?_
       rintro e w1 ⟨rfl, hp1, hk1⟩
       have Gb := qI hp1
       have Gc := qI hk1
       clear hp1 hk1 c1
       go_wp2_with fail
       refine (CR.o w1 _ _ rfl Gb.o).mono ?_
       rintro e w2 ⟨rfl, hk2⟩
       have Ga := qI hk2
       clear hk2
       go_wp2_with fail
       refine (CU2.o w2 (Gb.o.kept0 Ga.o)).mono ?_
       rintro e w3 ⟨rfl, hk3⟩
       have Gk := qI ((Gb.o.kept0 Ga.o).kept0 hk3)
       have Gg := qI ((Gc.o.then Ga.o).then hk3)
       clear hk3
       obtain ⟨i3, hp3, hi3, hc3, hr3⟩ := Gk.o.open_ok
       have hl3 := yx hr3 hi3
       have Ge := qI hp3
       have e1 := zb (o := 1) (v := .int .i64 i3) hp3 rfl
       have e2 := zg (o := 1) hp3
       have hi3k : i3 + (d :: t).length ≤ S.size := by have := Gx.o; rw [List.length_cons] at *; omega
       have Gp := qI hi3k
       have Gq := qI hr3
       have Gr : Hid (i3 ≤ S.size ∧ c ≤ B) := qI ⟨hi3, hc3⟩
       have hi3I : (i3 : Int) + (t.length : Int) + 1 ≤ 262144 := by rw [List.length_cons] at hi3k; omega
       clear hp3 hr3 hl3 hi3k hc3
       go_wp2_with fail
       have hp4 : PS (w3.setCell ⟨p, 1, none⟩ (.int .i64 ((i3 + (d :: t).length : Nat)))) p S B (.inr (a :: q, c)) := by
        have h9 := PS.good (Ge.o.set1 (i3 + (d :: t).length)) Gp.o Gr.o.2
        rw [← List.drop_drop, Gq.o, H3.o] at h9
        exact h9
       rw [show ((i3 + (d :: t).length : Nat) : Int) = (i3 : Int) + ((t.length : Int) + 1) by simp only [List.length_cons, List.length_nil]; omega] at hp4
       have hk4 := (Gg.o).trans' (zT w3 p 1 (.int .i64 ((i3 : Int) + ((t.length : Int) + 1))))
       clear e1 e2
       revert hp4 hk4
       generalize w3.setCell ⟨p, 1, none⟩ (.int .i64 ((i3 : Int) + ((t.length : Int) + 1))) = w4
       intro hp4 hk4
       have Gj := qI hp4
       have Gs := qI hk4
       clear hp4 hk4
       refine (CR.o w4 _ _ rfl Gj.o).mono ?_
       rintro e w5 ⟨rfl, hk5⟩
       have Gn := qI (Gj.o.kept0 hk5)
       have Gt := qI (Gs.o.then hk5)
       clear hk5
       go_wp2_with fail
       refine (CI.o _).mono ?_
       rintro e w6 ⟨rfl, rfl⟩
       go_wp2_with fail
       refine (CS.o _).mono ?_
       rintro e w7 ⟨ha7, hk7⟩
       unfold qr at ha7
       rw [if_pos Gm.o] at ha7
       subst ha7
       have Gv := qI (Gn.o.kept0 hk7)
       have Gw := qI (Gt.o.then hk7)
       clear hk7
       go_wp2_with fail
       refine (yv Gv.o i 52 hi (by decide) (by decide)).mono ?_
       rintro e w9 ⟨rfl, hp9, hk9⟩
       have Gl := qI hp9
       have Gd := qI (Gw.o.trans' hk9)
       obtain ⟨⟨d0, d1, d2, d3, d4⟩, f0, f1, f2, f3, f4⟩ := (Gi.o.kept Gd.o Gf.o).facts
       clear hp9 hk9
       go_wp2_with fail
       obtain ⟨WF, e⟩ : ∃ WF, WF = zQ w9 w.heap.size (.int .i64 0) (.int .i64 0) (.string ⟨#[]⟩) (.slice none 0 0) (.slice none 0 0) := ⟨_, rfl⟩
       obtain ⟨KF, x0, x1, x2, x3, x4⟩ := (Gi.o.kept Gd.o Gf.o).stored e
       unfold zQ at e
       rw [← e]
       exact bodyPost_ret (v := .agg #[.int .i64 0, .int .i64 0, .string ⟨#[]⟩, .slice none 0 0, .slice none 0 0]) (by simp [results, Tryz.results123, go_sem, x0, x1, x2, x3, x4]) rfl ⟨xe HN.o (Gl.o.kept KF (fun hx => Gf.o (by simp at hx; simp [hx]))), ((Gu.o.mono (by simp)).trans' Gd.o).trans KF (fun i hi => by simp at hi; exact .inr (by omega))⟩
      ·have HN : Hid (qM r = .inr ((zP (d :: t) : Int), a :: q)) := qI (by rw [HF, if_neg hb]; rfl)
       have Gm : Hid (¬ 9007199254740991 < zP (d :: t)) := qI hb
       have hbI : (zP (d :: t) : Int) ≤ 9007199254740991 := by omega
       clear HF hb
       revert CS HN Gm hbI
       generalize zP (d :: t) = D
       intro CS HN Gm hbI
       have Gy := qI hbI
       clear hbI
       rw [Gh.o] at c1
       go_enter Tryz.func123, Tryz.ntmps123
       go_wp2_with fail
       rw [← Gh.o]
       refine CE.o.mono ?_
       rintro e w1 ⟨rfl, hp1, hk1⟩
       have Gb := qI hp1
       have Gc := qI hk1
       clear hp1 hk1 c1
       go_wp2_with fail
       refine (CR.o w1 _ _ rfl Gb.o).mono ?_
       rintro e w2 ⟨rfl, hk2⟩
       have Ga := qI hk2
       clear hk2
       go_wp2_with fail
       refine (CU2.o w2 (Gb.o.kept0 Ga.o)).mono ?_
       rintro e w3 ⟨rfl, hk3⟩
       have Gk := qI ((Gb.o.kept0 Ga.o).kept0 hk3)
       have Gg := qI ((Gc.o.then Ga.o).then hk3)
       clear hk3
       obtain ⟨i3, hp3, hi3, hc3, hr3⟩ := Gk.o.open_ok
       have hl3 := yx hr3 hi3
       have Ge := qI hp3
       have e1 := zb (o := 1) (v := .int .i64 i3) hp3 rfl
       have e2 := zg (o := 1) hp3
       have hi3k : i3 + (d :: t).length ≤ S.size := by have := Gx.o; rw [List.length_cons] at *; omega
       have Gp := qI hi3k
       have Gq := qI hr3
       have Gr : Hid (i3 ≤ S.size ∧ c ≤ B) := qI ⟨hi3, hc3⟩
       have hi3I : (i3 : Int) + (t.length : Int) + 1 ≤ 262144 := by rw [List.length_cons] at hi3k; omega
       clear hp3 hr3 hl3 hi3k hc3
       go_wp2_with fail
       have hp4 : PS (w3.setCell ⟨p, 1, none⟩ (.int .i64 ((i3 + (d :: t).length : Nat)))) p S B (.inr (a :: q, c)) := by
        have h9 := PS.good (Ge.o.set1 (i3 + (d :: t).length)) Gp.o Gr.o.2
        rw [← List.drop_drop, Gq.o, H3.o] at h9
        exact h9
       rw [show ((i3 + (d :: t).length : Nat) : Int) = (i3 : Int) + ((t.length : Int) + 1) by simp only [List.length_cons, List.length_nil]; omega] at hp4
       have hk4 := (Gg.o).trans' (zT w3 p 1 (.int .i64 ((i3 : Int) + ((t.length : Int) + 1))))
       clear e1 e2
       revert hp4 hk4
       generalize w3.setCell ⟨p, 1, none⟩ (.int .i64 ((i3 : Int) + ((t.length : Int) + 1))) = w4
       intro hp4 hk4
       have Gj := qI hp4
       have Gs := qI hk4
       clear hp4 hk4
       refine (CR.o w4 _ _ rfl Gj.o).mono ?_
       rintro e w5 ⟨rfl, hk5⟩
       have Gn := qI (Gj.o.kept0 hk5)
       have Gt := qI (Gs.o.then hk5)
       clear hk5
       go_wp2_with fail
       refine (CI.o _).mono ?_
       rintro e w6 ⟨rfl, rfl⟩
       go_wp2_with fail
       refine (CS.o _).mono ?_
       rintro e w7 ⟨ha7, hk7⟩
       unfold qr at ha7
       rw [if_neg Gm.o] at ha7
       subst ha7
       have Gv := qI (Gn.o.kept0 hk7)
       have Gw := qI (Gt.o.then hk7)
       clear hk7
       have hbI := Gy.o
       go_wp2_with fail
       refine (jC (D : Int) _).mono ?_
       rintro e w9 ⟨rfl, hk9⟩
       unfold ym
       have Gl := qI (Gv.o.kept0 hk9)
       have Gd := qI (Gw.o.then hk9)
       clear hk9
       obtain ⟨⟨d0, d1, d2, d3, d4⟩, f0, f1, f2, f3, f4⟩ := (Gi.o.kept Gd.o Gf.o).facts
       go_wp2_with fail
       obtain ⟨WF, e⟩ : ∃ WF, WF = zQ w9 w.heap.size (.int .i64 3) (.int .i64 (D : Int)) (.string ⟨#[]⟩) (.slice none 0 0) (.slice none 0 0) := ⟨_, rfl⟩
       obtain ⟨KF, x0, x1, x2, x3, x4⟩ := (Gi.o.kept Gd.o Gf.o).stored e
       unfold zQ at e
       rw [← e]
       exact bodyPost_ret (v := .agg #[.int .i64 3, .int .i64 (D : Int), .string ⟨#[]⟩, .slice none 0 0, .slice none 0 0]) (by simp [results, Tryz.results123, go_sem, x0, x1, x2, x3, x4]) rfl ⟨kH HN.o (Gl.o.kept KF (fun hx => Gf.o (by simp at hx; simp [hx]))), ((Gu.o.mono (by simp)).trans' Gd.o).trans KF (fun i hi => by simp at hi; exact .inr (by omega))⟩
end
end Go.Proofs.YtpbphdkjjoipnaaGreatDoor
