/- Parts of one proof, merged: XPA XPB XPC XPD XPE XPF XPG. -/
import Derived.Test.YtpbphdkjjoipnaaGreatDoorHD
import Derived.Test.YtpbphdkjjoipnaaGreatDoorHC
import Derived.Test.YtpbphdkjjoipnaaGreatDoorHB
import Derived.Test.YtpbphdkjjoipnaaGreatDoorHF
import Derived.Test.YtpbphdkjjoipnaaGreatDoorHE
set_option linter.all false
set_option maxHeartbeats 12800000
set_option maxRecDepth 10000
set_option linter.unusedVariables false
set_option linter.unusedSimpArgs false
set_option linter.unnecessarySimpa false
namespace Go.Proofs.YtpbphdkjjoipnaaGreatDoor
open Go.Proofs.Tryz
open Go.RowKit
def PSt (At : Nat → Nat → Int → Prop) (S : ByteArray) (B : Nat) (x : Sum Int (List UInt8 × Nat)) : Prop :=
 ∃ (i c : Nat) (e : Int), At i c e ∧ i ≤ S.size ∧ c ≤ B ∧ (match x with
  | .inl e' => e = e' ∧ 0 < e ∧ e ≤ 1000
  | .inr (r, c') => e = 0 ∧ S.data.toList.drop i = r ∧ c = c')
def PAt (w : World) (p : Nat) (S : ByteArray) (i c : Nat) (e : Int) : Prop := w.heap[p]? = some (.cells #[.string S, .int .i64 i, .int .i64 c, .int .i64 e] 63 (0, 0))
def PS (w : World) (p : Nat) (S : ByteArray) (B : Nat) (x : Sum Int (List UInt8 × Nat)) : Prop := PSt (PAt w p S) S B x
section
variable {w w' : World} {p B : Nat} {S : ByteArray} {x : Sum Int (List UInt8 × Nat)} {X : List Nat}
theorem PS.kept (h : PS w p S B x) (k : zb X w w') (hp : p ∉ X) : PS w' p S B x := by
 obtain ⟨i, c, e, h1, h2⟩ := h
 exact ⟨i, c, e, k.heap h1 hp, h2⟩
theorem PS.kept0 (h : PS w p S B x) (k : zb [] w w') : PS w' p S B x := h.kept k (by simp)
theorem PS.lt (h : PS w p S B x) : p < w.heap.size := by obtain ⟨i, c, e, h1, h2⟩ := h; exact lt_of_block h1
theorem PAt.cells {i c : Nat} {e : Int} (h : PAt w p S i c e) : w.cell? ⟨p, 0, none⟩ = some (.string S) ∧ w.cell? ⟨p, 1, none⟩ = some (.int .i64 i) ∧ w.cell? ⟨p, 2, none⟩ = some (.int .i64 c) ∧ w.cell? ⟨p, 3, none⟩ = some (.int .i64 e) ∧ ∀ o, w.frozen? ⟨p, o, none⟩ = false :=
 ⟨za (o := 0) h rfl, za (o := 1) h rfl, za (o := 2) h rfl, za (o := 3) h rfl, fun o => zc h⟩
theorem PAt.set1 {i c : Nat} {e : Int} (h : PAt w p S i c e) (k : Nat) : PAt (w.setCell ⟨p, 1, none⟩ (.int .i64 (k : Nat))) p S k c e := zf h rfl
theorem PAt.set2 {i c : Nat} {e : Int} (h : PAt w p S i c e) (k : Nat) : PAt (w.setCell ⟨p, 2, none⟩ (.int .i64 (k : Nat))) p S i k e := zf h rfl
theorem PAt.set3 {i c : Nat} {e : Int} (h : PAt w p S i c e) (k : Int) : PAt (w.setCell ⟨p, 3, none⟩ (.int .i64 k)) p S i c k := zf h rfl
theorem zT (w : World) (p o : Nat) (v : Value) : zb [p] w (w.setCell ⟨p, o, none⟩ v) := (zb.refl [p] w).setCell (p := ⟨p, o, none⟩) (.inl (by simp)) v
theorem PS.good {i c : Nat} (h : PAt w p S i c 0) (hi : i ≤ S.size) (hc : c ≤ B) : PS w p S B (.inr (S.data.toList.drop i, c)) := ⟨i, c, 0, h, hi, hc, rfl, rfl, rfl⟩
theorem PS.bad {i c : Nat} {e : Int} (h : PAt w p S i c e) (hi : i ≤ S.size) (hc : c ≤ B) (h0 : 0 < e) (h1 : e ≤ 1000) : PS w p S B (.inl e) := ⟨i, c, e, h, hi, hc, rfl, h0, h1⟩
theorem PS.open_ok {r : List UInt8} {c : Nat} (h : PS w p S B (.inr (r, c))) : ∃ i, PAt w p S i c 0 ∧ i ≤ S.size ∧ c ≤ B ∧ S.data.toList.drop i = r := by
 obtain ⟨i, c', e, h1, h2, h3, rfl, h5, rfl⟩ := h
 exact ⟨i, h1, h2, h3, h5⟩
theorem PS.open_bad {e : Int} (h : PS w p S B (.inl e)) : ∃ i c : Nat, PAt w p S i c e ∧ i ≤ S.size ∧ c ≤ B ∧ 0 < e ∧ e ≤ 1000 := by
 obtain ⟨i, c', e', h1, h2, h3, rfl, h5, h6⟩ := h
 exact ⟨i, c', h1, h2, h3, h5, h6⟩
end
theorem xr.step {b : Nat} {W w : World} (h : xr b W) (k : zb [b] W w) : xr b w := by
 obtain ⟨Wt, h1, h2, h3⟩ := h
 exact ⟨Wt, h1, h2.trans k (fun i hi => by simp at hi; subst hi; exact .inr h3), h3⟩
theorem xr.here {b : Nat} {w : World} (h : xr b w) : yK w := h.at (zb.refl _ _)
theorem rest_str {S : ByteArray} {i : Nat} {r : List UInt8} (h : S.data.toList.drop i = r) : S.extract i S.size = zg r := qR (by rw [jX, h, zq])
theorem yv {S : ByteArray} {i : Nat} {r : List UInt8} (h : S.data.toList.drop i = r) (hi : i ≤ S.size) : i + r.length = S.size := by
 rw [← h, List.length_drop]
 have : S.data.toList.length = S.size := by simp
 omega
section
variable {w : World} {p B : Nat} {S : ByteArray} {x : PX}
theorem yt (h : PS w p S B x) (k : Nat) (e : Int) (hk : k ≤ S.size) (h0 : 0 < e) (h9 : e ≤ 1000) :
  Calls Tryz.prog 51 #[.pointer (some ⟨p, 0, none⟩), .int .i64 k, .int .i64 e] w fun r w' => r = .returned (.bool false) ∧ PS w' p S B (Q0 e x) ∧ zb [p] w w' := by
 cases x with
 | inl e0 =>
  obtain ⟨i, c, h1, hi, hc, h2, h3⟩ := h.open_bad
  obtain ⟨c0, c1, c2, c3, fz⟩ := h1.cells
  obtain ⟨f, -⟩ := zt (a := e0) (b := 0) (by omega)
  have H := qI h
  clear h h1 fz
  go_enter func51, ntmps51
  go_wp2_with fail
  go_ret
  exact ⟨rfl, H.o, zb.refl _ _⟩
 | inr q =>
  obtain ⟨r, c⟩ := q
  obtain ⟨i, h1, hi, hc, hr⟩ := h.open_ok
  obtain ⟨c0, c1, c2, c3, fz⟩ := h1.cells
  have f1 := fz 1
  have f3 := fz 3
  have H := qI h1
  clear h h1 fz hr
  go_enter func51, ntmps51
  go_wp2_with fail
  go_ret
  exact ⟨rfl, PS.bad ((H.o.set1 k).set3 e) hk hc h0 h9, (zT _ _ _ _).trans' (zT _ _ _ _)⟩
theorem qw (h : PS w p S B x) (hS : S.size ≤ 262144) :
  Calls Tryz.prog 50 #[.pointer (some ⟨p, 0, none⟩)] w fun r w' => r = .returned (.string (zg (qQ x))) ∧ zb [] w w' := by
 cases x with
 | inl e0 =>
  obtain ⟨i, c, h1, hi, hc, h2, h3⟩ := h.open_bad
  obtain ⟨c0, c1, c2, c3, fz⟩ := h1.cells
  obtain ⟨-, f⟩ := zt (a := e0) (b := 0) (by omega)
  clear h h1 fz
  go_enter func50, ntmps50
  go_wp2_with fail
  go_ret
  exact ⟨rfl, zb.refl _ _⟩
 | inr q =>
  obtain ⟨r, c⟩ := q
  obtain ⟨i, h1, hi, hc, hr⟩ := h.open_ok
  obtain ⟨c0, c1, c2, c3, fz⟩ := h1.cells
  have HE : Hid (S.extract i S.size = zg r) := qI (rest_str hr)
  have hiI : (i : Int) ≤ S.size := by omega
  have e0 := zu c0
  have e1 := zu c1
  clear h h1 fz hr hc
  go_enter func50, ntmps50
  go_wp2_with fail
  refine yd w (by kernel_rfl) (by kernel_rfl) (zb.refl _ _) ?_
  clear c0 c1 c2 c3
  repeat go_big_quiet_step (fail)
  refine wpQuiet_nil ?_
  intro w2 hk2
  clear e0 e1
  go_wp2_with fail
  go_ret
  rw [HE.o]
  exact ⟨rfl, hk2⟩
theorem skip_place {i : Nat} (hi : i ≤ S.size) : ∃ k, i ≤ k ∧ k ≤ S.size ∧ S.data.toList.drop k = zp (S.data.toList.drop i) ∧ k = i + ((S.data.toList.drop i).length - (zp (S.data.toList.drop i)).length) ∧ (zp (S.data.toList.drop i)).length ≤ (S.data.toList.drop i).length := by
 obtain ⟨k, h1, h2, h3, h4, h5⟩ := drop_skip S.data.toList i
 exact ⟨k, h1, by have := h2 (by simpa using hi); simpa using this, h3, h4, h5⟩
theorem blanks_low : ∀ (j : Nat) b, (⟨#[32, 9, 10, 13]⟩ : ByteArray).data.toList[j]? = some b → b.toNat < 128 := by
 intro j b h
 match j, h with
 | 0, h => injection h with h; subst h; decide
 | 1, h => injection h with h; subst h; decide
 | 2, h => injection h with h; subst h; decide
 | 3, h => injection h with h; subst h; decide
theorem JG (s : List UInt8) (w : World) : Calls Tryz.prog 114 #[.string (zg s), .string ⟨#[32, 9, 10, 13]⟩] w fun e w' => e = .returned (.string (zg (zp s))) ∧ zb [] w w' :=
 (Qp (zg s) ⟨#[32, 9, 10, 13]⟩ w (by decide) blanks_low).mono fun e w' ⟨h1, h2⟩ => ⟨by rw [h1, zq]; exact congrArg (fun l => Ending.returned (Value.string (zg l))) (trim_blanks s), h2⟩
theorem xe (h : PS w p S B x) (hS : S.size ≤ 262144) :
  Calls Tryz.prog 79 #[.pointer (some ⟨p, 0, none⟩)] w fun r w' => r = .returned (.tuple #[]) ∧ PS w' p S B (qi x) ∧ zb [p] w w' := by
 obtain ⟨i, c, e, h1, hi, hc, hx⟩ := h
 have CR : Hid (∀ w', PAt w' p S i c e → Calls Tryz.prog 50 #[.pointer (some ⟨p, 0, none⟩)] w' fun r w' => r = .returned (.string (zg (qQ x))) ∧ _) := qI (fun w' h' => qw (w := w') ⟨i, c, e, h', hi, hc, hx⟩ hS)
 have HX := qI hx
 obtain ⟨k, hk1, hk2, hk3⟩ : ∃ k : Nat, k = i + ((qQ x).length - (zp (qQ x)).length) ∧ k ≤ S.size ∧ (∀ w', PAt w' p S k c e → PS w' p S B (qi x)) := by
  cases x with
  | inl e0 => exact ⟨i, by simp [qQ, zp], hi, fun w' h' => ⟨i, c, e, h', hi, hc, hx⟩⟩
  | inr q =>
   obtain ⟨r, c'⟩ := q
   obtain ⟨he, hr, hcc⟩ := hx
   subst he
   subst hr
   obtain ⟨k, k1, k2, k3, k4, k5⟩ := skip_place (S := S) hi
   exact ⟨k, k4, k2, fun w' h' => ⟨k, c, 0, h', k2, hc, rfl, k3, hcc⟩⟩
 have HP := qI hk3
 have hle := x7 (qQ x)
 have Je : Hid ((zg (qQ x)).size = (qQ x).length ∧ (zg (zp (qQ x))).size = (zp (qQ x)).length) := qI ⟨zK _, zK _⟩
 have CT := qI (JG (qQ x))
 have hrl : (qQ x).length ≤ 262144 := by
  cases x with
  | inl e0 => simp [qQ]
  | inr q =>
   obtain ⟨r, c'⟩ := q
   have := yv hx.2.1 hi
   show r.length ≤ _
   omega
 have hs1 := Je.o
 clear hx hk3 HX
 revert CR CT hs1 hle hrl hk1
 generalize zg (zp (qQ x)) = T2
 generalize zg (qQ x) = T1
 generalize (zp (qQ x)).length = n2
 generalize (qQ x).length = n1
 intro CR hk1 hle CT hrl hs1
 obtain ⟨g1, g2⟩ := hs1
 have g1I : (T1.size : Int) = n1 := by omega
 have g2I : (T2.size : Int) = n2 := by omega
 have Ji : Hid ((k : Int) = (i : Int) + ((T1.size : Int) - (T2.size : Int))) := qI (by omega)
 have b1 : (T2.size : Int) ≤ T1.size := by omega
 have b2 : (T1.size : Int) ≤ 262144 := by omega
 have b3 : (i : Int) ≤ 262144 := by omega
 clear g1 g2 g1I g2I hk1 hle hrl Je
 obtain ⟨c0, c1, c2, c3, fz⟩ := h1.cells
 have H1 := qI h1
 clear fz c0 c2 c3 c1
 go_enter func79, ntmps79
 refine zk (n := 16) (fun w' : World => PAt w' p S i c e ∧ zb [] w w') 15 (by kernel_rfl) (by kernel_rfl) ?_
 change zR _ _ _ _ _ _ _ _ _ w.drew
 have hSS : (fun w' : World => PAt w' p S i c e ∧ zb [] w w') w.drew := ⟨(zb.refl [] w).drew.heap H1.o (by simp), (zb.refl [] w).drew⟩
 clear h1
 revert hSS
 generalize w.drew = WD
 intro hSS
 refine zx ?_
 intro O R hO hR
 have hQp : ∀ c a (d : Nat) v w, R (.panic c) (a.put (some d) v) w → R (.panic c) a w := by subst hR; exact fun _ _ _ _ _ h => h
 refine qT 0 ?_ hO rfl rfl (by kernel_rfl) hQp (fun w hSw => ?_) hSS ?_
 rotate_left
 ·go_simp; try with_reducible rfl
 try simp only [zA,zN,zB,zC,zD]
 refine qT 1 ?_ hO rfl rfl (by kernel_rfl) hQp (fun w hSw => ?_) hSS ?_
 rotate_left
 ·go_simp; try with_reducible rfl
 try simp only [zA,zN,zB,zC,zD]
 refine qT 2 ?_ hO rfl rfl (by kernel_rfl) hQp (fun w hSw => ?_) hSS ?_
 rotate_left
 ·go_simp; try with_reducible rfl
 try simp only [zA,zN,zB,zC,zD]
 refine qT 3 ?_ hO rfl rfl (by kernel_rfl) hQp (fun w hSw => ?_) hSS ?_
 rotate_left
 ·obtain ⟨s0, s1, s2, s3, s4⟩ := hSw.1.cells; go_simp; try with_reducible rfl
 try simp only [zA,zN,zB,zC,zD]
 refine qT 4 ?_ hO rfl rfl (by kernel_rfl) hQp (fun w hSw => ?_) hSS ?_
 rotate_left
 ·go_simp; try with_reducible rfl
 try simp only [zA,zN,zB,zC,zD]
 refine qT 7 ?_ hO rfl rfl (by kernel_rfl) hQp (fun w hSw => ?_) hSS ?_
 rotate_left
 ·go_simp; try with_reducible rfl
 try simp only [zA,zN,zB,zC,zD]
 refine qO 5 hO rfl (by kernel_rfl) (fun K hK => ?_)
 go_simp
 refine Calls.mono (CR.o _ hSS.1) ?_
 rintro r w2 ⟨rfl, hk2⟩
 have hS2 : (fun w' : World => PAt w' p S i c e ∧ zb [] w w') w2 := ⟨hk2.heap hSS.1 (by simp), hSS.2.then hk2⟩
 refine hK _ _ (.inr hS2) ?_
 clear hK K
 try simp only [zA,zN,zB,zC,zD]
 clear hSS hk2
 have hSS := hS2
 clear hS2
 refine qT 6 ?_ hO rfl rfl (by kernel_rfl) hQp (fun w hSw => ?_) hSS ?_
 rotate_left
 ·go_simp; try with_reducible rfl
 try simp only [zA,zN,zB,zC,zD]
 refine qO 8 hO rfl (by kernel_rfl) (fun K hK => ?_)
 go_simp
 refine Calls.mono (CR.o _ hSS.1) ?_
 rintro r w3 ⟨rfl, hk3⟩
 have hS3 : (fun w' : World => PAt w' p S i c e ∧ zb [] w w') w3 := ⟨hk3.heap hSS.1 (by simp), hSS.2.then hk3⟩
 refine hK _ _ (.inr hS3) ?_
 clear hK K
 try simp only [zA,zN,zB,zC,zD]
 clear hSS hk3
 have hSS := hS3
 clear hS3
 refine qO 9 hO rfl (by kernel_rfl) (fun K hK => ?_)
 go_simp
 refine Calls.mono (CT.o _) ?_
 rintro r w4 ⟨rfl, hk4⟩
 have hS4 : (fun w' : World => PAt w' p S i c e ∧ zb [] w w') w4 := ⟨hk4.heap hSS.1 (by simp), hSS.2.then hk4⟩
 refine hK _ _ (.inr hS4) ?_
 clear hK K
 try simp only [zA,zN,zB,zC,zD]
 clear hSS hk4
 have hSS := hS4
 clear hS4
 have HS := qI hSS
 refine qT 10 ?_ hO rfl rfl (by kernel_rfl) hQp (fun w hSw => ?_) hSS ?_
 rotate_left
 ·go_simp; try with_reducible rfl
 try simp only [zA,zN,zB,zC,zD]
 refine qT 11 ?_ hO rfl rfl (by kernel_rfl) hQp (fun w hSw => ?_) hSS ?_
 rotate_left
 ·go_simp; try with_reducible rfl
 try simp only [zA,zN,zB,zC,zD]
 refine qT 12 ?_ hO rfl rfl (by kernel_rfl) hQp (fun w hSw => ?_) hSS ?_
 rotate_left
 ·go_simp; try with_reducible rfl
 try simp only [zA,zN,zB,zC,zD]
 refine qO 13 hO rfl (by kernel_rfl) (fun K hK => ?_)
 go_simp
 refine hK _ _ (.inr hSS) ?_
 clear hK K
 try simp only [zA,zN,zB,zC,zD]
 refine qT 14 ?_ hO rfl rfl (by kernel_rfl) hQp (fun w hSw => ?_) hSS ?_
 rotate_left
 ·go_simp; try with_reducible rfl
 try simp only [zA,zN,zB,zC,zD]
 obtain ⟨s0, s1, s2, s3, fz⟩ := hSS.1.cells
 have f1 := fz 1
 clear fz
 refine qO 15 hO rfl (by kernel_rfl) (fun K hK => ?_)
 go_simp
 refine hK _ _ (.inl rfl) ?_
 clear hK K
 try simp only [zA,zN,zB,zC,zD]
 refine zv hO (by kernel_rfl) ?_ _
 subst hR
 try clear hQp hO O
 clear s0 s1 s2 s3 f1 hSS
 go_wp2_with fail
 go_end0
 rw [show IntKind.i64.wrap ((i : Int) + IntKind.i64.wrap ((T1.size : Int) - (T2.size : Int))) = (k : Int) by rw [IntKind.wrap_i64, IntKind.wrap_i64]; have := Ji.o; omega]
 exact ⟨rfl, HP.o _ (HS.o.1.set1 k), HS.o.2.mono (by simp) |>.trans' (zT _ _ _ _)⟩
end
section
variable {w : World} {p B : Nat} {S : ByteArray} {x : PX}
theorem PS.places (h : PS w p S B x) : ∃ (i c : Nat) (e : Int), PAt w p S i c e ∧ i ≤ S.size ∧ c ≤ B := by
 obtain ⟨i, c, e, h1, h2, h3, _⟩ := h
 exact ⟨i, c, e, h1, h2, h3⟩
theorem Yz {W : List UInt8} {r : List UInt8} (h : W.isPrefixOf r = true) : W.length ≤ r.length := by
 rw [List.isPrefixOf_iff_prefix] at h
 exact h.length_le
theorem yT (h : PS w p S B x) (hS : S.size ≤ 262144) (W : ByteArray) :
  Calls Tryz.prog 120 #[.pointer (some ⟨p, 0, none⟩), .string W] w fun r w' => r = .returned (.bool (Zu W.data.toList x)) ∧ PS w' p S B (eatX W.data.toList x) ∧ zb [p] w w' := by
 cases x with
 | inl e0 =>
  obtain ⟨i, c, h1, hi, hc, h2, h3⟩ := h.open_bad
  obtain ⟨c0, c1, c2, c3, fz⟩ := h1.cells
  obtain ⟨-, f⟩ := zt (a := e0) (b := 0) (by omega)
  have H := qI h
  clear h h1 fz
  go_enter func120, ntmps120
  go_wp2_with fail
  go_ret
  exact ⟨rfl, H.o, zb.refl _ _⟩
 | inr q =>
  obtain ⟨r, c⟩ := q
  have CR := qI (qw h hS)
  obtain ⟨i, h1, hi, hc, hr⟩ := h.open_ok
  obtain ⟨c0, c1, c2, c3, fz⟩ := h1.cells
  have H := qI h
  have H1 := qI h1
  have HR := qI hr
  have HL := qI (yv hr hi)
  cases hb : W.data.toList.isPrefixOf r with
  | false =>
   have HB : Hid (Zu W.data.toList (.inr (r, c)) = false) := qI hb
   have CP := qI (fun w' => xA (zg r) W w')
   simp only [zq, hb] at CP
   clear h h1 fz hr hb
   go_enter func120, ntmps120
   go_wp2_with (first
    | (go_at_call 50; refine CR.o.mono ?_; rintro e1 w1 ⟨rfl, hk1⟩; have Gc := qI hk1; clear hk1)
    | (go_at_call 88; refine (CP.o _).mono ?_; rintro e2 w2 ⟨rfl, rfl⟩))
   go_ret
   rw [HB.o, ZT HB.o]
   exact ⟨rfl, H.o.kept0 Gc.o, Gc.o.mono (by simp)⟩
  | true =>
   have HB : Hid (Zu W.data.toList (.inr (r, c)) = true) := qI hb
   have CP := qI (fun w' => xA (zg r) W w')
   simp only [zq, hb] at CP
   have hroom := Yz hb
   have HW : Hid (W.data.toList.length = W.size) := qI (by simp)
   have hiW : i + W.size ≤ S.size := by have := HL.o; have := HW.o; omega
   have hiWI : (i : Int) + W.size ≤ 262144 := by omega
   have HD : Hid (S.data.toList.drop (i + W.size) = r.drop W.data.toList.length) := qI (by rw [HW.o, ← hr, List.drop_drop])
   clear h h1 fz hr hb hroom
   go_enter func120, ntmps120
   go_wp2_with (first
    | (go_at_call 50; refine CR.o.mono ?_; rintro e1 w1 ⟨rfl, hk1⟩; have Gc := qI hk1; have hP1 := hk1.heap H1.o (by simp); have Gb := qI hP1; have d1 := za (o := 1) (v := .int .i64 i) hP1 rfl; have d2 := zc (o := 1) hP1; clear hk1 hP1 c0 c1 c2 c3)
    | (go_at_call 88; refine (CP.o _).mono ?_; rintro e2 w2 ⟨rfl, rfl⟩))
   go_ret
   rw [HB.o, QZ HB.o]
   have h9 := PAt.set1 (w := w1) Gb.o (i + W.size)
   refine ⟨rfl, ?_, (Gc.o.mono (by simp)).trans' (zT _ _ _ _)⟩
   have h8 := PS.good h9 hiW hc
   rw [HD.o] at h8
   exact h8
theorem kP (h : PS w p S B x) (hS : S.size ≤ 262144) (W : ByteArray) :
  Calls Tryz.prog 161 #[.pointer (some ⟨p, 0, none⟩), .string W] w fun r w' => r = .returned (.tuple #[]) ∧ PS w' p S B (vO W.data.toList x) ∧ zb [p] w w' := by
 have CE := qI (yT h hS W)
 clear h
 cases hb : Zu W.data.toList x with
 | true =>
  rw [hb] at CE
  have HN := qI (zab hb)
  have HE := qI (QZ hb)
  clear hb
  go_enter func161, ntmps161
  go_wp2_with (go_at_call 120; refine CE.o.mono ?_; rintro e1 w1 ⟨rfl, hp1, hk1⟩; have Gb := qI hp1; have Gc := qI hk1; clear hp1 hk1)
  go_end0
  rw [HN.o, ← HE.o]
  exact ⟨rfl, Gb.o, Gc.o⟩
 | false =>
  rw [hb] at CE
  have HN := qI (Z8 hb)
  have HE := qI (ZT hb)
  clear hb
  go_enter func161, ntmps161
  go_wp2_with (go_at_call 120; refine CE.o.mono ?_; rintro e1 w1 ⟨rfl, hp1, hk1⟩; rw [HE.o] at hp1; have Gb := qI hp1; have Gc := qI hk1; obtain ⟨i, c, e, h1, hi, hc⟩ := hp1.places; obtain ⟨c0, c1, c2, c3, fz⟩ := h1.cells; clear hp1 hk1 h1 fz)
  refine (yt Gb.o i 50 hi (by decide) (by decide)).mono ?_
  rintro e2 w2 ⟨rfl, hp2, hk2⟩
  go_wp2_with fail
  go_end0
  rw [HN.o]
  exact ⟨rfl, hp2, Gc.o.trans' hk2⟩
theorem digits_low : ∀ (j : Nat) b, (⟨#[48, 49, 50, 51, 52, 53, 54, 55, 56, 57]⟩ : ByteArray).data.toList[j]? = some b → b.toNat < 128 := by
 intro j b h
 have hm : b ∈ ([48, 49, 50, 51, 52, 53, 54, 55, 56, 57] : List UInt8) := List.mem_of_getElem? h
 simp only [List.mem_cons, List.not_mem_nil, or_false] at hm
 rcases hm with rfl | rfl | rfl | rfl | rfl | rfl | rfl | rfl | rfl | rfl <;> decide
theorem JA (s : List UInt8) (w : World) : Calls Tryz.prog 114 #[.string (zg s), .string ⟨#[48, 49, 50, 51, 52, 53, 54, 55, 56, 57]⟩] w fun e w' => e = .returned (.string (zg (s.dropWhile yH))) ∧ zb [] w w' :=
 (Qp (zg s) ⟨#[48, 49, 50, 51, 52, 53, 54, 55, 56, 57]⟩ w (by decide) digits_low).mono fun e w' ⟨h1, h2⟩ => ⟨by rw [h1, zq]; exact congrArg (fun l => Ending.returned (Value.string (zg l))) (trim_digits s), h2⟩
theorem prun_any {r : List UInt8} {c : Nat} (h : PS w p S B (.inr (r, c))) (hS : S.size ≤ 262144) :
  Calls Tryz.prog 162 #[.pointer (some ⟨p, 0, none⟩)] w fun e w' => e = .returned (.int .i64 ((r.takeWhile yH).length : Nat)) ∧ zb [] w w' := by
 have H := qI h
 have CR : Hid (∀ w', zb [] w w' → Calls Tryz.prog 50 #[.pointer (some ⟨p, 0, none⟩)] w' fun e w2 => e = .returned (.string (zg r)) ∧ zb [] w' w2) := qI (fun w' k => qw (h.kept0 k) hS)
 have CT := qI (JA r)
 obtain ⟨i, h1, hi, hc, hr⟩ := h.open_ok
 have hl := yv hr hi
 obtain ⟨e1, e2⟩ := run_len r
 have hs1 := zK r
 have hs2 := zK (r.dropWhile yH)
 have HE : Hid (((r.takeWhile yH).length : Int) = ((zg r).size : Int) - ((zg (r.dropWhile yH)).size : Int)) := qI (by omega)
 have b1 : ((zg (r.dropWhile yH)).size : Int) ≤ (zg r).size := by omega
 have b2 : ((zg r).size : Int) ≤ 262144 := by omega
 clear h h1 hr hl e1 e2 hs1 hs2
 revert CR CT HE b1 b2
 generalize zg (r.dropWhile yH) = T2
 generalize zg r = T1
 intro CR CT HE b1 b2
 go_enter func162, ntmps162
 go_wp2_with fail
 refine (CR.o _ (zb.refl _ _)).mono ?_
 rintro e w1 ⟨rfl, hk1⟩
 have Gc := qI hk1
 clear hk1
 go_wp2_with fail
 refine (CR.o _ Gc.o).mono ?_
 rintro e w2 ⟨rfl, hk2⟩
 have Ga := qI (Gc.o.then hk2)
 clear hk2
 go_wp2_with (go_at_call 114; refine (CT.o _).mono ?_; rintro e w3 ⟨rfl, hk3⟩)
 go_ret
 rw [HE.o]
 exact ⟨rfl, Ga.o.then hk3⟩
end
section
variable {w : World} {p B : Nat} {S : ByteArray} {x : PX}
theorem bL {r t r' : List UInt8} {c : Nat} (h : qd r = .inr (t, r')) : Zy (.inr (r, c)) = .inr (r', c) ∧ YG (.inr (r, c)) = t := by
 unfold Zy YG; simp only [h]; exact ⟨trivial, trivial⟩
theorem bw {r : List UInt8} {c : Nat} {e : Int} (h : qd r = .inl e) : Zy (.inr (r, c)) = .inl e ∧ YG (.inr (r, c)) = [] := by
 unfold Zy YG; simp only [h]; exact ⟨trivial, trivial⟩
theorem Z5 (h : PS w p S B x) (hT : xr p w) (hS : S.size ≤ 262144) :
  Calls Tryz.prog 119 #[.pointer (some ⟨p, 0, none⟩)] w fun e w' => e = .returned (.string (zg (YG x))) ∧ PS w' p S B (Zy x) ∧ zb [p] w w' := by
 cases x with
 | inl e0 =>
  obtain ⟨i, c, h1, hi, hc, h2, h3⟩ := h.open_bad
  obtain ⟨c0, c1, c2, c3, fz⟩ := h1.cells
  obtain ⟨-, f⟩ := zt (a := e0) (b := 0) (by omega)
  have H := qI h
  clear h h1 fz
  go_enter func119, ntmps119
  go_wp2_with fail
  go_ret
  exact ⟨rfl, H.o, zb.refl _ _⟩
 | inr q =>
  obtain ⟨r, c⟩ := q
  have CR := qI (qw h hS)
  obtain ⟨i, h1, hi, hc, hr⟩ := h.open_ok
  obtain ⟨c0, c1, c2, c3, fz⟩ := h1.cells
  have H := qI h
  have H1 := qI h1
  have hlen := yv hr hi
  have HR := qI hr
  have CU : Hid (∀ w', zb [] w w' → Calls Tryz.prog 157 #[.string (zg r)] w' fun e w2 => vX r e ∧ zb [] w' w2) := qI (fun w' k => by
   have h9 := utfUnquote (hT.here.kept0 k) (zg r) (by rw [zK]; omega)
   rw [zq] at h9
   exact h9)
  cases hu : qd r with
  | inl e0 =>
   obtain ⟨HX, HY⟩ := bw (c := c) hu
   have HX := qI HX
   have HY := qI HY
   have he := unq_err hu
   obtain ⟨f1, f2⟩ := zt (a := e0) (b := 0) (by omega)
   have he0 : 0 < e0 ∧ e0 ≤ 1000 := by omega
   have HU := qI hu
   clear h h1 fz hr hu he
   go_enter func119, ntmps119
   go_wp2_with (go_at_call 50; refine CR.o.mono ?_; rintro e1 w1 ⟨rfl, hk1⟩; have Gc := qI hk1; clear hk1)
   refine (CU.o _ Gc.o).mono ?_
   rintro e2 w2 ⟨ha, hk2⟩
   unfold vX at ha
   rw [HU.o] at ha
   obtain ⟨k, hk, rfl⟩ := ha
   have Ga := qI (Gc.o.then hk2)
   have hP2 := Ga.o.heap H1.o (by simp)
   have d1 := za (o := 1) (v := .int .i64 i) hP2 rfl
   have hik : i + k ≤ S.size := by omega
   have hikI : (i : Int) + k ≤ 262144 := by omega
   clear hk2 hP2 c0 c1 c2 c3
   go_wp2_with fail
   refine (yt (H.o.kept0 Ga.o) (i + k) e0 hik he0.1 he0.2).mono ?_
   rintro e3 w3 ⟨rfl, hp3, hk3⟩
   go_wp2_with fail
   go_ret
   rw [HX.o, HY.o]
   exact ⟨rfl, hp3, (Ga.o.mono (by simp)).trans' hk3⟩
  | inr y =>
   obtain ⟨t, r'⟩ := y
   obtain ⟨HX, HY⟩ := bL (c := c) hu
   have HX := qI HX
   have HY := qI HY
   have HU := qI hu
   clear h h1 fz hr hu
   go_enter func119, ntmps119
   go_wp2_with (go_at_call 50; refine CR.o.mono ?_; rintro e1 w1 ⟨rfl, hk1⟩; have Gc := qI hk1; clear hk1)
   refine (CU.o _ Gc.o).mono ?_
   rintro e2 w2 ⟨ha, hk2⟩
   unfold vX at ha
   rw [HU.o] at ha
   obtain ⟨k, hk, hd, hk1', rfl⟩ := ha
   have Ga := qI (Gc.o.then hk2)
   have hP2 := Ga.o.heap H1.o (by simp)
   have Jj := qI hP2
   have d1 := za (o := 1) (v := .int .i64 i) hP2 rfl
   have d2 := zc (o := 1) hP2
   have hik : i + k ≤ S.size := by omega
   have hikI : (i : Int) + k ≤ 262144 := by omega
   have HD : Hid (S.data.toList.drop (i + k) = r') := qI (by rw [← List.drop_drop, HR.o, hd])
   clear hk2 hP2 c0 c1 c2 c3 hd
   go_wp2_with fail
   go_ret
   rw [HX.o, HY.o]
   have h9 := PS.good (PAt.set1 Jj.o (i + k)) hik hc
   rw [HD.o] at h9
   exact ⟨rfl, h9, (Ga.o.mono (by simp)).trans' (zT _ _ _ _)⟩
end
def qr (D : Nat) (e : Ending) : Prop := if 9007199254740991 < D then e = .returned (.tuple #[.int .i64 0, .bool false]) else e = .returned (.tuple #[.int .i64 D, .bool true])
theorem sumAns_big {D : Nat} (h : 9007199254740991 < D) : qr D (.returned (.tuple #[.int .i64 0, .bool false])) := by unfold qr; rw [if_pos h]
theorem sumAns_fine {D : Nat} (h : D ≤ 9007199254740991) : qr D (.returned (.tuple #[.int .i64 D, .bool true])) := by unfold qr; rw [if_neg (by omega)]
theorem psum_any (s : ByteArray) (hs : s.size ≤ 262144) (hd : ∀ c, c ∈ s.data.toList → 48 ≤ c.toNat ∧ c.toNat ≤ 57) (w : World) :
  Calls Tryz.prog 163 #[.string s] w fun e w' => qr (zI s.data.toList) e ∧ zb [] w w' := by
 have HD := qI hd
 have HL : Hid (s.data.toList.length = s.size) := qI (by simp)
 clear hd
 go_enter func163, ntmps163
 go_wp2_with fail
 go_loopw [4] (fun n wr => ∃ pos : Nat, wr = w.iter s pos ∧ pos ≤ s.size ∧ n = .int .i64 (zI (s.data.toList.take pos)) ∧ zI (s.data.toList.take pos) ≤ 9007199254740991) (fun _ wr => s.size - wr.iterPos w.heap.size)
 case atStart => exact ⟨0, rfl, Nat.zero_le _, rfl, Nat.zero_le _⟩
 case round =>
  obtain ⟨pos, rfl, hpos, rfl, hle⟩ := hrel
  by_cases hp : pos < s.size
  ·have hpl : pos < s.data.toList.length := by rw [HL.o]; exact hp
   have hc := HD.o (s[pos]'hp) (List.getElem_mem hpl)
   have hsn := sum_take s.data.toList pos hpl
   have hmo := sum_mono s.data.toList (pos + 1)
   have hda := decode_ascii s pos hp (by omega)
   have hnx : ∀ ty, (Instr.next (.pointer (some ⟨w.heap.size, 0, none⟩)) true ty).run Tryz.prog (w.iter s pos) = _ := fun ty => run_next_any w s pos ty hp
   rw [hda] at hnx
   have Ja : Hid (zI (s.data.toList.take (pos + 1)) = 10 * zI (s.data.toList.take pos) + ((s[pos]'hp).toNat - 48)) := qI hsn
   have Jb := qI hmo
   have hI : (zI (s.data.toList.take pos) : Int) ≤ 9007199254740991 := by omega
   clear hda hsn hmo hle hpl
   revert hc Ja hnx hI Jb
   generalize (s[pos]'hp) = c
   generalize zI (s.data.toList.take pos) = D
   generalize hD2 : zI (s.data.toList.take (pos + 1)) = D2
   intro hc hnx Ja Jb hI
   have Jf := qI hD2
   clear hD2
   obtain ⟨hc1, hc2⟩ := hc
   have hc1I : (48 : Int) ≤ c.toNat := by omega
   have hc2I : (c.toNat : Int) ≤ 57 := by omega
   have HE : Hid ((D2 : Int) = 10 * D + (c.toNat - 48)) := qI (by have := Ja.o; omega)
   by_cases hbig : 9007199254740991 < 10 * (D : Int) + (c.toNat - 48)
   ·have HB : Hid (9007199254740991 < zI s.data.toList) := qI (by have := HE.o; have := Jb.o; omega)
    clear hc1 hc2
    go_wp2_with fail
    go_ret2
    exact ⟨sumAns_big HB.o, (zb.refl _ _).alloc _⟩
   ·clear hc1 hc2
    go_wp2_with fail
    go_roundw
    case rel => exact ⟨pos + 1, rfl, by omega, by rw [Jf.o, HE.o], by have := HE.o; have := Jf.o; omega⟩
    case measure => simp; omega
  ·obtain rfl : pos = s.size := by omega
   have hnx : ∀ ty, (Instr.next (.pointer (some ⟨w.heap.size, 0, none⟩)) true ty).run Tryz.prog (w.iter s s.size) = _ := fun ty => run_next_end w s s.size ty hp
   have HT : Hid (s.data.toList.take s.size = s.data.toList) := qI (List.take_of_length_le (by rw [HL.o]; exact Nat.le_refl _))
   have hle' := qI hle
   clear hle
   go_wp2_with fail
   go_ret2
   have h9 := hle'.o
   rw [HT.o] at h9
   rw [HT.o]
   exact ⟨sumAns_fine h9, (zb.refl _ _).alloc _⟩
def yq (k n : Int) (s : ByteArray) : Array Value := #[.int .i64 k, .int .i64 n, .string s, .slice none 0 0, .slice none 0 0]
theorem jH (n : Int) (w : World) : Calls Tryz.prog 164 #[.int .i64 n] w fun e w' => e = .returned (.agg (yq 3 n ⟨#[]⟩)) ∧ zb [] w w' := by
 go_enter func164, ntmps164
 go_wp2_with fail
 exact bodyPost_ret (v := .agg (yq 3 n ⟨#[]⟩)) (by simp [results, results164, go_sem, yq]) rfl ⟨rfl, (zb.refl _ _).alloc _⟩
theorem vtext_any (s : ByteArray) (w : World) : Calls Tryz.prog 118 #[.string s] w fun e w' => e = .returned (.agg (yq 4 0 s)) ∧ zb [] w w' := by
 go_enter func118, ntmps118
 go_wp2_with fail
 exact bodyPost_ret (v := .agg (yq 4 0 s)) (by simp [results, results118, go_sem, yq]) rfl ⟨rfl, (zb.refl _ _).alloc _⟩
theorem vnull_any (w : World) : Calls Tryz.prog 154 #[] w fun e w' => e = .returned (.agg (yq 1 0 ⟨#[]⟩)) ∧ zb [] w w' := by
 go_enter func154, ntmps154
 go_wp2_with fail
 exact bodyPost_ret (v := .agg (yq 1 0 ⟨#[]⟩)) (by simp [results, results154, go_sem, yq]) rfl ⟨rfl, (zb.refl _ _).alloc _⟩
theorem JK (b : Bool) (w : World) : Calls Tryz.prog 155 #[.bool b] w fun e w' => e = .returned (.agg (yq 2 (if b then 1 else 0) ⟨#[]⟩)) ∧ zb [] w w' := by
 cases b
 ·go_enter func155, ntmps155
  go_wp2_with fail
  exact bodyPost_ret (v := .agg (yq 2 0 ⟨#[]⟩)) (by simp [results, results155, go_sem, yq]) rfl ⟨rfl, (zb.refl _ _).alloc _⟩
 ·go_enter func155, ntmps155
  go_wp2_with fail
  exact bodyPost_ret (v := .agg (yq 2 1 ⟨#[]⟩)) (by simp [results, results155, go_sem, yq]) rfl ⟨rfl, (zb.refl _ _).alloc _⟩
def zeroA : Array Value := #[.int .i64 0, .int .i64 0, .string ⟨#[]⟩, .slice none 0 0, .slice none 0 0]
def xh (w : World) (r : Nat) : Prop := w.heap[r]? = some (.cells zeroA 25 (0, 0))
theorem xh.kept {w w' : World} {r : Nat} {X : List Nat} (h : xh w r) (k : zb X w w') (hr : r ∉ X) : xh w' r := k.heap h hr
theorem xh.facts {w : World} {r : Nat} (h : xh w r) : (w.cell? ⟨r, 0, none⟩ = some (.int .i64 0) ∧ w.cell? ⟨r, 1, none⟩ = some (.int .i64 0) ∧ w.cell? ⟨r, 2, none⟩ = some (.string ⟨#[]⟩) ∧ w.cell? ⟨r, 3, none⟩ = some (.slice none 0 0) ∧ w.cell? ⟨r, 4, none⟩ = some (.slice none 0 0)) ∧
  w.frozen? ⟨r, 0, none⟩ = false ∧ w.frozen? ⟨r, 1, none⟩ = false ∧ w.frozen? ⟨r, 2, none⟩ = false ∧ w.frozen? ⟨r, 3, none⟩ = false ∧ w.frozen? ⟨r, 4, none⟩ = false := by
 unfold xh zeroA at h
 exact ⟨⟨za (o := 0) h rfl, za (o := 1) h rfl, za (o := 2) h rfl, za (o := 3) h rfl, za (o := 4) h rfl⟩, zc h, zc h, zc h, zc h, zc h⟩
theorem xh.stored {w WF : World} {r : Nat} {b0 b1 b2 b3 b4 : Value} (h : xh w r) (e : WF = zy w r b0 b1 b2 b3 b4) :
  zb [r] w WF ∧ WF.cell? ⟨r, 0, none⟩ = some b0 ∧ WF.cell? ⟨r, 1, none⟩ = some b1 ∧ WF.cell? ⟨r, 2, none⟩ = some b2 ∧ WF.cell? ⟨r, 3, none⟩ = some b3 ∧ WF.cell? ⟨r, 4, none⟩ = some b4 := by
 obtain ⟨k, hb⟩ := Q5 h e
 exact ⟨k, za (o := 0) hb rfl, za (o := 1) hb rfl, za (o := 2) hb rfl, za (o := 3) hb rfl, za (o := 4) hb rfl⟩
theorem yA (w : World) : xh (w.alloc (.cells #[.int .i64 0, .int .i64 0, .string ⟨#[]⟩, .slice none 0 0, .slice none 0 0] 25)) w.heap.size := zn rfl
def xL (r : List UInt8) : Option (Int × Int) := if jO.isPrefixOf r = true then some (1, 0) else if jR.isPrefixOf r = true then some (2, 1) else if qS.isPrefixOf r = true then some (2, 0) else none
def qc (r : List UInt8) (e : Ending) : Prop :=
 match xL r with
 | some (k, n) => e = .returned (.tuple #[.agg (yq k n ⟨#[]⟩), .bool true])
 | none => e = .returned (.tuple #[.agg (yq 0 0 ⟨#[]⟩), .bool false])
section
variable {w : World} {p B : Nat} {S : ByteArray} {x : PX}
theorem jP {r : List UInt8} {c : Nat} (h : PS w p S B (.inr (r, c))) (hS : S.size ≤ 262144) :
  Calls Tryz.prog 50 #[.pointer (some ⟨p, 0, none⟩)] w fun e w' => e = .returned (.string (zg r)) ∧ zb [] w w' := qw h hS
theorem Y5 {r : List UInt8} {c : Nat} (h : PS w p S B (.inr (r, c))) (hS : S.size ≤ 262144) :
  Calls Tryz.prog 115 #[.pointer (some ⟨p, 0, none⟩)] w fun e w' => qc r e ∧ zb [] w w' := by
 obtain ⟨W0, Gh⟩ : ∃ W0, Hid (W0 = w.alloc (.cells #[.int .i64 0, .int .i64 0, .string ⟨#[]⟩, .slice none 0 0, .slice none 0 0] 25)) := ⟨_, qI rfl⟩
 have Gu : Hid (zb [] w W0) := qI (by rw [Gh.o]; exact (zb.refl [] w).alloc _)
 have Gi : Hid (xh W0 w.heap.size) := qI (by rw [Gh.o]; exact yA w)
 have CR := qI (jP (h.kept0 Gu.o) hS)
 have CN : Hid (∀ w', _) := qI (fun w' => xA (zg r) ⟨#[110, 117, 108, 108]⟩ w')
 have CT : Hid (∀ w', _) := qI (fun w' => xA (zg r) ⟨#[116, 114, 117, 101]⟩ w')
 have CF : Hid (∀ w', _) := qI (fun w' => xA (zg r) ⟨#[102, 97, 108, 115, 101]⟩ w')
 rw [zq, show (⟨#[110, 117, 108, 108]⟩ : ByteArray).data.toList = jO from rfl] at CN
 rw [zq, show (⟨#[116, 114, 117, 101]⟩ : ByteArray).data.toList = jR from rfl] at CT
 rw [zq, show (⟨#[102, 97, 108, 115, 101]⟩ : ByteArray).data.toList = qS from rfl] at CF
 have HD : Hid (xL r = if jO.isPrefixOf r = true then some (1, 0) else if jR.isPrefixOf r = true then some (2, 1) else if qS.isPrefixOf r = true then some (2, 0) else none) := qI rfl
 have HA : Hid (∀ k n e, xL r = some (k, n) → e = .returned (.tuple #[.agg (yq k n ⟨#[]⟩), .bool true]) → qc r e) := qI (fun k n e h he => by unfold qc; rw [h]; exact he)
 have Jk : Hid (∀ e, xL r = none → e = .returned (.tuple #[.agg (yq 0 0 ⟨#[]⟩), .bool false]) → qc r e) := qI (fun e h he => by unfold qc; rw [h]; exact he)
 clear h
 cases hn : jO.isPrefixOf r with
 | true =>
  have HV : Hid (xL r = some (1, 0)) := qI (by rw [HD.o, hn]; rfl)
  rw [hn] at CN
  clear hn
  go_enter func115, ntmps115
  go_wp2_with fail
  rw [← Gh.o]
  refine CR.o.mono ?_
  rintro e w1 ⟨rfl, hk1⟩
  have Gc := qI hk1
  clear hk1
  go_wp2_with fail
  refine (CN.o _).mono ?_
  rintro e w2 ⟨rfl, rfl⟩
  go_wp2_with fail
  refine (vnull_any _).mono ?_
  rintro e w3 ⟨rfl, hk3⟩
  unfold yq
  have Gg := qI (Gc.o.then hk3)
  clear hk3
  obtain ⟨⟨d0, d1, d2, d3, d4⟩, f0, f1, f2, f3, f4⟩ := (Gi.o.kept Gg.o (by simp)).facts
  go_wp2_with fail
  obtain ⟨WF, e⟩ : ∃ WF, WF = zy w3 w.heap.size (.int .i64 1) (.int .i64 0) (.string ⟨#[]⟩) (.slice none 0 0) (.slice none 0 0) := ⟨_, rfl⟩
  obtain ⟨KF, x0, x1, x2, x3, x4⟩ := (Gi.o.kept Gg.o (by simp)).stored e
  unfold zy at e
  rw [← e]
  exact bodyPost_ret (v := .tuple #[.agg #[.int .i64 1, .int .i64 0, .string ⟨#[]⟩, .slice none 0 0, .slice none 0 0], .bool true]) (by simp [results, results115, go_sem, x0, x1, x2, x3, x4]) rfl ⟨HA.o _ _ _ HV.o rfl, (Gu.o.then Gg.o).trans KF (fun i hi => by simp at hi; exact .inr (by omega))⟩
 | false =>
 rw [hn] at CN
 cases htr : jR.isPrefixOf r with
 | true =>
  have HV : Hid (xL r = some (2, 1)) := qI (by rw [HD.o, hn, htr]; rfl)
  rw [htr] at CT
  clear hn htr
  go_enter func115, ntmps115
  go_wp2_with fail
  rw [← Gh.o]
  refine CR.o.mono ?_
  rintro e w1 ⟨rfl, hk1⟩
  have Gc := qI hk1
  clear hk1
  go_wp2_with fail
  refine (CN.o _).mono ?_
  rintro e w2 ⟨rfl, rfl⟩
  go_wp2_with fail
  refine (CT.o _).mono ?_
  rintro e w2 ⟨rfl, rfl⟩
  go_wp2_with fail
  refine (JK true _).mono ?_
  rintro e w3 ⟨rfl, hk3⟩
  rw [show yq 2 (if true = true then 1 else 0) ⟨#[]⟩ = yq 2 1 ⟨#[]⟩ from rfl]
  unfold yq
  have Gg := qI (Gc.o.then hk3)
  clear hk3
  obtain ⟨⟨d0, d1, d2, d3, d4⟩, f0, f1, f2, f3, f4⟩ := (Gi.o.kept Gg.o (by simp)).facts
  go_wp2_with fail
  obtain ⟨WF, e⟩ : ∃ WF, WF = zy w3 w.heap.size (.int .i64 2) (.int .i64 1) (.string ⟨#[]⟩) (.slice none 0 0) (.slice none 0 0) := ⟨_, rfl⟩
  obtain ⟨KF, x0, x1, x2, x3, x4⟩ := (Gi.o.kept Gg.o (by simp)).stored e
  unfold zy at e
  rw [← e]
  exact bodyPost_ret (v := .tuple #[.agg #[.int .i64 2, .int .i64 1, .string ⟨#[]⟩, .slice none 0 0, .slice none 0 0], .bool true]) (by simp [results, results115, go_sem, x0, x1, x2, x3, x4]) rfl ⟨HA.o _ _ _ HV.o rfl, (Gu.o.then Gg.o).trans KF (fun i hi => by simp at hi; exact .inr (by omega))⟩
 | false =>
 rw [htr] at CT
 cases hfa : qS.isPrefixOf r with
 | true =>
  have HV : Hid (xL r = some (2, 0)) := qI (by rw [HD.o, hn, htr, hfa]; rfl)
  rw [hfa] at CF
  clear hn htr hfa
  go_enter func115, ntmps115
  go_wp2_with fail
  rw [← Gh.o]
  refine CR.o.mono ?_
  rintro e w1 ⟨rfl, hk1⟩
  have Gc := qI hk1
  clear hk1
  go_wp2_with fail
  refine (CN.o _).mono ?_
  rintro e w2 ⟨rfl, rfl⟩
  go_wp2_with fail
  refine (CT.o _).mono ?_
  rintro e w2 ⟨rfl, rfl⟩
  go_wp2_with fail
  refine (CF.o _).mono ?_
  rintro e w2 ⟨rfl, rfl⟩
  go_wp2_with fail
  refine (JK false _).mono ?_
  rintro e w3 ⟨rfl, hk3⟩
  rw [show yq 2 (if false = true then 1 else 0) ⟨#[]⟩ = yq 2 0 ⟨#[]⟩ from rfl]
  unfold yq
  have Gg := qI (Gc.o.then hk3)
  clear hk3
  obtain ⟨⟨d0, d1, d2, d3, d4⟩, f0, f1, f2, f3, f4⟩ := (Gi.o.kept Gg.o (by simp)).facts
  go_wp2_with fail
  obtain ⟨WF, e⟩ : ∃ WF, WF = zy w3 w.heap.size (.int .i64 2) (.int .i64 0) (.string ⟨#[]⟩) (.slice none 0 0) (.slice none 0 0) := ⟨_, rfl⟩
  obtain ⟨KF, x0, x1, x2, x3, x4⟩ := (Gi.o.kept Gg.o (by simp)).stored e
  unfold zy at e
  rw [← e]
  exact bodyPost_ret (v := .tuple #[.agg #[.int .i64 2, .int .i64 0, .string ⟨#[]⟩, .slice none 0 0, .slice none 0 0], .bool true]) (by simp [results, results115, go_sem, x0, x1, x2, x3, x4]) rfl ⟨HA.o _ _ _ HV.o rfl, (Gu.o.then Gg.o).trans KF (fun i hi => by simp at hi; exact .inr (by omega))⟩
 | false =>
  have HV : Hid (xL r = none) := qI (by rw [HD.o, hn, htr, hfa]; rfl)
  rw [hfa] at CF
  clear hn htr hfa
  go_enter func115, ntmps115
  go_wp2_with fail
  rw [← Gh.o]
  refine CR.o.mono ?_
  rintro e w1 ⟨rfl, hk1⟩
  have Gc := qI hk1
  clear hk1
  go_wp2_with fail
  refine (CN.o _).mono ?_
  rintro e w2 ⟨rfl, rfl⟩
  go_wp2_with fail
  refine (CT.o _).mono ?_
  rintro e w2 ⟨rfl, rfl⟩
  go_wp2_with fail
  refine (CF.o _).mono ?_
  rintro e w2 ⟨rfl, rfl⟩
  have Gg := qI Gc.o
  obtain ⟨⟨d0, d1, d2, d3, d4⟩, f0, f1, f2, f3, f4⟩ := (Gi.o.kept Gg.o (by simp)).facts
  go_wp2_with fail
  obtain ⟨WF, e⟩ : ∃ WF, WF = zy w1 w.heap.size (.int .i64 0) (.int .i64 0) (.string ⟨#[]⟩) (.slice none 0 0) (.slice none 0 0) := ⟨_, rfl⟩
  obtain ⟨KF, x0, x1, x2, x3, x4⟩ := (Gi.o.kept Gg.o (by simp)).stored e
  unfold zy at e
  rw [← e]
  exact bodyPost_ret (v := .tuple #[.agg #[.int .i64 0, .int .i64 0, .string ⟨#[]⟩, .slice none 0 0, .slice none 0 0], .bool false]) (by simp [results, results115, go_sem, x0, x1, x2, x3, x4]) rfl ⟨Jk.o _ HV.o rfl, (Gu.o.then Gg.o).trans KF (fun i hi => by simp at hi; exact .inr (by omega))⟩
end
theorem pletters_any (k n : Int) (hk : (k = 1 ∧ n = 0) ∨ (k = 2 ∧ n = 1) ∨ (k = 2 ∧ n = 0)) (w : World) :
  Calls Tryz.prog 117 #[.agg #[.int .i64 k, .int .i64 n, .string ⟨#[]⟩, .slice none 0 0, .slice none 0 0]] w fun e w' => e = .returned (.int .i64 (if k = 2 ∧ n = 0 then 5 else 4)) ∧ zb [] w w' := by
 rcases hk with ⟨rfl, rfl⟩ | ⟨rfl, rfl⟩ | ⟨rfl, rfl⟩
 ·go_enter func117, ntmps117
  go_wp2_with fail
  go_ret
  exact ⟨rfl, (zb.refl _ _).alloc _⟩
 ·go_enter func117, ntmps117
  go_wp2_with fail
  go_ret
  exact ⟨rfl, (zb.refl _ _).alloc _⟩
 ·go_enter func117, ntmps117
  go_wp2_with fail
  go_ret
  exact ⟨rfl, (zb.refl _ _).alloc _⟩
theorem word_begins (r : List UInt8) : yO r = ((xL r).isSome || ky r [34, 91, 123, 45, 48, 49, 50, 51, 52, 53, 54, 55, 56, 57]) := by
 unfold yO xL
 cases jO.isPrefixOf r <;> cases jR.isPrefixOf r <;> cases qS.isPrefixOf r <;> rfl
section
variable {w : World} {p B : Nat} {S : ByteArray} {x : PX}
theorem jo {r : List UInt8} {c : Nat} (h : PS w p S B (.inr (r, c))) (hS : S.size ≤ 262144) :
  Calls Tryz.prog 80 #[.pointer (some ⟨p, 0, none⟩)] w fun e w' => e = .returned (.bool (yO r)) ∧ zb [] w w' := by
 have CW := qI (Y5 h hS)
 have H := qI h
 have HB := qI (word_begins r)
 clear h
 cases hw : xL r with
 | some q =>
  obtain ⟨k, n⟩ := q
  have HE : Hid (yO r = true) := qI (by rw [HB.o, hw]; rfl)
  have HW := qI hw
  clear hw
  go_enter func80, ntmps80
  go_wp2_with fail
  refine CW.o.mono ?_
  rintro e w1 ⟨ha, hk1⟩
  unfold qc at ha
  rw [HW.o] at ha
  subst ha
  unfold yq
  have Gc := qI hk1
  clear hk1
  go_wp2_with fail
  refine (jP (H.o.kept0 (Gc.o.alloc _)) hS).mono ?_
  rintro e w2 ⟨rfl, hk2⟩
  go_wp2_with fail
  go_ret
  rw [HE.o]
  exact ⟨rfl, (Gc.o.alloc _).then hk2⟩
 | none =>
  rw [hw] at HB
  have HW := qI hw
  clear hw
  cases r with
  | nil =>
   have HE : Hid (yO [] = false) := qI rfl
   go_enter func80, ntmps80
   go_wp2_with fail
   refine CW.o.mono ?_
   rintro e w1 ⟨ha, hk1⟩
   unfold qc at ha
   rw [HW.o] at ha
   subst ha
   unfold yq
   have Gc := qI hk1
   clear hk1
   go_wp2_with fail
   refine (jP (H.o.kept0 (Gc.o.alloc _)) hS).mono ?_
   rintro e w2 ⟨rfl, hk2⟩
   rw [show zg [] = ⟨#[]⟩ from rfl]
   go_wp2_with fail
   go_ret
   rw [HE.o]
   exact ⟨rfl, (Gc.o.alloc _).then hk2⟩
  | cons a t =>
   have HE : Hid (yO (a :: t) = ([34, 91, 123, 45, 48, 49, 50, 51, 52, 53, 54, 55, 56, 57] : List UInt8).contains a) := qI (by rw [HB.o]; rfl)
   have hne : zg (a :: t) ≠ ⟨#[]⟩ := fun e => by
    have h9 := congrArg (fun s : ByteArray => s.data.toList) e
    simp only [zq] at h9
    cases h9
   obtain ⟨g1, g2⟩ := qe hne
   have hsz : 0 < (zg (a :: t)).size := by rw [zK]; simp
   have h0 : (zg (a :: t))[0]'hsz = a := rfl
   have CI : Hid (∀ w', _) := qI (fun w' => qa ⟨#[34, 91, 123, 45, 48, 49, 50, 51, 52, 53, 54, 55, 56, 57]⟩ (a.toNat : Int) w')
   rw [show ((a.toNat : Int)).toNat.toUInt8 = a by simp, show (⟨#[34, 91, 123, 45, 48, 49, 50, 51, 52, 53, 54, 55, 56, 57]⟩ : ByteArray).data.toList = [34, 91, 123, 45, 48, 49, 50, 51, 52, 53, 54, 55, 56, 57] from rfl] at CI
   have hic := qJ [34, 91, 123, 45, 48, 49, 50, 51, 52, 53, 54, 55, 56, 57] a
   have Jl : Hid (decide (0 ≤ Lib.indexByte [34, 91, 123, 45, 48, 49, 50, 51, 52, 53, 54, 55, 56, 57] a) = yO (a :: t)) := qI (by
    rw [HE.o]
    cases hc : ([34, 91, 123, 45, 48, 49, 50, 51, 52, 53, 54, 55, 56, 57] : List UInt8).contains a with
    | true => exact decide_eq_true (hic.2 hc)
    | false => exact decide_eq_false (fun q => by rw [hic.1 q] at hc; cases hc))
   have CR : Hid (∀ w', zb [] w w' → _) := qI (fun w' (k : zb [] w w') => jP (H.o.kept0 k) hS)
   rw [← Jl.o]
   clear hic hne HE HB H
   revert CR CI g1 g2 hsz h0
   generalize Lib.indexByte [34, 91, 123, 45, 48, 49, 50, 51, 52, 53, 54, 55, 56, 57] a = z
   generalize zg (a :: t) = T
   intro g1 g2 hsz h0 CI CR
   have hszI : (0 : Int) < T.size := by omega
   go_enter func80, ntmps80
   go_wp2_with fail
   refine CW.o.mono ?_
   rintro e w1 ⟨ha, hk1⟩
   unfold qc at ha
   rw [HW.o] at ha
   subst ha
   unfold yq
   have Gc := qI hk1
   clear hk1
   go_wp2_with fail
   refine (CR.o _ (Gc.o.alloc _)).mono ?_
   rintro e w2 ⟨rfl, hk2⟩
   have Ga := qI ((Gc.o.alloc _).then hk2)
   clear hk2
   go_wp2_with fail
   refine (CI.o _).mono ?_
   rintro e w3 ⟨rfl, rfl⟩
   go_wp2_with fail
   go_ret
   exact ⟨rfl, Ga.o⟩
end
theorem J9 (r : List UInt8) (c : Nat) : Zu [45] (.inr (r, c)) = K3 r := ji 45 r c
theorem eatX_minus (r : List UInt8) (c : Nat) : eatX [45] (.inr (r, c)) = .inr (qA r, c) := by
 unfold eatX qA
 rw [J9]
 cases K3 r with
 | true =>
  rw [if_pos rfl, if_pos rfl]
  show (Sum.inr (r.drop 1, c) : PX) = _
  rw [List.drop_one]
 | false => rw [if_neg (by decide), if_neg (by decide)]
def YS (r : List UInt8) (c : Nat) (p : Nat) (S : ByteArray) (B : Nat) (e : Ending) (w' : World) : Prop :=
 match qM r with
 | .inl x => e = .returned (.agg (yq 0 0 ⟨#[]⟩)) ∧ PS w' p S B (.inl x)
 | .inr (n, r') => e = .returned (.agg (yq 3 n ⟨#[]⟩)) ∧ PS w' p S B (.inr (r', c))
theorem xa {r : List UInt8} {c p B : Nat} {S : ByteArray} {w' : World} {x : Int} (h : qM r = .inl x) (h2 : PS w' p S B (.inl x)) : YS r c p S B (.returned (.agg (yq 0 0 ⟨#[]⟩))) w' := by unfold YS; rw [h]; exact ⟨rfl, h2⟩
theorem kM {r r' : List UInt8} {c p B : Nat} {S : ByteArray} {w' : World} {n : Int} (h : qM r = .inr (n, r')) (h2 : PS w' p S B (.inr (r', c))) : YS r c p S B (.returned (.agg (yq 3 n ⟨#[]⟩))) w' := by unfold YS; rw [h]; exact ⟨rfl, h2⟩
section
variable {w : World} {p B : Nat} {S : ByteArray} {x : PX}
theorem pnumber_any {r : List UInt8} {c : Nat} (h : PS w p S B (.inr (r, c))) (hS : S.size ≤ 262144) :
  Calls Tryz.prog 123 #[.pointer (some ⟨p, 0, none⟩)] w fun e w' => YS r c p S B e w' ∧ zb [p] w w' := by
 obtain ⟨W0, Gh⟩ : ∃ W0, Hid (W0 = w.alloc (.cells #[.int .i64 0, .int .i64 0, .string ⟨#[]⟩, .slice none 0 0, .slice none 0 0] 25)) := ⟨_, qI rfl⟩
 have Gu : Hid (zb [] w W0) := qI (by rw [Gh.o]; exact (zb.refl [] w).alloc _)
 have Gi : Hid (xh W0 w.heap.size) := qI (by rw [Gh.o]; exact yA w)
 have Gf : Hid (w.heap.size ∉ [p]) := qI (by have := h.lt; simp; omega)
 have Jm := qI (h.kept0 Gu.o)
 have CE := qI (yT Jm.o hS ⟨#[45]⟩)
 rw [show (⟨#[45]⟩ : ByteArray).data.toList = [45] from rfl, J9, eatX_minus] at CE
 obtain ⟨i, h1, hi, hc, hr⟩ := (h.kept0 Gu.o).open_ok
 have hlen := yv hr hi
 obtain ⟨c0, c1, c2, c3, fz⟩ := h1.cells
 have CR : Hid (∀ w' (y : PX) (l : List UInt8), y = .inr (l, c) → PS w' p S B y → _) := qI (fun w' y l (e : y = .inr (l, c)) (k : PS w' p S B y) => jP (r := l) (c := c) (by rw [← e]; exact k) hS)
 have CU : Hid (∀ w', PS w' p S B (.inr (qA r, c)) → _) := qI (fun w' (k : PS w' p S B (.inr (qA r, c))) => prun_any k hS)
 obtain ⟨t1, t2⟩ := run_take (qA r)
 change (qA r).take (qz r).length = qz r at t1
 have Jg : Hid ((qA r).drop (qz r).length = (qA r).dropWhile yH) := qI t2
 have hnl : (qz r).length ≤ (qA r).length := by have := congrArg List.length t1; rw [List.length_take] at this; have e : (qz r).length = ((qA r).takeWhile yH).length := rfl; omega
 have hrl : (qA r).length ≤ r.length := by unfold qA; split <;> simp
 have hX : (zg (qA r)).extract 0 (qz r).length = zg (qz r) := qR (by rw [bq (zg (qA r)) 0 (qz r).length (by rw [zK]; exact hnl), zq, zq]; exact t1)
 have hTs : ((qz r).length : Int) ≤ (zg (qA r)).size := by rw [zK]; omega
 have Jc := qI (numD_dig r)
 have Jd : Hid ((qz r).length ≤ (qA r).length) := qI hnl
 have Gz : Hid ((zg (qz r)).size = (qz r).length ∧ (qz r).length ≤ 262144) := qI ⟨zK _, by omega⟩
 have hsz := Gz.o
 have CS : Hid (∀ w', _) := qI (fun w' => psum_any (zg (qz r)) (by omega) (by rw [zq]; exact numD_dig r) w')
 rw [zq] at CS
 clear h h1 fz t1 t2 hr hnl hrl hlen c0 c2 c3 hsz
 have CU2 : Hid (∀ w', PS w' p S B (.inr (qA r, c)) → Calls Tryz.prog 162 #[.pointer (some ⟨p, 0, none⟩)] w' fun e w2 => e = .returned (.int .i64 ((qz r).length : Nat)) ∧ zb [] w' w2) := qI CU.o
 clear CU
 cases hd : qz r with
 | nil =>
  have HN := qI (num_none hd)
  rw [hd] at hX hTs CU2
  rw [show zg [] = ⟨#[]⟩ from rfl] at hX
  clear Jc CS Gz Jg hd
  rw [List.length_nil] at hX hTs
  rw [Gh.o] at c1
  go_enter func123, ntmps123
  go_wp2_with fail
  rw [← Gh.o]
  refine CE.o.mono ?_
  rintro e w1 ⟨rfl, hp1, hk1⟩
  have Gb := qI hp1
  have Gc := qI hk1
  clear hp1 hk1 c1
  go_wp2_with fail
  refine (CR.o w1 _ _ rfl Gb.o).mono ?_
  rintro e w2 ⟨rfl, hk2⟩
  have Ga := qI hk2
  clear hk2
  go_wp2_with fail
  refine (CU2.o w2 (Gb.o.kept0 Ga.o)).mono ?_
  rintro e w3 ⟨rfl, hk3⟩
  have Gk := qI ((Gb.o.kept0 Ga.o).kept0 hk3)
  have Gg := qI ((Gc.o.then Ga.o).then hk3)
  clear hk3
  rw [show ((([] : List UInt8).length : Nat) : Int) = 0 from rfl]
  go_wp2_with fail
  refine (yt Gk.o i 50 hi (by decide) (by decide)).mono ?_
  rintro e w9 ⟨rfl, hp9, hk9⟩
  have Gl := qI hp9
  have Gd := qI (Gg.o.trans' hk9)
  obtain ⟨⟨d0, d1, d2, d3, d4⟩, f0, f1, f2, f3, f4⟩ := (Gi.o.kept Gd.o Gf.o).facts
  clear hp9 hk9
  go_wp2_with fail
  obtain ⟨WF, e⟩ : ∃ WF, WF = zy w9 w.heap.size (.int .i64 0) (.int .i64 0) (.string ⟨#[]⟩) (.slice none 0 0) (.slice none 0 0) := ⟨_, rfl⟩
  obtain ⟨KF, x0, x1, x2, x3, x4⟩ := (Gi.o.kept Gd.o Gf.o).stored e
  unfold zy at e
  rw [← e]
  exact bodyPost_ret (v := .agg #[.int .i64 0, .int .i64 0, .string ⟨#[]⟩, .slice none 0 0, .slice none 0 0]) (by simp [results, results123, go_sem, x0, x1, x2, x3, x4]) rfl ⟨xa HN.o (Gl.o.kept KF (fun hx => Gf.o (by simp at hx; simp [hx]))), ((Gu.o.mono (by simp)).trans' Gd.o).trans KF (fun i hi => by simp at hi; exact .inr (by omega))⟩
 | cons d t =>
  have HD := qI hd
  rw [hd] at hX hTs CU2 Gz CS Jg
  have hsl := Gz.o
  rw [List.length_cons] at hX hTs hsl
  have hne : zg (d :: t) ≠ ⟨#[]⟩ := fun e => by
   have h9 := congrArg (fun s : ByteArray => s.data.toList) e
   simp only [zq] at h9
   cases h9
  obtain ⟨g1, g2⟩ := qe hne
  have hs0 : 0 < (zg (d :: t)).size := by omega
  have h0 : (zg (d :: t))[0]'hs0 = d := rfl
  have hs0I : (0 : Int) < (zg (d :: t)).size := by omega
  have hsI : ((zg (d :: t)).size : Int) = (t.length : Int) + 1 := by omega
  have Jh := qI hsI
  have hd1 := Jc.o d (by rw [HD.o]; simp)
  have Gx : Hid (t.length + 1 ≤ (qA r).length) := qI (by have h9 := Jd.o; rw [HD.o, List.length_cons] at h9; exact h9)
  clear hne hsI Gz hsl Jc
  have hsI : ((zg (d :: t)).size : Int) = (t.length : Int) + 1 := Jh.o
  cases hm : K3 r with
  | true =>
   rw [hm] at CE
   by_cases h48 : d = 48
   ·subst h48
    have HN := qI (num_zero HD.o (.inl hm))
    rw [Gh.o] at c1
    go_enter func123, ntmps123
    go_wp2_with fail
    rw [← Gh.o]
    refine CE.o.mono ?_
    rintro e w1 ⟨rfl, hp1, hk1⟩
    have Gb := qI hp1
    have Gc := qI hk1
    clear hp1 hk1 c1
    go_wp2_with fail
    refine (CR.o w1 _ _ rfl Gb.o).mono ?_
    rintro e w2 ⟨rfl, hk2⟩
    have Ga := qI hk2
    clear hk2
    go_wp2_with fail
    refine (CU2.o w2 (Gb.o.kept0 Ga.o)).mono ?_
    rintro e w3 ⟨rfl, hk3⟩
    have Gk := qI ((Gb.o.kept0 Ga.o).kept0 hk3)
    have Gg := qI ((Gc.o.then Ga.o).then hk3)
    clear hk3
    go_wp2_with fail
    refine (yt Gk.o i 50 hi (by decide) (by decide)).mono ?_
    rintro e w9 ⟨rfl, hp9, hk9⟩
    have Gl := qI hp9
    have Gd := qI (Gg.o.trans' hk9)
    obtain ⟨⟨d0, d1, d2, d3, d4⟩, f0, f1, f2, f3, f4⟩ := (Gi.o.kept Gd.o Gf.o).facts
    clear hp9 hk9
    go_wp2_with fail
    obtain ⟨WF, e⟩ : ∃ WF, WF = zy w9 w.heap.size (.int .i64 0) (.int .i64 0) (.string ⟨#[]⟩) (.slice none 0 0) (.slice none 0 0) := ⟨_, rfl⟩
    obtain ⟨KF, x0, x1, x2, x3, x4⟩ := (Gi.o.kept Gd.o Gf.o).stored e
    unfold zy at e
    rw [← e]
    exact bodyPost_ret (v := .agg #[.int .i64 0, .int .i64 0, .string ⟨#[]⟩, .slice none 0 0, .slice none 0 0]) (by simp [results, results123, go_sem, x0, x1, x2, x3, x4]) rfl ⟨xa HN.o (Gl.o.kept KF (fun hx => Gf.o (by simp at hx; simp [hx]))), ((Gu.o.mono (by simp)).trans' Gd.o).trans KF (fun i hi => by simp at hi; exact .inr (by omega))⟩
   ·have h48n : d.toNat ≠ 48 := fun q => h48 (UInt8.toNat_inj.1 q)
    obtain ⟨k1, k2⟩ := zt (a := (d.toNat : Int)) (b := 48) (by omega)
    have HF := QI HD.o (fun q => h48 q.1)
    rw [HD.o] at HF
    clear h48n h48
    rw [hm] at HF
    cases h3 : (qA r).drop (d :: t).length with
    | nil =>
     have H3 := qI h3
     rw [h3, show ky [] [46, 101, 69] = false from rfl, if_neg (by decide)] at HF
     by_cases hb : 9007199254740991 < zI (d :: t)
     ·have HN : Hid (qM r = .inl 52) := qI (by rw [HF, if_pos hb])
      have Gm : Hid (9007199254740991 < zI (d :: t)) := qI hb
      clear HF hb
      rw [Gh.o] at c1
      go_enter func123, ntmps123
      go_wp2_with fail
      rw [← Gh.o]
      refine CE.o.mono ?_
      rintro e w1 ⟨rfl, hp1, hk1⟩
      have Gb := qI hp1
      have Gc := qI hk1
      clear hp1 hk1 c1
      go_wp2_with fail
      refine (CR.o w1 _ _ rfl Gb.o).mono ?_
      rintro e w2 ⟨rfl, hk2⟩
      have Ga := qI hk2
      clear hk2
      go_wp2_with fail
      refine (CU2.o w2 (Gb.o.kept0 Ga.o)).mono ?_
      rintro e w3 ⟨rfl, hk3⟩
      have Gk := qI ((Gb.o.kept0 Ga.o).kept0 hk3)
      have Gg := qI ((Gc.o.then Ga.o).then hk3)
      clear hk3
      obtain ⟨i3, hp3, hi3, hc3, hr3⟩ := Gk.o.open_ok
      have hl3 := yv hr3 hi3
      have Ge := qI hp3
      have e1 := za (o := 1) (v := .int .i64 i3) hp3 rfl
      have e2 := zc (o := 1) hp3
      have hi3k : i3 + (d :: t).length ≤ S.size := by have := Gx.o; rw [List.length_cons] at *; omega
      have Gp := qI hi3k
      have Gq := qI hr3
      have Gr : Hid (i3 ≤ S.size ∧ c ≤ B) := qI ⟨hi3, hc3⟩
      have hi3I : (i3 : Int) + (t.length : Int) + 1 ≤ 262144 := by rw [List.length_cons] at hi3k; omega
      clear hp3 hr3 hl3 hi3k hc3
      go_wp2_with fail
      have hp4 : PS (w3.setCell ⟨p, 1, none⟩ (.int .i64 ((i3 + (d :: t).length : Nat)))) p S B (.inr ([], c)) := by
       have h9 := PS.good (Ge.o.set1 (i3 + (d :: t).length)) Gp.o Gr.o.2
       rw [← List.drop_drop, Gq.o, H3.o] at h9
       exact h9
      rw [show ((i3 + (d :: t).length : Nat) : Int) = (i3 : Int) + ((t.length : Int) + 1) by simp only [List.length_cons, List.length_nil]; omega] at hp4
      have hk4 := (Gg.o).trans' (zT w3 p 1 (.int .i64 ((i3 : Int) + ((t.length : Int) + 1))))
      clear e1 e2
      revert hp4 hk4
      generalize w3.setCell ⟨p, 1, none⟩ (.int .i64 ((i3 : Int) + ((t.length : Int) + 1))) = w4
      intro hp4 hk4
      have Gj := qI hp4
      have Gs := qI hk4
      clear hp4 hk4
      refine (CR.o w4 _ _ rfl Gj.o).mono ?_
      rintro e w5 ⟨rfl, hk5⟩
      have Gn := qI (Gj.o.kept0 hk5)
      have Gt := qI (Gs.o.then hk5)
      clear hk5
      rw [show zg [] = ⟨#[]⟩ from rfl]
      go_wp2_with fail
      refine (CS.o _).mono ?_
      rintro e w7 ⟨ha7, hk7⟩
      unfold qr at ha7
      rw [if_pos Gm.o] at ha7
      subst ha7
      have Gv := qI (Gn.o.kept0 hk7)
      have Gw := qI (Gt.o.then hk7)
      clear hk7
      go_wp2_with fail
      refine (yt Gv.o i 52 hi (by decide) (by decide)).mono ?_
      rintro e w9 ⟨rfl, hp9, hk9⟩
      have Gl := qI hp9
      have Gd := qI (Gw.o.trans' hk9)
      obtain ⟨⟨d0, d1, d2, d3, d4⟩, f0, f1, f2, f3, f4⟩ := (Gi.o.kept Gd.o Gf.o).facts
      clear hp9 hk9
      go_wp2_with fail
      obtain ⟨WF, e⟩ : ∃ WF, WF = zy w9 w.heap.size (.int .i64 0) (.int .i64 0) (.string ⟨#[]⟩) (.slice none 0 0) (.slice none 0 0) := ⟨_, rfl⟩
      obtain ⟨KF, x0, x1, x2, x3, x4⟩ := (Gi.o.kept Gd.o Gf.o).stored e
      unfold zy at e
      rw [← e]
      exact bodyPost_ret (v := .agg #[.int .i64 0, .int .i64 0, .string ⟨#[]⟩, .slice none 0 0, .slice none 0 0]) (by simp [results, results123, go_sem, x0, x1, x2, x3, x4]) rfl ⟨xa HN.o (Gl.o.kept KF (fun hx => Gf.o (by simp at hx; simp [hx]))), ((Gu.o.mono (by simp)).trans' Gd.o).trans KF (fun i hi => by simp at hi; exact .inr (by omega))⟩
     ·have HN : Hid (qM r = .inr (-(zI (d :: t) : Int), [])) := qI (by rw [HF, if_neg hb]; rfl)
      have Gm : Hid (¬ 9007199254740991 < zI (d :: t)) := qI hb
      have hbI : (zI (d :: t) : Int) ≤ 9007199254740991 := by omega
      clear HF hb
      revert CS HN Gm hbI
      generalize zI (d :: t) = D
      intro CS HN Gm hbI
      have Gy := qI hbI
      clear hbI
      rw [Gh.o] at c1
      go_enter func123, ntmps123
      go_wp2_with fail
      rw [← Gh.o]
      refine CE.o.mono ?_
      rintro e w1 ⟨rfl, hp1, hk1⟩
      have Gb := qI hp1
      have Gc := qI hk1
      clear hp1 hk1 c1
      go_wp2_with fail
      refine (CR.o w1 _ _ rfl Gb.o).mono ?_
      rintro e w2 ⟨rfl, hk2⟩
      have Ga := qI hk2
      clear hk2
      go_wp2_with fail
      refine (CU2.o w2 (Gb.o.kept0 Ga.o)).mono ?_
      rintro e w3 ⟨rfl, hk3⟩
      have Gk := qI ((Gb.o.kept0 Ga.o).kept0 hk3)
      have Gg := qI ((Gc.o.then Ga.o).then hk3)
      clear hk3
      obtain ⟨i3, hp3, hi3, hc3, hr3⟩ := Gk.o.open_ok
      have hl3 := yv hr3 hi3
      have Ge := qI hp3
      have e1 := za (o := 1) (v := .int .i64 i3) hp3 rfl
      have e2 := zc (o := 1) hp3
      have hi3k : i3 + (d :: t).length ≤ S.size := by have := Gx.o; rw [List.length_cons] at *; omega
      have Gp := qI hi3k
      have Gq := qI hr3
      have Gr : Hid (i3 ≤ S.size ∧ c ≤ B) := qI ⟨hi3, hc3⟩
      have hi3I : (i3 : Int) + (t.length : Int) + 1 ≤ 262144 := by rw [List.length_cons] at hi3k; omega
      clear hp3 hr3 hl3 hi3k hc3
      go_wp2_with fail
      have hp4 : PS (w3.setCell ⟨p, 1, none⟩ (.int .i64 ((i3 + (d :: t).length : Nat)))) p S B (.inr ([], c)) := by
       have h9 := PS.good (Ge.o.set1 (i3 + (d :: t).length)) Gp.o Gr.o.2
       rw [← List.drop_drop, Gq.o, H3.o] at h9
       exact h9
      rw [show ((i3 + (d :: t).length : Nat) : Int) = (i3 : Int) + ((t.length : Int) + 1) by simp only [List.length_cons, List.length_nil]; omega] at hp4
      have hk4 := (Gg.o).trans' (zT w3 p 1 (.int .i64 ((i3 : Int) + ((t.length : Int) + 1))))
      clear e1 e2
      revert hp4 hk4
      generalize w3.setCell ⟨p, 1, none⟩ (.int .i64 ((i3 : Int) + ((t.length : Int) + 1))) = w4
      intro hp4 hk4
      have Gj := qI hp4
      have Gs := qI hk4
      clear hp4 hk4
      refine (CR.o w4 _ _ rfl Gj.o).mono ?_
      rintro e w5 ⟨rfl, hk5⟩
      have Gn := qI (Gj.o.kept0 hk5)
      have Gt := qI (Gs.o.then hk5)
      clear hk5
      rw [show zg [] = ⟨#[]⟩ from rfl]
      go_wp2_with fail
      refine (CS.o _).mono ?_
      rintro e w7 ⟨ha7, hk7⟩
      unfold qr at ha7
      rw [if_neg Gm.o] at ha7
      subst ha7
      have Gv := qI (Gn.o.kept0 hk7)
      have Gw := qI (Gt.o.then hk7)
      clear hk7
      have hbI := Gy.o
      go_wp2_with fail
      refine (jH (-(D : Int)) _).mono ?_
      rintro e w9 ⟨rfl, hk9⟩
      unfold yq
      have Gl := qI (Gv.o.kept0 hk9)
      have Gd := qI (Gw.o.then hk9)
      clear hk9
      obtain ⟨⟨d0, d1, d2, d3, d4⟩, f0, f1, f2, f3, f4⟩ := (Gi.o.kept Gd.o Gf.o).facts
      go_wp2_with fail
      obtain ⟨WF, e⟩ : ∃ WF, WF = zy w9 w.heap.size (.int .i64 3) (.int .i64 (-(D : Int))) (.string ⟨#[]⟩) (.slice none 0 0) (.slice none 0 0) := ⟨_, rfl⟩
      obtain ⟨KF, x0, x1, x2, x3, x4⟩ := (Gi.o.kept Gd.o Gf.o).stored e
      unfold zy at e
      rw [← e]
      exact bodyPost_ret (v := .agg #[.int .i64 3, .int .i64 (-(D : Int)), .string ⟨#[]⟩, .slice none 0 0, .slice none 0 0]) (by simp [results, results123, go_sem, x0, x1, x2, x3, x4]) rfl ⟨kM HN.o (Gl.o.kept KF (fun hx => Gf.o (by simp at hx; simp [hx]))), ((Gu.o.mono (by simp)).trans' Gd.o).trans KF (fun i hi => by simp at hi; exact .inr (by omega))⟩
    | cons a q =>
     have H3 := qI h3
     rw [h3, show ky (a :: q) [46, 101, 69] = ([46, 101, 69] : List UInt8).contains a from rfl] at HF
     have hneA : zg (a :: q) ≠ ⟨#[]⟩ := fun e => by
      have h9 := congrArg (fun s : ByteArray => s.data.toList) e
      simp only [zq] at h9
      cases h9
     obtain ⟨j1, j2⟩ := qe hneA
     have ha0 : 0 < (zg (a :: q)).size := by rw [zK]; simp
     have ha : (zg (a :: q))[0]'ha0 = a := rfl
     have ha0I : (0 : Int) < (zg (a :: q)).size := by omega
     have CI : Hid (∀ w', _) := qI (fun w' => qa ⟨#[46, 101, 69]⟩ (a.toNat : Int) w')
     rw [show ((a.toNat : Int)).toNat.toUInt8 = a by simp, show (⟨#[46, 101, 69]⟩ : ByteArray).data.toList = [46, 101, 69] from rfl] at CI
     have hic := qJ [46, 101, 69] a
     clear hneA
     cases hc2 : ([46, 101, 69] : List UInt8).contains a with
     | true =>
      have hz0 : 0 ≤ Lib.indexByte [46, 101, 69] a := hic.2 hc2
      rw [hc2, if_pos rfl] at HF
      have HN := qI HF
      clear hic hc2 HF CS
      revert CI hz0
      generalize Lib.indexByte [46, 101, 69] a = z
      intro CI hz0
      rw [Gh.o] at c1
      go_enter func123, ntmps123
      go_wp2_with fail
      rw [← Gh.o]
      refine CE.o.mono ?_
      rintro e w1 ⟨rfl, hp1, hk1⟩
      have Gb := qI hp1
      have Gc := qI hk1
      clear hp1 hk1 c1
      go_wp2_with fail
      refine (CR.o w1 _ _ rfl Gb.o).mono ?_
      rintro e w2 ⟨rfl, hk2⟩
      have Ga := qI hk2
      clear hk2
      go_wp2_with fail
      refine (CU2.o w2 (Gb.o.kept0 Ga.o)).mono ?_
      rintro e w3 ⟨rfl, hk3⟩
      have Gk := qI ((Gb.o.kept0 Ga.o).kept0 hk3)
      have Gg := qI ((Gc.o.then Ga.o).then hk3)
      clear hk3
      obtain ⟨i3, hp3, hi3, hc3, hr3⟩ := Gk.o.open_ok
      have hl3 := yv hr3 hi3
      have Ge := qI hp3
      have e1 := za (o := 1) (v := .int .i64 i3) hp3 rfl
      have e2 := zc (o := 1) hp3
      have hi3k : i3 + (d :: t).length ≤ S.size := by have := Gx.o; rw [List.length_cons] at *; omega
      have Gp := qI hi3k
      have Gq := qI hr3
      have Gr : Hid (i3 ≤ S.size ∧ c ≤ B) := qI ⟨hi3, hc3⟩
      have hi3I : (i3 : Int) + (t.length : Int) + 1 ≤ 262144 := by rw [List.length_cons] at hi3k; omega
      clear hp3 hr3 hl3 hi3k hc3
      go_wp2_with fail
      have hp4 : PS (w3.setCell ⟨p, 1, none⟩ (.int .i64 ((i3 + (d :: t).length : Nat)))) p S B (.inr (a :: q, c)) := by
       have h9 := PS.good (Ge.o.set1 (i3 + (d :: t).length)) Gp.o Gr.o.2
       rw [← List.drop_drop, Gq.o, H3.o] at h9
       exact h9
      rw [show ((i3 + (d :: t).length : Nat) : Int) = (i3 : Int) + ((t.length : Int) + 1) by simp only [List.length_cons, List.length_nil]; omega] at hp4
      have hk4 := (Gg.o).trans' (zT w3 p 1 (.int .i64 ((i3 : Int) + ((t.length : Int) + 1))))
      clear e1 e2
      revert hp4 hk4
      generalize w3.setCell ⟨p, 1, none⟩ (.int .i64 ((i3 : Int) + ((t.length : Int) + 1))) = w4
      intro hp4 hk4
      have Gj := qI hp4
      have Gs := qI hk4
      clear hp4 hk4
      refine (CR.o w4 _ _ rfl Gj.o).mono ?_
      rintro e w5 ⟨rfl, hk5⟩
      have Gn := qI (Gj.o.kept0 hk5)
      have Gt := qI (Gs.o.then hk5)
      clear hk5
      go_wp2_with fail
      refine (CI.o _).mono ?_
      rintro e w6 ⟨rfl, rfl⟩
      obtain ⟨i5, c5, e5, hp5, hi5, hc5⟩ := Gn.o.places
      have l1 := za (o := 1) (v := .int .i64 i5) hp5 rfl
      clear hp5
      go_wp2_with fail
      refine (yt Gn.o i5 51 hi5 (by decide) (by decide)).mono ?_
      rintro e w9 ⟨rfl, hp9, hk9⟩
      have Gl := qI hp9
      have Gd := qI (Gt.o.trans' hk9)
      obtain ⟨⟨d0, d1, d2, d3, d4⟩, f0, f1, f2, f3, f4⟩ := (Gi.o.kept Gd.o Gf.o).facts
      clear hp9 hk9
      go_wp2_with fail
      obtain ⟨WF, e⟩ : ∃ WF, WF = zy w9 w.heap.size (.int .i64 0) (.int .i64 0) (.string ⟨#[]⟩) (.slice none 0 0) (.slice none 0 0) := ⟨_, rfl⟩
      obtain ⟨KF, x0, x1, x2, x3, x4⟩ := (Gi.o.kept Gd.o Gf.o).stored e
      unfold zy at e
      rw [← e]
      exact bodyPost_ret (v := .agg #[.int .i64 0, .int .i64 0, .string ⟨#[]⟩, .slice none 0 0, .slice none 0 0]) (by simp [results, results123, go_sem, x0, x1, x2, x3, x4]) rfl ⟨xa HN.o (Gl.o.kept KF (fun hx => Gf.o (by simp at hx; simp [hx]))), ((Gu.o.mono (by simp)).trans' Gd.o).trans KF (fun i hi => by simp at hi; exact .inr (by omega))⟩
     | false =>
      have hz0 : Lib.indexByte [46, 101, 69] a < 0 := by
       rcases Int.lt_or_le (Lib.indexByte [46, 101, 69] a) 0 with h | h
       ·exact h
       ·rw [hic.1 h] at hc2; cases hc2
      rw [hc2, if_neg (by decide)] at HF
      have hzd : decide (0 ≤ Lib.indexByte [46, 101, 69] a) = false := decide_eq_false (by omega)
      clear hic hc2 hz0
      revert CI hzd
      generalize Lib.indexByte [46, 101, 69] a = z
      intro CI hzd
      by_cases hb : 9007199254740991 < zI (d :: t)
      ·have HN : Hid (qM r = .inl 52) := qI (by rw [HF, if_pos hb])
       have Gm : Hid (9007199254740991 < zI (d :: t)) := qI hb
       clear HF hb
       rw [Gh.o] at c1
       go_enter func123, ntmps123
       go_wp2_with fail
       rw [← Gh.o]
       refine CE.o.mono ?_
       rintro e w1 ⟨rfl, hp1, hk1⟩
       have Gb := qI hp1
       have Gc := qI hk1
       clear hp1 hk1 c1
       go_wp2_with fail
       refine (CR.o w1 _ _ rfl Gb.o).mono ?_
       rintro e w2 ⟨rfl, hk2⟩
       have Ga := qI hk2
       clear hk2
       go_wp2_with fail
       refine (CU2.o w2 (Gb.o.kept0 Ga.o)).mono ?_
       rintro e w3 ⟨rfl, hk3⟩
       have Gk := qI ((Gb.o.kept0 Ga.o).kept0 hk3)
       have Gg := qI ((Gc.o.then Ga.o).then hk3)
       clear hk3
       obtain ⟨i3, hp3, hi3, hc3, hr3⟩ := Gk.o.open_ok
       have hl3 := yv hr3 hi3
       have Ge := qI hp3
       have e1 := za (o := 1) (v := .int .i64 i3) hp3 rfl
       have e2 := zc (o := 1) hp3
       have hi3k : i3 + (d :: t).length ≤ S.size := by have := Gx.o; rw [List.length_cons] at *; omega
       have Gp := qI hi3k
       have Gq := qI hr3
       have Gr : Hid (i3 ≤ S.size ∧ c ≤ B) := qI ⟨hi3, hc3⟩
       have hi3I : (i3 : Int) + (t.length : Int) + 1 ≤ 262144 := by rw [List.length_cons] at hi3k; omega
       clear hp3 hr3 hl3 hi3k hc3
       go_wp2_with fail
       have hp4 : PS (w3.setCell ⟨p, 1, none⟩ (.int .i64 ((i3 + (d :: t).length : Nat)))) p S B (.inr (a :: q, c)) := by
        have h9 := PS.good (Ge.o.set1 (i3 + (d :: t).length)) Gp.o Gr.o.2
        rw [← List.drop_drop, Gq.o, H3.o] at h9
        exact h9
       rw [show ((i3 + (d :: t).length : Nat) : Int) = (i3 : Int) + ((t.length : Int) + 1) by simp only [List.length_cons, List.length_nil]; omega] at hp4
       have hk4 := (Gg.o).trans' (zT w3 p 1 (.int .i64 ((i3 : Int) + ((t.length : Int) + 1))))
       clear e1 e2
       revert hp4 hk4
       generalize w3.setCell ⟨p, 1, none⟩ (.int .i64 ((i3 : Int) + ((t.length : Int) + 1))) = w4
       intro hp4 hk4
       have Gj := qI hp4
       have Gs := qI hk4
       clear hp4 hk4
       refine (CR.o w4 _ _ rfl Gj.o).mono ?_
       rintro e w5 ⟨rfl, hk5⟩
       have Gn := qI (Gj.o.kept0 hk5)
       have Gt := qI (Gs.o.then hk5)
       clear hk5
       go_wp2_with fail
       refine (CI.o _).mono ?_
       rintro e w6 ⟨rfl, rfl⟩
       go_wp2_with fail
       refine (CS.o _).mono ?_
       rintro e w7 ⟨ha7, hk7⟩
       unfold qr at ha7
       rw [if_pos Gm.o] at ha7
       subst ha7
       have Gv := qI (Gn.o.kept0 hk7)
       have Gw := qI (Gt.o.then hk7)
       clear hk7
       go_wp2_with fail
       refine (yt Gv.o i 52 hi (by decide) (by decide)).mono ?_
       rintro e w9 ⟨rfl, hp9, hk9⟩
       have Gl := qI hp9
       have Gd := qI (Gw.o.trans' hk9)
       obtain ⟨⟨d0, d1, d2, d3, d4⟩, f0, f1, f2, f3, f4⟩ := (Gi.o.kept Gd.o Gf.o).facts
       clear hp9 hk9
       go_wp2_with fail
       obtain ⟨WF, e⟩ : ∃ WF, WF = zy w9 w.heap.size (.int .i64 0) (.int .i64 0) (.string ⟨#[]⟩) (.slice none 0 0) (.slice none 0 0) := ⟨_, rfl⟩
       obtain ⟨KF, x0, x1, x2, x3, x4⟩ := (Gi.o.kept Gd.o Gf.o).stored e
       unfold zy at e
       rw [← e]
       exact bodyPost_ret (v := .agg #[.int .i64 0, .int .i64 0, .string ⟨#[]⟩, .slice none 0 0, .slice none 0 0]) (by simp [results, results123, go_sem, x0, x1, x2, x3, x4]) rfl ⟨xa HN.o (Gl.o.kept KF (fun hx => Gf.o (by simp at hx; simp [hx]))), ((Gu.o.mono (by simp)).trans' Gd.o).trans KF (fun i hi => by simp at hi; exact .inr (by omega))⟩
      ·have HN : Hid (qM r = .inr (-(zI (d :: t) : Int), a :: q)) := qI (by rw [HF, if_neg hb]; rfl)
       have Gm : Hid (¬ 9007199254740991 < zI (d :: t)) := qI hb
       have hbI : (zI (d :: t) : Int) ≤ 9007199254740991 := by omega
       clear HF hb
       revert CS HN Gm hbI
       generalize zI (d :: t) = D
       intro CS HN Gm hbI
       have Gy := qI hbI
       clear hbI
       rw [Gh.o] at c1
       go_enter func123, ntmps123
       go_wp2_with fail
       rw [← Gh.o]
       refine CE.o.mono ?_
       rintro e w1 ⟨rfl, hp1, hk1⟩
       have Gb := qI hp1
       have Gc := qI hk1
       clear hp1 hk1 c1
       go_wp2_with fail
       refine (CR.o w1 _ _ rfl Gb.o).mono ?_
       rintro e w2 ⟨rfl, hk2⟩
       have Ga := qI hk2
       clear hk2
       go_wp2_with fail
       refine (CU2.o w2 (Gb.o.kept0 Ga.o)).mono ?_
       rintro e w3 ⟨rfl, hk3⟩
       have Gk := qI ((Gb.o.kept0 Ga.o).kept0 hk3)
       have Gg := qI ((Gc.o.then Ga.o).then hk3)
       clear hk3
       obtain ⟨i3, hp3, hi3, hc3, hr3⟩ := Gk.o.open_ok
       have hl3 := yv hr3 hi3
       have Ge := qI hp3
       have e1 := za (o := 1) (v := .int .i64 i3) hp3 rfl
       have e2 := zc (o := 1) hp3
       have hi3k : i3 + (d :: t).length ≤ S.size := by have := Gx.o; rw [List.length_cons] at *; omega
       have Gp := qI hi3k
       have Gq := qI hr3
       have Gr : Hid (i3 ≤ S.size ∧ c ≤ B) := qI ⟨hi3, hc3⟩
       have hi3I : (i3 : Int) + (t.length : Int) + 1 ≤ 262144 := by rw [List.length_cons] at hi3k; omega
       clear hp3 hr3 hl3 hi3k hc3
       go_wp2_with fail
       have hp4 : PS (w3.setCell ⟨p, 1, none⟩ (.int .i64 ((i3 + (d :: t).length : Nat)))) p S B (.inr (a :: q, c)) := by
        have h9 := PS.good (Ge.o.set1 (i3 + (d :: t).length)) Gp.o Gr.o.2
        rw [← List.drop_drop, Gq.o, H3.o] at h9
        exact h9
       rw [show ((i3 + (d :: t).length : Nat) : Int) = (i3 : Int) + ((t.length : Int) + 1) by simp only [List.length_cons, List.length_nil]; omega] at hp4
       have hk4 := (Gg.o).trans' (zT w3 p 1 (.int .i64 ((i3 : Int) + ((t.length : Int) + 1))))
       clear e1 e2
       revert hp4 hk4
       generalize w3.setCell ⟨p, 1, none⟩ (.int .i64 ((i3 : Int) + ((t.length : Int) + 1))) = w4
       intro hp4 hk4
       have Gj := qI hp4
       have Gs := qI hk4
       clear hp4 hk4
       refine (CR.o w4 _ _ rfl Gj.o).mono ?_
       rintro e w5 ⟨rfl, hk5⟩
       have Gn := qI (Gj.o.kept0 hk5)
       have Gt := qI (Gs.o.then hk5)
       clear hk5
       go_wp2_with fail
       refine (CI.o _).mono ?_
       rintro e w6 ⟨rfl, rfl⟩
       go_wp2_with fail
       refine (CS.o _).mono ?_
       rintro e w7 ⟨ha7, hk7⟩
       unfold qr at ha7
       rw [if_neg Gm.o] at ha7
       subst ha7
       have Gv := qI (Gn.o.kept0 hk7)
       have Gw := qI (Gt.o.then hk7)
       clear hk7
       have hbI := Gy.o
       go_wp2_with fail
       refine (jH (-(D : Int)) _).mono ?_
       rintro e w9 ⟨rfl, hk9⟩
       unfold yq
       have Gl := qI (Gv.o.kept0 hk9)
       have Gd := qI (Gw.o.then hk9)
       clear hk9
       obtain ⟨⟨d0, d1, d2, d3, d4⟩, f0, f1, f2, f3, f4⟩ := (Gi.o.kept Gd.o Gf.o).facts
       go_wp2_with fail
       obtain ⟨WF, e⟩ : ∃ WF, WF = zy w9 w.heap.size (.int .i64 3) (.int .i64 (-(D : Int))) (.string ⟨#[]⟩) (.slice none 0 0) (.slice none 0 0) := ⟨_, rfl⟩
       obtain ⟨KF, x0, x1, x2, x3, x4⟩ := (Gi.o.kept Gd.o Gf.o).stored e
       unfold zy at e
       rw [← e]
       exact bodyPost_ret (v := .agg #[.int .i64 3, .int .i64 (-(D : Int)), .string ⟨#[]⟩, .slice none 0 0, .slice none 0 0]) (by simp [results, results123, go_sem, x0, x1, x2, x3, x4]) rfl ⟨kM HN.o (Gl.o.kept KF (fun hx => Gf.o (by simp at hx; simp [hx]))), ((Gu.o.mono (by simp)).trans' Gd.o).trans KF (fun i hi => by simp at hi; exact .inr (by omega))⟩
  | false =>
   rw [hm] at CE
   by_cases h48 : d = 48
   ·by_cases ht0 : t = []
    ·have HF := QI HD.o (fun q => by rcases q.2 with q | q; rw [hm] at q; cases q; exact q ht0)
     rw [HD.o] at HF
     subst ht0 h48
     clear hsI
     have hsI : ((zg ((48 : UInt8) :: [])).size : Int) = 1 := Jh.o
     have hX' : (zg (qA r)).extract 0 1 = zg ((48 : UInt8) :: []) := hX
     have hTs' : (1 : Int) ≤ (zg (qA r)).size := hTs
     have CU3 : Hid (∀ w', PS w' p S B (.inr (qA r, c)) → Calls Tryz.prog 162 #[.pointer (some ⟨p, 0, none⟩)] w' fun e w2 => e = .returned (.int .i64 1) ∧ zb [] w' w2) := qI CU2.o
     clear hX hTs CU2
     have hX := hX'
     have hTs := hTs'
     have CU2 := CU3
     clear hX' hTs' CU3
     rw [hm] at HF
     cases h3 : (qA r).drop ((48 : UInt8) :: []).length with
     | nil =>
      have H3 := qI h3
      rw [h3, show ky [] [46, 101, 69] = false from rfl, if_neg (by decide)] at HF
      by_cases hb : 9007199254740991 < zI ((48 : UInt8) :: [])
      ·exact absurd hb (by decide)
      ·have HN : Hid (qM r = .inr ((zI ((48 : UInt8) :: []) : Int), [])) := qI (by rw [HF, if_neg hb]; rfl)
       have Gm : Hid (¬ 9007199254740991 < zI ((48 : UInt8) :: [])) := qI hb
       have hbI : (zI ((48 : UInt8) :: []) : Int) ≤ 9007199254740991 := by omega
       clear HF hb
       revert CS HN Gm hbI
       generalize zI ((48 : UInt8) :: []) = D
       intro CS HN Gm hbI
       have Gy := qI hbI
       clear hbI
       rw [Gh.o] at c1
       go_enter func123, ntmps123
       go_wp2_with fail
       rw [← Gh.o]
       refine CE.o.mono ?_
       rintro e w1 ⟨rfl, hp1, hk1⟩
       have Gb := qI hp1
       have Gc := qI hk1
       clear hp1 hk1 c1
       go_wp2_with fail
       refine (CR.o w1 _ _ rfl Gb.o).mono ?_
       rintro e w2 ⟨rfl, hk2⟩
       have Ga := qI hk2
       clear hk2
       go_wp2_with fail
       refine (CU2.o w2 (Gb.o.kept0 Ga.o)).mono ?_
       rintro e w3 ⟨rfl, hk3⟩
       have Gk := qI ((Gb.o.kept0 Ga.o).kept0 hk3)
       have Gg := qI ((Gc.o.then Ga.o).then hk3)
       clear hk3
       obtain ⟨i3, hp3, hi3, hc3, hr3⟩ := Gk.o.open_ok
       have hl3 := yv hr3 hi3
       have Ge := qI hp3
       have e1 := za (o := 1) (v := .int .i64 i3) hp3 rfl
       have e2 := zc (o := 1) hp3
       have hi3k : i3 + ((48 : UInt8) :: []).length ≤ S.size := by have := Gx.o; rw [List.length_cons] at *; omega
       have Gp := qI hi3k
       have Gq := qI hr3
       have Gr : Hid (i3 ≤ S.size ∧ c ≤ B) := qI ⟨hi3, hc3⟩
       have hi3I : (i3 : Int) + 1 ≤ 262144 := by rw [List.length_cons] at hi3k; omega
       clear hp3 hr3 hl3 hi3k hc3
       go_wp2_with fail
       have hp4 : PS (w3.setCell ⟨p, 1, none⟩ (.int .i64 ((i3 + ((48 : UInt8) :: []).length : Nat)))) p S B (.inr ([], c)) := by
        have h9 := PS.good (Ge.o.set1 (i3 + ((48 : UInt8) :: []).length)) Gp.o Gr.o.2
        rw [← List.drop_drop, Gq.o, H3.o] at h9
        exact h9
       rw [show ((i3 + ((48 : UInt8) :: []).length : Nat) : Int) = (i3 : Int) + 1 by simp only [List.length_cons, List.length_nil]; omega] at hp4
       have hk4 := (Gg.o).trans' (zT w3 p 1 (.int .i64 ((i3 : Int) + 1)))
       clear e1 e2
       revert hp4 hk4
       generalize w3.setCell ⟨p, 1, none⟩ (.int .i64 ((i3 : Int) + 1)) = w4
       intro hp4 hk4
       have Gj := qI hp4
       have Gs := qI hk4
       clear hp4 hk4
       refine (CR.o w4 _ _ rfl Gj.o).mono ?_
       rintro e w5 ⟨rfl, hk5⟩
       have Gn := qI (Gj.o.kept0 hk5)
       have Gt := qI (Gs.o.then hk5)
       clear hk5
       rw [show zg [] = ⟨#[]⟩ from rfl]
       go_wp2_with fail
       refine (CS.o _).mono ?_
       rintro e w7 ⟨ha7, hk7⟩
       unfold qr at ha7
       rw [if_neg Gm.o] at ha7
       subst ha7
       have Gv := qI (Gn.o.kept0 hk7)
       have Gw := qI (Gt.o.then hk7)
       clear hk7
       have hbI := Gy.o
       go_wp2_with fail
       refine (jH (D : Int) _).mono ?_
       rintro e w9 ⟨rfl, hk9⟩
       unfold yq
       have Gl := qI (Gv.o.kept0 hk9)
       have Gd := qI (Gw.o.then hk9)
       clear hk9
       obtain ⟨⟨d0, d1, d2, d3, d4⟩, f0, f1, f2, f3, f4⟩ := (Gi.o.kept Gd.o Gf.o).facts
       go_wp2_with fail
       obtain ⟨WF, e⟩ : ∃ WF, WF = zy w9 w.heap.size (.int .i64 3) (.int .i64 (D : Int)) (.string ⟨#[]⟩) (.slice none 0 0) (.slice none 0 0) := ⟨_, rfl⟩
       obtain ⟨KF, x0, x1, x2, x3, x4⟩ := (Gi.o.kept Gd.o Gf.o).stored e
       unfold zy at e
       rw [← e]
       exact bodyPost_ret (v := .agg #[.int .i64 3, .int .i64 (D : Int), .string ⟨#[]⟩, .slice none 0 0, .slice none 0 0]) (by simp [results, results123, go_sem, x0, x1, x2, x3, x4]) rfl ⟨kM HN.o (Gl.o.kept KF (fun hx => Gf.o (by simp at hx; simp [hx]))), ((Gu.o.mono (by simp)).trans' Gd.o).trans KF (fun i hi => by simp at hi; exact .inr (by omega))⟩
     | cons a q =>
      have H3 := qI h3
      rw [h3, show ky (a :: q) [46, 101, 69] = ([46, 101, 69] : List UInt8).contains a from rfl] at HF
      have hneA : zg (a :: q) ≠ ⟨#[]⟩ := fun e => by
       have h9 := congrArg (fun s : ByteArray => s.data.toList) e
       simp only [zq] at h9
       cases h9
      obtain ⟨j1, j2⟩ := qe hneA
      have ha0 : 0 < (zg (a :: q)).size := by rw [zK]; simp
      have ha : (zg (a :: q))[0]'ha0 = a := rfl
      have ha0I : (0 : Int) < (zg (a :: q)).size := by omega
      have CI : Hid (∀ w', _) := qI (fun w' => qa ⟨#[46, 101, 69]⟩ (a.toNat : Int) w')
      rw [show ((a.toNat : Int)).toNat.toUInt8 = a by simp, show (⟨#[46, 101, 69]⟩ : ByteArray).data.toList = [46, 101, 69] from rfl] at CI
      have hic := qJ [46, 101, 69] a
      clear hneA
      cases hc2 : ([46, 101, 69] : List UInt8).contains a with
      | true =>
       have hz0 : 0 ≤ Lib.indexByte [46, 101, 69] a := hic.2 hc2
       rw [hc2, if_pos rfl] at HF
       have HN := qI HF
       clear hic hc2 HF CS
       revert CI hz0
       generalize Lib.indexByte [46, 101, 69] a = z
       intro CI hz0
       rw [Gh.o] at c1
       go_enter func123, ntmps123
       go_wp2_with fail
       rw [← Gh.o]
       refine CE.o.mono ?_
       rintro e w1 ⟨rfl, hp1, hk1⟩
       have Gb := qI hp1
       have Gc := qI hk1
       clear hp1 hk1 c1
       go_wp2_with fail
       refine (CR.o w1 _ _ rfl Gb.o).mono ?_
       rintro e w2 ⟨rfl, hk2⟩
       have Ga := qI hk2
       clear hk2
       go_wp2_with fail
       refine (CU2.o w2 (Gb.o.kept0 Ga.o)).mono ?_
       rintro e w3 ⟨rfl, hk3⟩
       have Gk := qI ((Gb.o.kept0 Ga.o).kept0 hk3)
       have Gg := qI ((Gc.o.then Ga.o).then hk3)
       clear hk3
       obtain ⟨i3, hp3, hi3, hc3, hr3⟩ := Gk.o.open_ok
       have hl3 := yv hr3 hi3
       have Ge := qI hp3
       have e1 := za (o := 1) (v := .int .i64 i3) hp3 rfl
       have e2 := zc (o := 1) hp3
       have hi3k : i3 + ((48 : UInt8) :: []).length ≤ S.size := by have := Gx.o; rw [List.length_cons] at *; omega
       have Gp := qI hi3k
       have Gq := qI hr3
       have Gr : Hid (i3 ≤ S.size ∧ c ≤ B) := qI ⟨hi3, hc3⟩
       have hi3I : (i3 : Int) + 1 ≤ 262144 := by rw [List.length_cons] at hi3k; omega
       clear hp3 hr3 hl3 hi3k hc3
       go_wp2_with fail
       have hp4 : PS (w3.setCell ⟨p, 1, none⟩ (.int .i64 ((i3 + ((48 : UInt8) :: []).length : Nat)))) p S B (.inr (a :: q, c)) := by
        have h9 := PS.good (Ge.o.set1 (i3 + ((48 : UInt8) :: []).length)) Gp.o Gr.o.2
        rw [← List.drop_drop, Gq.o, H3.o] at h9
        exact h9
       rw [show ((i3 + ((48 : UInt8) :: []).length : Nat) : Int) = (i3 : Int) + 1 by simp only [List.length_cons, List.length_nil]; omega] at hp4
       have hk4 := (Gg.o).trans' (zT w3 p 1 (.int .i64 ((i3 : Int) + 1)))
       clear e1 e2
       revert hp4 hk4
       generalize w3.setCell ⟨p, 1, none⟩ (.int .i64 ((i3 : Int) + 1)) = w4
       intro hp4 hk4
       have Gj := qI hp4
       have Gs := qI hk4
       clear hp4 hk4
       refine (CR.o w4 _ _ rfl Gj.o).mono ?_
       rintro e w5 ⟨rfl, hk5⟩
       have Gn := qI (Gj.o.kept0 hk5)
       have Gt := qI (Gs.o.then hk5)
       clear hk5
       go_wp2_with fail
       refine (CI.o _).mono ?_
       rintro e w6 ⟨rfl, rfl⟩
       obtain ⟨i5, c5, e5, hp5, hi5, hc5⟩ := Gn.o.places
       have l1 := za (o := 1) (v := .int .i64 i5) hp5 rfl
       clear hp5
       go_wp2_with fail
       refine (yt Gn.o i5 51 hi5 (by decide) (by decide)).mono ?_
       rintro e w9 ⟨rfl, hp9, hk9⟩
       have Gl := qI hp9
       have Gd := qI (Gt.o.trans' hk9)
       obtain ⟨⟨d0, d1, d2, d3, d4⟩, f0, f1, f2, f3, f4⟩ := (Gi.o.kept Gd.o Gf.o).facts
       clear hp9 hk9
       go_wp2_with fail
       obtain ⟨WF, e⟩ : ∃ WF, WF = zy w9 w.heap.size (.int .i64 0) (.int .i64 0) (.string ⟨#[]⟩) (.slice none 0 0) (.slice none 0 0) := ⟨_, rfl⟩
       obtain ⟨KF, x0, x1, x2, x3, x4⟩ := (Gi.o.kept Gd.o Gf.o).stored e
       unfold zy at e
       rw [← e]
       exact bodyPost_ret (v := .agg #[.int .i64 0, .int .i64 0, .string ⟨#[]⟩, .slice none 0 0, .slice none 0 0]) (by simp [results, results123, go_sem, x0, x1, x2, x3, x4]) rfl ⟨xa HN.o (Gl.o.kept KF (fun hx => Gf.o (by simp at hx; simp [hx]))), ((Gu.o.mono (by simp)).trans' Gd.o).trans KF (fun i hi => by simp at hi; exact .inr (by omega))⟩
      | false =>
       have hz0 : Lib.indexByte [46, 101, 69] a < 0 := by
        rcases Int.lt_or_le (Lib.indexByte [46, 101, 69] a) 0 with h | h
        ·exact h
        ·rw [hic.1 h] at hc2; cases hc2
       rw [hc2, if_neg (by decide)] at HF
       have hzd : decide (0 ≤ Lib.indexByte [46, 101, 69] a) = false := decide_eq_false (by omega)
       clear hic hc2 hz0
       revert CI hzd
       generalize Lib.indexByte [46, 101, 69] a = z
       intro CI hzd
       by_cases hb : 9007199254740991 < zI ((48 : UInt8) :: [])
       ·exact absurd hb (by decide)
       ·have HN : Hid (qM r = .inr ((zI ((48 : UInt8) :: []) : Int), a :: q)) := qI (by rw [HF, if_neg hb]; rfl)
        have Gm : Hid (¬ 9007199254740991 < zI ((48 : UInt8) :: [])) := qI hb
        have hbI : (zI ((48 : UInt8) :: []) : Int) ≤ 9007199254740991 := by omega
        clear HF hb
        revert CS HN Gm hbI
        generalize zI ((48 : UInt8) :: []) = D
        intro CS HN Gm hbI
        have Gy := qI hbI
        clear hbI
        rw [Gh.o] at c1
        go_enter func123, ntmps123
        go_wp2_with fail
        rw [← Gh.o]
        refine CE.o.mono ?_
        rintro e w1 ⟨rfl, hp1, hk1⟩
        have Gb := qI hp1
        have Gc := qI hk1
        clear hp1 hk1 c1
        go_wp2_with fail
        refine (CR.o w1 _ _ rfl Gb.o).mono ?_
        rintro e w2 ⟨rfl, hk2⟩
        have Ga := qI hk2
        clear hk2
        go_wp2_with fail
        refine (CU2.o w2 (Gb.o.kept0 Ga.o)).mono ?_
        rintro e w3 ⟨rfl, hk3⟩
        have Gk := qI ((Gb.o.kept0 Ga.o).kept0 hk3)
        have Gg := qI ((Gc.o.then Ga.o).then hk3)
        clear hk3
        obtain ⟨i3, hp3, hi3, hc3, hr3⟩ := Gk.o.open_ok
        have hl3 := yv hr3 hi3
        have Ge := qI hp3
        have e1 := za (o := 1) (v := .int .i64 i3) hp3 rfl
        have e2 := zc (o := 1) hp3
        have hi3k : i3 + ((48 : UInt8) :: []).length ≤ S.size := by have := Gx.o; rw [List.length_cons] at *; omega
        have Gp := qI hi3k
        have Gq := qI hr3
        have Gr : Hid (i3 ≤ S.size ∧ c ≤ B) := qI ⟨hi3, hc3⟩
        have hi3I : (i3 : Int) + 1 ≤ 262144 := by rw [List.length_cons] at hi3k; omega
        clear hp3 hr3 hl3 hi3k hc3
        go_wp2_with fail
        have hp4 : PS (w3.setCell ⟨p, 1, none⟩ (.int .i64 ((i3 + ((48 : UInt8) :: []).length : Nat)))) p S B (.inr (a :: q, c)) := by
         have h9 := PS.good (Ge.o.set1 (i3 + ((48 : UInt8) :: []).length)) Gp.o Gr.o.2
         rw [← List.drop_drop, Gq.o, H3.o] at h9
         exact h9
        rw [show ((i3 + ((48 : UInt8) :: []).length : Nat) : Int) = (i3 : Int) + 1 by simp only [List.length_cons, List.length_nil]; omega] at hp4
        have hk4 := (Gg.o).trans' (zT w3 p 1 (.int .i64 ((i3 : Int) + 1)))
        clear e1 e2
        revert hp4 hk4
        generalize w3.setCell ⟨p, 1, none⟩ (.int .i64 ((i3 : Int) + 1)) = w4
        intro hp4 hk4
        have Gj := qI hp4
        have Gs := qI hk4
        clear hp4 hk4
        refine (CR.o w4 _ _ rfl Gj.o).mono ?_
        rintro e w5 ⟨rfl, hk5⟩
        have Gn := qI (Gj.o.kept0 hk5)
        have Gt := qI (Gs.o.then hk5)
        clear hk5
        go_wp2_with fail
        refine (CI.o _).mono ?_
        rintro e w6 ⟨rfl, rfl⟩
        go_wp2_with fail
        refine (CS.o _).mono ?_
        rintro e w7 ⟨ha7, hk7⟩
        unfold qr at ha7
        rw [if_neg Gm.o] at ha7
        subst ha7
        have Gv := qI (Gn.o.kept0 hk7)
        have Gw := qI (Gt.o.then hk7)
        clear hk7
        have hbI := Gy.o
        go_wp2_with fail
        refine (jH (D : Int) _).mono ?_
        rintro e w9 ⟨rfl, hk9⟩
        unfold yq
        have Gl := qI (Gv.o.kept0 hk9)
        have Gd := qI (Gw.o.then hk9)
        clear hk9
        obtain ⟨⟨d0, d1, d2, d3, d4⟩, f0, f1, f2, f3, f4⟩ := (Gi.o.kept Gd.o Gf.o).facts
        go_wp2_with fail
        obtain ⟨WF, e⟩ : ∃ WF, WF = zy w9 w.heap.size (.int .i64 3) (.int .i64 (D : Int)) (.string ⟨#[]⟩) (.slice none 0 0) (.slice none 0 0) := ⟨_, rfl⟩
        obtain ⟨KF, x0, x1, x2, x3, x4⟩ := (Gi.o.kept Gd.o Gf.o).stored e
        unfold zy at e
        rw [← e]
        exact bodyPost_ret (v := .agg #[.int .i64 3, .int .i64 (D : Int), .string ⟨#[]⟩, .slice none 0 0, .slice none 0 0]) (by simp [results, results123, go_sem, x0, x1, x2, x3, x4]) rfl ⟨kM HN.o (Gl.o.kept KF (fun hx => Gf.o (by simp at hx; simp [hx]))), ((Gu.o.mono (by simp)).trans' Gd.o).trans KF (fun i hi => by simp at hi; exact .inr (by omega))⟩
    ·subst h48
     have hs1 : (1 : Int) < (t.length : Int) + 1 := by have := List.length_pos_iff.2 ht0; omega
     have HN := qI (num_zero HD.o (.inr ht0))
     rw [Gh.o] at c1
     go_enter func123, ntmps123
     go_wp2_with fail
     rw [← Gh.o]
     refine CE.o.mono ?_
     rintro e w1 ⟨rfl, hp1, hk1⟩
     have Gb := qI hp1
     have Gc := qI hk1
     clear hp1 hk1 c1
     go_wp2_with fail
     refine (CR.o w1 _ _ rfl Gb.o).mono ?_
     rintro e w2 ⟨rfl, hk2⟩
     have Ga := qI hk2
     clear hk2
     go_wp2_with fail
     refine (CU2.o w2 (Gb.o.kept0 Ga.o)).mono ?_
     rintro e w3 ⟨rfl, hk3⟩
     have Gk := qI ((Gb.o.kept0 Ga.o).kept0 hk3)
     have Gg := qI ((Gc.o.then Ga.o).then hk3)
     clear hk3
     go_wp2_with fail
     refine (yt Gk.o i 50 hi (by decide) (by decide)).mono ?_
     rintro e w9 ⟨rfl, hp9, hk9⟩
     have Gl := qI hp9
     have Gd := qI (Gg.o.trans' hk9)
     obtain ⟨⟨d0, d1, d2, d3, d4⟩, f0, f1, f2, f3, f4⟩ := (Gi.o.kept Gd.o Gf.o).facts
     clear hp9 hk9
     go_wp2_with fail
     obtain ⟨WF, e⟩ : ∃ WF, WF = zy w9 w.heap.size (.int .i64 0) (.int .i64 0) (.string ⟨#[]⟩) (.slice none 0 0) (.slice none 0 0) := ⟨_, rfl⟩
     obtain ⟨KF, x0, x1, x2, x3, x4⟩ := (Gi.o.kept Gd.o Gf.o).stored e
     unfold zy at e
     rw [← e]
     exact bodyPost_ret (v := .agg #[.int .i64 0, .int .i64 0, .string ⟨#[]⟩, .slice none 0 0, .slice none 0 0]) (by simp [results, results123, go_sem, x0, x1, x2, x3, x4]) rfl ⟨xa HN.o (Gl.o.kept KF (fun hx => Gf.o (by simp at hx; simp [hx]))), ((Gu.o.mono (by simp)).trans' Gd.o).trans KF (fun i hi => by simp at hi; exact .inr (by omega))⟩
   ·have h48n : d.toNat ≠ 48 := fun q => h48 (UInt8.toNat_inj.1 q)
    obtain ⟨k1, k2⟩ := zt (a := (d.toNat : Int)) (b := 48) (by omega)
    have HF := QI HD.o (fun q => h48 q.1)
    rw [HD.o] at HF
    clear h48n h48
    rw [hm] at HF
    cases h3 : (qA r).drop (d :: t).length with
    | nil =>
     have H3 := qI h3
     rw [h3, show ky [] [46, 101, 69] = false from rfl, if_neg (by decide)] at HF
     by_cases hb : 9007199254740991 < zI (d :: t)
     ·have HN : Hid (qM r = .inl 52) := qI (by rw [HF, if_pos hb])
      have Gm : Hid (9007199254740991 < zI (d :: t)) := qI hb
      clear HF hb
      rw [Gh.o] at c1
      go_enter func123, ntmps123
      go_wp2_with fail
      rw [← Gh.o]
      refine CE.o.mono ?_
      rintro e w1 ⟨rfl, hp1, hk1⟩
      have Gb := qI hp1
      have Gc := qI hk1
      clear hp1 hk1 c1
      go_wp2_with fail
      refine (CR.o w1 _ _ rfl Gb.o).mono ?_
      rintro e w2 ⟨rfl, hk2⟩
      have Ga := qI hk2
      clear hk2
      go_wp2_with fail
      refine (CU2.o w2 (Gb.o.kept0 Ga.o)).mono ?_
      rintro e w3 ⟨rfl, hk3⟩
      have Gk := qI ((Gb.o.kept0 Ga.o).kept0 hk3)
      have Gg := qI ((Gc.o.then Ga.o).then hk3)
      clear hk3
      obtain ⟨i3, hp3, hi3, hc3, hr3⟩ := Gk.o.open_ok
      have hl3 := yv hr3 hi3
      have Ge := qI hp3
      have e1 := za (o := 1) (v := .int .i64 i3) hp3 rfl
      have e2 := zc (o := 1) hp3
      have hi3k : i3 + (d :: t).length ≤ S.size := by have := Gx.o; rw [List.length_cons] at *; omega
      have Gp := qI hi3k
      have Gq := qI hr3
      have Gr : Hid (i3 ≤ S.size ∧ c ≤ B) := qI ⟨hi3, hc3⟩
      have hi3I : (i3 : Int) + (t.length : Int) + 1 ≤ 262144 := by rw [List.length_cons] at hi3k; omega
      clear hp3 hr3 hl3 hi3k hc3
      go_wp2_with fail
      have hp4 : PS (w3.setCell ⟨p, 1, none⟩ (.int .i64 ((i3 + (d :: t).length : Nat)))) p S B (.inr ([], c)) := by
       have h9 := PS.good (Ge.o.set1 (i3 + (d :: t).length)) Gp.o Gr.o.2
       rw [← List.drop_drop, Gq.o, H3.o] at h9
       exact h9
      rw [show ((i3 + (d :: t).length : Nat) : Int) = (i3 : Int) + ((t.length : Int) + 1) by simp only [List.length_cons, List.length_nil]; omega] at hp4
      have hk4 := (Gg.o).trans' (zT w3 p 1 (.int .i64 ((i3 : Int) + ((t.length : Int) + 1))))
      clear e1 e2
      revert hp4 hk4
      generalize w3.setCell ⟨p, 1, none⟩ (.int .i64 ((i3 : Int) + ((t.length : Int) + 1))) = w4
      intro hp4 hk4
      have Gj := qI hp4
      have Gs := qI hk4
      clear hp4 hk4
      refine (CR.o w4 _ _ rfl Gj.o).mono ?_
      rintro e w5 ⟨rfl, hk5⟩
      have Gn := qI (Gj.o.kept0 hk5)
      have Gt := qI (Gs.o.then hk5)
      clear hk5
      rw [show zg [] = ⟨#[]⟩ from rfl]
      go_wp2_with fail
      refine (CS.o _).mono ?_
      rintro e w7 ⟨ha7, hk7⟩
      unfold qr at ha7
      rw [if_pos Gm.o] at ha7
      subst ha7
      have Gv := qI (Gn.o.kept0 hk7)
      have Gw := qI (Gt.o.then hk7)
      clear hk7
      go_wp2_with fail
      refine (yt Gv.o i 52 hi (by decide) (by decide)).mono ?_
      rintro e w9 ⟨rfl, hp9, hk9⟩
      have Gl := qI hp9
      have Gd := qI (Gw.o.trans' hk9)
      obtain ⟨⟨d0, d1, d2, d3, d4⟩, f0, f1, f2, f3, f4⟩ := (Gi.o.kept Gd.o Gf.o).facts
      clear hp9 hk9
      go_wp2_with fail
      obtain ⟨WF, e⟩ : ∃ WF, WF = zy w9 w.heap.size (.int .i64 0) (.int .i64 0) (.string ⟨#[]⟩) (.slice none 0 0) (.slice none 0 0) := ⟨_, rfl⟩
      obtain ⟨KF, x0, x1, x2, x3, x4⟩ := (Gi.o.kept Gd.o Gf.o).stored e
      unfold zy at e
      rw [← e]
      exact bodyPost_ret (v := .agg #[.int .i64 0, .int .i64 0, .string ⟨#[]⟩, .slice none 0 0, .slice none 0 0]) (by simp [results, results123, go_sem, x0, x1, x2, x3, x4]) rfl ⟨xa HN.o (Gl.o.kept KF (fun hx => Gf.o (by simp at hx; simp [hx]))), ((Gu.o.mono (by simp)).trans' Gd.o).trans KF (fun i hi => by simp at hi; exact .inr (by omega))⟩
     ·have HN : Hid (qM r = .inr ((zI (d :: t) : Int), [])) := qI (by rw [HF, if_neg hb]; rfl)
      have Gm : Hid (¬ 9007199254740991 < zI (d :: t)) := qI hb
      have hbI : (zI (d :: t) : Int) ≤ 9007199254740991 := by omega
      clear HF hb
      revert CS HN Gm hbI
      generalize zI (d :: t) = D
      intro CS HN Gm hbI
      have Gy := qI hbI
      clear hbI
      rw [Gh.o] at c1
      go_enter func123, ntmps123
      go_wp2_with fail
      rw [← Gh.o]
      refine CE.o.mono ?_
      rintro e w1 ⟨rfl, hp1, hk1⟩
      have Gb := qI hp1
      have Gc := qI hk1
      clear hp1 hk1 c1
      go_wp2_with fail
      refine (CR.o w1 _ _ rfl Gb.o).mono ?_
      rintro e w2 ⟨rfl, hk2⟩
      have Ga := qI hk2
      clear hk2
      go_wp2_with fail
      refine (CU2.o w2 (Gb.o.kept0 Ga.o)).mono ?_
      rintro e w3 ⟨rfl, hk3⟩
      have Gk := qI ((Gb.o.kept0 Ga.o).kept0 hk3)
      have Gg := qI ((Gc.o.then Ga.o).then hk3)
      clear hk3
      obtain ⟨i3, hp3, hi3, hc3, hr3⟩ := Gk.o.open_ok
      have hl3 := yv hr3 hi3
      have Ge := qI hp3
      have e1 := za (o := 1) (v := .int .i64 i3) hp3 rfl
      have e2 := zc (o := 1) hp3
      have hi3k : i3 + (d :: t).length ≤ S.size := by have := Gx.o; rw [List.length_cons] at *; omega
      have Gp := qI hi3k
      have Gq := qI hr3
      have Gr : Hid (i3 ≤ S.size ∧ c ≤ B) := qI ⟨hi3, hc3⟩
      have hi3I : (i3 : Int) + (t.length : Int) + 1 ≤ 262144 := by rw [List.length_cons] at hi3k; omega
      clear hp3 hr3 hl3 hi3k hc3
      go_wp2_with fail
      have hp4 : PS (w3.setCell ⟨p, 1, none⟩ (.int .i64 ((i3 + (d :: t).length : Nat)))) p S B (.inr ([], c)) := by
       have h9 := PS.good (Ge.o.set1 (i3 + (d :: t).length)) Gp.o Gr.o.2
       rw [← List.drop_drop, Gq.o, H3.o] at h9
       exact h9
      rw [show ((i3 + (d :: t).length : Nat) : Int) = (i3 : Int) + ((t.length : Int) + 1) by simp only [List.length_cons, List.length_nil]; omega] at hp4
      have hk4 := (Gg.o).trans' (zT w3 p 1 (.int .i64 ((i3 : Int) + ((t.length : Int) + 1))))
      clear e1 e2
      revert hp4 hk4
      generalize w3.setCell ⟨p, 1, none⟩ (.int .i64 ((i3 : Int) + ((t.length : Int) + 1))) = w4
      intro hp4 hk4
      have Gj := qI hp4
      have Gs := qI hk4
      clear hp4 hk4
      refine (CR.o w4 _ _ rfl Gj.o).mono ?_
      rintro e w5 ⟨rfl, hk5⟩
      have Gn := qI (Gj.o.kept0 hk5)
      have Gt := qI (Gs.o.then hk5)
      clear hk5
      rw [show zg [] = ⟨#[]⟩ from rfl]
      go_wp2_with fail
      refine (CS.o _).mono ?_
      rintro e w7 ⟨ha7, hk7⟩
      unfold qr at ha7
      rw [if_neg Gm.o] at ha7
      subst ha7
      have Gv := qI (Gn.o.kept0 hk7)
      have Gw := qI (Gt.o.then hk7)
      clear hk7
      have hbI := Gy.o
      go_wp2_with fail
      refine (jH (D : Int) _).mono ?_
      rintro e w9 ⟨rfl, hk9⟩
      unfold yq
      have Gl := qI (Gv.o.kept0 hk9)
      have Gd := qI (Gw.o.then hk9)
      clear hk9
      obtain ⟨⟨d0, d1, d2, d3, d4⟩, f0, f1, f2, f3, f4⟩ := (Gi.o.kept Gd.o Gf.o).facts
      go_wp2_with fail
      obtain ⟨WF, e⟩ : ∃ WF, WF = zy w9 w.heap.size (.int .i64 3) (.int .i64 (D : Int)) (.string ⟨#[]⟩) (.slice none 0 0) (.slice none 0 0) := ⟨_, rfl⟩
      obtain ⟨KF, x0, x1, x2, x3, x4⟩ := (Gi.o.kept Gd.o Gf.o).stored e
      unfold zy at e
      rw [← e]
      exact bodyPost_ret (v := .agg #[.int .i64 3, .int .i64 (D : Int), .string ⟨#[]⟩, .slice none 0 0, .slice none 0 0]) (by simp [results, results123, go_sem, x0, x1, x2, x3, x4]) rfl ⟨kM HN.o (Gl.o.kept KF (fun hx => Gf.o (by simp at hx; simp [hx]))), ((Gu.o.mono (by simp)).trans' Gd.o).trans KF (fun i hi => by simp at hi; exact .inr (by omega))⟩
    | cons a q =>
     have H3 := qI h3
     rw [h3, show ky (a :: q) [46, 101, 69] = ([46, 101, 69] : List UInt8).contains a from rfl] at HF
     have hneA : zg (a :: q) ≠ ⟨#[]⟩ := fun e => by
      have h9 := congrArg (fun s : ByteArray => s.data.toList) e
      simp only [zq] at h9
      cases h9
     obtain ⟨j1, j2⟩ := qe hneA
     have ha0 : 0 < (zg (a :: q)).size := by rw [zK]; simp
     have ha : (zg (a :: q))[0]'ha0 = a := rfl
     have ha0I : (0 : Int) < (zg (a :: q)).size := by omega
     have CI : Hid (∀ w', _) := qI (fun w' => qa ⟨#[46, 101, 69]⟩ (a.toNat : Int) w')
     rw [show ((a.toNat : Int)).toNat.toUInt8 = a by simp, show (⟨#[46, 101, 69]⟩ : ByteArray).data.toList = [46, 101, 69] from rfl] at CI
     have hic := qJ [46, 101, 69] a
     clear hneA
     cases hc2 : ([46, 101, 69] : List UInt8).contains a with
     | true =>
      have hz0 : 0 ≤ Lib.indexByte [46, 101, 69] a := hic.2 hc2
      rw [hc2, if_pos rfl] at HF
      have HN := qI HF
      clear hic hc2 HF CS
      revert CI hz0
      generalize Lib.indexByte [46, 101, 69] a = z
      intro CI hz0
      rw [Gh.o] at c1
      go_enter func123, ntmps123
      go_wp2_with fail
      rw [← Gh.o]
      refine CE.o.mono ?_
      rintro e w1 ⟨rfl, hp1, hk1⟩
      have Gb := qI hp1
      have Gc := qI hk1
      clear hp1 hk1 c1
      go_wp2_with fail
      refine (CR.o w1 _ _ rfl Gb.o).mono ?_
      rintro e w2 ⟨rfl, hk2⟩
      have Ga := qI hk2
      clear hk2
      go_wp2_with fail
      refine (CU2.o w2 (Gb.o.kept0 Ga.o)).mono ?_
      rintro e w3 ⟨rfl, hk3⟩
      have Gk := qI ((Gb.o.kept0 Ga.o).kept0 hk3)
      have Gg := qI ((Gc.o.then Ga.o).then hk3)
      clear hk3
      obtain ⟨i3, hp3, hi3, hc3, hr3⟩ := Gk.o.open_ok
      have hl3 := yv hr3 hi3
      have Ge := qI hp3
      have e1 := za (o := 1) (v := .int .i64 i3) hp3 rfl
      have e2 := zc (o := 1) hp3
      have hi3k : i3 + (d :: t).length ≤ S.size := by have := Gx.o; rw [List.length_cons] at *; omega
      have Gp := qI hi3k
      have Gq := qI hr3
      have Gr : Hid (i3 ≤ S.size ∧ c ≤ B) := qI ⟨hi3, hc3⟩
      have hi3I : (i3 : Int) + (t.length : Int) + 1 ≤ 262144 := by rw [List.length_cons] at hi3k; omega
      clear hp3 hr3 hl3 hi3k hc3
      go_wp2_with fail
      have hp4 : PS (w3.setCell ⟨p, 1, none⟩ (.int .i64 ((i3 + (d :: t).length : Nat)))) p S B (.inr (a :: q, c)) := by
       have h9 := PS.good (Ge.o.set1 (i3 + (d :: t).length)) Gp.o Gr.o.2
       rw [← List.drop_drop, Gq.o, H3.o] at h9
       exact h9
      rw [show ((i3 + (d :: t).length : Nat) : Int) = (i3 : Int) + ((t.length : Int) + 1) by simp only [List.length_cons, List.length_nil]; omega] at hp4
      have hk4 := (Gg.o).trans' (zT w3 p 1 (.int .i64 ((i3 : Int) + ((t.length : Int) + 1))))
      clear e1 e2
      revert hp4 hk4
      generalize w3.setCell ⟨p, 1, none⟩ (.int .i64 ((i3 : Int) + ((t.length : Int) + 1))) = w4
      intro hp4 hk4
      have Gj := qI hp4
      have Gs := qI hk4
      clear hp4 hk4
      refine (CR.o w4 _ _ rfl Gj.o).mono ?_
      rintro e w5 ⟨rfl, hk5⟩
      have Gn := qI (Gj.o.kept0 hk5)
      have Gt := qI (Gs.o.then hk5)
      clear hk5
      go_wp2_with fail
      refine (CI.o _).mono ?_
      rintro e w6 ⟨rfl, rfl⟩
      obtain ⟨i5, c5, e5, hp5, hi5, hc5⟩ := Gn.o.places
      have l1 := za (o := 1) (v := .int .i64 i5) hp5 rfl
      clear hp5
      go_wp2_with fail
      refine (yt Gn.o i5 51 hi5 (by decide) (by decide)).mono ?_
      rintro e w9 ⟨rfl, hp9, hk9⟩
      have Gl := qI hp9
      have Gd := qI (Gt.o.trans' hk9)
      obtain ⟨⟨d0, d1, d2, d3, d4⟩, f0, f1, f2, f3, f4⟩ := (Gi.o.kept Gd.o Gf.o).facts
      clear hp9 hk9
      go_wp2_with fail
      obtain ⟨WF, e⟩ : ∃ WF, WF = zy w9 w.heap.size (.int .i64 0) (.int .i64 0) (.string ⟨#[]⟩) (.slice none 0 0) (.slice none 0 0) := ⟨_, rfl⟩
      obtain ⟨KF, x0, x1, x2, x3, x4⟩ := (Gi.o.kept Gd.o Gf.o).stored e
      unfold zy at e
      rw [← e]
      exact bodyPost_ret (v := .agg #[.int .i64 0, .int .i64 0, .string ⟨#[]⟩, .slice none 0 0, .slice none 0 0]) (by simp [results, results123, go_sem, x0, x1, x2, x3, x4]) rfl ⟨xa HN.o (Gl.o.kept KF (fun hx => Gf.o (by simp at hx; simp [hx]))), ((Gu.o.mono (by simp)).trans' Gd.o).trans KF (fun i hi => by simp at hi; exact .inr (by omega))⟩
     | false =>
      have hz0 : Lib.indexByte [46, 101, 69] a < 0 := by
       rcases Int.lt_or_le (Lib.indexByte [46, 101, 69] a) 0 with h | h
       ·exact h
       ·rw [hic.1 h] at hc2; cases hc2
      rw [hc2, if_neg (by decide)] at HF
      have hzd : decide (0 ≤ Lib.indexByte [46, 101, 69] a) = false := decide_eq_false (by omega)
      clear hic hc2 hz0
      revert CI hzd
      generalize Lib.indexByte [46, 101, 69] a = z
      intro CI hzd
      by_cases hb : 9007199254740991 < zI (d :: t)
      ·have HN : Hid (qM r = .inl 52) := qI (by rw [HF, if_pos hb])
       have Gm : Hid (9007199254740991 < zI (d :: t)) := qI hb
       clear HF hb
       rw [Gh.o] at c1
       go_enter func123, ntmps123
       go_wp2_with fail
       rw [← Gh.o]
       refine CE.o.mono ?_
       rintro e w1 ⟨rfl, hp1, hk1⟩
       have Gb := qI hp1
       have Gc := qI hk1
       clear hp1 hk1 c1
       go_wp2_with fail
       refine (CR.o w1 _ _ rfl Gb.o).mono ?_
       rintro e w2 ⟨rfl, hk2⟩
       have Ga := qI hk2
       clear hk2
       go_wp2_with fail
       refine (CU2.o w2 (Gb.o.kept0 Ga.o)).mono ?_
       rintro e w3 ⟨rfl, hk3⟩
       have Gk := qI ((Gb.o.kept0 Ga.o).kept0 hk3)
       have Gg := qI ((Gc.o.then Ga.o).then hk3)
       clear hk3
       obtain ⟨i3, hp3, hi3, hc3, hr3⟩ := Gk.o.open_ok
       have hl3 := yv hr3 hi3
       have Ge := qI hp3
       have e1 := za (o := 1) (v := .int .i64 i3) hp3 rfl
       have e2 := zc (o := 1) hp3
       have hi3k : i3 + (d :: t).length ≤ S.size := by have := Gx.o; rw [List.length_cons] at *; omega
       have Gp := qI hi3k
       have Gq := qI hr3
       have Gr : Hid (i3 ≤ S.size ∧ c ≤ B) := qI ⟨hi3, hc3⟩
       have hi3I : (i3 : Int) + (t.length : Int) + 1 ≤ 262144 := by rw [List.length_cons] at hi3k; omega
       clear hp3 hr3 hl3 hi3k hc3
       go_wp2_with fail
       have hp4 : PS (w3.setCell ⟨p, 1, none⟩ (.int .i64 ((i3 + (d :: t).length : Nat)))) p S B (.inr (a :: q, c)) := by
        have h9 := PS.good (Ge.o.set1 (i3 + (d :: t).length)) Gp.o Gr.o.2
        rw [← List.drop_drop, Gq.o, H3.o] at h9
        exact h9
       rw [show ((i3 + (d :: t).length : Nat) : Int) = (i3 : Int) + ((t.length : Int) + 1) by simp only [List.length_cons, List.length_nil]; omega] at hp4
       have hk4 := (Gg.o).trans' (zT w3 p 1 (.int .i64 ((i3 : Int) + ((t.length : Int) + 1))))
       clear e1 e2
       revert hp4 hk4
       generalize w3.setCell ⟨p, 1, none⟩ (.int .i64 ((i3 : Int) + ((t.length : Int) + 1))) = w4
       intro hp4 hk4
       have Gj := qI hp4
       have Gs := qI hk4
       clear hp4 hk4
       refine (CR.o w4 _ _ rfl Gj.o).mono ?_
       rintro e w5 ⟨rfl, hk5⟩
       have Gn := qI (Gj.o.kept0 hk5)
       have Gt := qI (Gs.o.then hk5)
       clear hk5
       go_wp2_with fail
       refine (CI.o _).mono ?_
       rintro e w6 ⟨rfl, rfl⟩
       go_wp2_with fail
       refine (CS.o _).mono ?_
       rintro e w7 ⟨ha7, hk7⟩
       unfold qr at ha7
       rw [if_pos Gm.o] at ha7
       subst ha7
       have Gv := qI (Gn.o.kept0 hk7)
       have Gw := qI (Gt.o.then hk7)
       clear hk7
       go_wp2_with fail
       refine (yt Gv.o i 52 hi (by decide) (by decide)).mono ?_
       rintro e w9 ⟨rfl, hp9, hk9⟩
       have Gl := qI hp9
       have Gd := qI (Gw.o.trans' hk9)
       obtain ⟨⟨d0, d1, d2, d3, d4⟩, f0, f1, f2, f3, f4⟩ := (Gi.o.kept Gd.o Gf.o).facts
       clear hp9 hk9
       go_wp2_with fail
       obtain ⟨WF, e⟩ : ∃ WF, WF = zy w9 w.heap.size (.int .i64 0) (.int .i64 0) (.string ⟨#[]⟩) (.slice none 0 0) (.slice none 0 0) := ⟨_, rfl⟩
       obtain ⟨KF, x0, x1, x2, x3, x4⟩ := (Gi.o.kept Gd.o Gf.o).stored e
       unfold zy at e
       rw [← e]
       exact bodyPost_ret (v := .agg #[.int .i64 0, .int .i64 0, .string ⟨#[]⟩, .slice none 0 0, .slice none 0 0]) (by simp [results, results123, go_sem, x0, x1, x2, x3, x4]) rfl ⟨xa HN.o (Gl.o.kept KF (fun hx => Gf.o (by simp at hx; simp [hx]))), ((Gu.o.mono (by simp)).trans' Gd.o).trans KF (fun i hi => by simp at hi; exact .inr (by omega))⟩
      ·have HN : Hid (qM r = .inr ((zI (d :: t) : Int), a :: q)) := qI (by rw [HF, if_neg hb]; rfl)
       have Gm : Hid (¬ 9007199254740991 < zI (d :: t)) := qI hb
       have hbI : (zI (d :: t) : Int) ≤ 9007199254740991 := by omega
       clear HF hb
       revert CS HN Gm hbI
       generalize zI (d :: t) = D
       intro CS HN Gm hbI
       have Gy := qI hbI
       clear hbI
       rw [Gh.o] at c1
       go_enter func123, ntmps123
       go_wp2_with fail
       rw [← Gh.o]
       refine CE.o.mono ?_
       rintro e w1 ⟨rfl, hp1, hk1⟩
       have Gb := qI hp1
       have Gc := qI hk1
       clear hp1 hk1 c1
       go_wp2_with fail
       refine (CR.o w1 _ _ rfl Gb.o).mono ?_
       rintro e w2 ⟨rfl, hk2⟩
       have Ga := qI hk2
       clear hk2
       go_wp2_with fail
       refine (CU2.o w2 (Gb.o.kept0 Ga.o)).mono ?_
       rintro e w3 ⟨rfl, hk3⟩
       have Gk := qI ((Gb.o.kept0 Ga.o).kept0 hk3)
       have Gg := qI ((Gc.o.then Ga.o).then hk3)
       clear hk3
       obtain ⟨i3, hp3, hi3, hc3, hr3⟩ := Gk.o.open_ok
       have hl3 := yv hr3 hi3
       have Ge := qI hp3
       have e1 := za (o := 1) (v := .int .i64 i3) hp3 rfl
       have e2 := zc (o := 1) hp3
       have hi3k : i3 + (d :: t).length ≤ S.size := by have := Gx.o; rw [List.length_cons] at *; omega
       have Gp := qI hi3k
       have Gq := qI hr3
       have Gr : Hid (i3 ≤ S.size ∧ c ≤ B) := qI ⟨hi3, hc3⟩
       have hi3I : (i3 : Int) + (t.length : Int) + 1 ≤ 262144 := by rw [List.length_cons] at hi3k; omega
       clear hp3 hr3 hl3 hi3k hc3
       go_wp2_with fail
       have hp4 : PS (w3.setCell ⟨p, 1, none⟩ (.int .i64 ((i3 + (d :: t).length : Nat)))) p S B (.inr (a :: q, c)) := by
        have h9 := PS.good (Ge.o.set1 (i3 + (d :: t).length)) Gp.o Gr.o.2
        rw [← List.drop_drop, Gq.o, H3.o] at h9
        exact h9
       rw [show ((i3 + (d :: t).length : Nat) : Int) = (i3 : Int) + ((t.length : Int) + 1) by simp only [List.length_cons, List.length_nil]; omega] at hp4
       have hk4 := (Gg.o).trans' (zT w3 p 1 (.int .i64 ((i3 : Int) + ((t.length : Int) + 1))))
       clear e1 e2
       revert hp4 hk4
       generalize w3.setCell ⟨p, 1, none⟩ (.int .i64 ((i3 : Int) + ((t.length : Int) + 1))) = w4
       intro hp4 hk4
       have Gj := qI hp4
       have Gs := qI hk4
       clear hp4 hk4
       refine (CR.o w4 _ _ rfl Gj.o).mono ?_
       rintro e w5 ⟨rfl, hk5⟩
       have Gn := qI (Gj.o.kept0 hk5)
       have Gt := qI (Gs.o.then hk5)
       clear hk5
       go_wp2_with fail
       refine (CI.o _).mono ?_
       rintro e w6 ⟨rfl, rfl⟩
       go_wp2_with fail
       refine (CS.o _).mono ?_
       rintro e w7 ⟨ha7, hk7⟩
       unfold qr at ha7
       rw [if_neg Gm.o] at ha7
       subst ha7
       have Gv := qI (Gn.o.kept0 hk7)
       have Gw := qI (Gt.o.then hk7)
       clear hk7
       have hbI := Gy.o
       go_wp2_with fail
       refine (jH (D : Int) _).mono ?_
       rintro e w9 ⟨rfl, hk9⟩
       unfold yq
       have Gl := qI (Gv.o.kept0 hk9)
       have Gd := qI (Gw.o.then hk9)
       clear hk9
       obtain ⟨⟨d0, d1, d2, d3, d4⟩, f0, f1, f2, f3, f4⟩ := (Gi.o.kept Gd.o Gf.o).facts
       go_wp2_with fail
       obtain ⟨WF, e⟩ : ∃ WF, WF = zy w9 w.heap.size (.int .i64 3) (.int .i64 (D : Int)) (.string ⟨#[]⟩) (.slice none 0 0) (.slice none 0 0) := ⟨_, rfl⟩
       obtain ⟨KF, x0, x1, x2, x3, x4⟩ := (Gi.o.kept Gd.o Gf.o).stored e
       unfold zy at e
       rw [← e]
       exact bodyPost_ret (v := .agg #[.int .i64 3, .int .i64 (D : Int), .string ⟨#[]⟩, .slice none 0 0, .slice none 0 0]) (by simp [results, results123, go_sem, x0, x1, x2, x3, x4]) rfl ⟨kM HN.o (Gl.o.kept KF (fun hx => Gf.o (by simp at hx; simp [hx]))), ((Gu.o.mono (by simp)).trans' Gd.o).trans KF (fun i hi => by simp at hi; exact .inr (by omega))⟩
end
end Go.Proofs.YtpbphdkjjoipnaaGreatDoor
