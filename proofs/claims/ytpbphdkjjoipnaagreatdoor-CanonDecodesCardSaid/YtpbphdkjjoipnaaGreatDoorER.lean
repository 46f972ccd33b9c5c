/- Parts of one proof, merged: XQD XQE XQV. -/
import Derived.Test.YtpbphdkjjoipnaaGreatDoorEQ
import Derived.Test.YtpbphdkjjoipnaaGreatDoorEB
import Derived.Test.YtpbphdkjjoipnaaGreatDoorEK
set_option linter.all false
set_option maxHeartbeats 12800000
set_option maxRecDepth 10000
set_option linter.unusedVariables false
set_option linter.unusedSimpArgs false
set_option linter.unnecessarySimpa false
namespace Go.Proofs.YtpbphdkjjoipnaaGreatDoor
open Go.RowKit
def QNumAns (r : List UInt8) (c p : Nat) (S : ByteArray) (B : Nat) (e : Ending) (w' : World) : Prop :=
 ∃ z : Int, e = .returned (.int .i64 z) ∧ match numL r with
  | .inl x => QS w' p S B (.inl x)
  | .inr (n, r') => z = n ∧ QS w' p S B (.inr (r', c))
theorem qnum_bad {r : List UInt8} {c p B : Nat} {S : ByteArray} {w : World} {x z : Int} (h : numL r = .inl x) (hq : QS w p S B (.inl x)) : QNumAns r c p S B (.returned (.int .i64 z)) w := ⟨z, rfl, by rw [h]; exact hq⟩
theorem qnum_ok {r r' : List UInt8} {c p B : Nat} {S : ByteArray} {w : World} {n z : Int} (h : numL r = .inr (n, r')) (hz : z = n) (hq : QS w p S B (.inr (r', c))) : QNumAns r c p S B (.returned (.int .i64 z)) w := ⟨z, rfl, by rw [h]; exact ⟨hz, hq⟩⟩
theorem wrap64_id {x : Int} (h0 : -9223372036854775808 ≤ x) (h1 : x ≤ 9223372036854775807) : wrap64 x = x := by unfold wrap64; omega
theorem digs_at {R : List UInt8} {k : Nat} (hk : k < (R.takeWhile isDig).length) : ∃ d, (R.takeWhile isDig)[k] = d ∧ R.drop k = d :: R.drop (k + 1) ∧ isDig d = true := by
 have hp : R.takeWhile isDig <+: R := List.takeWhile_prefix _
 have hl := hp.length_le
 have h2 : k < R.length := by omega
 refine ⟨_, rfl, ?_, ?_⟩
 ·rw [List.drop_eq_getElem_cons h2, List.IsPrefix.getElem hp hk]
 ·have := List.all_takeWhile (p := isDig) (l := R)
  exact List.all_eq_true.1 this _ (List.getElem_mem hk)
theorem digs_end (R : List UInt8) : ∀ d t, R.drop (R.takeWhile isDig).length = d :: t → isDig d = false := by
 induction R with
 | nil => intro d t h; simp at h
 | cons a R ih =>
  intro d t h
  cases ha : isDig a with
  | true =>
   rw [List.takeWhile_cons_of_pos ha] at h
   exact ih d t (by simpa using h)
  | false =>
   rw [List.takeWhile_cons_of_neg (by rw [ha]; decide)] at h
   simp only [List.length_nil, List.drop_zero, List.cons.injEq] at h
   rw [← h.1]; exact ha
theorem dig_range {d : UInt8} (h : isDig d = true) : 48 ≤ d.toNat ∧ d.toNat ≤ 57 := by
 unfold isDig at h
 simpa using h
theorem dig_not {d : UInt8} (h : isDig d = false) : d.toNat < 48 ∨ 57 < d.toNat := by
 unfold isDig at h
 simp only [Bool.and_eq_false_iff, decide_eq_false_iff_not] at h
 omega
theorem digSum_take {l : List UInt8} {k : Nat} (h : k < l.length) : digSum (l.take (k + 1)) = 10 * digSum (l.take k) + (l[k].toNat - 48) := by
 rw [List.take_succ_eq_append_getElem h, digSum_snoc]
theorem behind_cases (s : List UInt8) (c : Nat) (h : ∀ d t, s = d :: t → isDig d = false) :
  (headIn s [46, 101, 69] = true ∧ (nextB (.inr (s, c)) = 46 ∨ nextB (.inr (s, c)) = 101 ∨ nextB (.inr (s, c)) = 69)) ∨ (headIn s [46, 101, 69] = false ∧ (nextB (.inr (s, c)) < 48 ∨ 57 < nextB (.inr (s, c))) ∧ nextB (.inr (s, c)) ≠ 46 ∧ nextB (.inr (s, c)) ≠ 101 ∧ nextB (.inr (s, c)) ≠ 69) := by
 cases s with
 | nil => exact .inr ⟨rfl, by show 0 < 48 ∨ _; omega, by show 0 ≠ 46; decide, by show 0 ≠ 101; decide, by show 0 ≠ 69; decide⟩
 | cons d t =>
  have hd := dig_not (h d t rfl)
  have hn : nextB (.inr (d :: t, c)) = d.toNat := rfl
  have hi : headIn (d :: t) [46, 101, 69] = ([46, 101, 69] : List UInt8).contains d := rfl
  rw [hn, hi]
  by_cases h1 : d = 46
  ·subst h1; exact .inl ⟨by decide, .inl rfl⟩
  by_cases h2 : d = 101
  ·subst h2; exact .inl ⟨by decide, .inr (.inl rfl)⟩
  by_cases h3 : d = 69
  ·subst h3; exact .inl ⟨by decide, .inr (.inr rfl)⟩
  ·refine .inr ⟨by simp [h1, h2, h3], hd, fun e => h1 (UInt8.toNat_inj.1 e), fun e => h2 (UInt8.toNat_inj.1 e), fun e => h3 (UInt8.toNat_inj.1 e)⟩
section
variable {w : World} {p B : Nat} {S : ByteArray} {x : PX}
theorem num_eaten (r : List UInt8) (c : Nat) : eatB [45] (.inr (r, c)) = numM r ∧ eatX [45] (.inr (r, c)) = .inr (numR r, c) := by
 have h := head_eats 45 r c
 unfold numR numM
 by_cases q : r.head? = some 45
 ·rw [h.1, h.2.1 q, decide_eq_true q, if_pos rfl]; exact ⟨rfl, rfl⟩
 ·rw [h.1, h.2.2 q, decide_eq_false q, if_neg (by decide)]; exact ⟨rfl, rfl⟩
theorem qnumber_any {r : List UInt8} {c : Nat} (h : QS w p S B (.inr (r, c))) (hS : S.size ≤ 262144) :
  Calls Tryz.prog 107 #[.pointer (some ⟨p, 0, none⟩)] w fun e w' => QNumAns r c p S B e w' ∧ Kept [p] w w' := by
 have CW := qI (qword_any h hS ⟨#[45]⟩ (by decide))
 rw [show (⟨#[45]⟩ : ByteArray).data.toList = [45] from rfl, (num_eaten r c).1, (num_eaten r c).2] at CW
 obtain ⟨i0, h1, hi0, hc0, hr0⟩ := h.open_ok
 obtain ⟨c0, c1, c2, c3, fz⟩ := h1.cells
 have Jp : Hid (i0 ≤ S.size) := qI hi0
 have Ye := qI hc0
 have Ge : Hid (S.size ≤ 262144) := qI hS
 clear h h1 fz hi0 hc0 hr0
 go_enter Tryz.func107, Tryz.ntmps107
 go_wp2_with fail
 clear c0 c1 c2 c3
 refine CW.o.mono ?_
 rintro e w1 ⟨rfl, hq1, hk1⟩
 have Gg := qI hq1
 have Gn := qI hk1
 have CN1 : Hid (∀ w', Kept [] w1 w' → Calls Tryz.prog 101 #[.pointer (some ⟨p, 0, none⟩)] w' fun r' w'' => r' = .returned (.int .u8 (nextB (.inr (numR r, c)) : Int)) ∧ Kept [] w' w'') := qI (fun w' k => qnext_any (Gg.o.kept0 k) hS)
 clear hq1 hk1 CW
 obtain ⟨mi, hmi⟩ : ∃ mi, numM r = mi := ⟨_, rfl⟩
 obtain ⟨R, hR⟩ : ∃ R, numR r = R := ⟨_, rfl⟩
 have hD : numD r = R.takeWhile isDig := by unfold numD; rw [hR]
 have CF1 : Hid (∀ w', Kept [] w1 w' → ∀ e : Int, 0 < e → e ≤ 1000 → Calls Tryz.prog 72 #[.pointer (some ⟨p, 0, none⟩), .int .i64 i0, .int .i64 e] w' fun r' w'' => r' = .returned (.tuple #[]) ∧ QS w'' p S B (.inl e) ∧ Kept [p] w' w'') := qI (fun w' k e h0 h9 => qfail_any (Gg.o.kept0 k) i0 e Jp.o h0 h9)
 rw [hR] at Gg CN1
 rw [hmi]
 cases hds : R.takeWhile isDig with
 | nil =>
  have HN := qI (num_none (r := r) (by rw [hD, hds]))
  have hb : nextB (.inr (R, c)) < 48 ∨ 57 < nextB (.inr (R, c)) := by
   cases R with
   | nil => exact .inl (by show 0 < 48; decide)
   | cons d t =>
    cases hd : isDig d with
    | true => rw [List.takeWhile_cons_of_pos hd] at hds; cases hds
    | false => exact dig_not hd
  clear hds hD hmi hR
  have hz : decide ((nextB (.inr (R, c)) : Int) < 48) = true ∨ (decide ((nextB (.inr (R, c)) : Int) < 48) = false ∧ decide ((57 : Int) < (nextB (.inr (R, c)) : Int)) = true) := by
   rcases hb with q | q
   ·exact .inl (decide_eq_true (by omega))
   ·exact .inr ⟨decide_eq_false (by omega), decide_eq_true (by omega)⟩
  clear hb
  revert CN1 hz
  generalize (nextB (.inr (R, c)) : Int) = b
  intro CN1 hz
  have CF := qI (fun w' k => CF1.o w' k 50 (by decide) (by decide))
  go_wp2_with fail
  refine (CN1.o _ (Kept.refl _ _)).mono ?_
  rintro e w2 ⟨rfl, hk2⟩
  have Gp := qI hk2
  clear hk2
  rcases hz with f1 | ⟨f1, f2⟩
  all_goals
   go_wp2_with fail
   refine (CF.o _ Gp.o).mono ?_
   rintro e w3 ⟨rfl, hq3, hk3⟩
   go_wp2_with fail
   go_ret
   exact ⟨qnum_bad HN.o hq3, (Gn.o.then Gp.o).trans' hk3⟩
 | cons d0 t =>
 have hr0 : R.drop 0 = d0 :: R.drop 1 ∧ isDig d0 = true := by
  obtain ⟨d, e1, e2, e3⟩ := digs_at (R := R) (k := 0) (by rw [hds]; simp)
  have e4 : d = d0 := by rw [← e1]; simp [hds]
  subst e4
  exact ⟨e2, e3⟩
 have hnb : nextB (.inr (R, c)) = d0.toNat := by
  have := hr0.1
  rw [List.drop_zero] at this
  rw [this]; rfl
 have hdr := dig_range hr0.2
 have hdD : numD r = d0 :: t := by rw [hD, hds]
 rw [hnb] at CN1
 have f1 : decide ((d0.toNat : Int) < 48) = false := decide_eq_false (by omega)
 have f2 : decide ((57 : Int) < (d0.toNat : Int)) = false := decide_eq_false (by omega)
 by_cases hz0 : d0 = 48 ∧ mi = true
 ·obtain ⟨rfl, rfl⟩ := hz0
  have HN := qI (num_zero hdD (.inl hmi))
  have CF := qI (fun w' k => CF1.o w' k 50 (by decide) (by decide))
  clear hdD hD hds hr0 hnb hmi hR hdr f1 f2
  go_wp2_with fail
  refine (CN1.o _ (Kept.refl _ _)).mono ?_
  rintro e w2 ⟨rfl, hk2⟩
  have Gp := qI hk2
  clear hk2
  go_wp2_with fail
  refine (CF.o _ Gp.o).mono ?_
  rintro e w3 ⟨rfl, hq3, hk3⟩
  go_wp2_with fail
  go_ret
  exact ⟨qnum_bad HN.o hq3, (Gn.o.then Gp.o).trans' hk3⟩
 have hzm : mi = false ∨ (mi = true ∧ ((d0.toNat : Int) == 48) = false) := by
  cases mi with
  | false => exact .inl rfl
  | true => exact .inr ⟨rfl, (int_ne (fun e => hz0 ⟨UInt8.toNat_inj.1 (show d0.toNat = 48 by omega), rfl⟩)).1⟩
 obtain ⟨ds, hdsv⟩ : ∃ ds, R.takeWhile isDig = ds := ⟨_, rfl⟩
 have Mm : Hid (∀ k, k < ds.length → ∃ d, R.drop k = d :: R.drop (k + 1) ∧ 48 ≤ d.toNat ∧ d.toNat ≤ 57 ∧ digSum (ds.take (k + 1)) = 10 * digSum (ds.take k) + (d.toNat - 48)) := qI (fun k hk => by
  subst hdsv
  obtain ⟨d, e1, e2, e3⟩ := digs_at hk
  have e4 := dig_range e3
  exact ⟨d, e2, e4.1, e4.2, by rw [digSum_take hk, e1]⟩)
 have Jq : Hid (∀ d t, R.drop ds.length = d :: t → isDig d = false) := qI (by rw [← hdsv]; exact digs_end R)
 have Gq : Hid (ds = d0 :: t ∧ numD r = ds) := qI ⟨by rw [← hdsv, hds], by rw [hD, hdsv]⟩
 have Gd : Hid (numR r = R ∧ numM r = mi) := qI ⟨hR, hmi⟩
 have hdl : ds.length ≤ 262144 := by
  have h9 := (List.takeWhile_prefix isDig (l := R)).length_le
  rw [hdsv] at h9
  obtain ⟨i, h1, hi, hc, hr⟩ := Gg.o.open_ok
  have := drop_len hr hi
  omega
 have Mn := qI hdl
 have Jy : Hid (¬ (d0 = 48 ∧ mi = true)) := qI hz0
 clear hdD hD hds hr0 hnb hmi hR hdr hz0 hdsv hdl
 go_wp2_with fail
 refine (CN1.o _ (Kept.refl _ _)).mono ?_
 rintro e w2 ⟨rfl, hk2⟩
 have Jr := qI (Gg.o.kept0 hk2)
 have Gp := qI (Gn.o.then hk2)
 clear hk2 CN1
 rcases hzm with rfl | ⟨rfl, f3⟩
 case' inl => go_wp2_with fail
 case' inr =>
  go_wp2_with fail
  clear f3
 all_goals
  clear f1 f2
  go_loopw [6, 7, 8] (fun xx dd bb wr => ∃ (k m : Nat) (g : Bool), xx = .int .i64 (m : Int) ∧ dd = .int .i64 (k : Int) ∧ bb = .bool g ∧ k ≤ ds.length ∧ Hid (m ≤ 100000000000000000) ∧ Hid (if g = true then 9007199254740991 < digSum (ds.take k) else (m = digSum (ds.take k) ∧ m ≤ 9007199254740991)) ∧ QS wr p S B (.inr (R.drop k, c)) ∧ Kept [p] w wr) (fun _ dd _ _ => ds.length - (intOf dd).toNat)
  case atStart => exact ⟨0, 0, false, rfl, rfl, rfl, Nat.zero_le _, qI (by decide), qI (by rw [if_neg (by decide)]; exact ⟨rfl, by decide⟩), Jr.o, Gp.o⟩
  case round =>
   obtain ⟨k, m, g, rfl, rfl, rfl, hk, HM, HG, hq, hkr⟩ := hrel
   have HQ := qI hq
   have Jb := qI hkr
   have CN : Hid (∀ w', Kept [] wr w' → Calls Tryz.prog 101 #[.pointer (some ⟨p, 0, none⟩)] w' fun r' w'' => r' = .returned (.int .u8 (nextB (.inr (R.drop k, c)) : Int)) ∧ Kept [] w' w'') := qI (fun w' q => qnext_any (HQ.o.kept0 q) Ge.o)
   have Ga := qI (Kept.refl [] wr)
   obtain ⟨i, h1, hi, hc, hr⟩ := HQ.o.open_ok
   have H1 := qI h1
   have HR := qI hr
   have hroom := drop_len hr hi
   have Gr : Hid (∀ w', Kept [] wr w' → w'.cell? ⟨p, 1, none⟩ = some (.int .i64 i) ∧ w'.frozen? ⟨p, 1, none⟩ = false) := qI (fun w' q => by
    have h9 := q.heap H1.o (by simp)
    exact ⟨cell_head (o := 1) h9 rfl, free_head (o := 1) h9⟩)
   clear hq hkr h1 hr
   by_cases hlt : k < ds.length
   ·obtain ⟨d, hd2, hd3, hd4, hd5⟩ := Mm.o k hlt
    have hnb : nextB (.inr (R.drop k, c)) = d.toNat := by rw [hd2]; rfl
    rw [hnb] at CN
    have Gx := qI hlt
    have Gs : Hid (∀ w', Kept [] wr w' → QS (w'.setCell ⟨p, 1, none⟩ (.int .i64 ((i : Int) + 1))) p S B (.inr (R.drop (k + 1), c)) ∧ Kept [p] w (w'.setCell ⟨p, 1, none⟩ (.int .i64 ((i : Int) + 1)))) := qI (fun w' q => by
     rw [show (i : Int) + 1 = ((i + 1 : Nat) : Int) by omega]
     have h9 : QAt w' p S i c 0 := q.heap H1.o (by simp)
     have h8 := QS.good (B := B) (h9.set1 (i + 1)) (by rw [hd2] at hroom; simp only [List.length_cons] at hroom; omega) hc
     rw [← List.drop_drop, HR.o, List.drop_drop] at h8
     exact ⟨h8, (Jb.o.then q).trans' (kept_set _ _ _ _)⟩)
    have Gk := qI hd5
    obtain ⟨z, hz⟩ : ∃ z : Int, (d.toNat : Int) = z := ⟨_, rfl⟩
    have HZ := qI hz
    have hz1 : (48 : Int) ≤ z := by omega
    have hz2 : z ≤ (57 : Int) := by omega
    have hiI : (i : Int) < 262144 := by rw [hd2] at hroom; simp only [List.length_cons] at hroom; have := Ge.o; omega
    have hkI : (k : Int) < 262144 := by have := Mn.o; omega
    rw [hz] at CN
    clear hd2 hd3 hd4 hd5 hnb hlt hroom hi hc hz hk
    cases g with
    | true =>
     have hg := HG.o
     rw [if_pos rfl] at hg
     have Jc : Hid (9007199254740991 < digSum (ds.take (k + 1))) := qI (by rw [Gk.o]; omega)
     clear hg
     go_wp2_with (go_at_call 101; refine (CN.o _ Ga.o).mono ?_; rintro e w9 ⟨rfl, hk9⟩; replace Ga := qI (Ga.o.then hk9); obtain ⟨d1, d2⟩ := Gr.o _ Ga.o; clear hk9)
     case roundEnd =>
      obtain ⟨e1, e2⟩ := Gs.o _ Ga.o
      exact ⟨⟨k + 1, m, true, rfl, by go_num, rfl, Gx.o, HM, qI (by rw [if_pos rfl]; exact Jc.o), e1, e2⟩, by have := Gx.o; simp [intOf]; omega⟩
    | false =>
     have hg := HG.o
     rw [if_neg (by decide)] at hg
     obtain ⟨m', hm'⟩ : ∃ m' : Nat, m' = 10 * m + (d.toNat - 48) := ⟨_, rfl⟩
     have hx : wrap64 (wrap64 (10 * (m : Int)) + (z - 48)) = (m' : Int) := by
      have h8 := HZ.o
      rw [wrap64_id (x := 10 * (m : Int)) (by omega) (by omega), wrap64_id (by omega) (by omega), hm']
      omega
     have Jl : Hid (m' = digSum (ds.take (k + 1)) ∧ m' ≤ 100000000000000000) := qI (by rw [Gk.o, ← hg.1]; exact ⟨hm', by have := HZ.o; omega⟩)
     clear hg hm'
     by_cases hbig : 9007199254740991 < m'
     ·have Jc : Hid (9007199254740991 < digSum (ds.take (k + 1))) := qI (by rw [← Jl.o.1]; exact hbig)
      have hb2 : decide ((9007199254740991 : Int) < (m' : Int)) = true := decide_eq_true (by omega)
      clear hbig
      go_wp2_with (go_at_call 101; refine (CN.o _ Ga.o).mono ?_; rintro e w9 ⟨rfl, hk9⟩; replace Ga := qI (Ga.o.then hk9); obtain ⟨d1, d2⟩ := Gr.o _ Ga.o; clear hk9)
      case roundEnd =>
       obtain ⟨e1, e2⟩ := Gs.o _ Ga.o
       exact ⟨⟨k + 1, m', true, by first | rfl | rw [hx], by go_num, by first | rfl | rw [hb2], Gx.o, qI Jl.o.2, qI (by rw [if_pos rfl]; exact Jc.o), e1, e2⟩, by have := Gx.o; simp [intOf]; omega⟩
     ·have Jc : Hid (m' ≤ 9007199254740991) := qI (by omega)
      have hb2 : decide ((9007199254740991 : Int) < (m' : Int)) = false := decide_eq_false (by omega)
      clear hbig
      go_wp2_with (go_at_call 101; refine (CN.o _ Ga.o).mono ?_; rintro e w9 ⟨rfl, hk9⟩; replace Ga := qI (Ga.o.then hk9); obtain ⟨d1, d2⟩ := Gr.o _ Ga.o; clear hk9)
      case roundEnd =>
       obtain ⟨e1, e2⟩ := Gs.o _ Ga.o
       exact ⟨⟨k + 1, m', false, by first | rfl | rw [hx], by go_num, by first | rfl | rw [hb2], Gx.o, qI Jl.o.2, qI (by rw [if_neg (by decide)]; exact ⟨Jl.o.1, Jc.o⟩), e1, e2⟩, by have := Gx.o; simp [intOf]; omega⟩
   ·obtain rfl : k = ds.length := by omega
    have hbc := behind_cases (R.drop ds.length) c Jq.o
    obtain ⟨b, hb⟩ : ∃ b : Nat, nextB (.inr (R.drop ds.length, c)) = b := ⟨_, rfl⟩
    rw [hb] at hbc CN
    have CFF : Hid (∀ w', Kept [] wr w' → ∀ (j : Nat) (e : Int), j ≤ S.size → 0 < e → e ≤ 1000 → Calls Tryz.prog 72 #[.pointer (some ⟨p, 0, none⟩), .int .i64 j, .int .i64 e] w' fun r' w'' => r' = .returned (.tuple #[]) ∧ QS w'' p S B (.inl e) ∧ Kept [p] w' w'') := qI (fun w' q j e h1 h2 h3 => qfail_any (HQ.o.kept0 q) j e h1 h2 h3)
    have HI : Hid (i ≤ S.size) := qI hi
    have Jz : Hid (if g = true then 9007199254740991 < digSum ds else (m = digSum ds ∧ m ≤ 9007199254740991)) := qI (by have h9 := HG.o; rw [List.take_length] at h9; exact h9)
    have hx : decide ((48 : Int) ≤ b) = false ∨ (decide ((48 : Int) ≤ b) = true ∧ decide ((b : Int) ≤ 57) = false) := by
     by_cases q : (48 : Int) ≤ b
     ·refine .inr ⟨decide_eq_true q, decide_eq_false ?_⟩
      rcases hbc with ⟨-, h | h | h⟩ | ⟨-, h, -⟩ <;> omega
     ·exact .inl (decide_eq_false q)
    have HX := qI hx
    clear hx hb hk hlt hi hc hroom HG
    by_cases hzz : d0 = 48 ∧ t ≠ []
    ·obtain ⟨rfl, ht⟩ := hzz
     have HN := qI (num_zero (Gq.o.2.trans Gq.o.1) (.inr ht))
     have h1 : decide ((1 : Int) < ds.length) = true := decide_eq_true (by rw [Gq.o.1, List.length_cons]; have := List.length_pos_iff.2 ht; omega)
     clear ht hbc
     rcases HX.o with q1 | ⟨q1, q2⟩
     all_goals
      go_wp2_with (go_at_call 101; refine (CN.o _ Ga.o).mono ?_; rintro e w9 ⟨rfl, hk9⟩; replace Ga := qI (Ga.o.then hk9); obtain ⟨d1, d2⟩ := Gr.o _ Ga.o; clear hk9)
      refine (CFF.o _ Ga.o i0 50 Jp.o (by decide) (by decide)).mono ?_
      rintro e w8 ⟨rfl, hq8, hk8⟩
      go_wp2_with fail
      go_ret
      exact ⟨qnum_bad HN.o hq8, (Jb.o.then Ga.o).trans' hk8⟩
    ·have Js : Hid (numL r = if headIn (R.drop ds.length) [46, 101, 69] = true then .inl 51 else if 9007199254740991 < digSum ds then .inl 52 else .inr (if numM r = true then -(digSum ds : Int) else digSum ds, R.drop ds.length)) := qI (by
      have h9 := num_fine (Gq.o.2.trans Gq.o.1) (fun q => by
       rcases q.2 with q2 | q2
       ·first | exact Jy.o ⟨q.1, Gd.o.2.symm.trans q2⟩ | exact Jy.o ⟨q.1, trivial⟩ | exact absurd (Gd.o.2.symm.trans q2) (by decide)
       ·exact hzz ⟨q.1, q2⟩)
      rw [Gd.o.1, Gq.o.2] at h9
      exact h9)
     have q0 : ((d0.toNat : Int) == 48) = false ∨ (((d0.toNat : Int) == 48) = true ∧ decide ((1 : Int) < ds.length) = false) := by
      by_cases q : d0 = 48
      ·refine .inr ⟨(int_eq (by rw [q]; rfl)).1, decide_eq_false ?_⟩
       have ht : t = [] := Classical.byContradiction fun e => hzz ⟨q, e⟩
       rw [Gq.o.1, ht]
       simp
      ·exact .inl (int_ne (fun e => q (UInt8.toNat_inj.1 (show d0.toNat = 48 by omega)))).1
     have Q0 := qI q0
     clear hzz q0
     rcases hbc with ⟨hh, hb3⟩ | ⟨hh, -, n1, n2, n3⟩
     ·have HN : Hid (numL r = .inl 51) := qI (by rw [Js.o, if_pos hh])
      clear hh
      rcases hb3 with rfl | rfl | rfl <;> rcases Q0.o with q0 | ⟨q0, q0'⟩
      all_goals
       go_wp2_with (go_at_call 101; refine (CN.o _ Ga.o).mono ?_; rintro e w9 ⟨rfl, hk9⟩; replace Ga := qI (Ga.o.then hk9); obtain ⟨d1, d2⟩ := Gr.o _ Ga.o; clear hk9)
       refine (CFF.o _ Ga.o i 51 HI.o (by decide) (by decide)).mono ?_
       rintro e w8 ⟨rfl, hq8, hk8⟩
       go_wp2_with fail
       go_ret
       exact ⟨qnum_bad HN.o hq8, (Jb.o.then Ga.o).trans' hk8⟩
     ·have p1 : ((b : Int) == 46) = false := (int_ne (by omega)).1
      have p2 : ((b : Int) == 101) = false := (int_ne (by omega)).1
      have p3 : ((b : Int) == 69) = false := (int_ne (by omega)).1
      clear n1 n2 n3
      cases g with
      | true =>
       have hg := Jz.o
       rw [if_pos rfl] at hg
       have HN : Hid (numL r = .inl 52) := qI (by rw [Js.o, if_neg (by rw [hh]; decide), if_pos hg])
       clear hh hg
       rcases HX.o with q1 | ⟨q1, q2⟩ <;> rcases Q0.o with q0 | ⟨q0, q0'⟩
       all_goals
        go_wp2_with (go_at_call 101; refine (CN.o _ Ga.o).mono ?_; rintro e w9 ⟨rfl, hk9⟩; replace Ga := qI (Ga.o.then hk9); obtain ⟨d1, d2⟩ := Gr.o _ Ga.o; clear hk9)
        refine (CFF.o _ Ga.o i0 52 Jp.o (by decide) (by decide)).mono ?_
        rintro e w8 ⟨rfl, hq8, hk8⟩
        go_wp2_with fail
        go_ret
        exact ⟨qnum_bad HN.o hq8, (Jb.o.then Ga.o).trans' hk8⟩
      | false =>
       have hg := Jz.o
       rw [if_neg (by decide)] at hg
       have Mo := qI hg
       have HN : Hid (numL r = .inr (if numM r = true then -(digSum ds : Int) else digSum ds, R.drop ds.length)) := qI (by rw [Js.o, if_neg (by rw [hh]; decide), if_neg (by omega)])
       clear hh hg
       rcases HX.o with q1 | ⟨q1, q2⟩ <;> rcases Q0.o with q0 | ⟨q0, q0'⟩
       all_goals
        go_wp2_with (go_at_call 101; refine (CN.o _ Ga.o).mono ?_; rintro e w9 ⟨rfl, hk9⟩; replace Ga := qI (Ga.o.then hk9); obtain ⟨d1, d2⟩ := Gr.o _ Ga.o; clear hk9)
        go_ret
        exact ⟨qnum_ok HN.o (by
         have h8 := Mo.o
         first
         | (rw [Gd.o.2, if_neg (by decide)]; omega)
         | (rw [Gd.o.2, if_pos rfl]; first | omega | (rw [wrap64_id (by omega) (by omega)]; omega))) (HQ.o.kept0 Ga.o), (Jb.o.then Ga.o)⟩
end
theorem QS.narrow {w : World} {p : Nat} {S : ByteArray} {r : List UInt8} {c : Nat} (h : QS w p S 4097 (.inr (r, c))) (hc : c ≤ 4096) : QS w p S 4096 (.inr (r, c)) := by
 obtain ⟨i, c', e, h1, h2, h3, h4⟩ := h
 exact ⟨i, c', e, h1, h2, by rw [h4.2.2]; exact hc, h4⟩
theorem QS.wide {w : World} {p : Nat} {S : ByteArray} {x : PX} (h : QS w p S 4096 x) : QS w p S 4097 x := by
 obtain ⟨i, c', e, h1, h2, h3, h4⟩ := h
 exact ⟨i, c', e, h1, h2, by omega, h4⟩
def QValAns (d : Nat) (s : List UInt8) (c p : Nat) (S : ByteArray) (w : World) (e : Ending) (w' : World) : Prop :=
 ∃ cs : List Value, e = .returned (.agg cs.toArray) ∧ Shape cs ∧ Kept [p] w w' ∧
  match pValue d s c with
  | .inl x => QS w' p S 4097 (.inl x)
  | .inr (v, r, c') => QS w' p S 4096 (.inr (r, c')) ∧ OwnRep d w.heap.size w' cs v
def QValKnown (d : Nat) : Prop := ∀ {w : World} {p : Nat} {S : ByteArray} {s : List UInt8} {c : Nat}, QS w p S 4096 (.inr (s, c)) → S.size ≤ 262144 →
 Calls Tryz.prog 71 #[.pointer (some ⟨p, 0, none⟩), .int .i64 d] w fun e w' => QValAns d s c p S w e w'
def QBoth (d : Nat) (R : Sum Int (VS (V d) × List UInt8 × Nat)) (p : Nat) (S : ByteArray) (w : World) (e : Ending) (w' : World) : Prop :=
 ∃ cs : List Value, e = .returned (.agg cs.toArray) ∧ Shape cs ∧ Kept [p] w w' ∧
  match R with
  | .inl x => QS w' p S 4097 (.inl x)
  | .inr (v, r, c') => QS w' p S 4096 (.inr (r, c')) ∧ OwnRep (d + 1) w.heap.size w' cs v
theorem qboth_bad {d p : Nat} {R : Sum Int (VS (V d) × List UInt8 × Nat)} {S : ByteArray} {w w' : World} {cs : List Value} {x : Int} (h : R = .inl x) (h1 : Shape cs) (h2 : Kept [p] w w') (h3 : QS w' p S 4097 (.inl x)) : QBoth d R p S w (.returned (.agg cs.toArray)) w' := ⟨cs, rfl, h1, h2, by rw [h]; exact h3⟩
theorem qboth_ok {d p : Nat} {R : Sum Int (VS (V d) × List UInt8 × Nat)} {S : ByteArray} {w w' : World} {cs : List Value} {v : VS (V d)} {r : List UInt8} {c' : Nat} (h : R = .inr (v, r, c')) (h1 : Shape cs) (h2 : Kept [p] w w') (h3 : QS w' p S 4096 (.inr (r, c'))) (h4 : OwnRep (d + 1) w.heap.size w' cs v) : QBoth d R p S w (.returned (.agg cs.toArray)) w' := ⟨cs, rfl, h1, h2, by rw [h]; exact ⟨h3, h4⟩⟩
structure QJ (W : World) (bv p d : Nat) (acc : List (V d)) (w : World) (vl : Value) (lcs : List (List Value)) : Prop where
 kept : Kept [p, bv] W w
 blk : w.heap[bv]? = some (.cells (valA 5 0 ⟨#[]⟩ vl (.slice none 0 0)) 25 (0, 0))
 row : w.ownsRow W.heap.size 25 5 vl acc.length lcs.flatten
 all : All2 (Rep d (fun g => W.heap.size ≤ g ∧ vl.ownBlock ≠ some g) w) lcs acc
section
variable {W w w' : World} {bv p d : Nat}
theorem QJ.step {acc : List (V d)} {vl : Value} {lcs : List (List Value)} (h : QJ W bv p d acc w vl lcs) (hp : p < W.heap.size) (hv : p ≠ bv) (k : Kept [p] w w') : QJ W bv p d acc w' vl lcs :=
 ⟨h.kept.trans k (fun i hi => by simp at hi; exact .inl (by simp [hi])), k.heap h.blk (by simpa using hv.symm), row_kept h.row k (fun g hg hx => by simp at hx; have := (h.row.lt g hg).1; omega), h.all.mono fun _ _ _ r => r.move k (fun g _ q => ⟨fun hx => by simp at hx; omega, q⟩)⟩
theorem QJ.snoc {acc : List (V d)} {vl vl' : Value} {lcs : List (List Value)} {w5 w6 wF : World} {cs : List Value} {v : V d} {Bc : Nat} (h : QJ W bv p d acc w vl lcs) (hp : p < W.heap.size) (hv : bv < W.heap.size)
  (kw : Kept [p, bv] W wF) (hblk : wF.heap[bv]? = some (.cells (valA 5 0 ⟨#[]⟩ vl' (.slice none 0 0)) 25 (0, 0))) (k5 : Kept [p] w w5) (k6 : Kept vl.ownBlock.toList w5 w6) (kF : Kept [bv] w6 wF)
  (hown : vl'.ownBlock = vl.ownBlock ∨ vl'.ownBlock = some w5.heap.size) (hrow : wF.ownsRow W.heap.size 25 5 vl' (acc.length + 1) (lcs.flatten ++ cs)) (hrep : Rep d (fun i => Bc ≤ i) w5 cs v) (hB : w.heap.size ≤ Bc) : QJ W bv p d (acc ++ [v]) wF vl' (lcs ++ [cs]) := by
 have hz := h.kept.size
 have hz5 := k5.size
 refine ⟨kw, hblk, by rw [List.length_append, List.flatten_append]; simpa using hrow, All2.snoc (h.all.mono fun c y _ r => ?_) ?_⟩
 ·refine ((r.move (T := fun i => W.heap.size ≤ i ∧ vl.ownBlock ≠ some i ∧ i < w.heap.size) k5 (fun i hi q => ⟨fun hx => by simp at hx; omega, q.1, q.2, hi⟩)).move (T := fun i => W.heap.size ≤ i ∧ vl.ownBlock ≠ some i ∧ i < w.heap.size) k6 (fun i hi q => ⟨fun hx => q.2.1 (Option.mem_toList.1 hx), q⟩)).move kF (fun i hi q => ⟨fun hx => by simp at hx; omega, q.1, fun hx => ?_⟩)
  rcases hown with e | e
  ·exact q.2.1 (e.symm.trans hx)
  ·rw [e] at hx
   injection hx with hx
   omega
 ·refine (hrep.move (T := fun i => Bc ≤ i ∧ i < w5.heap.size) k6 (fun i hi q => ⟨fun hx => ?_, q, hi⟩)).move kF (fun i hi q => ⟨fun hx => by simp at hx; omega, by omega, fun hx => ?_⟩)
  ·have := (h.row.lt i (Option.mem_toList.1 hx)).2; omega
  ·rcases hown with e | e
   ·have := (h.row.lt i (e.symm.trans hx)).2; omega
   ·rw [e] at hx
    injection hx with hx
    omega
end
section
variable {w : World} {p d : Nat} {S : ByteArray} {s : List UInt8} {c f : Nat}
theorem qlist_any (IH0 : QValKnown d) (hd : d ≤ 100) (hs : QS w p S 4096 (.inr (s, c))) (hS : S.size ≤ 262144) (hf : s.length < f) :
  Calls Tryz.prog 105 #[.pointer (some ⟨p, 0, none⟩), .int .i64 d] w fun e w' => QBoth d (asList (pItems (listStep (pValue d)) 93 f s c [])) p S w e w' := by
 have IH := @qI (QValKnown d) (by exact @IH0)
 obtain ⟨W0, Gf⟩ : ∃ W0, Hid (W0 = (w.alloc (.cells #[.int .i64 0, .int .i64 0, .string ⟨#[]⟩, .slice none 0 0, .slice none 0 0] 25)).alloc (.cells #[.int .i64 5, .int .i64 0, .string ⟨#[]⟩, .slice none 0 0, .slice none 0 0] 25)) := ⟨_, qI rfl⟩
 have Ge : Hid (W0.heap.size = w.heap.size + 2) := qI (by rw [Gf.o]; simp)
 have Gt : Hid (Kept [] w W0) := qI (by rw [Gf.o]; exact ((Kept.refl [] w).alloc _).alloc _)
 have Gb : Hid (p < w.heap.size) := qI hs.lt
 have Jd : Hid (ResAt W0 w.heap.size) := qI (by rw [Gf.o]; exact ((Kept.refl [] _).alloc _).heap (block_alloc rfl) (by simp))
 have Mp : Hid (W0.heap[w.heap.size + 1]? = some (.cells (valA 5 0 ⟨#[]⟩ (.slice none 0 0) (.slice none 0 0)) 25 (0, 0))) := qI (by rw [Gf.o]; exact block_alloc (by simp))
 have Mq : Hid (QJ W0 (w.heap.size + 1) p d [] W0 (.slice none 0 0) []) := qI ⟨Kept.refl _ _, Mp.o, World.ownsRow_nil _ _ _ _, All2.nil _⟩
 have CB := qI (qblanks_any (hs.kept0 Gt.o) hS)
 rw [show skipX (.inr (s, c)) = .inr (skipB s, c) from rfl] at CB
 have Gy : Hid (S.size ≤ 262144) := qI hS
 have HC : Hid (c ≤ 4096) := qI (by obtain ⟨i, h1, h2, h3, h4⟩ := hs.open_ok; exact h3)
 have HF := qI hf
 have hdI : (d : Int) ≤ 100 := by omega
 obtain ⟨R, hR⟩ : ∃ R, pItems (listStep (pValue d)) 93 f s c [] = R := ⟨_, rfl⟩
 rw [hR]
 have Ma := qI hR
 clear hs hf hS IH0 hd hR
 go_enter Tryz.func105, Tryz.ntmps105
 go_wp2_with fail
 rw [← Gf.o]
 refine CB.o.mono ?_
 rintro e w1 ⟨rfl, hq1, hk1⟩
 have Gg := qI hq1
 have Gn := qI hk1
 have Mb := qI (Mq.o.step (by have h1 := Gb.o; have h2 := Ge.o; omega) (by have h1 := Gb.o; omega) hk1)
 have CW := qI (qword_any hq1 Gy.o ⟨#[93]⟩ (by decide))
 rw [show (⟨#[93]⟩ : ByteArray).data.toList = [93] from rfl, (head_eats 93 (skipB s) c).1] at CW
 clear hq1 hk1
 by_cases h0 : (skipB s).head? = some 93
 ·have Je : Hid (asList R = .inr ((⟨5, 0, ⟨#[]⟩, [], []⟩ : VS (V d)), (skipB s).tail, c)) := qI (by rw [← Ma.o]; unfold pItems; rw [if_pos h0]; rfl)
  rw [decide_eq_true h0, (head_eats 93 (skipB s) c).2.1 h0] at CW
  clear h0
  go_wp2_with fail
  refine CW.o.mono ?_
  rintro e w2 ⟨rfl, hq2, hk2⟩
  have Jf := qI hq2
  have Jm := qI (Mb.o.step (by have h1 := Gb.o; have h2 := Ge.o; omega) (by have h1 := Gb.o; omega) hk2)
  have Gl := qI Jm.o.kept
  have HB := qI Jm.o.blk
  have Gu : Hid (∀ WF, Kept [w.heap.size] w2 WF → OwnRep (d + 1) w.heap.size WF [.int .i64 5, .int .i64 0, .string ⟨#[]⟩, .slice none 0 0, .slice none 0 0] (⟨5, 0, ⟨#[]⟩, [], []⟩ : VS (V d))) := qI (fun WF _ => ⟨_, _, [], [], rfl, World.ownsRow_nil _ _ _ _, All2.nil _, World.ownsRow_nil _ _ _ _, All2.nil _, rfl, rfl⟩)
  clear hq2 hk2
  have x0 := cell_head (o := 0) (v := .int .i64 5) HB.o rfl
  have x1 := cell_head (o := 1) (v := .int .i64 0) HB.o rfl
  have x2 := cell_head (o := 2) (v := .string ⟨#[]⟩) HB.o rfl
  have x3 := cell_head (o := 3) (v := .slice none 0 0) HB.o rfl
  have x4 := cell_head (o := 4) (v := .slice none 0 0) HB.o rfl
  have Gd := qI (Jd.o.kept Gl.o (by have h1 := Gb.o; have h2 := Ge.o; simp; omega))
  obtain ⟨⟨d0, d1, d2, d3, d4⟩, f0, f1, f2, f3, f4⟩ := Gd.o.facts
  go_wp2_with fail
  obtain ⟨WF, e⟩ : ∃ WF, WF = set5 w2 w.heap.size (.int .i64 5) (.int .i64 0) (.string ⟨#[]⟩) (.slice none 0 0) (.slice none 0 0) := ⟨_, rfl⟩
  obtain ⟨KF, y0, y1, y2, y3, y4⟩ := Gd.o.stored e
  unfold set5 at e
  rw [← e]
  have KK : Kept [p] w WF := by
   have h1 := Gb.o
   have h2 := Ge.o
   exact ((Gt.o.mono (Y := [p]) (by simp)).trans Gl.o (fun i hi => by simp at hi; rcases hi with h | h; exact .inl (by simp [h]); exact .inr (by omega))).trans KF (fun i hi => by simp at hi; exact .inr (by omega))
  have hown : OwnRep (d + 1) w.heap.size WF [.int .i64 5, .int .i64 0, .string ⟨#[]⟩, .slice none 0 0, .slice none 0 0] (⟨5, 0, ⟨#[]⟩, [], []⟩ : VS (V d)) := Gu.o _ KF
  exact bodyPost_ret (v := .agg #[.int .i64 5, .int .i64 0, .string ⟨#[]⟩, .slice none 0 0, .slice none 0 0]) (by simp [results, Tryz.results105, go_sem, y0, y1, y2, y3, y4]) rfl
   (qboth_ok (cs := [.int .i64 5, .int .i64 0, .string ⟨#[]⟩, .slice none 0 0, .slice none 0 0]) Je.o ⟨_, _, _, _, _, _, _, _, _, rfl⟩ KK (Jf.o.kept KF (by have h1 := Gb.o; simp; omega)) hown)
 have Mr : Hid (ItAt (listStep (pValue d)) 93 R (skipB s) c []) := qI ⟨f, by have := skip_le s; have := HF.o; omega, by rw [← Ma.o]; unfold pItems; rw [if_neg h0]⟩
 rw [decide_eq_false h0, (head_eats 93 (skipB s) c).2.2 h0] at CW
 clear h0
 go_wp2_with fail
 refine CW.o.mono ?_
 rintro e w2 ⟨rfl, hq2, hk2⟩
 have Jr := qI hq2
 have Jm := qI (Mb.o.step (by have h1 := Gb.o; have h2 := Ge.o; omega) (by have h1 := Gb.o; omega) hk2)
 clear hq2 hk2
 go_wp2_with fail
 go_loopw [] (fun wr => (∃ (s' : List UInt8) (c' : Nat) (acc : List (V d)) (vl : Value) (lcs : List (List Value)), QS wr p S 4096 (.inr (s', c')) ∧ acc.length ≤ c' ∧ ItAt (listStep (pValue d)) 93 R s' c' acc ∧ QJ W0 (w.heap.size + 1) p d acc wr vl lcs) ∨ ∃ (x : Int) (ka : Option Addr) (kn kc : Nat), QS wr p S 4097 (.inl x) ∧ R = .inl x ∧ Kept [p, w.heap.size + 1] W0 wr ∧ wr.heap[w.heap.size + 1]? = some (.cells (valA 5 0 ⟨#[]⟩ (.slice ka kn kc) (.slice none 0 0)) 25 (0, 0))) (fun wr => qMeas S p wr)
 case atStart => exact .inl ⟨_, _, [], _, _, Jr.o, Nat.zero_le _, Mr.o, Jm.o⟩
 case round =>
  rcases hrel with ⟨s', c', acc, vl, lcs, hq, hac, hit, hj⟩ | ⟨x, ka, kn, kc, hq, hrx, hkw, hb⟩
  rotate_left
  ·obtain ⟨i, ci, h1, hi, hc, h2, h3⟩ := hq.open_bad
   obtain ⟨c0, c1, c2, c3, fz⟩ := h1.cells
   obtain ⟨g1, g2⟩ := int_ne (a := x) (b := 0) (by omega)
   have Jf := qI hq
   have Gl := qI hkw
   have HB := qI hb
   have Je : Hid (asList R = .inl x) := qI (by rw [hrx]; rfl)
   clear hq hkw hb hrx h1 hi hc h2 h3 fz c0 c1 c3
   have x0 := cell_head (o := 0) (v := .int .i64 5) HB.o rfl
   have x1 := cell_head (o := 1) (v := .int .i64 0) HB.o rfl
   have x2 := cell_head (o := 2) (v := .string ⟨#[]⟩) HB.o rfl
   have x3 := cell_head (o := 3) (v := .slice ka kn kc) HB.o rfl
   have x4 := cell_head (o := 4) (v := .slice none 0 0) HB.o rfl
   have Gd := qI (Jd.o.kept Gl.o (by have h1 := Gb.o; have h2 := Ge.o; simp; omega))
   obtain ⟨⟨d0, d1, d2, d3, d4⟩, f0, f1, f2, f3, f4⟩ := Gd.o.facts
   go_wp2_with fail
   obtain ⟨WF, e⟩ : ∃ WF, WF = set5 wr w.heap.size (.int .i64 5) (.int .i64 0) (.string ⟨#[]⟩) (.slice ka kn kc) (.slice none 0 0) := ⟨_, rfl⟩
   obtain ⟨KF, y0, y1, y2, y3, y4⟩ := Gd.o.stored e
   unfold set5 at e
   rw [← e]
   have KK : Kept [p] w WF := by
    have h1 := Gb.o
    have h2 := Ge.o
    exact ((Gt.o.mono (Y := [p]) (by simp)).trans Gl.o (fun i hi => by simp at hi; rcases hi with h | h; exact .inl (by simp [h]); exact .inr (by omega))).trans KF (fun i hi => by simp at hi; exact .inr (by omega))
   exact bodyPost_ret (v := .agg #[.int .i64 5, .int .i64 0, .string ⟨#[]⟩, .slice ka kn kc, .slice none 0 0]) (by simp [results, Tryz.results105, go_sem, y0, y1, y2, y3, y4]) rfl
    (qboth_bad (cs := [.int .i64 5, .int .i64 0, .string ⟨#[]⟩, .slice ka kn kc, .slice none 0 0]) Je.o ⟨_, _, _, _, _, _, _, _, _, rfl⟩ KK (Jf.o.kept KF (by have h1 := Gb.o; simp; omega)))
  obtain ⟨ak, ck, rfl, -, -⟩ := (Slc.of_row hj.row).form
  have HM := qI (qmeas_ok hq)
  obtain ⟨i, h1, hi, hc, hr⟩ := hq.open_ok
  obtain ⟨c0, c1, c2, c3, fz⟩ := h1.cells
  have HQ := qI hq
  have HJ := qI hj
  have Gh := qI hit
  have Jn : Hid (acc.length ≤ c' ∧ c' ≤ 4096) := qI ⟨hac, hc⟩
  have Ms := qI hj.blk
  have Gc : Hid (p ≠ w.heap.size + 1 ∧ p < W0.heap.size ∧ w.heap.size + 1 < W0.heap.size) := qI (by have h1 := Gb.o; have h2 := Ge.o; omega)
  clear hq hj hit h1 hi hc hr fz c0 c1 c3 hac
  go_wp2_with fail
  clear c2
  refine wp_region_last' (n := 9) (fun w' : World => w'.heap[w.heap.size + 1]? = some (.cells (valA 5 0 ⟨#[]⟩ (.slice ak acc.length ck) (.slice none 0 0)) 25 (0, 0)) ∧ Kept [p, w.heap.size + 1] W0 w') 8 (by kernel_rfl) (by kernel_rfl) ?_
  change wpAnyT _ _ _ _ _ _ _ _ _ wr.drew
  have Gv : Hid (Kept [] wr wr.drew) := qI (Kept.refl [] wr).drew
  have hSS : (fun w' : World => w'.heap[w.heap.size + 1]? = some (.cells (valA 5 0 ⟨#[]⟩ (.slice ak acc.length ck) (.slice none 0 0)) 25 (0, 0)) ∧ Kept [p, w.heap.size + 1] W0 w') wr.drew := ⟨Gv.o.heap Ms.o (by simp), HJ.o.kept.drew⟩
  revert hSS Gv
  generalize wr.drew = W3
  intro Gv hSS
  refine wpAnyT_start ?_
  intro O R hO hR
  have hQp : ∀ c a (d : Nat) v w, R (.panic c) (a.put (some d) v) w → R (.panic c) a w := by subst hR; exact fun _ _ _ _ _ h => h
  refine wpAnyT_take' (i := 0) (v := ?_) hO rfl rfl (by kernel_rfl) (by kernel_rfl) (by kernel_rfl) (by kernel_rfl) hQp (Or.inl ⟨by kernel_rfl, fun w hSw => ?_⟩) hSS ?_
  rotate_left
  ·go_simp; try with_reducible rfl
  try simp only [zA,zN,zB,zC,zD]
  refine wpAnyT_take' (i := 1) (v := ?_) hO rfl rfl (by kernel_rfl) (by kernel_rfl) (by kernel_rfl) (by kernel_rfl) hQp (Or.inl ⟨by kernel_rfl, fun w hSw => ?_⟩) hSS ?_
  rotate_left
  ·have s3 := cell_head (o := 3) (v := .slice ak acc.length ck) hSw.1 rfl; go_simp; try with_reducible rfl
  try simp only [zA,zN,zB,zC,zD]
  refine wpAnyT_take' (i := 2) (v := ?_) hO rfl rfl (by kernel_rfl) (by kernel_rfl) (by kernel_rfl) (by kernel_rfl) hQp (Or.inl ⟨by kernel_rfl, fun w hSw => ?_⟩) hSS ?_
  rotate_left
  ·go_simp; try with_reducible rfl
  try simp only [zA,zN,zB,zC,zD]
  refine wpAnyT_take' (i := 3) (v := ?_) hO rfl rfl (by kernel_rfl) (by kernel_rfl) (by kernel_rfl) (by kernel_rfl) hQp (Or.inl ⟨by kernel_rfl, fun w hSw => ?_⟩) hSS ?_
  rotate_left
  ·go_simp; try with_reducible rfl
  try simp only [zA,zN,zB,zC,zD]
  refine wpAnyT_one' (i := 4) hO rfl (by kernel_rfl) (by kernel_rfl) (fun K hK => ?_)
  go_simp
  refine Calls.mono (IH.o (HQ.o.kept0 Gv.o) Gy.o) ?_
  rintro e w4 ⟨cs4, rfl, hsh, hk4, hans⟩
  obtain ⟨k5, m5, s5, p5, i5, c5, q5, j5, d5, rfl⟩ := hsh
  have Jg := qI hk4
  have Jt := qI hans
  have hS4 : (fun w' : World => w'.heap[w.heap.size + 1]? = some (.cells (valA 5 0 ⟨#[]⟩ (.slice ak acc.length ck) (.slice none 0 0)) 25 (0, 0)) ∧ Kept [p, w.heap.size + 1] W0 w') w4 := ⟨hk4.heap hSS.1 (by have := Gc.o.1; simp; omega), hSS.2.trans hk4 (fun i hi => by simp at hi; exact .inl (by simp [hi]))⟩
  refine hK _ _ (.inr hS4) ?_
  clear hK K
  try simp only [zA,zN,zB,zC,zD]
  clear hSS hk4 hans
  have hSS := hS4
  clear hS4
  have Jh := qI (row_kept (row_kept HJ.o.row Gv.o (by simp)) Jg.o (fun g hg hx => by simp at hx; have h1 := (HJ.o.row.lt g hg).1; have h2 := Gc.o.2.1; omega))
  refine wpAnyT_one' (i := 5) hO rfl (by kernel_rfl) (by kernel_rfl) (fun K hK => ?_)
  go_simp
  have hS5 : (fun w' : World => w'.heap[w.heap.size + 1]? = some (.cells (valA 5 0 ⟨#[]⟩ (.slice ak acc.length ck) (.slice none 0 0)) 25 (0, 0)) ∧ Kept [p, w.heap.size + 1] W0 w') (w4.alloc (.cells #[.int .i64 k5, .int .i64 m5, .string s5, .slice p5 i5 c5, .slice q5 j5 d5] 25)) := ⟨((Kept.refl [] w4).alloc _).heap hSS.1 (by simp), hSS.2.alloc _⟩
  have Gi : Hid (Kept [] w4 (w4.alloc (.cells #[.int .i64 k5, .int .i64 m5, .string s5, .slice p5 i5 c5, .slice q5 j5 d5] 25))) := qI ((Kept.refl [] w4).alloc _)
  have Gw := qI (slc_new w4 [.int .i64 k5, .int .i64 m5, .string s5, .slice p5 i5 c5, .slice q5 j5 d5] 5 1 25 w4.heap.size rfl rfl (by decide))
  have Gz := qI (row_kept Jh.o Gi.o (by simp))
  refine hK _ _ (.inr hS5) ?_
  clear hK K
  try simp only [zA,zN,zB,zC,zD]
  clear hSS
  have hSS := hS5
  clear hS5
  revert Gi Gw Gz hSS
  rw [show ([.int .i64 k5, .int .i64 m5, .string s5, .slice p5 i5 c5, .slice q5 j5 d5] : List Value).toArray = #[.int .i64 k5, .int .i64 m5, .string s5, .slice p5 i5 c5, .slice q5 j5 d5] from rfl]
  generalize w4.alloc (.cells #[.int .i64 k5, .int .i64 m5, .string s5, .slice p5 i5 c5, .slice q5 j5 d5] 25) = w5
  intro Gi Gw Gz hSS
  refine wpAnyT_one' (i := 6) hO rfl (by kernel_rfl) (by kernel_rfl) (fun K hK => ?_)
  refine oper_append tyVals Gz.o Gw.o (Shape.one ⟨_, _, _, _, _, _, _, _, _, rfl⟩) (by have := Jn.o; simp only [maxLen]; omega) (by have := Jn.o; omega) hSS.2.size (.tmp 18) (.tmp 22) rfl rfl rfl ?_
  intro b7 d7 w6 hown6 hk6 hg6
  have Gm := qI hown6
  have Ji := qI hk6
  have Mt := qI hg6
  have hS6 : (fun w' : World => w'.heap[w.heap.size + 1]? = some (.cells (valA 5 0 ⟨#[]⟩ (.slice ak acc.length ck) (.slice none 0 0)) 25 (0, 0)) ∧ Kept [p, w.heap.size + 1] W0 w') w6 := ⟨hk6.heap hSS.1 (fun hx => by have h1 := (Gz.o.lt _ (Option.mem_toList.1 hx)).1; have h2 := Gc.o.2.2; omega), hSS.2.trans hk6 (fun i hi => .inr (Gz.o.lt i (Option.mem_toList.1 hi)).1)⟩
  refine hK _ _ (.inr hS6) ?_
  clear hK K
  try simp only [zA,zN,zB,zC,zD]
  clear hSS hown6 hk6 hg6
  have hSS := hS6
  have Mc := qI hS6
  clear hS6
  refine wpAnyT_take' (i := 7) (v := ?_) hO rfl rfl (by kernel_rfl) (by kernel_rfl) (by kernel_rfl) (by kernel_rfl) hQp (Or.inl ⟨by kernel_rfl, fun w hSw => ?_⟩) hSS ?_
  rotate_left
  ·go_simp; try with_reducible rfl
  try simp only [zA,zN,zB,zC,zD]
  have s3 := cell_head (o := 3) (v := .slice ak acc.length ck) hSS.1 rfl
  have s4 := free_head (o := 3) hSS.1
  refine wpAnyT_one' (i := 8) hO rfl (by kernel_rfl) (by kernel_rfl) (fun K hK => ?_)
  go_simp
  refine hK _ _ (.inl rfl) ?_
  clear hK K
  try simp only [zA,zN,zB,zC,zD]
  refine wpAnyT_done' hO (by kernel_rfl) ?_ _
  subst hR
  try clear hQp hO O
  clear s3 s4 hSS
  have hblk := block_setCell (i := 3) (v := .slice b7 (acc.length + 1) d7) Mc.o.1 (d := valA 5 0 ⟨#[]⟩ (.slice b7 (acc.length + 1) d7) (.slice none 0 0)) rfl
  have hkF := kept_set w6 (w.heap.size + 1) 3 (.slice b7 (acc.length + 1) d7)
  revert hblk hkF
  generalize w6.setCell ⟨w.heap.size + 1, 3, none⟩ (.slice b7 (acc.length + 1) d7) = wF
  intro hblk hkF
  have Md := qI hblk
  have Ju := qI hkF
  have Jj : Hid (Kept [p, w.heap.size + 1] W0 wF) := qI (Mc.o.2.trans hkF (fun i hi => by simp at hi; exact .inl (by simp [hi])))
  clear hblk hkF
  have Me : Hid (∀ x : PX, ∀ B, QS w4 p S B x → QS wF p S B x) := qI (fun x B h => ((h.kept0 Gi.o).kept Ji.o (fun hx => by have h1 := (Gz.o.lt _ (Option.mem_toList.1 hx)).1; have h2 := Gc.o.2.1; omega)).kept Ju.o (by have := Gc.o.1; simp; omega))
  have hans := Jt.o
  cases hv : pValue d s' c' with
  | inl x =>
   rw [hv] at hans
   have Jv := qI (Me.o _ _ hans)
   have Jk : Hid (R = .inl x) := qI (Gh.o.bad (by unfold listStep; rw [hv]))
   have CW1 := qI (qword_any Jv.o Gy.o ⟨#[93]⟩ (by decide))
   clear hans hv
   go_wp2_with fail
   refine CW1.o.mono ?_
   rintro e w8 ⟨rfl, hq8, hk8⟩
   have CW2 := qI (qword_any hq8 Gy.o ⟨#[44]⟩ (by decide))
   rw [show eatB (⟨#[93]⟩ : ByteArray).data.toList (.inl x) = false from rfl]
   have Mu := qI hk8
   clear hq8 hk8
   go_wp2_with fail
   refine CW2.o.mono ?_
   rintro e w9 ⟨rfl, hq9, hk9⟩
   rw [show eatX (⟨#[44]⟩ : ByteArray).data.toList (eatX (⟨#[93]⟩ : ByteArray).data.toList (.inl x)) = .inl x from rfl] at hq9
   rw [show eatB (⟨#[44]⟩ : ByteArray).data.toList (eatX (⟨#[93]⟩ : ByteArray).data.toList (.inl x)) = false from rfl]
   have Mv := qI (Mu.o.trans' hk9)
   have Mw := qI hq9
   obtain ⟨i9, c9, h1, hi9, hc9, h2, h3⟩ := hq9.open_bad
   obtain ⟨z0, z1, z2, z3, fz⟩ := h1.cells
   have CF := qI (qfail_any Mw.o i9 50 hi9 (by decide) (by decide))
   clear hq9 hk9 h1 hi9 hc9 h2 h3 fz
   go_wp2_with fail
   clear z0 z1 z2 z3
   refine CF.o.mono ?_
   rintro e w10 ⟨rfl, hq10, hk10⟩
   go_wp2_with fail
   case roundEnd =>
    have hk := Mv.o.trans' hk10
    exact ⟨.inr ⟨x, b7, acc.length + 1, d7, hq10, Jk.o, Jj.o.trans hk (fun i hi => by simp at hi; exact .inl (by simp [hi])), hk.heap Md.o (by have := Gc.o.1; simp; omega)⟩, by rw [qmeas_bad hq10, HM.o]; omega⟩
  | inr y =>
   obtain ⟨v, r, c2⟩ := y
   rw [hv] at hans
   have Jv := qI (Me.o _ _ hans.1)
   have Gj : Hid (listStep (pValue d) s' c' acc = .inr (acc ++ [v], r, c2)) := qI (by unfold listStep; rw [hv])
   have Mf := qI (value_facts hv)
   have Jw : Hid ((acc ++ [v]).length ≤ c2) := qI ((listStep_st s' c' acc (acc ++ [v]) r c2 Jn.o.2 Gj.o).2.2 Jn.o.1)
   have Mg : Hid (QJ W0 (w.heap.size + 1) p d (acc ++ [v]) wF (.slice b7 (acc.length + 1) d7) (lcs ++ [[.int .i64 k5, .int .i64 m5, .string s5, .slice p5 i5 c5, .slice q5 j5 d5]])) := qI (
    QJ.snoc (w5 := w5) (w6 := w6) (Bc := W3.heap.size) HJ.o Gc.o.2.1 Gc.o.2.2 Jj.o Md.o (((Gv.o.mono (by simp)).trans' Jg.o).then Gi.o) Ji.o Ju.o Mt.o
     (row_kept Gm.o Ju.o (fun g hg hx => by simp at hx; have h1 := (Gm.o.lt g hg).1; have h2 := Gc.o.2.2; omega)) (hans.2.rep.kept0 Gi.o) Gv.o.size)
   have CW1 := qI (qword_any Jv.o Gy.o ⟨#[93]⟩ (by decide))
   rw [show (⟨#[93]⟩ : ByteArray).data.toList = [93] from rfl, (head_eats 93 r c2).1] at CW1
   clear hans hv
   by_cases h93 : r.head? = some 93
   ·have Jk : Hid (R = .inr (acc ++ [v], r.tail, c2)) := qI (Gh.o.done Gj.o h93)
    rw [decide_eq_true h93, (head_eats 93 r c2).2.1 h93] at CW1
    clear h93
    go_wp2_with fail
    refine CW1.o.mono ?_
    rintro e w8 ⟨rfl, hq8, hk8⟩
    have Jf := qI hq8
    have Ja := qI (Mg.o.step Gc.o.2.1 Gc.o.1 hk8)
    have Gl := qI Ja.o.kept
    have HB := qI Ja.o.blk
    have Je : Hid (asList R = .inr ((⟨5, 0, ⟨#[]⟩, acc ++ [v], []⟩ : VS (V d)), r.tail, c2)) := qI (by rw [Jk.o]; rfl)
    have Mx : Hid ((acc ++ [v]).length = acc.length + 1) := qI (by simp)
    have Gu : Hid (∀ WF, Kept [w.heap.size] w8 WF → OwnRep (d + 1) w.heap.size WF [.int .i64 5, .int .i64 0, .string ⟨#[]⟩, .slice b7 (acc.length + 1) d7, .slice none 0 0] (⟨5, 0, ⟨#[]⟩, acc ++ [v], []⟩ : VS (V d))) := qI (fun WF KF => by
     have hz := Ge.o
     refine ⟨_, _, lcs ++ [[.int .i64 k5, .int .i64 m5, .string s5, .slice p5 i5 c5, .slice q5 j5 d5]], [], rfl, ?_, ?_, World.ownsRow_nil _ _ _ _, All2.nil _, rfl, rfl⟩
     ·exact row_base (row_kept Ja.o.row KF (fun g hg hx => by simp at hx; have := (Ja.o.row.lt g hg).1; omega)) (fun g hg => by have := (Ja.o.row.lt g hg).1; omega)
     ·exact Ja.o.all.mono fun _ _ _ q => q.move KF (fun g _ h => ⟨fun hx => by simp at hx; omega, by omega, h.2, by simp [Value.ownBlock]⟩))
    clear hq8 hk8
    have x0 := cell_head (o := 0) (v := .int .i64 5) HB.o rfl
    have x1 := cell_head (o := 1) (v := .int .i64 0) HB.o rfl
    have x2 := cell_head (o := 2) (v := .string ⟨#[]⟩) HB.o rfl
    have x3 := cell_head (o := 3) (v := .slice b7 (acc.length + 1) d7) HB.o rfl
    have x4 := cell_head (o := 4) (v := .slice none 0 0) HB.o rfl
    have Gd := qI (Jd.o.kept Gl.o (by have h1 := Gb.o; have h2 := Ge.o; simp; omega))
    obtain ⟨⟨d0, d1, d2, d3, d4⟩, f0, f1, f2, f3, f4⟩ := Gd.o.facts
    go_wp2_with fail
    obtain ⟨WF, e⟩ : ∃ WF, WF = set5 w8 w.heap.size (.int .i64 5) (.int .i64 0) (.string ⟨#[]⟩) (.slice b7 (acc.length + 1) d7) (.slice none 0 0) := ⟨_, rfl⟩
    obtain ⟨KF, y0, y1, y2, y3, y4⟩ := Gd.o.stored e
    unfold set5 at e
    rw [← e]
    have KK : Kept [p] w WF := by
     have h1 := Gb.o
     have h2 := Ge.o
     exact ((Gt.o.mono (Y := [p]) (by simp)).trans Gl.o (fun i hi => by simp at hi; rcases hi with h | h; exact .inl (by simp [h]); exact .inr (by omega))).trans KF (fun i hi => by simp at hi; exact .inr (by omega))
    have hown : OwnRep (d + 1) w.heap.size WF [.int .i64 5, .int .i64 0, .string ⟨#[]⟩, .slice b7 (acc.length + 1) d7, .slice none 0 0] (⟨5, 0, ⟨#[]⟩, acc ++ [v], []⟩ : VS (V d)) := Gu.o _ KF
    exact bodyPost_ret (v := .agg #[.int .i64 5, .int .i64 0, .string ⟨#[]⟩, .slice b7 (acc.length + 1) d7, .slice none 0 0]) (by simp [results, Tryz.results105, go_sem, y0, y1, y2, y3, y4]) rfl
     (qboth_ok (cs := [.int .i64 5, .int .i64 0, .string ⟨#[]⟩, .slice b7 (acc.length + 1) d7, .slice none 0 0]) Je.o ⟨_, _, _, _, _, _, _, _, _, rfl⟩ KK (Jf.o.kept KF (by have h1 := Gb.o; simp; omega)) hown)
   ·rw [decide_eq_false h93, (head_eats 93 r c2).2.2 h93] at CW1
    have H93 := qI h93
    clear h93
    go_wp2_with fail
    refine CW1.o.mono ?_
    rintro e w8 ⟨rfl, hq8, hk8⟩
    have Mh := qI (Mg.o.step Gc.o.2.1 Gc.o.1 hk8)
    have CW2 := qI (qword_any hq8 Gy.o ⟨#[44]⟩ (by decide))
    rw [show (⟨#[44]⟩ : ByteArray).data.toList = [44] from rfl, (head_eats 44 r c2).1] at CW2
    clear hq8 hk8
    by_cases h44 : r.head? = some 44
    ·rw [decide_eq_true h44, (head_eats 44 r c2).2.1 h44] at CW2
     have Jx := qI (Gh.o.next Gj.o H93.o h44 Mf.o.1)
     have My : Hid (r.tail.length < s'.length) := qI (by
      have h1 := Mf.o.1
      cases r with
      | nil => cases h44
      | cons q t => simp only [List.length_cons, List.tail_cons] at *; omega)
     clear h44
     go_wp2_with fail
     refine CW2.o.mono ?_
     rintro e w9 ⟨rfl, hq9, hk9⟩
     go_wp2_with fail
     case roundEnd => exact ⟨.inl ⟨_, _, _, _, _, hq9, Jw.o, Jx.o, Mh.o.step Gc.o.2.1 Gc.o.1 hk9⟩, by rw [qmeas_ok hq9, HM.o]; have := My.o; omega⟩
    ·rw [decide_eq_false h44, (head_eats 44 r c2).2.2 h44] at CW2
     have Jk : Hid (R = .inl 50) := qI (Gh.o.other Gj.o H93.o h44)
     clear h44
     go_wp2_with fail
     refine CW2.o.mono ?_
     rintro e w9 ⟨rfl, hq9, hk9⟩
     have Mz := qI (Mh.o.step Gc.o.2.1 Gc.o.1 hk9)
     obtain ⟨i9, h1, hi9, hc9, hr9⟩ := hq9.open_ok
     obtain ⟨z0, z1, z2, z3, fz⟩ := h1.cells
     have CF := qI (qfail_any hq9.wide i9 50 hi9 (by decide) (by decide))
     clear hq9 hk9 h1 hi9 hc9 hr9 fz
     go_wp2_with fail
     clear z0 z1 z2 z3
     refine CF.o.mono ?_
     rintro e w10 ⟨rfl, hq10, hk10⟩
     have Mi := qI (Mz.o.step Gc.o.2.1 Gc.o.1 hk10)
     go_wp2_with fail
     case roundEnd => exact ⟨.inr ⟨50, b7, acc.length + 1, d7, hq10, Jk.o, Mi.o.kept, Mi.o.blk⟩, by rw [qmeas_bad hq10, HM.o]; omega⟩
end
section
variable {w : World} {p B : Nat} {S : ByteArray} {x : PX}
theorem qahead_any (h : QS w p S B x) (hS : S.size ≤ 262144) (W : ByteArray) (hW : W.size ≤ 1000) :
  Calls Tryz.prog 102 #[.pointer (some ⟨p, 0, none⟩), .string W] w fun r w' => r = .returned (.bool (eatB W.data.toList x)) ∧ Kept [] w w' := by
 cases x with
 | inl e0 =>
  obtain ⟨i, c, h1, hi, hc, h2, h3⟩ := h.open_bad
  obtain ⟨c0, c1, c2, c3, fz⟩ := h1.cells
  obtain ⟨f, -⟩ := int_ne (a := e0) (b := 0) (by omega)
  have e2 := ext_cell c2
  clear h h1 fz
  go_enter Tryz.func102, Tryz.ntmps102
  go_wp2_with fail
  refine wp_region_ext w (by kernel_rfl) (by kernel_rfl) (Kept.refl _ _) ?_
  clear c0 c1 c2 c3
  repeat go_big_quiet_step (fail)
  refine wpQuiet_nil ?_
  intro w2 hk2
  clear e2
  go_wp2_with fail
  go_ret
  exact ⟨rfl, hk2⟩
 | inr q =>
  obtain ⟨r, c⟩ := q
  obtain ⟨i, h1, hi, hc, hr⟩ := h.open_ok
  obtain ⟨c0, c1, c2, c3, fz⟩ := h1.cells
  have E0 := ext_cell c0
  have E1 := ext_cell c1
  have E2 := ext_cell c2
  have hl := drop_len hr hi
  by_cases hlt : r.length < W.size
  ·have HB : Hid (eatB W.data.toList (.inr (r, c)) = false) := qI (word_long hlt)
   have hltd : decide ((W.size : Int) ≤ S.size - i) = false := decide_eq_false (by omega)
   have hltn : ¬ ((W.size : Int) ≤ S.size - i) := by omega
   have hiI : (i : Int) ≤ S.size := by omega
   have hSI : (S.size : Int) ≤ 262144 := by omega
   clear h h1 fz hr hi hc hl hlt
   go_enter Tryz.func102, Tryz.ntmps102
   go_wp2_with fail
   refine wp_region_ext w (by kernel_rfl) (by kernel_rfl) (Kept.refl _ _) ?_
   clear c0 c1 c2 c3
   repeat go_big_quiet_step (fail)
   refine wpQuiet_nil ?_
   intro w2 hk2
   clear E0 E1 E2
   go_wp2_with fail
   go_ret
   rw [HB.o]
   exact ⟨rfl, hk2⟩
  have hltd : decide ((W.size : Int) ≤ S.size - i) = true := decide_eq_true (by omega)
  have hltn : (W.size : Int) ≤ S.size - i := by omega
  have hT := word_test (W := W) hr (by omega) hi
  have hiW : (i : Int) + W.size ≤ S.size := by omega
  have hSI : (S.size : Int) ≤ 262144 := by omega
  have hB : eatB W.data.toList (.inr (r, c)) = W.data.toList.isPrefixOf r := rfl
  rw [hB]
  have f1 := str_test hT
  revert f1
  generalize W.data.toList.isPrefixOf r = b
  intro f1
  clear h h1 fz hi hc hl hlt hr hT hB
  cases b
  all_goals
   go_enter Tryz.func102, Tryz.ntmps102
   go_wp2_with fail
   refine wp_region_ext w (by kernel_rfl) (by kernel_rfl) (Kept.refl _ _) ?_
   clear c0 c1 c2 c3
   repeat go_big_quiet_step (fail)
   refine wpQuiet_nil ?_
   intro w2 hk2
   clear E0 E1 E2
   go_wp2_with fail
   go_ret
   exact ⟨rfl, hk2⟩
end
section
variable {w : World} {p : Nat} {S : ByteArray}
set_option maxRecDepth 100000 in
theorem qvalue_bad {x : Int} (h : QS w p S 4096 (.inl x)) (hS : S.size ≤ 262144) (d : Int) :
  Calls Tryz.prog 71 #[.pointer (some ⟨p, 0, none⟩), .int .i64 d] w fun e w' => e = .returned (.agg zeroA) ∧ QS w' p S 4097 (.inl x) ∧ Kept [p] w w' := by
 obtain ⟨W0, Gf⟩ : ∃ W0, Hid (W0 = w.alloc (.cells #[.int .i64 0, .int .i64 0, .string ⟨#[]⟩, .slice none 0 0, .slice none 0 0] 25)) := ⟨_, qI rfl⟩
 have Gt : Hid (Kept [] w W0) := qI (by rw [Gf.o]; exact (Kept.refl [] w).alloc _)
 have Ge : Hid (W0.heap.size = w.heap.size + 1) := qI (by rw [Gf.o]; simp)
 have Gb : Hid (p < w.heap.size) := qI h.lt
 have Jd : Hid (ResAt W0 w.heap.size) := qI (by rw [Gf.o]; exact block_alloc rfl)
 have CB := qI (qblanks_any (h.kept0 Gt.o) hS)
 rw [show skipX (.inl x) = .inl x from rfl] at CB
 have HS := qI hS
 clear h hS
 go_enter Tryz.func71, Tryz.ntmps71
 go_wp2_with fail
 rw [← Gf.o]
 refine CB.o.mono ?_
 rintro e w1 ⟨rfl, hq1, hk1⟩
 have Gg := qI hq1
 have Gn := qI hk1
 clear hq1 hk1
 go_wp2_with fail
 refine (qnext_any Gg.o HS.o).mono ?_
 rintro e w2 ⟨rfl, hk2⟩
 rw [show ((nextB (.inl x) : Nat) : Int) = 0 from rfl]
 obtain ⟨W3, Jo⟩ : ∃ W3, Hid (W3 = w2.alloc (.cells #[.int .i64 0, .int .i64 0, .string ⟨#[]⟩, .slice none 0 0, .slice none 0 0] 25)) := ⟨_, qI rfl⟩
 have Mj : Hid (Kept [] w1 W3) := qI (by rw [Jo.o]; exact hk2.alloc _)
 have Mk : Hid (W3.heap[w2.heap.size]? = some (.cells #[.int .i64 0, .int .i64 0, .string ⟨#[]⟩, .slice none 0 0, .slice none 0 0] 25 (0, 0))) := qI (by rw [Jo.o]; exact block_alloc rfl)
 have Ml : Hid (w.heap.size + 1 ≤ w2.heap.size) := qI (by have h1 := Ge.o; have h2 := Gn.o.size; have h3 := hk2.size; omega)
 obtain ⟨i, c, h1, hi, hc, h2, h3⟩ := (Gg.o.kept0 Mj.o).open_bad
 have H1 := qI h1
 have HI : Hid (i ≤ S.size ∧ c ≤ 4096 ∧ 0 < x ∧ x ≤ 1000) := qI ⟨hi, hc, h2, h3⟩
 have hcI : (c : Int) ≤ 4096 := by omega
 obtain ⟨z0, z1, z2, z3, fz⟩ := h1.cells
 have f3 := fz 3
 rw [Jo.o] at z0 z1 z2 z3 f3
 clear h1 hi hc h2 h3 hk2 fz
 go_wp2_with fail
 rw [← Jo.o]
 clear z0 z1 z2 z3 f3
 have hp4 := H1.o.set3 (c + 1)
 have hk4 := kept_set W3 p 3 (.int .i64 ((c + 1 : Nat)))
 rw [show ((c + 1 : Nat) : Int) = (c : Int) + 1 by omega] at hp4 hk4
 revert hp4 hk4
 generalize W3.setCell ⟨p, 3, none⟩ (.int .i64 ((c : Int) + 1)) = w4
 intro hp4 hk4
 have Ya : Hid (QS w4 p S 4097 (.inl x)) := qI (QS.bad hp4 HI.o.1 (by have := HI.o.2.1; omega) HI.o.2.2.1 HI.o.2.2.2)
 have Jg := qI hk4
 clear hp4 hk4
 have Yf : Hid (w4.heap[w2.heap.size]? = some (.cells #[.int .i64 0, .int .i64 0, .string ⟨#[]⟩, .slice none 0 0, .slice none 0 0] 25 (0, 0))) := qI (Jg.o.heap Mk.o (by have h1 := Ml.o; have h2 := Gb.o; simp; omega))
 have CF := qI (qfail_any Ya.o i 50 HI.o.1 (by decide) (by decide))
 refine CF.o.mono ?_
 rintro e w5 ⟨rfl, hq5, hk5⟩
 have Yb : Hid (QS w5 p S 4097 (.inl x)) := qI hq5
 have Yc := qI (Jg.o.trans' hk5)
 clear hq5 hk5
 go_wp2_with fail
 refine (qblanks_any Yb.o HS.o).mono ?_
 rintro e w6 ⟨rfl, hq6, hk6⟩
 have Yd : Hid (QS w6 p S 4097 (.inl x)) := qI hq6
 have Ji := qI (Yc.o.trans' hk6)
 clear hq6 hk6
 have hb := Ji.o.heap Mk.o (by have h1 := Ml.o; have h2 := Gb.o; simp; omega)
 have x0 := cell_head (o := 0) (v := .int .i64 0) hb rfl
 have x1 := cell_head (o := 1) (v := .int .i64 0) hb rfl
 have x2 := cell_head (o := 2) (v := .string ⟨#[]⟩) hb rfl
 have x3 := cell_head (o := 3) (v := .slice none 0 0) hb rfl
 have x4 := cell_head (o := 4) (v := .slice none 0 0) hb rfl
 have Gi : Hid (Kept [p] W0 w6) := qI ((Gn.o.then Mj.o).trans' Ji.o)
 have Gd := qI (Jd.o.kept Gi.o (by have h1 := Gb.o; simp; omega))
 obtain ⟨⟨d0, d1, d2, d3, d4⟩, f0, f1, f2, f3, f4⟩ := Gd.o.facts
 clear hb
 go_wp2_with fail
 obtain ⟨WF, e⟩ : ∃ WF, WF = set5 w6 w.heap.size (.int .i64 0) (.int .i64 0) (.string ⟨#[]⟩) (.slice none 0 0) (.slice none 0 0) := ⟨_, rfl⟩
 obtain ⟨KF, y0, y1, y2, y3, y4⟩ := Gd.o.stored e
 unfold set5 at e
 rw [← e]
 exact bodyPost_ret (v := .agg #[.int .i64 0, .int .i64 0, .string ⟨#[]⟩, .slice none 0 0, .slice none 0 0]) (by simp [results, Tryz.results71, go_sem, y0, y1, y2, y3, y4]) rfl
  ⟨rfl, Yd.o.kept KF (by have h1 := Gb.o; simp; omega), ((Gt.o.mono (Y := [p]) (by simp)).trans' Gi.o).trans KF (fun i hi => by simp at hi; exact .inr (by omega))⟩
end
end Go.Proofs.YtpbphdkjjoipnaaGreatDoor
