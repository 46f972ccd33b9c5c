/- Parts of one proof, merged: XPL XPM XPN XPO XPQ XPR XPS XPT XDe. -/
import Derived.Test.YtpbphdkjjoipnaaGreatDoorHJ
import Derived.Test.YtpbphdkjjoipnaaGreatDoorHB
import Derived.Test.YtpbphdkjjoipnaaGreatDoorHF
set_option linter.all false
set_option maxHeartbeats 12800000
set_option maxRecDepth 10000
set_option linter.unusedVariables false
set_option linter.unusedSimpArgs false
set_option linter.unnecessarySimpa false
namespace Go.Proofs.YtpbphdkjjoipnaaGreatDoor
open Go.Proofs.Tryz
open Go.RowKit
def zac (S : ByteArray) (p : Nat) (w : World) : Nat :=
 match w.heap[p]? with
 | some (.cells c _ _) => (match (c[1]? : Option Value), (c[3]? : Option Value) with | some (Value.int _ i), some (Value.int _ e) => if e = 0 then S.size - i.toNat + 1 else 0 | _, _ => 0)
 | _ => 0
theorem Qv {w : World} {p B c : Nat} {S : ByteArray} {r : List UInt8} (h : PS w p S B (.inr (r, c))) : zac S p w = r.length + 1 := by
 obtain ⟨i, h1, hi, hc, hr⟩ := h.open_ok
 have := yv hr hi
 unfold PAt at h1
 unfold zac
 rw [h1]
 simp
 omega
theorem ZV {w : World} {p B : Nat} {S : ByteArray} {e : Int} (h : PS w p S B (.inl e)) : zac S p w = 0 := by
 obtain ⟨i, c, h1, hi, hc, h2, h3⟩ := h.open_bad
 unfold PAt at h1
 unfold zac
 rw [h1]
 have : e ≠ 0 := by omega
 simp [this]
section
variable {σ : Type} {step : List UInt8 → Nat → σ → Sum Int (σ × List UInt8 × Nat)} {stop : UInt8} {a1 a2 a3 a4 : Value} {GJ : σ → World → Prop} {GB : World → Prop} {len : σ → Nat} {p : Nat} {S : ByteArray} {w : World}
def GAns (step : List UInt8 → Nat → σ → Sum Int (σ × List UInt8 × Nat)) (p : Nat) (S : ByteArray) (GJ : σ → World → Prop) (GB : World → Prop) (s : List UInt8) (c : Nat) (acc : σ) (w' : World) : Prop :=
 match step s c acc with
 | .inl x => PS w' p S 4097 (.inl x) ∧ GB w'
 | .inr (acc', r, c') => PS w' p S 4097 (.inr (r, c')) ∧ GJ acc' w'
def GFin (R : Sum Int (σ × List UInt8 × Nat)) (p : Nat) (S : ByteArray) (GJ : σ → World → Prop) (GB : World → Prop) (w' : World) : Prop :=
 match R with
 | .inl x => PS w' p S 4097 (.inl x) ∧ GB w'
 | .inr (acc', r, c') => PS w' p S 4097 (.inr (r, c')) ∧ GJ acc' w' ∧ c' ≤ 4096
def GRel (step : List UInt8 → Nat → σ → Sum Int (σ × List UInt8 × Nat)) (stop : UInt8) (R : Sum Int (σ × List UInt8 × Nat)) (len : σ → Nat) (p : Nat) (S : ByteArray) (GJ : σ → World → Prop) (GB : World → Prop) (w' : World) : Prop :=
 (∃ x, PS w' p S 4097 (.inl x) ∧ R = .inl x ∧ GB w') ∨ ∃ s c acc, PS w' p S 4097 (.inr (s, c)) ∧ c ≤ 4096 ∧ len acc ≤ c ∧ Qu step stop R s c acc ∧ GJ acc w'
theorem ye (a : UInt8) (r : List UInt8) (c : Nat) : Zu [a] (.inr (r, c)) = decide (r.head? = some a) ∧ (r.head? = some a → eatX [a] (.inr (r, c)) = .inr (r.tail, c)) ∧ (r.head? ≠ some a → eatX [a] (.inr (r, c)) = .inr (r, c)) := by
 refine ⟨ji a r c, fun h => ?_, fun h => ZT (by rw [ji, decide_eq_false h])⟩
 rw [QZ (by rw [ji, decide_eq_true h])]
 show (Sum.inr (r.drop 1, c) : PX) = _
 rw [List.drop_one]
theorem vz (r : List UInt8) (c : Nat) : (r.head? = some 44 → vO [44] (.inr (r, c)) = .inr (r.tail, c)) ∧ (r.head? ≠ some 44 → vO [44] (.inr (r, c)) = .inl 50) := by
 refine ⟨fun h => ?_, fun h => Z8 (by rw [ji, decide_eq_false h])⟩
 rw [zab (by rw [ji, decide_eq_true h])]
 show (Sum.inr (r.drop 1, c) : PX) = _
 rw [List.drop_one]
theorem items1_any (hS : S.size ≤ 262144)
  (HC : ∀ s c acc w, PS w p S 4097 (.inr (s, c)) → c ≤ 4096 → len acc ≤ c → GJ acc w → Calls Tryz.prog 159 #[a1,a2,a3] w fun e w' => e = .returned (.tuple #[]) ∧ GAns step p S GJ GB s c acc w')
  (HJ : ∀ acc w w', GJ acc w → zb [p] w w' → GJ acc w') (HB : ∀ w w', GB w → zb [p] w w' → GB w') (Jh : ∀ acc w, GJ acc w → GB w)
  (Ji : ∀ s c acc acc' r c', c ≤ 4096 → step s c acc = .inr (acc', r, c') → r.length ≤ s.length ∧ c' ≤ 4096 ∧ (len acc ≤ c → len acc' ≤ c'))
  {s : List UInt8} {c f : Nat} {acc : σ} (hs : PS w p S 4097 (.inr (s, c))) (hc : c ≤ 4096) (hl : len acc ≤ c) (hj : GJ acc w) (hf : s.length < f) :
  Calls Tryz.prog 158 #[.pointer (some ⟨p, 0, none⟩), .string ⟨#[stop]⟩, .func (.func 159) #[] #[a1,a2,a3]] w fun e w' => e = .returned (.tuple #[]) ∧ GFin (yw step stop f s c acc) p S GJ GB w' := by
 have C1 := qI (xe hs hS)
 have HW := qI HC
 have HJ := qI HJ
 have HB := qI HB
 have Jh := qI Jh
 have Ji := qI Ji
 have Jc := qI hj
 have Jt := qI hc
 have Mk := qI hl
 have HF := qI hf
 clear hs hc hl hj hf HC
 have hsk : qi (.inr (s, c)) = .inr (zp s, c) := rfl
 rw [hsk] at C1
 clear hsk
 by_cases h0 : (zp s).head? = some stop
 ·have HR : Hid (yw step stop f s c acc = .inr (acc, (zp s).tail, c)) := qI (if_pos h0)
  rw [HR.o]
  have Gt := qI h0
  clear h0
  go_enter func158, ntmps158
  go_wp2_with fail
  refine C1.o.mono ?_
  rintro e w1 ⟨rfl, hp1, hk1⟩
  have Gi := qI hp1
  have Jj := qI (HJ.o _ _ _ Jc.o hk1)
  have C2 := qI (yT hp1 hS ⟨#[stop]⟩)
  rw [show (⟨#[stop]⟩ : ByteArray).data.toList = [stop] from rfl, (ye stop (zp s) c).1] at C2
  clear hk1 hp1
  rw [decide_eq_true Gt.o, (ye stop (zp s) c).2.1 Gt.o] at C2
  go_wp2_with fail
  refine C2.o.mono ?_
  rintro e w2 ⟨rfl, hp2, hk2⟩
  go_wp2_with fail
  ((try simp only [Exit.inBlock, Exit.then]); refine bodyPost_ret (results_none rfl _ _ _) rfl ?_)
  exact ⟨rfl, hp2, HJ.o _ _ _ Jj.o hk2, Jt.o⟩
 ·have HR : Hid (yw step stop f s c acc = qC step stop f (zp s) c acc) := qI (if_neg h0)
  rw [HR.o]
  have HI : Hid (Qu step stop (qC step stop f (zp s) c acc) (zp s) c acc) := qI ⟨f, Nat.lt_of_le_of_lt (x7 s) HF.o, rfl⟩
  have Gt := qI h0
  clear h0 HR
  revert HI
  generalize qC step stop f (zp s) c acc = R
  intro HI
  go_enter func158, ntmps158
  go_wp2_with fail
  refine C1.o.mono ?_
  rintro e w1 ⟨rfl, hp1, hk1⟩
  have Gi := qI hp1
  have Jj := qI (HJ.o _ _ _ Jc.o hk1)
  have C2 := qI (yT hp1 hS ⟨#[stop]⟩)
  rw [show (⟨#[stop]⟩ : ByteArray).data.toList = [stop] from rfl, (ye stop (zp s) c).1] at C2
  clear hk1 hp1
  rw [decide_eq_false Gt.o, (ye stop (zp s) c).2.2 Gt.o] at C2
  go_wp2_with fail
  refine C2.o.mono ?_
  rintro e w2 ⟨rfl, hp2, hk2⟩
  have Jk : Hid (GRel step stop R len p S GJ GB w2) := qI (.inr ⟨zp s, c, acc, hp2, Jt.o, Mk.o, HI.o, HJ.o _ _ _ Jj.o hk2⟩)
  clear hp2 hk2
  go_wp2_with fail
  go_loopw [] (fun wr => GRel step stop R len p S GJ GB wr) (fun wr => zac S p wr)
  case atStart => exact Jk.o
  case round =>
   rcases hrel with ⟨x, hp3, hx, hb3⟩ | ⟨s3, c3, acc3, hp3, hc3, hl3, hi3, hj3⟩
   ·have HX := qI hx
    have Gk := qI hp3
    have Gp := qI hb3
    obtain ⟨i, cc, h1, hi, hcc, h2, h3⟩ := hp3.open_bad
    have d3 := za (o := 3) (v := .int .i64 x) h1 rfl
    obtain ⟨f1, f2⟩ := zt (a := x) (b := 0) (by omega)
    clear hx hp3 hb3 h1 h2 h3 hi hcc
    go_wp2_with fail
    go_end0
    rw [HX.o]
    exact ⟨rfl, Gk.o, Gp.o⟩
   ·have HM := qI (Qv hp3)
    have CO := qI (HW.o _ _ _ _ hp3 hc3 hl3 hj3)
    have Jd := qI hi3
    have Ml := qI hl3
    have Mm := qI hc3
    obtain ⟨i, h1, hi, hcc, h2⟩ := hp3.open_ok
    have d3 := za (o := 3) (v := .int .i64 0) h1 rfl
    clear hp3 hc3 hl3 hi3 hj3 h1 hi hcc h2
    unfold GAns at CO
    go_wp2_with fail
    refine CO.o.mono ?_
    rintro e w4 ⟨rfl, hans⟩
    clear d3
    cases hst : step s3 c3 acc3 with
    | inl x =>
     rw [hst] at hans
     obtain ⟨hp4, hb4⟩ := hans
     have HX := qI (Jd.o.bad hst)
     have Gu := qI hb4
     have C5 := qI (yT hp4 hS ⟨#[stop]⟩)
     rw [show Zu (⟨#[stop]⟩ : ByteArray).data.toList (.inl x) = false from rfl, ZT rfl] at C5
     clear hp4 hb4 hst
     go_wp2_with fail
     refine C5.o.mono ?_
     rintro e w5 ⟨rfl, hp5, hk5⟩
     have Je := qI (HB.o _ _ Gu.o hk5)
     have C6 := qI (kP hp5 hS ⟨#[44]⟩)
     rw [Z8 rfl] at C6
     clear hp5 hk5
     go_wp2_with fail
     refine C6.o.mono ?_
     rintro e w6 ⟨rfl, hp6, hk6⟩
     have Gv : Hid (PS w6 p S 4097 (.inl x)) := qI hp6
     have Ju := qI (HB.o _ _ Je.o hk6)
     clear hp6 hk6
     go_wp2_with fail
     case roundEnd => exact ⟨.inl ⟨x, Gv.o, HX.o, Ju.o⟩, by rw [ZV Gv.o, HM.o]; omega⟩
    | inr y =>
     obtain ⟨acc4, r4, c4⟩ := y
     rw [hst] at hans
     obtain ⟨hp4, hj4⟩ := hans
     obtain ⟨q1, q2, q3⟩ := Ji.o _ _ _ _ _ _ Mm.o hst
     have HQ : Hid (r4.length ≤ s3.length ∧ c4 ≤ 4096 ∧ len acc4 ≤ c4) := qI ⟨q1, q2, q3 Ml.o⟩
     have Gm := qI hst
     have Jv := qI hj4
     have C5 := qI (yT hp4 hS ⟨#[stop]⟩)
     rw [show (⟨#[stop]⟩ : ByteArray).data.toList = [stop] from rfl, (ye stop r4 c4).1] at C5
     clear hp4 hj4 hst q1 q2 q3
     by_cases h4 : r4.head? = some stop
     ·rw [decide_eq_true h4, (ye stop r4 c4).2.1 h4] at C5
      have HX := qI (Jd.o.done Gm.o h4)
      clear h4
      go_wp2_with fail
      refine C5.o.mono ?_
      rintro e w5 ⟨rfl, hp5, hk5⟩
      go_wp2_with fail
      ((try simp only [Exit.inBlock, Exit.then]); refine bodyPost_ret (results_none rfl _ _ _) rfl ?_)
      rw [HX.o]
      exact ⟨rfl, hp5, HJ.o _ _ _ Jv.o hk5, HQ.o.2.1⟩
     ·rw [decide_eq_false h4, (ye stop r4 c4).2.2 h4] at C5
      have Jw := qI h4
      clear h4
      go_wp2_with fail
      refine C5.o.mono ?_
      rintro e w5 ⟨rfl, hp5, hk5⟩
      have Mn := qI (HJ.o _ _ _ Jv.o hk5)
      have C6 := qI (kP hp5 hS ⟨#[44]⟩)
      rw [show (⟨#[44]⟩ : ByteArray).data.toList = [44] from rfl] at C6
      clear hp5 hk5
      go_wp2_with fail
      refine C6.o.mono ?_
      rintro e w6 ⟨rfl, hp6, hk6⟩
      have Jx := qI (HJ.o _ _ _ Mn.o hk6)
      have Gv := qI hp6
      clear hp6 hk6
      go_wp2_with fail
      case roundEnd =>
       by_cases h7 : r4.head? = some 44
       ·have hp7 := Gv.o
        rw [(vz r4 c4).1 h7] at hp7
        refine ⟨.inr ⟨r4.tail, c4, acc4, hp7, HQ.o.2.1, HQ.o.2.2, Jd.o.next Gm.o Jw.o h7 HQ.o.1, Jx.o⟩, ?_⟩
        rw [Qv hp7, HM.o]
        have := HQ.o.1
        cases r4 with
        | nil => cases h7
        | cons a t => simp only [List.tail_cons, List.length_cons] at *; omega
       ·have hp7 := Gv.o
        rw [(vz r4 c4).2 h7] at hp7
        exact ⟨.inl ⟨50, hp7, Jd.o.other Gm.o Jw.o h7, Jh.o _ _ Jx.o⟩, by rw [ZV hp7, HM.o]; omega⟩
theorem items2_any (hS : S.size ≤ 262144)
  (HC : ∀ s c acc w, PS w p S 4097 (.inr (s, c)) → c ≤ 4096 → len acc ≤ c → GJ acc w → Calls Tryz.prog 160 #[a1,a2,a3,a4] w fun e w' => e = .returned (.tuple #[]) ∧ GAns step p S GJ GB s c acc w')
  (HJ : ∀ acc w w', GJ acc w → zb [p] w w' → GJ acc w') (HB : ∀ w w', GB w → zb [p] w w' → GB w') (Jh : ∀ acc w, GJ acc w → GB w)
  (Ji : ∀ s c acc acc' r c', c ≤ 4096 → step s c acc = .inr (acc', r, c') → r.length ≤ s.length ∧ c' ≤ 4096 ∧ (len acc ≤ c → len acc' ≤ c'))
  {s : List UInt8} {c f : Nat} {acc : σ} (hs : PS w p S 4097 (.inr (s, c))) (hc : c ≤ 4096) (hl : len acc ≤ c) (hj : GJ acc w) (hf : s.length < f) :
  Calls Tryz.prog 158 #[.pointer (some ⟨p, 0, none⟩), .string ⟨#[stop]⟩, .func (.func 160) #[] #[a1,a2,a3,a4]] w fun e w' => e = .returned (.tuple #[]) ∧ GFin (yw step stop f s c acc) p S GJ GB w' := by
 have C1 := qI (xe hs hS)
 have HW := qI HC
 have HJ := qI HJ
 have HB := qI HB
 have Jh := qI Jh
 have Ji := qI Ji
 have Jc := qI hj
 have Jt := qI hc
 have Mk := qI hl
 have HF := qI hf
 clear hs hc hl hj hf HC
 have hsk : qi (.inr (s, c)) = .inr (zp s, c) := rfl
 rw [hsk] at C1
 clear hsk
 by_cases h0 : (zp s).head? = some stop
 ·have HR : Hid (yw step stop f s c acc = .inr (acc, (zp s).tail, c)) := qI (if_pos h0)
  rw [HR.o]
  have Gt := qI h0
  clear h0
  go_enter func158, ntmps158
  go_wp2_with fail
  refine C1.o.mono ?_
  rintro e w1 ⟨rfl, hp1, hk1⟩
  have Gi := qI hp1
  have Jj := qI (HJ.o _ _ _ Jc.o hk1)
  have C2 := qI (yT hp1 hS ⟨#[stop]⟩)
  rw [show (⟨#[stop]⟩ : ByteArray).data.toList = [stop] from rfl, (ye stop (zp s) c).1] at C2
  clear hk1 hp1
  rw [decide_eq_true Gt.o, (ye stop (zp s) c).2.1 Gt.o] at C2
  go_wp2_with fail
  refine C2.o.mono ?_
  rintro e w2 ⟨rfl, hp2, hk2⟩
  go_wp2_with fail
  ((try simp only [Exit.inBlock, Exit.then]); refine bodyPost_ret (results_none rfl _ _ _) rfl ?_)
  exact ⟨rfl, hp2, HJ.o _ _ _ Jj.o hk2, Jt.o⟩
 ·have HR : Hid (yw step stop f s c acc = qC step stop f (zp s) c acc) := qI (if_neg h0)
  rw [HR.o]
  have HI : Hid (Qu step stop (qC step stop f (zp s) c acc) (zp s) c acc) := qI ⟨f, Nat.lt_of_le_of_lt (x7 s) HF.o, rfl⟩
  have Gt := qI h0
  clear h0 HR
  revert HI
  generalize qC step stop f (zp s) c acc = R
  intro HI
  go_enter func158, ntmps158
  go_wp2_with fail
  refine C1.o.mono ?_
  rintro e w1 ⟨rfl, hp1, hk1⟩
  have Gi := qI hp1
  have Jj := qI (HJ.o _ _ _ Jc.o hk1)
  have C2 := qI (yT hp1 hS ⟨#[stop]⟩)
  rw [show (⟨#[stop]⟩ : ByteArray).data.toList = [stop] from rfl, (ye stop (zp s) c).1] at C2
  clear hk1 hp1
  rw [decide_eq_false Gt.o, (ye stop (zp s) c).2.2 Gt.o] at C2
  go_wp2_with fail
  refine C2.o.mono ?_
  rintro e w2 ⟨rfl, hp2, hk2⟩
  have Jk : Hid (GRel step stop R len p S GJ GB w2) := qI (.inr ⟨zp s, c, acc, hp2, Jt.o, Mk.o, HI.o, HJ.o _ _ _ Jj.o hk2⟩)
  clear hp2 hk2
  go_wp2_with fail
  go_loopw [] (fun wr => GRel step stop R len p S GJ GB wr) (fun wr => zac S p wr)
  case atStart => exact Jk.o
  case round =>
   rcases hrel with ⟨x, hp3, hx, hb3⟩ | ⟨s3, c3, acc3, hp3, hc3, hl3, hi3, hj3⟩
   ·have HX := qI hx
    have Gk := qI hp3
    have Gp := qI hb3
    obtain ⟨i, cc, h1, hi, hcc, h2, h3⟩ := hp3.open_bad
    have d3 := za (o := 3) (v := .int .i64 x) h1 rfl
    obtain ⟨f1, f2⟩ := zt (a := x) (b := 0) (by omega)
    clear hx hp3 hb3 h1 h2 h3 hi hcc
    go_wp2_with fail
    go_end0
    rw [HX.o]
    exact ⟨rfl, Gk.o, Gp.o⟩
   ·have HM := qI (Qv hp3)
    have CO := qI (HW.o _ _ _ _ hp3 hc3 hl3 hj3)
    have Jd := qI hi3
    have Ml := qI hl3
    have Mm := qI hc3
    obtain ⟨i, h1, hi, hcc, h2⟩ := hp3.open_ok
    have d3 := za (o := 3) (v := .int .i64 0) h1 rfl
    clear hp3 hc3 hl3 hi3 hj3 h1 hi hcc h2
    unfold GAns at CO
    go_wp2_with fail
    refine CO.o.mono ?_
    rintro e w4 ⟨rfl, hans⟩
    clear d3
    cases hst : step s3 c3 acc3 with
    | inl x =>
     rw [hst] at hans
     obtain ⟨hp4, hb4⟩ := hans
     have HX := qI (Jd.o.bad hst)
     have Gu := qI hb4
     have C5 := qI (yT hp4 hS ⟨#[stop]⟩)
     rw [show Zu (⟨#[stop]⟩ : ByteArray).data.toList (.inl x) = false from rfl, ZT rfl] at C5
     clear hp4 hb4 hst
     go_wp2_with fail
     refine C5.o.mono ?_
     rintro e w5 ⟨rfl, hp5, hk5⟩
     have Je := qI (HB.o _ _ Gu.o hk5)
     have C6 := qI (kP hp5 hS ⟨#[44]⟩)
     rw [Z8 rfl] at C6
     clear hp5 hk5
     go_wp2_with fail
     refine C6.o.mono ?_
     rintro e w6 ⟨rfl, hp6, hk6⟩
     have Gv : Hid (PS w6 p S 4097 (.inl x)) := qI hp6
     have Ju := qI (HB.o _ _ Je.o hk6)
     clear hp6 hk6
     go_wp2_with fail
     case roundEnd => exact ⟨.inl ⟨x, Gv.o, HX.o, Ju.o⟩, by rw [ZV Gv.o, HM.o]; omega⟩
    | inr y =>
     obtain ⟨acc4, r4, c4⟩ := y
     rw [hst] at hans
     obtain ⟨hp4, hj4⟩ := hans
     obtain ⟨q1, q2, q3⟩ := Ji.o _ _ _ _ _ _ Mm.o hst
     have HQ : Hid (r4.length ≤ s3.length ∧ c4 ≤ 4096 ∧ len acc4 ≤ c4) := qI ⟨q1, q2, q3 Ml.o⟩
     have Gm := qI hst
     have Jv := qI hj4
     have C5 := qI (yT hp4 hS ⟨#[stop]⟩)
     rw [show (⟨#[stop]⟩ : ByteArray).data.toList = [stop] from rfl, (ye stop r4 c4).1] at C5
     clear hp4 hj4 hst q1 q2 q3
     by_cases h4 : r4.head? = some stop
     ·rw [decide_eq_true h4, (ye stop r4 c4).2.1 h4] at C5
      have HX := qI (Jd.o.done Gm.o h4)
      clear h4
      go_wp2_with fail
      refine C5.o.mono ?_
      rintro e w5 ⟨rfl, hp5, hk5⟩
      go_wp2_with fail
      ((try simp only [Exit.inBlock, Exit.then]); refine bodyPost_ret (results_none rfl _ _ _) rfl ?_)
      rw [HX.o]
      exact ⟨rfl, hp5, HJ.o _ _ _ Jv.o hk5, HQ.o.2.1⟩
     ·rw [decide_eq_false h4, (ye stop r4 c4).2.2 h4] at C5
      have Jw := qI h4
      clear h4
      go_wp2_with fail
      refine C5.o.mono ?_
      rintro e w5 ⟨rfl, hp5, hk5⟩
      have Mn := qI (HJ.o _ _ _ Jv.o hk5)
      have C6 := qI (kP hp5 hS ⟨#[44]⟩)
      rw [show (⟨#[44]⟩ : ByteArray).data.toList = [44] from rfl] at C6
      clear hp5 hk5
      go_wp2_with fail
      refine C6.o.mono ?_
      rintro e w6 ⟨rfl, hp6, hk6⟩
      have Jx := qI (HJ.o _ _ _ Mn.o hk6)
      have Gv := qI hp6
      clear hp6 hk6
      go_wp2_with fail
      case roundEnd =>
       by_cases h7 : r4.head? = some 44
       ·have hp7 := Gv.o
        rw [(vz r4 c4).1 h7] at hp7
        refine ⟨.inr ⟨r4.tail, c4, acc4, hp7, HQ.o.2.1, HQ.o.2.2, Jd.o.next Gm.o Jw.o h7 HQ.o.1, Jx.o⟩, ?_⟩
        rw [Qv hp7, HM.o]
        have := HQ.o.1
        cases r4 with
        | nil => cases h7
        | cons a t => simp only [List.tail_cons, List.length_cons] at *; omega
       ·have hp7 := Gv.o
        rw [(vz r4 c4).2 h7] at hp7
        exact ⟨.inl ⟨50, hp7, Jd.o.other Gm.o Jw.o h7, Jh.o _ _ Jx.o⟩, by rw [ZV hp7, HM.o]; omega⟩
end
theorem listStep_st {d : Nat} : ∀ (s : List UInt8) (c : Nat) (acc acc' : List (V d)) (r : List UInt8) (c' : Nat), c ≤ 4096 → ym (zr d) s c acc = .inr (acc', r, c') → r.length ≤ s.length ∧ c' ≤ 4096 ∧ (acc.length ≤ c → acc'.length ≤ c') := by
 intro s c acc acc' r c' hc h
 obtain ⟨h1, h2⟩ := listStep_le h
 refine ⟨h1, h2, fun hl => ?_⟩
 unfold ym at h
 cases hv : zr d s c with
 | inl e => rw [hv] at h; cases h
 | inr y =>
  obtain ⟨v, r0, c0⟩ := y
  rw [hv] at h
  simp only at h
  injection h with h; injection h with h3 h4; injection h4 with h4 h5
  subst h3; subst h5
  obtain ⟨g1, g2, g3, g4⟩ := vC d s c v r0 c0 hv
  have : 1 ≤ ze d v := by
   rcases vo (v := v) with q | q
   ·subst q; exact nomatch v
   ·exact q
  rw [List.length_append, List.length_singleton]
  omega
theorem pairStep_st {d : Nat} : ∀ (s : List UInt8) (c : Nat) (acc acc' : List (ByteArray × V d)) (r : List UInt8) (c' : Nat), c ≤ 4096 → yj (zr d) s c acc = .inr (acc', r, c') → r.length ≤ s.length ∧ c' ≤ 4096 ∧ (acc.length ≤ c → acc'.length ≤ c') := by
 intro s c acc acc' r c' hc h
 obtain ⟨h1, h2⟩ := pairStep_le h
 refine ⟨h1, h2, fun hl => ?_⟩
 unfold yj at h
 split at h
 ·cases h
 split at h
 ·cases h
 split at h
 ·split at h
  ·cases h
  ·rename_i v r1 c1 hv
   injection h with h; injection h with h3 h4; injection h4 with h4 h5
   subst h3; subst h5
   obtain ⟨g1, g2, g3, g4⟩ := vC d _ c v r1 c1 hv
   have : 1 ≤ ze d v := by
    rcases vo (v := v) with q | q
    ·subst q; exact nomatch v
    ·exact q
   rw [List.length_append, List.length_singleton]
   omega
 ·cases h
def xu (d : Nat) (R : Sum Int (VS (V d) × List UInt8 × Nat)) (p : Nat) (S : ByteArray) (w : World) (e : Ending) (w' : World) : Prop :=
 ∃ cs : List Value, e = .returned (.agg cs.toArray) ∧ jk cs ∧ zb [p] w w' ∧
  match R with
  | .inl x => PS w' p S 4097 (.inl x)
  | .inr (v, r, c') => PS w' p S 4097 (.inr (r, c')) ∧ yS (d + 1) w.heap.size w' cs v
def QO {d : Nat} : Sum Int (List (V d) × List UInt8 × Nat) → Sum Int (VS (V d) × List UInt8 × Nat) | .inl e => .inl e | .inr (l, r, c) => .inr (⟨5, 0, ⟨#[]⟩, l, []⟩, r, c)
def asMap {d : Nat} : Sum Int (List (ByteArray × V d) × List UInt8 × Nat) → Sum Int (VS (V d) × List UInt8 × Nat) | .inl e => .inl e | .inr (l, r, c) => .inr (⟨6, 0, ⟨#[]⟩, [], l⟩, r, c)
theorem jv {d p : Nat} {R : Sum Int (VS (V d) × List UInt8 × Nat)} {S : ByteArray} {w w' : World} {cs : List Value} {x : Int} (h : R = .inl x) (h1 : jk cs) (h2 : zb [p] w w') (h3 : PS w' p S 4097 (.inl x)) : xu d R p S w (.returned (.agg cs.toArray)) w' := ⟨cs, rfl, h1, h2, by rw [h]; exact h3⟩
theorem jd {d p : Nat} {R : Sum Int (VS (V d) × List UInt8 × Nat)} {S : ByteArray} {w w' : World} {cs : List Value} {v : VS (V d)} {r : List UInt8} {c' : Nat} (h : R = .inr (v, r, c')) (h1 : jk cs) (h2 : zb [p] w w') (h3 : PS w' p S 4097 (.inr (r, c'))) (h4 : yS (d + 1) w.heap.size w' cs v) : xu d R p S w (.returned (.agg cs.toArray)) w' := ⟨cs, rfl, h1, h2, by rw [h]; exact ⟨h3, h4⟩⟩
section
variable {w : World} {p d : Nat} {S : ByteArray} {s : List UInt8} {c f : Nat}
theorem bP.g {W w' : World} {bv b2 b3 : Nat} {acc : List (V d)} (h : bP W bv b2 b3 p d S s c acc w') : GAns (ym (zr d)) p S (fun acc w' => ∃ vl lcs, LJ W bv b2 b3 p d acc w' vl lcs) (LBad W bv b2 b3 p d) s c acc w' := by
 unfold bP at h
 unfold GAns
 cases e : ym (zr d) s c acc with
 | inl x => rw [e] at h; exact h
 | inr y => obtain ⟨a, b, q⟩ := y; rw [e] at h; exact h
theorem bI.g {W w' : World} {bv b2 b3 b6 bm : Nat} {acc : List (ByteArray × V d)} (h : bI W bv b2 b3 b6 bm p d S s c acc w') : GAns (yj (zr d)) p S (fun acc w' => ∃ vm mcs, MJ W bv b2 b3 b6 bm p d (acc.map (fun q => q.1)) acc w' vm mcs) (MBad W bv b2 b3 b6 bm p d) s c acc w' := by
 unfold bI at h
 unfold GAns
 cases e : yj (zr d) s c acc with
 | inl x => rw [e] at h; exact h
 | inr y => obtain ⟨a, b, q⟩ := y; rw [e] at h; exact h
theorem plist_any (IH0 : xf d) (hs : PS w p S 4097 (.inr (s, c))) (hc : c ≤ 4096) (hS : S.size ≤ 262144) (hT : xr p w) (hf : s.length < f) :
  Calls Tryz.prog 121 #[.pointer (some ⟨p, 0, none⟩), .int .i64 d] w fun e w' => xu d (QO (yw (ym (zr d)) 93 f s c [])) p S w e w' := by
 obtain ⟨W0, Ga⟩ : ∃ W0, Hid (W0 = (((w.alloc (.cells #[.pointer (some ⟨p, 0, none⟩)] 61)).alloc (.cells #[.int .i64 d] 3)).alloc (.cells #[.int .i64 0, .int .i64 0, .string ⟨#[]⟩, .slice none 0 0, .slice none 0 0] 25)).alloc (.cells #[.int .i64 5, .int .i64 0, .string ⟨#[]⟩, .slice none 0 0, .slice none 0 0] 25)) := ⟨_, qI rfl⟩
 have Gr : Hid (W0.heap.size = w.heap.size + 4) := qI (by rw [Ga.o]; simp)
 have Gb : Hid (zb [] w W0) := qI (by rw [Ga.o]; exact ((((zb.refl [] w).alloc _).alloc _).alloc _).alloc _)
 have Gd : Hid (p < w.heap.size) := qI hs.lt
 have Jl : Hid (W0.heap[w.heap.size]? = some (.cells #[.pointer (some ⟨p, 0, none⟩)] 61 (0, 0))) := qI (by
  rw [Ga.o]; exact ((((zb.refl [] _).alloc _).alloc _).alloc _).heap (zn rfl) (by simp))
 have Gp : Hid (W0.heap[w.heap.size + 1]? = some (.cells #[.int .i64 d] 3 (0, 0))) := qI (by
  rw [Ga.o]; exact (((zb.refl [] _).alloc _).alloc _).heap (zn (by simp)) (by simp))
 have Gh : Hid (xh W0 (w.heap.size + 1 + 1)) := qI (by
  rw [Ga.o]; exact ((zb.refl [] _).alloc _).heap (zn (by simp)) (by simp))
 have Mo : Hid (W0.heap[w.heap.size + 1 + 1 + 1]? = some (.cells (qj 5 0 ⟨#[]⟩ (.slice none 0 0) (.slice none 0 0)) 25 (0, 0))) := qI (by
  rw [Ga.o]; exact zn (by simp))
 have HP : Hid (LPos W0 (w.heap.size + 1 + 1 + 1) w.heap.size (w.heap.size + 1) p) := qI (by
  have h1 := Gd.o
  have h2 := Gr.o
  constructor <;> omega)
 have Jc : Hid (LJ W0 (w.heap.size + 1 + 1 + 1) w.heap.size (w.heap.size + 1) p d [] W0 (.slice none 0 0) []) := qI ⟨⟨Jl.o, Gp.o, zb.refl _ _⟩, Mo.o, World.ownsRow_nil _ _ _ _, yc.nil _⟩
 have Jf := qI (hs.kept0 Gb.o)
 have Gs := qI (hT.step (Gb.o.mono (by simp)))
 have f2 := za (o := 0) (v := .pointer (some ⟨p, 0, none⟩)) Jl.o rfl
 rw [Ga.o] at f2
 have CI := qI (items1_any (step := ym (zr d)) (stop := 93) (p := p) (S := S) (w := W0) (GJ := fun acc w' => ∃ vl lcs, LJ W0 (w.heap.size + 1 + 1 + 1) w.heap.size (w.heap.size + 1) p d acc w' vl lcs) (GB := LBad W0 (w.heap.size + 1 + 1 + 1) w.heap.size (w.heap.size + 1) p d) (len := List.length) hS
  (fun s c acc w1 h1 h2 h3 ⟨vl, lcs, h4⟩ => (list1_any (by exact @IH0) HP.o h4 h1 h2 hS Gs.o (by omega)).mono fun e w2 ⟨q1, q2⟩ => ⟨q1, q2.g⟩)
  (fun acc w1 w2 ⟨vl, lcs, h4⟩ k => ⟨vl, lcs, h4.step HP.o k⟩) (fun w1 w2 h k => h.step HP.o k) (fun acc w1 ⟨vl, lcs, h4⟩ => h4.bad) listStep_st Jf.o hc (Nat.zero_le _) ⟨_, _, Jc.o⟩ hf)
 clear hs hc hT hf IH0
 go_enter func121, ntmps121
 go_wp2_with fail
 rw [← Ga.o]
 refine CI.o.mono ?_
 rintro e w1 ⟨rfl, hfin⟩
 clear f2
 have hz := Gr.o
 have hpw := Gd.o
 unfold GFin at hfin
 cases hR : yw (ym (zr d)) 93 f s c [] with
 | inl x =>
  rw [hR] at hfin
  obtain ⟨hp1, hcap, a, n, cc, hb⟩ := hfin
  have Gi := qI hp1
  have Jm := qI hcap
  have x0 := za (o := 0) (v := .int .i64 5) hb rfl
  have x1 := za (o := 1) (v := .int .i64 0) hb rfl
  have x2 := za (o := 2) (v := .string ⟨#[]⟩) hb rfl
  have x3 := za (o := 3) (v := .slice a n cc) hb rfl
  have x4 := za (o := 4) (v := .slice none 0 0) hb rfl
  have Gc := qI (Gh.o.kept hcap.kept (by simp; omega))
  obtain ⟨⟨d0, d1, d2, d3, d4⟩, f0, f1, f2, f3, f4⟩ := Gc.o.facts
  have Gw : Hid (QO (yw (ym (zr d)) 93 f s c []) = .inl x) := qI (by rw [hR]; rfl)
  clear hp1 hcap hb hR
  go_wp2_with fail
  obtain ⟨WF, e⟩ : ∃ WF, WF = zy w1 (w.heap.size + 1 + 1) (.int .i64 5) (.int .i64 0) (.string ⟨#[]⟩) (.slice a n cc) (.slice none 0 0) := ⟨_, rfl⟩
  obtain ⟨KF, y0, y1, y2, y3, y4⟩ := Gc.o.stored e
  unfold zy at e
  rw [← e]
  exact bodyPost_ret (v := .agg #[.int .i64 5, .int .i64 0, .string ⟨#[]⟩, .slice a n cc, .slice none 0 0]) (by simp [results, results121, go_sem, y0, y1, y2, y3, y4]) rfl
   (jv (cs := [.int .i64 5, .int .i64 0, .string ⟨#[]⟩, .slice a n cc, .slice none 0 0]) Gw.o ⟨_, _, _, _, _, _, _, _, _, rfl⟩ (((Gb.o.mono (Y := [p]) (by simp)).trans Jm.o.kept (fun i hi => by simp at hi; rcases hi with h | h; exact .inl (by simp [h]); exact .inr (by omega))).trans KF (fun i hi => by simp at hi; exact .inr (by omega))) (Gi.o.kept KF (by simp; omega)))
 | inr y =>
  obtain ⟨l, r, c'⟩ := y
  rw [hR] at hfin
  obtain ⟨hp1, ⟨vl, lcs, hj⟩, -⟩ := hfin
  obtain ⟨a, cc, rfl, -, -⟩ := (Slc.of_row hj.row).form
  have Gi := qI hp1
  have HJ := qI hj
  have hb := hj.blk
  have x0 := za (o := 0) (v := .int .i64 5) hb rfl
  have x1 := za (o := 1) (v := .int .i64 0) hb rfl
  have x2 := za (o := 2) (v := .string ⟨#[]⟩) hb rfl
  have x3 := za (o := 3) (v := .slice a l.length cc) hb rfl
  have x4 := za (o := 4) (v := .slice none 0 0) hb rfl
  have Gc := qI (Gh.o.kept hj.cap.kept (by simp; omega))
  obtain ⟨⟨d0, d1, d2, d3, d4⟩, f0, f1, f2, f3, f4⟩ := Gc.o.facts
  have Gw : Hid (QO (yw (ym (zr d)) 93 f s c []) = .inr ((⟨5, 0, ⟨#[]⟩, l, []⟩ : VS (V d)), r, c')) := qI (by rw [hR]; rfl)
  clear hp1 hj hb hR
  go_wp2_with fail
  obtain ⟨WF, e⟩ : ∃ WF, WF = zy w1 (w.heap.size + 1 + 1) (.int .i64 5) (.int .i64 0) (.string ⟨#[]⟩) (.slice a l.length cc) (.slice none 0 0) := ⟨_, rfl⟩
  obtain ⟨KF, y0, y1, y2, y3, y4⟩ := Gc.o.stored e
  unfold zy at e
  rw [← e]
  have hown : yS (d + 1) w.heap.size WF [.int .i64 5, .int .i64 0, .string ⟨#[]⟩, .slice a l.length cc, .slice none 0 0] (⟨5, 0, ⟨#[]⟩, l, []⟩ : VS (V d)) := by
   refine ⟨_, _, lcs, [], rfl, ?_, ?_, World.ownsRow_nil _ _ _ _, yc.nil _, rfl, rfl⟩
   ·exact y8 (zh HJ.o.row KF (fun g hg hx => by simp at hx; have := (HJ.o.row.lt g hg).1; omega)) (fun g hg => by have := (HJ.o.row.lt g hg).1; omega)
   ·exact HJ.o.all.mono fun _ _ _ q => q.move KF (fun g _ h => ⟨fun hx => by simp at hx; omega, by omega, h.2, by simp [Value.ownBlock]⟩)
  exact bodyPost_ret (v := .agg #[.int .i64 5, .int .i64 0, .string ⟨#[]⟩, .slice a l.length cc, .slice none 0 0]) (by simp [results, results121, go_sem, y0, y1, y2, y3, y4]) rfl
   (jd (cs := [.int .i64 5, .int .i64 0, .string ⟨#[]⟩, .slice a l.length cc, .slice none 0 0]) Gw.o ⟨_, _, _, _, _, _, _, _, _, rfl⟩ (((Gb.o.mono (Y := [p]) (by simp)).trans HJ.o.cap.kept (fun i hi => by simp at hi; rcases hi with h | h; exact .inl (by simp [h]); exact .inr (by omega))).trans KF (fun i hi => by simp at hi; exact .inr (by omega))) (Gi.o.kept KF (by simp; omega)) hown)
end
section
variable {w : World} {p d : Nat} {S : ByteArray} {s : List UInt8} {c f : Nat}
theorem pmap_any (IH0 : xf d) (hs : PS w p S 4097 (.inr (s, c))) (hc : c ≤ 4096) (hS : S.size ≤ 262144) (hT : xr p w) (hf : s.length < f) :
  Calls Tryz.prog 122 #[.pointer (some ⟨p, 0, none⟩), .int .i64 d] w fun e w' => xu d (asMap (yw (yj (zr d)) 125 f s c [])) p S w e w' := by
 obtain ⟨W0, Ga⟩ : ∃ W0, Hid (W0 = (((((w.alloc (.cells #[.pointer (some ⟨p, 0, none⟩)] 61)).alloc (.cells #[.int .i64 d] 3)).alloc (.cells #[.int .i64 0, .int .i64 0, .string ⟨#[]⟩, .slice none 0 0, .slice none 0 0] 25)).alloc (.cells #[.int .i64 6, .int .i64 0, .string ⟨#[]⟩, .slice none 0 0, .slice none 0 0] 25)).alloc (.map #[] 0)).alloc (.cells #[.map (some (w.heap.size + 1 + 1 + 1 + 1))] 176)) := ⟨_, qI rfl⟩
 have Gr : Hid (W0.heap.size = w.heap.size + 6) := qI (by rw [Ga.o]; simp)
 have Gb : Hid (zb [] w W0) := qI (by rw [Ga.o]; exact ((((((zb.refl [] w).alloc _).alloc _).alloc _).alloc _).alloc _).alloc _)
 have Gd : Hid (p < w.heap.size) := qI hs.lt
 have Jl : Hid (W0.heap[w.heap.size]? = some (.cells #[.pointer (some ⟨p, 0, none⟩)] 61 (0, 0))) := qI (by
  rw [Ga.o]; exact ((((((zb.refl [] _).alloc _).alloc _).alloc _).alloc _).alloc _).heap (zn rfl) (by simp))
 have Gp : Hid (W0.heap[w.heap.size + 1]? = some (.cells #[.int .i64 d] 3 (0, 0))) := qI (by
  rw [Ga.o]; exact (((((zb.refl [] _).alloc _).alloc _).alloc _).alloc _).heap (zn (by simp)) (by simp))
 have Gh : Hid (xh W0 (w.heap.size + 1 + 1)) := qI (by
  rw [Ga.o]; exact ((((zb.refl [] _).alloc _).alloc _).alloc _).heap (zn (by simp)) (by simp))
 have Mo : Hid (W0.heap[w.heap.size + 1 + 1 + 1]? = some (.cells (qj 6 0 ⟨#[]⟩ (.slice none 0 0) (.slice none 0 0)) 25 (0, 0))) := qI (by
  rw [Ga.o]; exact (((zb.refl [] _).alloc _).alloc _).heap (zn (by simp)) (by simp))
 have Yf : Hid (xN W0 (w.heap.size + 1 + 1 + 1 + 1) []) := qI (by
  rw [Ga.o]; exact (seen_new (by simp)).kept0 ((zb.refl [] _).alloc _))
 have Ju : Hid (W0.heap[w.heap.size + 1 + 1 + 1 + 1 + 1]? = some (.cells #[.map (some (w.heap.size + 1 + 1 + 1 + 1))] 176 (0, 0))) := qI (by
  rw [Ga.o]; exact zn (by simp))
 have HP : Hid (MPos W0 (w.heap.size + 1 + 1 + 1) w.heap.size (w.heap.size + 1) (w.heap.size + 1 + 1 + 1 + 1 + 1) (w.heap.size + 1 + 1 + 1 + 1) p) := qI (by
  have h1 := Gd.o
  have h2 := Gr.o
  constructor <;> omega)
 have Jc : Hid (MJ W0 (w.heap.size + 1 + 1 + 1) w.heap.size (w.heap.size + 1) (w.heap.size + 1 + 1 + 1 + 1 + 1) (w.heap.size + 1 + 1 + 1 + 1) p d [] [] W0 (.slice none 0 0) []) := qI ⟨⟨Jl.o, Gp.o, Ju.o, zb.refl _ _⟩, Yf.o, Mo.o, World.ownsRow_nil _ _ _ _, yc.nil _⟩
 have Jf := qI (hs.kept0 Gb.o)
 have Gs := qI (hT.step (Gb.o.mono (by simp)))
 have f2 := za (o := 0) (v := .pointer (some ⟨p, 0, none⟩)) Jl.o rfl
 rw [Ga.o] at f2
 have CI := qI (items2_any (acc := ([] : List (ByteArray × V d))) (step := yj (zr d)) (stop := 125) (p := p) (S := S) (w := W0) (GJ := fun acc w' => ∃ vm mcs, MJ W0 (w.heap.size + 1 + 1 + 1) w.heap.size (w.heap.size + 1) (w.heap.size + 1 + 1 + 1 + 1 + 1) (w.heap.size + 1 + 1 + 1 + 1) p d (acc.map (fun q => q.1)) acc w' vm mcs) (GB := MBad W0 (w.heap.size + 1 + 1 + 1) w.heap.size (w.heap.size + 1) (w.heap.size + 1 + 1 + 1 + 1 + 1) (w.heap.size + 1 + 1 + 1 + 1) p d) (len := List.length) hS
  (fun s c acc w1 h1 h2 h3 ⟨vl, lcs, h4⟩ => (pairs1_any (by exact @IH0) HP.o h4 h1 h2 hS Gs.o (by omega)).mono fun e w2 ⟨q1, q2⟩ => ⟨q1, q2.g⟩)
  (fun acc w1 w2 ⟨vl, lcs, h4⟩ k => ⟨vl, lcs, h4.step HP.o k⟩) (fun w1 w2 h k => h.step HP.o k) (fun acc w1 ⟨vl, lcs, h4⟩ => h4.bad) pairStep_st Jf.o hc (Nat.zero_le _) ⟨_, _, Jc.o⟩ hf)
 clear hs hc hT hf IH0
 go_enter func122, ntmps122
 have hmm := @run_makeMap Tryz.prog
 go_wp2_with fail
 clear hmm
 rw [← Ga.o]
 refine CI.o.mono ?_
 rintro e w1 ⟨rfl, hfin⟩
 clear f2
 have hz := Gr.o
 have hpw := Gd.o
 unfold GFin at hfin
 cases hR : yw (yj (zr d)) 125 f s c [] with
 | inl x =>
  rw [hR] at hfin
  obtain ⟨hp1, hcap, a, n, cc, hb⟩ := hfin
  have Gi := qI hp1
  have Jm := qI hcap
  have x0 := za (o := 0) (v := .int .i64 6) hb rfl
  have x1 := za (o := 1) (v := .int .i64 0) hb rfl
  have x2 := za (o := 2) (v := .string ⟨#[]⟩) hb rfl
  have x3 := za (o := 3) (v := .slice none 0 0) hb rfl
  have x4 := za (o := 4) (v := .slice a n cc) hb rfl
  have Gc := qI (Gh.o.kept hcap.kept (by simp; omega))
  obtain ⟨⟨d0, d1, d2, d3, d4⟩, f0, f1, f2, f3, f4⟩ := Gc.o.facts
  have Gw : Hid (asMap (yw (yj (zr d)) 125 f s c []) = .inl x) := qI (by rw [hR]; rfl)
  clear hp1 hcap hb hR
  go_wp2_with fail
  obtain ⟨WF, e⟩ : ∃ WF, WF = zy w1 (w.heap.size + 1 + 1) (.int .i64 6) (.int .i64 0) (.string ⟨#[]⟩) (.slice none 0 0) (.slice a n cc) := ⟨_, rfl⟩
  obtain ⟨KF, y0, y1, y2, y3, y4⟩ := Gc.o.stored e
  unfold zy at e
  rw [← e]
  exact bodyPost_ret (v := .agg #[.int .i64 6, .int .i64 0, .string ⟨#[]⟩, .slice none 0 0, .slice a n cc]) (by simp [results, results122, go_sem, y0, y1, y2, y3, y4]) rfl
   (jv (cs := [.int .i64 6, .int .i64 0, .string ⟨#[]⟩, .slice none 0 0, .slice a n cc]) Gw.o ⟨_, _, _, _, _, _, _, _, _, rfl⟩ (((Gb.o.mono (Y := [p]) (by simp)).trans Jm.o.kept (fun i hi => by simp at hi; rcases hi with h | h | h; exact .inl (by simp [h]); exact .inr (by omega); exact .inr (by omega))).trans KF (fun i hi => by simp at hi; exact .inr (by omega))) (Gi.o.kept KF (by simp; omega)))
 | inr y =>
  obtain ⟨l, r, c'⟩ := y
  rw [hR] at hfin
  obtain ⟨hp1, ⟨vl, lcs, hj⟩, -⟩ := hfin
  obtain ⟨a, cc, rfl, -, -⟩ := (Slc.of_row hj.row).form
  have Gi := qI hp1
  have HJ := qI hj
  have hb := hj.blk
  have x0 := za (o := 0) (v := .int .i64 6) hb rfl
  have x1 := za (o := 1) (v := .int .i64 0) hb rfl
  have x2 := za (o := 2) (v := .string ⟨#[]⟩) hb rfl
  have x3 := za (o := 3) (v := .slice none 0 0) hb rfl
  have x4 := za (o := 4) (v := .slice a l.length cc) hb rfl
  have Gc := qI (Gh.o.kept hj.cap.kept (by simp; omega))
  obtain ⟨⟨d0, d1, d2, d3, d4⟩, f0, f1, f2, f3, f4⟩ := Gc.o.facts
  have Gw : Hid (asMap (yw (yj (zr d)) 125 f s c []) = .inr ((⟨6, 0, ⟨#[]⟩, [], l⟩ : VS (V d)), r, c')) := qI (by rw [hR]; rfl)
  clear hp1 hj hb hR
  go_wp2_with fail
  obtain ⟨WF, e⟩ : ∃ WF, WF = zy w1 (w.heap.size + 1 + 1) (.int .i64 6) (.int .i64 0) (.string ⟨#[]⟩) (.slice none 0 0) (.slice a l.length cc) := ⟨_, rfl⟩
  obtain ⟨KF, y0, y1, y2, y3, y4⟩ := Gc.o.stored e
  unfold zy at e
  rw [← e]
  have hown : yS (d + 1) w.heap.size WF [.int .i64 6, .int .i64 0, .string ⟨#[]⟩, .slice none 0 0, .slice a l.length cc] (⟨6, 0, ⟨#[]⟩, [], l⟩ : VS (V d)) := by
   refine ⟨_, _, [], lcs, rfl, World.ownsRow_nil _ _ _ _, yc.nil _, ?_, ?_, rfl, rfl⟩
   ·exact y8 (zh HJ.o.row KF (fun g hg hx => by simp at hx; have := (HJ.o.row.lt g hg).1; omega)) (fun g hg => by have := (HJ.o.row.lt g hg).1; omega)
   ·exact HJ.o.all.mono fun _ _ _ q => ⟨q.1, q.2.move KF (fun g _ h => ⟨fun hx => by simp at hx; omega, by omega, by simp [Value.ownBlock], h.2⟩)⟩
  exact bodyPost_ret (v := .agg #[.int .i64 6, .int .i64 0, .string ⟨#[]⟩, .slice none 0 0, .slice a l.length cc]) (by simp [results, results122, go_sem, y0, y1, y2, y3, y4]) rfl
   (jd (cs := [.int .i64 6, .int .i64 0, .string ⟨#[]⟩, .slice none 0 0, .slice a l.length cc]) Gw.o ⟨_, _, _, _, _, _, _, _, _, rfl⟩ (((Gb.o.mono (Y := [p]) (by simp)).trans HJ.o.cap.kept (fun i hi => by simp at hi; rcases hi with h | h | h; exact .inl (by simp [h]); exact .inr (by omega); exact .inr (by omega))).trans KF (fun i hi => by simp at hi; exact .inr (by omega))) (Gi.o.kept KF (by simp; omega)) hown)
end
section
variable {α : Type} {sub : List UInt8 → Nat → Sum Int (α × List UInt8 × Nat)} {s : List UInt8} {c : Nat}
theorem read_word {k n : Int} (h : xL s = some (k, n)) : yG sub s c = .inr (kt k n ⟨#[]⟩, s.drop (if k = 2 ∧ n = 0 then 5 else 4), c) ∧ (if k = 2 ∧ n = 0 then 5 else 4) ≤ s.length ∧ ((k = 1 ∧ n = 0) ∨ (k = 2 ∧ n = 1) ∨ (k = 2 ∧ n = 0)) := by
 unfold xL at h
 unfold yG
 split at h
 ·rename_i h1
  injection h with h; injection h with h2 h3; subst h2; subst h3
  rw [if_pos h1]
  exact ⟨rfl, Yz h1, .inl ⟨rfl, rfl⟩⟩
 rename_i h1
 rw [if_neg h1]
 split at h
 ·rename_i h2
  injection h with h; injection h with h3 h4; subst h3; subst h4
  rw [if_pos h2]
  exact ⟨rfl, Yz h2, .inr (.inl ⟨rfl, rfl⟩)⟩
 rename_i h2
 rw [if_neg h2]
 split at h
 ·rename_i h3
  injection h with h; injection h with h4 h5; subst h4; subst h5
  rw [if_pos h3]
  exact ⟨rfl, Yz h3, .inr (.inr ⟨rfl, rfl⟩)⟩
 ·cases h
theorem read_not (h : xL s = none) : yG sub s c = if s.head? = some 34 then (match qd s with | .inl e => .inl e | .inr (t, r) => .inr (kt 4 0 (zg t), r, c))
  else if s.head? = some 91 then (match yw (ym sub) 93 (s.length + 1) s.tail c [] with | .inl e => .inl e | .inr (l, r, c') => .inr (⟨5, 0, ⟨#[]⟩, l, []⟩, r, c'))
  else if s.head? = some 123 then (match yw (yj sub) 125 (s.length + 1) s.tail c [] with | .inl e => .inl e | .inr (l, r, c') => .inr (⟨6, 0, ⟨#[]⟩, [], l⟩, r, c'))
  else match qM s with | .inl e => .inl e | .inr (n, r) => .inr (kt 3 n ⟨#[]⟩, r, c) := by
 by_cases h5 : s.head? = some 91
 ·rw [if_neg (by rw [h5]; decide), if_pos h5, pRead_items sub s c h5]
  cases yw (ym sub) 93 (s.length + 1) s.tail c [] with
  | inl e => rfl
  | inr y => obtain ⟨l, r, c'⟩ := y; rfl
 by_cases h6 : s.head? = some 123
 ·rw [if_neg (by rw [h6]; decide), if_neg h5, if_pos h6, pRead_map sub s c h6]
  cases yw (yj sub) 125 (s.length + 1) s.tail c [] with
  | inl e => rfl
  | inr y => obtain ⟨l, r, c'⟩ := y; rfl
 rw [if_neg h5, if_neg h6]
 unfold xL at h
 unfold yG
 split at h
 ·cases h
 split at h
 ·cases h
 split at h
 ·cases h
 rename_i h1 h2 h3
 rw [if_neg h1, if_neg h2, if_neg h3, if_neg h5, if_neg h6]
 by_cases h7 : s.head? = some 34
 ·rw [if_pos h7, if_pos h7]
  cases qd s with
  | inl e => rfl
  | inr y => obtain ⟨t, r⟩ := y; rfl
 ·rw [if_neg h7, if_neg h7]
  cases qM s with
  | inl e => rfl
  | inr y => obtain ⟨t, r⟩ := y; rfl
end
section
variable {w : World} {p d : Nat} {S : ByteArray} {s : List UInt8} {c : Nat}
theorem bt {d B : Nat} {w : World} {k n : Int} {s : ByteArray} (h1 : (Lit.int .i64 k).wf = true) (h2 : (Lit.int .i64 n).wf = true) : yS (d + 1) B w [.int .i64 k, .int .i64 n, .string s, .slice none 0 0, .slice none 0 0] (kt k n s : VS (V d)) :=
 ⟨_, _, [], [], rfl, World.ownsRow_nil _ _ _ _, yc.nil _, World.ownsRow_nil _ _ _ _, yc.nil _, h1, h2⟩
theorem pread_word (hs : PS w p S 4097 (.inr (s, c))) (hS : S.size ≤ 262144) {k n : Int} (hw : xL s = some (k, n)) :
  Calls Tryz.prog 81 #[.pointer (some ⟨p, 0, none⟩), .int .i64 ((d : Int) + 1)] w fun e w' => xu d (yG (zr d) s c) p S w e w' := by
 obtain ⟨W0, Ga⟩ : ∃ W0, Hid (W0 = w.alloc (.cells #[.int .i64 0, .int .i64 0, .string ⟨#[]⟩, .slice none 0 0, .slice none 0 0] 25)) := ⟨_, qI rfl⟩
 have Gb : Hid (zb [] w W0) := qI (by rw [Ga.o]; exact (zb.refl [] w).alloc _)
 have Gr : Hid (W0.heap.size = w.heap.size + 1) := qI (by rw [Ga.o]; simp)
 have Gh : Hid (xh W0 w.heap.size) := qI (by rw [Ga.o]; exact yA w)
 have Gd : Hid (p < w.heap.size) := qI hs.lt
 have CW := qI (Y5 (hs.kept0 Gb.o) hS)
 obtain ⟨r1, r2, r3⟩ := read_word (sub := zr d) (c := c) hw
 obtain ⟨i, h1, hi, hc, hr⟩ := hs.open_ok
 have hl := yv hr hi
 have Mz := qI r1
 have Ya := qI r3
 have Jr := qI hw
 have CLT : Hid (∀ w', _) := qI (fun w' => pletters_any k n r3 w')
 obtain ⟨L, hL⟩ : ∃ L : Nat, L = (if k = 2 ∧ n = 0 then 5 else 4) := ⟨_, rfl⟩
 have hL2 : (if k = 2 ∧ n = 0 then (5 : Int) else 4) = (L : Int) := by rw [hL]; split <;> rfl
 rw [hL2] at CLT
 rw [← hL] at Mz r2
 have Yg : Hid (S.data.toList.drop (i + L) = s.drop L) := qI (by rw [← hr, List.drop_drop])
 have hiL : i + L ≤ S.size := by omega
 have Yh := qI hiL
 have hiLI : (i : Int) + L ≤ 262144 := by omega
 have H1 := qI (Gb.o.heap h1 (by simp))
 have HC := qI hc
 clear hs hw r1 r2 r3 h1 hi hc hr hl hL hL2 hiL
 go_enter func81, ntmps81
 go_wp2_with fail
 rw [← Ga.o]
 refine CW.o.mono ?_
 rintro e w1 ⟨ha, hk1⟩
 unfold qc at ha
 rw [Jr.o] at ha
 subst ha
 unfold yq
 obtain ⟨W1, Jn⟩ : ∃ W1, Hid (W1 = w1.alloc (.cells #[.int .i64 k, .int .i64 n, .string ⟨#[]⟩, .slice none 0 0, .slice none 0 0] 25)) := ⟨_, qI rfl⟩
 have Gg := qI hk1
 have Gf : Hid (zb [] w1 W1) := qI (by rw [Jn.o]; exact (zb.refl [] w1).alloc _)
 have Yi : Hid (z6 W1 w1.heap.size k n ⟨#[]⟩ (.slice none 0 0) (.slice none 0 0)) := qI (by rw [Jn.o]; exact yb _ _ _ _ _ _ _)
 have Yj : Hid (PAt W1 p S i c 0) := qI ((Gg.o.then Gf.o).heap H1.o (by simp))
 have Mp : Hid (W0.heap.size ≤ w1.heap.size) := qI hk1.size
 clear hk1
 go_wp2_with fail
 rw [← Jn.o]
 refine zk (n := 10) (fun w' : World => PAt w' p S i c 0 ∧ z6 w' w1.heap.size k n ⟨#[]⟩ (.slice none 0 0) (.slice none 0 0)) 9 (by kernel_rfl) (by kernel_rfl) ?_
 change zR _ _ _ _ _ _ _ _ _ W1.drew
 have hSS : (fun w' : World => PAt w' p S i c 0 ∧ z6 w' w1.heap.size k n ⟨#[]⟩ (.slice none 0 0) (.slice none 0 0)) W1.drew := ⟨(zb.refl [] W1).drew.heap Yj.o (by simp), Yi.o.kept0 (zb.refl [] W1).drew⟩
 have Mq : Hid (zb [] W1 W1.drew) := qI (zb.refl [] W1).drew
 revert hSS Mq
 generalize W1.drew = WD
 intro hSS Mq
 refine zx ?_
 intro O R hO hR
 have hQp : ∀ c a (d : Nat) v w, R (.panic c) (a.put (some d) v) w → R (.panic c) a w := by subst hR; exact fun _ _ _ _ _ h => h
 refine qT 0 ?_ hO rfl rfl (by kernel_rfl) hQp (fun w hSw => ?_) hSS ?_
 rotate_left
 ·go_simp; try with_reducible rfl
 try simp only [zA,zN,zB,zC,zD]
 refine qT 1 ?_ hO rfl rfl (by kernel_rfl) hQp (fun w hSw => ?_) hSS ?_
 rotate_left
 ·go_simp; try with_reducible rfl
 try simp only [zA,zN,zB,zC,zD]
 refine qT 2 ?_ hO rfl rfl (by kernel_rfl) hQp (fun w hSw => ?_) hSS ?_
 rotate_left
 ·go_simp; try with_reducible rfl
 try simp only [zA,zN,zB,zC,zD]
 refine qT 3 ?_ hO rfl rfl (by kernel_rfl) hQp (fun w hSw => ?_) hSS ?_
 rotate_left
 ·obtain ⟨s0, s1, s2, s3, s4⟩ := hSw.1.cells; go_simp; try with_reducible rfl
 try simp only [zA,zN,zB,zC,zD]
 refine qT 4 ?_ hO rfl rfl (by kernel_rfl) hQp (fun w hSw => ?_) hSS ?_
 rotate_left
 ·obtain ⟨s0, s1, s2, s3, s4⟩ := hSw.2; go_simp; try with_reducible rfl
 try simp only [zA,zN,zB,zC,zD]
 refine qO 5 hO rfl (by kernel_rfl) (fun K hK => ?_)
 go_simp
 refine Calls.mono (CLT.o _) ?_
 rintro e w3 ⟨rfl, hk3⟩
 have Ge := qI (Mq.o.then hk3)
 have hS3 : (fun w' : World => PAt w' p S i c 0 ∧ z6 w' w1.heap.size k n ⟨#[]⟩ (.slice none 0 0) (.slice none 0 0)) w3 := ⟨hk3.heap hSS.1 (by simp), hSS.2.kept0 hk3⟩
 refine hK _ _ (.inr hS3) ?_
 clear hK K
 try simp only [zA,zN,zB,zC,zD]
 clear hSS hk3
 have hSS := hS3
 clear hS3
 refine qT 6 ?_ hO rfl rfl (by kernel_rfl) hQp (fun w hSw => ?_) hSS ?_
 rotate_left
 ·go_simp; try with_reducible rfl
 try simp only [zA,zN,zB,zC,zD]
 refine qO 7 hO rfl (by kernel_rfl) (fun K hK => ?_)
 go_simp
 refine hK _ _ (.inr hSS) ?_
 clear hK K
 try simp only [zA,zN,zB,zC,zD]
 refine qT 8 ?_ hO rfl rfl (by kernel_rfl) hQp (fun w hSw => ?_) hSS ?_
 rotate_left
 ·go_simp; try with_reducible rfl
 try simp only [zA,zN,zB,zC,zD]
 have Gk := qI hSS.1
 have Gp := qI hSS.2
 obtain ⟨s0, s1, s2, s3, fz⟩ := hSS.1.cells
 have f1 := fz 1
 clear fz
 refine qO 9 hO rfl (by kernel_rfl) (fun K hK => ?_)
 go_simp
 refine hK _ _ (.inl rfl) ?_
 clear hK K
 try simp only [zA,zN,zB,zC,zD]
 refine zv hO (by kernel_rfl) ?_ _
 subst hR
 try clear hQp hO O
 clear s0 s1 s2 s3 f1 hSS
 rw [show IntKind.i64.wrap ((i : Int) + (L : Int)) = ((i + L : Nat) : Int) by rw [IntKind.wrap_i64]; omega]
 have hp4 := Gk.o.set1 (i + L)
 have hk4 := zT w3 p 1 (.int .i64 ((i + L : Nat)))
 revert hp4 hk4
 generalize w3.setCell ⟨p, 1, none⟩ (.int .i64 ((i + L : Nat))) = w4
 intro hp4 hk4
 have Gq := qI hp4
 have Gj : Hid (zb [p] W0 w4) := qI (((((Gg.o.then Gf.o).then Ge.o)).mono (by simp)).trans' hk4)
 obtain ⟨b0, b1, b2, b3, b4⟩ := Gp.o.kept hk4 (by have h1 := Gd.o; have h2 := Gr.o; have h3 := Mp.o; simp; omega)
 have Gc := qI (Gh.o.kept Gj.o (by have := Gd.o; simp; omega))
 obtain ⟨⟨d0, d1, d2, d3, d4⟩, f0, f1, f2, f3, f4⟩ := Gc.o.facts
 clear hp4 hk4
 go_wp2_with fail
 obtain ⟨WF, e⟩ : ∃ WF, WF = zy w4 w.heap.size (.int .i64 k) (.int .i64 n) (.string ⟨#[]⟩) (.slice none 0 0) (.slice none 0 0) := ⟨_, rfl⟩
 obtain ⟨KF, y0, y1, y2, y3, y4⟩ := Gc.o.stored e
 unfold zy at e
 rw [← e]
 have hpF := PS.good (show PAt WF p S (i + L) c 0 from KF.heap Gq.o (by have := Gd.o; simp; omega)) Yh.o HC.o
 rw [Yg.o] at hpF
 exact bodyPost_ret (v := .agg #[.int .i64 k, .int .i64 n, .string ⟨#[]⟩, .slice none 0 0, .slice none 0 0]) (by simp [results, results81, go_sem, y0, y1, y2, y3, y4]) rfl
  (jd (cs := [.int .i64 k, .int .i64 n, .string ⟨#[]⟩, .slice none 0 0, .slice none 0 0]) Mz.o ⟨_, _, _, _, _, _, _, _, _, rfl⟩ (((Gb.o.mono (Y := [p]) (by simp)).trans' Gj.o).trans KF (fun i hi => by simp at hi; exact .inr (by omega))) hpF (bt (by rcases Ya.o with ⟨rfl, rfl⟩ | ⟨rfl, rfl⟩ | ⟨rfl, rfl⟩ <;> rfl) (by rcases Ya.o with ⟨rfl, rfl⟩ | ⟨rfl, rfl⟩ | ⟨rfl, rfl⟩ <;> rfl)))
end
section
variable {w : World} {p d : Nat} {S : ByteArray} {s : List UInt8} {c : Nat}
theorem xu.move {d p : Nat} {R : Sum Int (VS (V d) × List UInt8 × Nat)} {S : ByteArray} {w w0 w' WF : World} {e : Ending} {r : Nat} {b0 b1 b2 b3 b4 : Value} (h : xu d R p S w0 (.returned (.agg #[b0, b1, b2, b3, b4])) w') (k0 : zb [p] w w0) (kF : zb [r] w' WF) (hr : w.heap.size ≤ r) (hr0 : r < w0.heap.size) (hp : p < w.heap.size) : xu d R p S w (.returned (.agg #[b0, b1, b2, b3, b4])) WF := by
 obtain ⟨cs, e1, e2, e3, e4⟩ := h
 refine ⟨cs, e1, e2, (k0.trans e3 (fun i hi => .inl hi)).trans kF (fun i hi => by simp at hi; exact .inr (by omega)), ?_⟩
 cases R with
 | inl x => exact PS.kept e4 kF (by simp; omega)
 | inr y =>
  obtain ⟨v, q, c'⟩ := y
  exact ⟨PS.kept e4.1 kF (by simp; omega), e4.2.move kF (fun g hg => by simp at hg; omega) (by have := k0.size; omega)⟩
theorem pread_not (hd : d ≤ 100) (IH0 : xf d) (hs : PS w p S 4097 (.inr (s, c))) (hc : c ≤ 4096) (hS : S.size ≤ 262144) (hT : xr p w) (hw : xL s = none) (hb : yO s = true) :
  Calls Tryz.prog 81 #[.pointer (some ⟨p, 0, none⟩), .int .i64 ((d : Int) + 1)] w fun e w' => xu d (yG (zr d) s c) p S w e w' := by
 obtain ⟨W0, Ga⟩ : ∃ W0, Hid (W0 = w.alloc (.cells #[.int .i64 0, .int .i64 0, .string ⟨#[]⟩, .slice none 0 0, .slice none 0 0] 25)) := ⟨_, qI rfl⟩
 have Gb : Hid (zb [] w W0) := qI (by rw [Ga.o]; exact (zb.refl [] w).alloc _)
 have Gr : Hid (W0.heap.size = w.heap.size + 1) := qI (by rw [Ga.o]; simp)
 have Gh : Hid (xh W0 w.heap.size) := qI (by rw [Ga.o]; exact yA w)
 have Gd : Hid (p < w.heap.size) := qI hs.lt
 have CW := qI (Y5 (hs.kept0 Gb.o) hS)
 have Jf := qI (hs.kept0 Gb.o)
 have Gs := qI (hT.step (Gb.o.mono (by simp)))
 have Mf := qI (read_not (sub := zr d) (c := c) hw)
 have Jr := qI hw
 have HC := qI hc
 have hdI : (d : Int) ≤ 100 := by omega
 clear hd
 have Mg := @qI (xf d) (by exact @IH0)
 clear hs hc hT hw IH0
 cases s with
 | nil => exact absurd hb (by decide)
 | cons a t =>
  have hsz : 0 < (zg (a :: t)).size := by rw [zK]; simp
  have h0 : (zg (a :: t))[0]'hsz = a := rfl
  have hszI : (0 : Int) < (zg (a :: t)).size := by omega
  have CR : Hid (∀ w', zb [] W0 w' → Calls Tryz.prog 50 #[.pointer (some ⟨p, 0, none⟩)] w' fun e w2 => e = .returned (.string (zg (a :: t))) ∧ zb [] w' w2) := qI (fun w' k => jP (Jf.o.kept0 k) hS)
  have Gl : Hid ((a :: t).head? = some a) := qI rfl
  clear hb
  revert CR hsz h0 hszI
  generalize zg (a :: t) = T
  intro hsz h0 hszI CR
  by_cases h34 : a = 34
  ·subst h34
   have Jy : Hid (yG (zr d) (34 :: t) c = (match qd (34 :: t) with | .inl e => .inl e | .inr (t, r) => .inr (kt 4 0 (zg t), r, c))) := qI (by rw [Mf.o]; exact if_pos rfl)
   have Gn : Hid (∀ (WF : World), PS WF p S 4097 (Zy (.inr (34 :: t, c))) → zb [p] w WF → xu d (yG (zr d) (34 :: t) c) p S w (.returned (.agg #[.int .i64 4, .int .i64 0, .string (zg (YG (.inr (34 :: t, c)))), .slice none 0 0, .slice none 0 0])) WF) := qI (fun WF h1 h2 => by
    cases hu : qd (34 :: t) with
    | inl e =>
     rw [(bw hu).1] at h1
     exact jv (by rw [Jy.o, hu]) ⟨_, _, _, _, _, _, _, _, _, rfl⟩ h2 h1
    | inr y =>
     obtain ⟨q, r⟩ := y
     rw [(bL hu).1] at h1
     rw [(bL hu).2]
     exact jd (by rw [Jy.o, hu]) ⟨_, _, _, _, _, _, _, _, _, rfl⟩ h2 h1 (bt rfl rfl))
   go_enter func81, ntmps81
   go_wp2_with fail
   rw [← Ga.o]
   refine CW.o.mono ?_
   rintro e w1 ⟨ha, hk1⟩
   unfold qc at ha
   rw [Jr.o] at ha
   subst ha
   unfold yq
   have Gg := qI (hk1.alloc (.cells #[.int .i64 0, .int .i64 0, .string ⟨#[]⟩, .slice none 0 0, .slice none 0 0] 25))
   clear hk1
   go_wp2_with fail
   refine (CR.o _ Gg.o).mono ?_
   rintro e w2 ⟨rfl, hk2⟩
   have Gf := qI (Gg.o.then hk2)
   have Jo := qI (Jf.o.kept0 Gf.o)
   have Jp := qI (Gs.o.step (Gf.o.mono (Y := [p]) (by simp)))
   clear hk2
   go_wp2_with fail
   refine (Z5 Jo.o Jp.o hS).mono ?_
   rintro e w3 ⟨rfl, hp3, hk3⟩
   have Gk := qI hp3
   have Ge := qI ((Gf.o.mono (Y := [p]) (by simp)).trans' hk3)
   clear hp3 hk3
   go_wp2_with fail
   refine (vtext_any _ _).mono ?_
   rintro e w4 ⟨rfl, hk4⟩
   unfold yq
   have Gq := qI (Gk.o.kept0 hk4)
   have Gj := qI (Ge.o.then hk4)
   clear hk4
   have Gc := qI (Gh.o.kept Gj.o (by have := Gd.o; simp; omega))
   obtain ⟨⟨d0, d1, d2, d3, d4⟩, f0, f1, f2, f3, f4⟩ := Gc.o.facts
   go_wp2_with fail
   obtain ⟨WF, e⟩ : ∃ WF, WF = zy w4 w.heap.size (.int .i64 4) (.int .i64 0) (.string (zg (YG (.inr (34 :: t, c))))) (.slice none 0 0) (.slice none 0 0) := ⟨_, rfl⟩
   obtain ⟨KF, y0, y1, y2, y3, y4⟩ := Gc.o.stored e
   unfold zy at e
   rw [← e]
   exact bodyPost_ret (v := .agg #[.int .i64 4, .int .i64 0, .string (zg (YG (.inr (34 :: t, c)))), .slice none 0 0, .slice none 0 0]) (by simp [results, results81, go_sem, y0, y1, y2, y3, y4]) rfl (Gn.o _ (Gq.o.kept KF (by have := Gd.o; simp; omega)) (((Gb.o.mono (Y := [p]) (by simp)).trans' Gj.o).trans KF (fun i hi => by simp at hi; exact .inr (by omega))))
  have hn34 : a.toNat ≠ 34 := fun q => h34 (UInt8.toNat_inj.1 q)
  obtain ⟨j1, j2⟩ := zt (a := (a.toNat : Int)) (b := 34) (by omega)
  by_cases h91 : a = 91
  ·have Js : Hid (yG (zr d) (a :: t) c = QO (yw (ym (zr d)) 93 ((a :: t).length + 1) t c [])) := qI (by
    rw [Mf.o, if_neg (by rw [Gl.o]; exact fun q => h34 (by injection q)), if_pos (by rw [Gl.o, h91]), List.tail_cons]
    cases yw (ym (zr d)) 93 ((a :: t).length + 1) t c [] with
    | inl e => rfl
    | inr y => obtain ⟨l, r, c'⟩ := y; rfl)
   rw [Js.o]
   have HA := qI h91
   have Yk := qI h34
   clear h34 h91
   go_enter func81, ntmps81
   go_wp2_with fail
   rw [← Ga.o]
   refine CW.o.mono ?_
   rintro e w1 ⟨ha, hk1⟩
   unfold qc at ha
   rw [Jr.o] at ha
   subst ha
   unfold yq
   have Gg := qI (hk1.alloc (.cells #[.int .i64 0, .int .i64 0, .string ⟨#[]⟩, .slice none 0 0, .slice none 0 0] 25))
   clear hk1
   go_wp2_with fail
   refine (CR.o _ Gg.o).mono ?_
   rintro e w2 ⟨rfl, hk2⟩
   have Gf := qI (Gg.o.then hk2)
   have Jo := qI (Jf.o.kept0 Gf.o)
   have Jp := qI (Gs.o.step (Gf.o.mono (Y := [p]) (by simp)))
   clear hk2
   go_wp2_with fail
   have C3 := qI (yT Jo.o hS ⟨#[91]⟩)
   rw [show (⟨#[91]⟩ : ByteArray).data.toList = [91] from rfl, (ye 91 (a :: t) c).1, decide_eq_true (by rw [Gl.o, HA.o]), (ye 91 (a :: t) c).2.1 (by rw [Gl.o, HA.o]), List.tail_cons] at C3
   refine C3.o.mono ?_
   rintro e w3 ⟨rfl, hp3, hk3⟩
   have Gk := qI hp3
   have Ge := qI ((Gf.o.mono (Y := [p]) (by simp)).trans' hk3)
   have Mh := qI (Jp.o.step hk3)
   clear hp3 hk3
   go_wp2_with fail
   refine (plist_any (d := d) (by exact @Mg.o) Gk.o HC.o hS Mh.o (f := (a :: t).length + 1) (by simp only [List.length_cons]; omega)).mono ?_
   rintro e w5 hans
   obtain ⟨cs, rfl, ⟨k5, m5, s5, p5, i5, c5, q5, j5, d5, rfl⟩, hk5, hrest⟩ := hans
   have Gn : Hid (xu d (QO (yw (ym (zr d)) 93 ((a :: t).length + 1) t c [])) p S w3 (.returned (.agg #[.int .i64 k5, .int .i64 m5, .string s5, .slice p5 i5 c5, .slice q5 j5 d5])) w5) := qI ⟨_, rfl, ⟨_, _, _, _, _, _, _, _, _, rfl⟩, hk5, hrest⟩
   have Gx := qI (Ge.o.trans' hk5)
   have Mr : Hid (w.heap.size < w3.heap.size) := qI (by have h1 := Ge.o.size; have h2 := Gr.o; omega)
   clear hk5 hrest
   have Gc := qI (Gh.o.kept Gx.o (by have := Gd.o; simp; omega))
   obtain ⟨⟨d0, d1, d2, d3, d4⟩, f0, f1, f2, f3, f4⟩ := Gc.o.facts
   go_wp2_with fail
   obtain ⟨WF, e⟩ : ∃ WF, WF = zy w5 w.heap.size (.int .i64 k5) (.int .i64 m5) (.string s5) (.slice p5 i5 c5) (.slice q5 j5 d5) := ⟨_, rfl⟩
   obtain ⟨KF, y0, y1, y2, y3, y4⟩ := Gc.o.stored e
   unfold zy at e
   rw [← e]
   exact bodyPost_ret (v := .agg #[.int .i64 k5, .int .i64 m5, .string s5, .slice p5 i5 c5, .slice q5 j5 d5]) (by simp [results, results81, go_sem, y0, y1, y2, y3, y4]) rfl (Gn.o.move (e := .panicked []) ((Gb.o.mono (Y := [p]) (by simp)).trans' Ge.o) KF (Nat.le_refl _) Mr.o Gd.o)
  by_cases h123 : a = 123
  ·have Js : Hid (yG (zr d) (a :: t) c = asMap (yw (yj (zr d)) 125 ((a :: t).length + 1) t c [])) := qI (by
    rw [Mf.o, if_neg (by rw [Gl.o]; exact fun q => h34 (by injection q)), if_neg (by rw [Gl.o]; exact fun q => h91 (by injection q)), if_pos (by rw [Gl.o, h123]), List.tail_cons]
    cases yw (yj (zr d)) 125 ((a :: t).length + 1) t c [] with
    | inl e => rfl
    | inr y => obtain ⟨l, r, c'⟩ := y; rfl)
   rw [Js.o]
   have HA := qI h123
   have Gy := qI h91
   clear h34 h91 h123
   go_enter func81, ntmps81
   go_wp2_with fail
   rw [← Ga.o]
   refine CW.o.mono ?_
   rintro e w1 ⟨ha, hk1⟩
   unfold qc at ha
   rw [Jr.o] at ha
   subst ha
   unfold yq
   have Gg := qI (hk1.alloc (.cells #[.int .i64 0, .int .i64 0, .string ⟨#[]⟩, .slice none 0 0, .slice none 0 0] 25))
   clear hk1
   go_wp2_with fail
   refine (CR.o _ Gg.o).mono ?_
   rintro e w2 ⟨rfl, hk2⟩
   have Gf := qI (Gg.o.then hk2)
   have Jo := qI (Jf.o.kept0 Gf.o)
   have Jp := qI (Gs.o.step (Gf.o.mono (Y := [p]) (by simp)))
   clear hk2
   go_wp2_with fail
   have C3 := qI (yT Jo.o hS ⟨#[91]⟩)
   rw [show (⟨#[91]⟩ : ByteArray).data.toList = [91] from rfl, (ye 91 (a :: t) c).1, decide_eq_false (by rw [Gl.o]; exact fun q => Gy.o (by injection q)), (ye 91 (a :: t) c).2.2 (by rw [Gl.o]; exact fun q => Gy.o (by injection q))] at C3
   refine C3.o.mono ?_
   rintro e w3 ⟨rfl, hp3, hk3⟩
   have Gk := qI hp3
   have Ge := qI ((Gf.o.mono (Y := [p]) (by simp)).trans' hk3)
   have Mh := qI (Jp.o.step hk3)
   clear hp3 hk3
   go_wp2_with fail
   have C4 := qI (yT Gk.o hS ⟨#[123]⟩)
   rw [show (⟨#[123]⟩ : ByteArray).data.toList = [123] from rfl, (ye 123 (a :: t) c).1, decide_eq_true (by rw [Gl.o, HA.o]), (ye 123 (a :: t) c).2.1 (by rw [Gl.o, HA.o]), List.tail_cons] at C4
   refine C4.o.mono ?_
   rintro e w4 ⟨rfl, hp4, hk4⟩
   have Gq := qI hp4
   have Gj := qI (Ge.o.trans' hk4)
   have Yl := qI (Mh.o.step hk4)
   clear hp4 hk4
   go_wp2_with fail
   refine (pmap_any (d := d) (by exact @Mg.o) Gq.o HC.o hS Yl.o (f := (a :: t).length + 1) (by simp only [List.length_cons]; omega)).mono ?_
   rintro e w5 hans
   obtain ⟨cs, rfl, ⟨k5, m5, s5, p5, i5, c5, q5, j5, d5, rfl⟩, hk5, hrest⟩ := hans
   have Gn : Hid (xu d (asMap (yw (yj (zr d)) 125 ((a :: t).length + 1) t c [])) p S w4 (.returned (.agg #[.int .i64 k5, .int .i64 m5, .string s5, .slice p5 i5 c5, .slice q5 j5 d5])) w5) := qI ⟨_, rfl, ⟨_, _, _, _, _, _, _, _, _, rfl⟩, hk5, hrest⟩
   have Gx := qI (Gj.o.trans' hk5)
   have Mr : Hid (w.heap.size < w4.heap.size) := qI (by have h1 := Gj.o.size; have h2 := Gr.o; omega)
   clear hk5 hrest
   have Gc := qI (Gh.o.kept Gx.o (by have := Gd.o; simp; omega))
   obtain ⟨⟨d0, d1, d2, d3, d4⟩, f0, f1, f2, f3, f4⟩ := Gc.o.facts
   go_wp2_with fail
   obtain ⟨WF, e⟩ : ∃ WF, WF = zy w5 w.heap.size (.int .i64 k5) (.int .i64 m5) (.string s5) (.slice p5 i5 c5) (.slice q5 j5 d5) := ⟨_, rfl⟩
   obtain ⟨KF, y0, y1, y2, y3, y4⟩ := Gc.o.stored e
   unfold zy at e
   rw [← e]
   exact bodyPost_ret (v := .agg #[.int .i64 k5, .int .i64 m5, .string s5, .slice p5 i5 c5, .slice q5 j5 d5]) (by simp [results, results81, go_sem, y0, y1, y2, y3, y4]) rfl (Gn.o.move (e := .panicked []) ((Gb.o.mono (Y := [p]) (by simp)).trans' Gj.o) KF (Nat.le_refl _) Mr.o Gd.o)
  have Js : Hid (yG (zr d) (a :: t) c = match qM (a :: t) with | .inl e => .inl e | .inr (n, r) => .inr (kt 3 n ⟨#[]⟩, r, c)) := qI (by
    rw [Mf.o, if_neg (by rw [Gl.o]; exact fun q => h34 (by injection q)), if_neg (by rw [Gl.o]; exact fun q => h91 (by injection q)), if_neg (by rw [Gl.o]; exact fun q => h123 (by injection q))]
    first
    | done
    | (cases qM (a :: t) with
     | inl e => rfl
     | inr y => cases y; rfl))
  have Jg := qI h123
  have Gy := qI h91
  clear h34 h91 h123
  go_enter func81, ntmps81
  go_wp2_with fail
  rw [← Ga.o]
  refine CW.o.mono ?_
  rintro e w1 ⟨ha, hk1⟩
  unfold qc at ha
  rw [Jr.o] at ha
  subst ha
  unfold yq
  have Gg := qI (hk1.alloc (.cells #[.int .i64 0, .int .i64 0, .string ⟨#[]⟩, .slice none 0 0, .slice none 0 0] 25))
  clear hk1
  go_wp2_with fail
  refine (CR.o _ Gg.o).mono ?_
  rintro e w2 ⟨rfl, hk2⟩
  have Gf := qI (Gg.o.then hk2)
  have Jo := qI (Jf.o.kept0 Gf.o)
  have Jp := qI (Gs.o.step (Gf.o.mono (Y := [p]) (by simp)))
  clear hk2
  go_wp2_with fail
  have C3 := qI (yT Jo.o hS ⟨#[91]⟩)
  rw [show (⟨#[91]⟩ : ByteArray).data.toList = [91] from rfl, (ye 91 (a :: t) c).1, decide_eq_false (by rw [Gl.o]; exact fun q => Gy.o (by injection q)), (ye 91 (a :: t) c).2.2 (by rw [Gl.o]; exact fun q => Gy.o (by injection q))] at C3
  refine C3.o.mono ?_
  rintro e w3 ⟨rfl, hp3, hk3⟩
  have Gk := qI hp3
  have Ge := qI ((Gf.o.mono (Y := [p]) (by simp)).trans' hk3)
  have Mh := qI (Jp.o.step hk3)
  clear hp3 hk3
  go_wp2_with fail
  have C4 := qI (yT Gk.o hS ⟨#[123]⟩)
  rw [show (⟨#[123]⟩ : ByteArray).data.toList = [123] from rfl, (ye 123 (a :: t) c).1, decide_eq_false (by rw [Gl.o]; exact fun q => Jg.o (by injection q)), (ye 123 (a :: t) c).2.2 (by rw [Gl.o]; exact fun q => Jg.o (by injection q))] at C4
  refine C4.o.mono ?_
  rintro e w4 ⟨rfl, hp4, hk4⟩
  have Gq := qI hp4
  have Gj := qI (Ge.o.trans' hk4)
  clear hp4 hk4
  go_wp2_with fail
  refine (pnumber_any Gq.o hS).mono ?_
  rintro e w5 ⟨hans, hk5⟩
  have Gx := qI (Gj.o.trans' hk5)
  clear hk5
  unfold YS at hans
  cases hn : qM (a :: t) with
  | inl x =>
   rw [hn] at hans
   obtain ⟨rfl, hp5⟩ := hans
   unfold yq
   have Jz := qI hp5
   have Gw : Hid (yG (zr d) (a :: t) c = .inl x) := qI (by rw [Js.o, hn])
   clear hp5 hn
   have Gc := qI (Gh.o.kept Gx.o (by have := Gd.o; simp; omega))
   obtain ⟨⟨d0, d1, d2, d3, d4⟩, f0, f1, f2, f3, f4⟩ := Gc.o.facts
   go_wp2_with fail
   obtain ⟨WF, e⟩ : ∃ WF, WF = zy w5 w.heap.size (.int .i64 0) (.int .i64 0) (.string ⟨#[]⟩) (.slice none 0 0) (.slice none 0 0) := ⟨_, rfl⟩
   obtain ⟨KF, y0, y1, y2, y3, y4⟩ := Gc.o.stored e
   unfold zy at e
   rw [← e]
   exact bodyPost_ret (v := .agg #[.int .i64 0, .int .i64 0, .string ⟨#[]⟩, .slice none 0 0, .slice none 0 0]) (by simp [results, results81, go_sem, y0, y1, y2, y3, y4]) rfl (jv (cs := [.int .i64 0, .int .i64 0, .string ⟨#[]⟩, .slice none 0 0, .slice none 0 0]) Gw.o ⟨_, _, _, _, _, _, _, _, _, rfl⟩ (((Gb.o.mono (Y := [p]) (by simp)).trans' Gx.o).trans KF (fun i hi => by simp at hi; exact .inr (by omega))) (Jz.o.kept KF (by have := Gd.o; simp; omega)))
  | inr y =>
   obtain ⟨n, r⟩ := y
   rw [hn] at hans
   obtain ⟨rfl, hp5⟩ := hans
   unfold yq
   have Jz := qI hp5
   have Yb := qI (JR hn).1
   have Gw : Hid (yG (zr d) (a :: t) c = .inr (kt 3 n ⟨#[]⟩, r, c)) := qI (by rw [Js.o, hn])
   clear hp5 hn
   have Gc := qI (Gh.o.kept Gx.o (by have := Gd.o; simp; omega))
   obtain ⟨⟨d0, d1, d2, d3, d4⟩, f0, f1, f2, f3, f4⟩ := Gc.o.facts
   go_wp2_with fail
   obtain ⟨WF, e⟩ : ∃ WF, WF = zy w5 w.heap.size (.int .i64 3) (.int .i64 n) (.string ⟨#[]⟩) (.slice none 0 0) (.slice none 0 0) := ⟨_, rfl⟩
   obtain ⟨KF, y0, y1, y2, y3, y4⟩ := Gc.o.stored e
   unfold zy at e
   rw [← e]
   exact bodyPost_ret (v := .agg #[.int .i64 3, .int .i64 n, .string ⟨#[]⟩, .slice none 0 0, .slice none 0 0]) (by simp [results, results81, go_sem, y0, y1, y2, y3, y4]) rfl (jd (cs := [.int .i64 3, .int .i64 n, .string ⟨#[]⟩, .slice none 0 0, .slice none 0 0]) Gw.o ⟨_, _, _, _, _, _, _, _, _, rfl⟩ (((Gb.o.mono (Y := [p]) (by simp)).trans' Gx.o).trans KF (fun i hi => by simp at hi; exact .inr (by omega))) (Jz.o.kept KF (by have := Gd.o; simp; omega)) (bt rfl (wf64 (by have := Yb.o; omega) (by have := Yb.o; omega))))
end
theorem vH {d p : Nat} {X : PX} {S : ByteArray} {w w' : World} {x : Int} (h : X = .inl x ∨ ∃ s c, X = .inr (s, c) ∧ zr d s c = .inl x) (h2 : zb [p] w w') (h3 : PS w' p S 4097 (.inl x)) : xU d X p S w (.returned (.agg #[.int .i64 0, .int .i64 0, .string ⟨#[]⟩, .slice none 0 0, .slice none 0 0])) w' := by
 refine ⟨ZY, rfl, ⟨_, _, _, _, _, _, _, _, _, rfl⟩, h2, ?_⟩
 rcases h with rfl | ⟨s, c, rfl, h⟩
 ·exact h3
 ·show (match zr d s c with | .inl x => _ | .inr (v, r, c') => _)
  rw [h]
  exact h3
section
variable {w : World} {p d : Nat} {S : ByteArray} {s : List UInt8} {c : Nat} {x : Int}
theorem pread_any (hd : d ≤ 100) (IH0 : xf d) (hs : PS w p S 4097 (.inr (s, c))) (hc : c ≤ 4096) (hS : S.size ≤ 262144) (hT : xr p w) (hb : yO s = true) :
  Calls Tryz.prog 81 #[.pointer (some ⟨p, 0, none⟩), .int .i64 ((d : Int) + 1)] w fun e w' => xu d (yG (zr d) s c) p S w e w' := by
 cases hw : xL s with
 | some q => obtain ⟨k, n⟩ := q; exact pread_word hs hS hw
 | none => exact pread_not hd (by exact @IH0) hs hc hS hT hw hb
theorem value_dull (h : yO (zp s) = false) : zr d s c = .inl 50 := by
 cases d with
 | zero => unfold zr; rw [if_pos h]
 | succ d => unfold zr; rw [if_pos h]
theorem value_many (h : yO (zp s) = true) (hc : 4096 < c + 1) : zr d s c = .inl 42 := by
 cases d with
 | zero => unfold zr; rw [if_neg (by rw [h]; decide), if_pos hc]
 | succ d => unfold zr; rw [if_neg (by rw [h]; decide), if_pos hc]
theorem value_deep (h : yO (zp s) = true) (hc : ¬ 4096 < c + 1) : zr 0 s c = .inl 41 := by
 unfold zr; rw [if_neg (by rw [h]; decide), if_neg hc]
theorem Z1 (hd : d ≤ 100) (hs : PS w p S 4097 (.inl x)) (hS : S.size ≤ 262144) :
  Calls Tryz.prog 49 #[.pointer (some ⟨p, 0, none⟩), .int .i64 d] w fun e w' => xU d (.inl x) p S w e w' := by
 obtain ⟨W0, Ga⟩ : ∃ W0, Hid (W0 = w.alloc (.cells #[.int .i64 0, .int .i64 0, .string ⟨#[]⟩, .slice none 0 0, .slice none 0 0] 25)) := ⟨_, qI rfl⟩
 have Gb : Hid (zb [] w W0) := qI (by rw [Ga.o]; exact (zb.refl [] w).alloc _)
 have Gh : Hid (xh W0 w.heap.size) := qI (by rw [Ga.o]; exact yA w)
 have Gd : Hid (p < w.heap.size) := qI hs.lt
 have CS := qI (xe (hs.kept0 Gb.o) hS)
 have hdI : (d : Int) ≤ 100 := by omega
 clear hd
 clear hs
 go_enter func49, ntmps49
 go_wp2_with fail
 rw [← Ga.o]
 refine CS.o.mono ?_
 rintro e w1 ⟨rfl, hp1, hk1⟩
 have Gi : Hid (PS w1 p S 4097 (.inl x)) := qI hp1
 obtain ⟨i, c, q1, hi, hc, hx0, hx1⟩ := Gi.o.open_bad
 obtain ⟨c0, c1, c2, c3, fz⟩ := q1.cells
 obtain ⟨g1, g2⟩ := zt (a := x) (b := 0) (by omega)
 have Gg := qI hk1
 have CF := qI (yt Gi.o i 50 hi (by omega) (by omega))
 clear hp1 hk1 q1 fz c0 c2
 go_wp2_with fail
 refine CF.o.mono ?_
 rintro e w2 ⟨rfl, hp2, hk2⟩
 have Jb : Hid (PS w2 p S 4097 (.inl x)) := qI hp2
 have Gf := qI (Gg.o.trans' hk2)
 clear hp2 hk2 c1 c3
 have Gc := qI (Gh.o.kept Gf.o (by have := Gd.o; simp; omega))
 obtain ⟨⟨d0, d1, d2, d3, d4⟩, f0, f1, f2, f3, f4⟩ := Gc.o.facts
 go_wp2_with fail
 obtain ⟨WF, e⟩ : ∃ WF, WF = zy w2 w.heap.size (.int .i64 0) (.int .i64 0) (.string ⟨#[]⟩) (.slice none 0 0) (.slice none 0 0) := ⟨_, rfl⟩
 obtain ⟨KF, y0, y1, y2, y3, y4⟩ := Gc.o.stored e
 unfold zy at e
 rw [← e]
 exact bodyPost_ret (v := .agg #[.int .i64 0, .int .i64 0, .string ⟨#[]⟩, .slice none 0 0, .slice none 0 0]) (by simp [results, results49, go_sem, y0, y1, y2, y3, y4]) rfl
  (vH (.inl rfl) (((Gb.o.mono (Y := [p]) (by simp)).trans' Gf.o).trans KF (fun i hi => by simp at hi; exact .inr (by omega))) (PS.kept Jb.o KF (by have := Gd.o; simp; omega)))
theorem Qf (hd : d ≤ 100) (hb : yO (zp s) = false) (hs : PS w p S 4097 (.inr (s, c))) (hS : S.size ≤ 262144) :
  Calls Tryz.prog 49 #[.pointer (some ⟨p, 0, none⟩), .int .i64 d] w fun e w' => xU d (.inr (s, c)) p S w e w' := by
 obtain ⟨W0, Ga⟩ : ∃ W0, Hid (W0 = w.alloc (.cells #[.int .i64 0, .int .i64 0, .string ⟨#[]⟩, .slice none 0 0, .slice none 0 0] 25)) := ⟨_, qI rfl⟩
 have Gb : Hid (zb [] w W0) := qI (by rw [Ga.o]; exact (zb.refl [] w).alloc _)
 have Gh : Hid (xh W0 w.heap.size) := qI (by rw [Ga.o]; exact yA w)
 have Gd : Hid (p < w.heap.size) := qI hs.lt
 have CS := qI (xe (hs.kept0 Gb.o) hS)
 have hdI : (d : Int) ≤ 100 := by omega
 have HB := qI hb
 clear hd hb
 clear hs
 go_enter func49, ntmps49
 go_wp2_with fail
 rw [← Ga.o]
 refine CS.o.mono ?_
 rintro e w1 ⟨rfl, hp1, hk1⟩
 have Gi : Hid (PS w1 p S 4097 (.inr (zp s, c))) := qI hp1
 have Gg := qI hk1
 obtain ⟨i, q1, hi, hcc, hr⟩ := Gi.o.open_ok
 have Q1 := qI q1
 have HR := qI hr
 obtain ⟨c0, c1, c2, c3, fz⟩ := q1.cells
 have CB := qI (jo Gi.o hS)
 clear hp1 hk1 q1 fz c0 c1 c2 hr
 go_wp2_with fail
 refine CB.o.mono ?_
 rintro e w2 ⟨rfl, hk2⟩
 rw [HB.o]
 have Q2 : Hid (PAt w2 p S i c 0) := qI (hk2.heap Q1.o (by simp))
 have Gf := qI (Gg.o.then hk2)
 obtain ⟨c0, c1, c2, k3, fz⟩ := Q2.o.cells
 have z2 := fz 2
 clear fz c3 hk2
 have CF := qI (yt (x := .inr (zp s, c)) ⟨i, c, 0, Q2.o, hi, hcc, rfl, HR.o, rfl⟩ i 50 hi (by omega) (by omega))
 clear c0 c2 k3 z2
 go_wp2_with fail
 refine CF.o.mono ?_
 rintro e w3 ⟨rfl, hp3, hk3⟩
 have Jb : Hid (PS w3 p S 4097 (.inl 50)) := qI hp3
 have Ge := qI (Gf.o.trans' hk3)
 clear hp3 hk3 c1
 have Gc := qI (Gh.o.kept Ge.o (by have := Gd.o; simp; omega))
 obtain ⟨⟨d0, d1, d2, d3, d4⟩, f0, f1, f2, f3, f4⟩ := Gc.o.facts
 go_wp2_with fail
 obtain ⟨WF, e⟩ : ∃ WF, WF = zy w3 w.heap.size (.int .i64 0) (.int .i64 0) (.string ⟨#[]⟩) (.slice none 0 0) (.slice none 0 0) := ⟨_, rfl⟩
 obtain ⟨KF, y0, y1, y2, y3, y4⟩ := Gc.o.stored e
 unfold zy at e
 rw [← e]
 exact bodyPost_ret (v := .agg #[.int .i64 0, .int .i64 0, .string ⟨#[]⟩, .slice none 0 0, .slice none 0 0]) (by simp [results, results49, go_sem, y0, y1, y2, y3, y4]) rfl
  (vH (.inr ⟨_, _, rfl, value_dull HB.o⟩) (((Gb.o.mono (Y := [p]) (by simp)).trans' Ge.o).trans KF (fun i hi => by simp at hi; exact .inr (by omega))) (PS.kept Jb.o KF (by have := Gd.o; simp; omega)))
theorem Qd (hd : d ≤ 100) (hb : yO (zp s) = true) (hm : 4096 < c + 1) (hc : c ≤ 4096) (hs : PS w p S 4097 (.inr (s, c))) (hS : S.size ≤ 262144) :
  Calls Tryz.prog 49 #[.pointer (some ⟨p, 0, none⟩), .int .i64 d] w fun e w' => xU d (.inr (s, c)) p S w e w' := by
 obtain ⟨W0, Ga⟩ : ∃ W0, Hid (W0 = w.alloc (.cells #[.int .i64 0, .int .i64 0, .string ⟨#[]⟩, .slice none 0 0, .slice none 0 0] 25)) := ⟨_, qI rfl⟩
 have Gb : Hid (zb [] w W0) := qI (by rw [Ga.o]; exact (zb.refl [] w).alloc _)
 have Gh : Hid (xh W0 w.heap.size) := qI (by rw [Ga.o]; exact yA w)
 have Gd : Hid (p < w.heap.size) := qI hs.lt
 have CS := qI (xe (hs.kept0 Gb.o) hS)
 have hdI : (d : Int) ≤ 100 := by omega
 have hmI : (4096 : Int) < (c : Int) + 1 := by omega
 have hcI : (c : Int) ≤ 4096 := by omega
 have HB := qI hb
 have HM := qI hm
 have HC := qI hc
 clear hd hb hm hc
 clear hs
 go_enter func49, ntmps49
 go_wp2_with fail
 rw [← Ga.o]
 refine CS.o.mono ?_
 rintro e w1 ⟨rfl, hp1, hk1⟩
 have Gi : Hid (PS w1 p S 4097 (.inr (zp s, c))) := qI hp1
 have Gg := qI hk1
 obtain ⟨i, q1, hi, hcc, hr⟩ := Gi.o.open_ok
 have Q1 := qI q1
 have HR := qI hr
 obtain ⟨c0, c1, c2, c3, fz⟩ := q1.cells
 have CB := qI (jo Gi.o hS)
 clear hp1 hk1 q1 fz c0 c1 c2 hr
 go_wp2_with fail
 refine CB.o.mono ?_
 rintro e w2 ⟨rfl, hk2⟩
 rw [HB.o]
 have Q2 : Hid (PAt w2 p S i c 0) := qI (hk2.heap Q1.o (by simp))
 have Gf := qI (Gg.o.then hk2)
 obtain ⟨c0, c1, c2, k3, fz⟩ := Q2.o.cells
 have z2 := fz 2
 clear fz c3 hk2
 obtain ⟨WS, Gz⟩ : ∃ WS, Hid (WS = w2.setCell ⟨p, 2, none⟩ (.int .i64 ((c : Int) + 1))) := ⟨_, qI rfl⟩
 have Q3 : Hid (PAt WS p S i (c + 1) 0) := qI (by rw [Gz.o]; exact Q2.o.set2 (c + 1))
 have Ge : Hid (zb [p] W0 WS) := qI (by rw [Gz.o]; exact Gf.o.trans' (zT _ _ _ _))
 have CF := qI (yt (x := .inr (zp s, c + 1)) ⟨i, c + 1, 0, Q3.o, hi, (by have := HC.o; omega : c + 1 ≤ 4097), rfl, HR.o, rfl⟩ i 42 hi (by omega) (by omega))
 clear c0 k3
 go_wp2_with fail
 rw [← Gz.o]
 refine CF.o.mono ?_
 rintro e w3 ⟨rfl, hp3, hk3⟩
 have Jb : Hid (PS w3 p S 4097 (.inl 42)) := qI hp3
 have Gj := qI (Ge.o.trans' hk3)
 clear hp3 hk3 c1 c2 z2
 have Gc := qI (Gh.o.kept Gj.o (by have := Gd.o; simp; omega))
 obtain ⟨⟨d0, d1, d2, d3, d4⟩, f0, f1, f2, f3, f4⟩ := Gc.o.facts
 go_wp2_with fail
 obtain ⟨WF, e⟩ : ∃ WF, WF = zy w3 w.heap.size (.int .i64 0) (.int .i64 0) (.string ⟨#[]⟩) (.slice none 0 0) (.slice none 0 0) := ⟨_, rfl⟩
 obtain ⟨KF, y0, y1, y2, y3, y4⟩ := Gc.o.stored e
 unfold zy at e
 rw [← e]
 exact bodyPost_ret (v := .agg #[.int .i64 0, .int .i64 0, .string ⟨#[]⟩, .slice none 0 0, .slice none 0 0]) (by simp [results, results49, go_sem, y0, y1, y2, y3, y4]) rfl
  (vH (.inr ⟨_, _, rfl, value_many HB.o HM.o⟩) (((Gb.o.mono (Y := [p]) (by simp)).trans' Gj.o).trans KF (fun i hi => by simp at hi; exact .inr (by omega))) (PS.kept Jb.o KF (by have := Gd.o; simp; omega)))
end
section
variable {w : World} {p d : Nat} {S : ByteArray} {s : List UInt8} {c : Nat} {x : Int}
theorem Kc (h : yO (zp s) = true) (hc : ¬ 4096 < c + 1) : zr (d + 1) s c = match yG (zr d) (zp s) (c + 1) with | .inl e => .inl e | .inr (v, r, c') => .inr (v, zp r, c') := by
 rw [zr, if_neg (by rw [h]; decide), if_neg hc]
 cases yG (zr d) (zp s) (c + 1) with
 | inl e => rfl
 | inr y => rfl
set_option maxRecDepth 100000 in
theorem pvalue_deep (hb : yO (zp s) = true) (hm : ¬ 4096 < c + 1) (hc : c ≤ 4096) (hs : PS w p S 4097 (.inr (s, c))) (hS : S.size ≤ 262144) :
  Calls Tryz.prog 49 #[.pointer (some ⟨p, 0, none⟩), .int .i64 0] w fun e w' => xU 0 (.inr (s, c)) p S w e w' := by
 obtain ⟨W0, Ga⟩ : ∃ W0, Hid (W0 = w.alloc (.cells #[.int .i64 0, .int .i64 0, .string ⟨#[]⟩, .slice none 0 0, .slice none 0 0] 25)) := ⟨_, qI rfl⟩
 have Gb : Hid (zb [] w W0) := qI (by rw [Ga.o]; exact (zb.refl [] w).alloc _)
 have Gh : Hid (xh W0 w.heap.size) := qI (by rw [Ga.o]; exact yA w)
 have Gd : Hid (p < w.heap.size) := qI hs.lt
 have CS := qI (xe (hs.kept0 Gb.o) hS)
 have hcI : (c : Int) ≤ 4095 := by omega
 have HB := qI hb
 have HM := qI hm
 have HC := qI hc
 clear hb hm hc
 clear hs
 go_enter func49, ntmps49
 go_wp2_with fail
 rw [← Ga.o]
 refine CS.o.mono ?_
 rintro e w1 ⟨rfl, hp1, hk1⟩
 have Gi : Hid (PS w1 p S 4097 (.inr (zp s, c))) := qI hp1
 have Gg := qI hk1
 obtain ⟨i, q1, hi, hcc, hr⟩ := Gi.o.open_ok
 have Q1 := qI q1
 have HR := qI hr
 obtain ⟨c0, c1, c2, c3, fz⟩ := q1.cells
 have CB := qI (jo Gi.o hS)
 clear hp1 hk1 q1 fz c0 c1 c2 hr
 go_wp2_with fail
 refine CB.o.mono ?_
 rintro e w2 ⟨rfl, hk2⟩
 rw [HB.o]
 have Q2 : Hid (PAt w2 p S i c 0) := qI (hk2.heap Q1.o (by simp))
 have Gf := qI (Gg.o.then hk2)
 obtain ⟨c0, c1, c2, k3, fz⟩ := Q2.o.cells
 have z2 := fz 2
 clear fz c3 hk2
 obtain ⟨WS, Gz⟩ : ∃ WS, Hid (WS = w2.setCell ⟨p, 2, none⟩ (.int .i64 ((c : Int) + 1))) := ⟨_, qI rfl⟩
 have Q3 : Hid (PAt WS p S i (c + 1) 0) := qI (by rw [Gz.o]; exact Q2.o.set2 (c + 1))
 have Ge : Hid (zb [p] W0 WS) := qI (by rw [Gz.o]; exact Gf.o.trans' (zT _ _ _ _))
 have CF := qI (yt (x := .inr (zp s, c + 1)) ⟨i, c + 1, 0, Q3.o, hi, (by have := HC.o; omega : c + 1 ≤ 4097), rfl, HR.o, rfl⟩ i 41 hi (by omega) (by omega))
 clear c0 k3
 go_wp2_with fail
 rw [← Gz.o]
 refine CF.o.mono ?_
 rintro e w3 ⟨rfl, hp3, hk3⟩
 have Jb : Hid (PS w3 p S 4097 (.inl 41)) := qI hp3
 have Gj := qI (Ge.o.trans' hk3)
 clear hp3 hk3 c1 c2 z2
 have Gc := qI (Gh.o.kept Gj.o (by have := Gd.o; simp; omega))
 obtain ⟨⟨d0, d1, d2, d3, d4⟩, f0, f1, f2, f3, f4⟩ := Gc.o.facts
 go_wp2_with fail
 obtain ⟨WF, e⟩ : ∃ WF, WF = zy w3 w.heap.size (.int .i64 0) (.int .i64 0) (.string ⟨#[]⟩) (.slice none 0 0) (.slice none 0 0) := ⟨_, rfl⟩
 obtain ⟨KF, y0, y1, y2, y3, y4⟩ := Gc.o.stored e
 unfold zy at e
 rw [← e]
 exact bodyPost_ret (v := .agg #[.int .i64 0, .int .i64 0, .string ⟨#[]⟩, .slice none 0 0, .slice none 0 0]) (by simp [results, results49, go_sem, y0, y1, y2, y3, y4]) rfl
  (vH (.inr ⟨_, _, rfl, value_deep HB.o HM.o⟩) (((Gb.o.mono (Y := [p]) (by simp)).trans' Gj.o).trans KF (fun i hi => by simp at hi; exact .inr (by omega))) (PS.kept Jb.o KF (by have := Gd.o; simp; omega)))
theorem valAns_read {w0 w1 : World} {r : Nat} {b0 b1 b2 b3 b4 : Value} (hb : yO (zp s) = true) (hm : ¬ 4096 < c + 1) (h : xu d (yG (zr d) (zp s) (c + 1)) p S w0 (.returned (.agg #[b0, b1, b2, b3, b4])) w1) (k0 : zb [p] w w0) (ht0 : p < w.heap.size) (hr : w.heap.size ≤ r) (hr0 : r < w0.heap.size) : ∃ X, PS w1 p S 4097 X ∧ ∀ WF, PS WF p S 4097 (qi X) → zb [p, r] w1 WF → xU (d + 1) (.inr (s, c)) p S w (.returned (.agg #[b0, b1, b2, b3, b4])) WF := by
 obtain ⟨cs, e1, e2, e3, e4⟩ := h
 have hz := k0.size
 have hz1 := e3.size
 cases hR : yG (zr d) (zp s) (c + 1) with
 | inl x =>
  rw [hR] at e4
  refine ⟨.inl x, e4, fun WF hX kF => ⟨cs, e1, e2, (k0.trans e3 (fun i hi => .inl hi)).trans kF (fun i hi => by simp at hi; rcases hi with h | h; exact .inl (by simp [h]); exact .inr (by omega)), ?_⟩⟩
  dsimp only
  rw [Kc hb hm, hR]
  exact hX
 | inr y =>
  obtain ⟨v, q, c'⟩ := y
  rw [hR] at e4
  refine ⟨.inr (q, c'), e4.1, fun WF hX kF => ⟨cs, e1, e2, (k0.trans e3 (fun i hi => .inl hi)).trans kF (fun i hi => by simp at hi; rcases hi with h | h; exact .inl (by simp [h]); exact .inr (by omega)), ?_⟩⟩
  dsimp only
  rw [Kc hb hm, hR]
  exact ⟨hX, e4.2.move kF (fun g hg => by simp at hg; omega) (by omega)⟩
set_option maxRecDepth 100000 in
theorem pvalue_read (hd : d ≤ 100) (IH0 : xf d) (hT : xr p w) (hb : yO (zp s) = true) (hm : ¬ 4096 < c + 1) (hc : c ≤ 4096) (hs : PS w p S 4097 (.inr (s, c))) (hS : S.size ≤ 262144) :
  Calls Tryz.prog 49 #[.pointer (some ⟨p, 0, none⟩), .int .i64 ((d : Int) + 1)] w fun e w' => xU (d + 1) (.inr (s, c)) p S w e w' := by
 obtain ⟨W0, Ga⟩ : ∃ W0, Hid (W0 = w.alloc (.cells #[.int .i64 0, .int .i64 0, .string ⟨#[]⟩, .slice none 0 0, .slice none 0 0] 25)) := ⟨_, qI rfl⟩
 have Gb : Hid (zb [] w W0) := qI (by rw [Ga.o]; exact (zb.refl [] w).alloc _)
 have Gh : Hid (xh W0 w.heap.size) := qI (by rw [Ga.o]; exact yA w)
 have Gd : Hid (p < w.heap.size) := qI hs.lt
 have CS := qI (xe (hs.kept0 Gb.o) hS)
 have Gr : Hid (W0.heap.size = w.heap.size + 1) := qI (by rw [Ga.o]; simp)
 have hdI : (d : Int) ≤ 100 := by omega
 have hcI : (c : Int) ≤ 4095 := by omega
 have HB := qI hb
 have HM := qI hm
 have Gs := qI (hT.step (Gb.o.mono (by simp)))
 have HD := qI hd
 obtain ⟨j1, j2⟩ := zt (a := (d : Int) + 1) (b := 0) (by omega)
 have Mg := @qI (xf d) (by exact @IH0)
 clear hb hm hc hd IH0 hT
 clear hs
 go_enter func49, ntmps49
 go_wp2_with fail
 rw [← Ga.o]
 refine CS.o.mono ?_
 rintro e w1 ⟨rfl, hp1, hk1⟩
 have Gi : Hid (PS w1 p S 4097 (.inr (zp s, c))) := qI hp1
 have Gg := qI hk1
 obtain ⟨i, q1, hi, hcc, hr⟩ := Gi.o.open_ok
 have Q1 := qI q1
 have HR := qI hr
 obtain ⟨c0, c1, c2, c3, fz⟩ := q1.cells
 have CB := qI (jo Gi.o hS)
 clear hp1 hk1 q1 fz c0 c1 c2 hr
 go_wp2_with fail
 refine CB.o.mono ?_
 rintro e w2 ⟨rfl, hk2⟩
 rw [HB.o]
 have Q2 : Hid (PAt w2 p S i c 0) := qI (hk2.heap Q1.o (by simp))
 have Gf := qI (Gg.o.then hk2)
 obtain ⟨c0, c1, c2, k3, fz⟩ := Q2.o.cells
 have z2 := fz 2
 clear fz c3 hk2
 obtain ⟨WS, Gz⟩ : ∃ WS, Hid (WS = w2.setCell ⟨p, 2, none⟩ (.int .i64 ((c : Int) + 1))) := ⟨_, qI rfl⟩
 have Q3 : Hid (PAt WS p S i (c + 1) 0) := qI (by rw [Gz.o]; exact Q2.o.set2 (c + 1))
 have Ge : Hid (zb [p] W0 WS) := qI (by rw [Gz.o]; exact Gf.o.trans' (zT _ _ _ _))
 have Gk : Hid (PS WS p S 4097 (.inr (zp s, c + 1))) := qI ⟨i, c + 1, 0, Q3.o, hi, (by have := HM.o; omega : c + 1 ≤ 4097), rfl, HR.o, rfl⟩
 have CV := qI (pread_any (d := d) HD.o (by exact @Mg.o) Gk.o (by have := HM.o; omega) hS (Gs.o.step Ge.o) HB.o)
 clear c0 k3
 go_wp2_with fail
 rw [← Gz.o]
 refine CV.o.mono ?_
 rintro e w3 hans
 obtain ⟨cs, rfl, ⟨k5, m5, s5, p5, i5, c5, q5, j5, d5, rfl⟩, hk5, hrest⟩ := hans
 have Gn : Hid (xu d (yG (zr d) (zp s) (c + 1)) p S WS (.returned (.agg #[.int .i64 k5, .int .i64 m5, .string s5, .slice p5 i5 c5, .slice q5 j5 d5])) w3) := qI ⟨_, rfl, ⟨_, _, _, _, _, _, _, _, _, rfl⟩, hk5, hrest⟩
 have Gj := qI (Ge.o.trans' hk5)
 clear hk5 hrest c1 c2 z2
 obtain ⟨X4, hp4, hans4⟩ := valAns_read (r := w.heap.size) HB.o HM.o Gn.o ((Gb.o.mono (Y := [p]) (by simp)).trans' Ge.o) Gd.o (Nat.le_refl _) (by have h1 := Ge.o.size; have h2 := Gr.o; omega)
 have Gq := qI hp4
 have Ma := qI hans4
 obtain ⟨W4, Ms⟩ : ∃ W4, Hid (W4 = w3.alloc (.cells #[.int .i64 k5, .int .i64 m5, .string s5, .slice p5 i5 c5, .slice q5 j5 d5] 25)) := ⟨_, qI rfl⟩
 have Gu : Hid (W4.heap[w3.heap.size]? = some (.cells #[.int .i64 k5, .int .i64 m5, .string s5, .slice p5 i5 c5, .slice q5 j5 d5] 25 (0, 0))) := qI (by rw [Ms.o]; exact zn rfl)
 have Gx : Hid (zb [] w3 W4) := qI (by rw [Ms.o]; exact (zb.refl [] w3).alloc _)
 have CS2 := qI (xe (Gq.o.kept0 Gx.o) hS)
 have hp3lt : p < w3.heap.size := Gq.o.lt
 clear hp4 hans4
 go_wp2_with fail
 rw [← Ms.o]
 refine CS2.o.mono ?_
 rintro e w5 ⟨rfl, hp5, hk5⟩
 have Jz := qI hp5
 have Je := qI (hk5.heap Gu.o (by simp; omega))
 have Yc : Hid (zb [p] w3 w5) := qI ((Gx.o.mono (Y := [p]) (by simp)).trans' hk5)
 have Ym := qI (Gj.o.trans' Yc.o)
 have l0 := za (o := 0) Je.o rfl
 have l1 := za (o := 1) Je.o rfl
 have l2 := za (o := 2) Je.o rfl
 have l3 := za (o := 3) Je.o rfl
 have l4 := za (o := 4) Je.o rfl
 clear hp5 hk5
 have Gc := qI (Gh.o.kept Ym.o (by have := Gd.o; simp; omega))
 obtain ⟨⟨d0, d1, d2, d3, d4⟩, f0, f1, f2, f3, f4⟩ := Gc.o.facts
 go_wp2_with fail
 obtain ⟨WF, e⟩ : ∃ WF, WF = zy w5 w.heap.size (.int .i64 k5) (.int .i64 m5) (.string s5) (.slice p5 i5 c5) (.slice q5 j5 d5) := ⟨_, rfl⟩
 obtain ⟨KF, y0, y1, y2, y3, y4⟩ := Gc.o.stored e
 unfold zy at e
 rw [← e]
 exact bodyPost_ret (v := .agg #[.int .i64 k5, .int .i64 m5, .string s5, .slice p5 i5 c5, .slice q5 j5 d5]) (by simp [results, results49, go_sem, y0, y1, y2, y3, y4]) rfl (Ma.o _ (Jz.o.kept KF (by have := Gd.o; simp; omega)) ((Yc.o.mono (Y := [p, w.heap.size]) (by simp)).trans KF (fun i hi => by simp at hi; exact .inl (by simp [hi]))))
end
theorem pvalue_known : ∀ (d : Nat), d ≤ 100 → xf d := by
 intro d
 induction d with
 | zero =>
  intro hd w p S X hs hc hS hT
  cases X with
  | inl x => exact Z1 hd hs hS
  | inr y =>
   obtain ⟨s, c⟩ := y
   by_cases hb : yO (zp s) = true
   ·by_cases hm : 4096 < c + 1
    ·exact Qd hd hb hm hc hs hS
    ·exact pvalue_deep hb hm hc hs hS
   ·exact Qf hd (by simpa using hb) hs hS
 | succ d IH =>
  intro hd w p S X hs hc hS hT
  cases X with
  | inl x => exact Z1 hd hs hS
  | inr y =>
   obtain ⟨s, c⟩ := y
   by_cases hb : yO (zp s) = true
   ·by_cases hm : 4096 < c + 1
    ·exact Qd hd hb hm hc hs hS
    ·rw [show ((d + 1 : Nat) : Int) = (d : Int) + 1 from by omega]
     exact pvalue_read (by omega) (by exact @IH (by omega)) hT hb hm hc hs hS
   ·exact Qf hd (by simpa using hb) hs hS
theorem x5 {w : World} {r o : Nat} {c : Array Value} {t : Nat} {f : Nat × Nat} {v : Value} (h : w.heap[r]? = some (.cells c t f)) (hv : c[o]? = some v) : w.setCell ⟨r, o, none⟩ v = w := by
 have hc : c.setIfInBounds o v = c := by
  apply Array.ext_getElem?
  intro i
  rw [Array.getElem?_setIfInBounds]
  split
  ·rename_i e
   subst e
   split
   ·exact hv.symm
   ·rename_i hn
    rw [Array.getElem?_eq_none (by omega)] at hv
    cases hv
  ·rfl
 have he : (w.setCell ⟨r, o, none⟩ v).heap = w.heap := by
  apply Array.ext_getElem?
  intro i
  by_cases hi : i = r
  ·subst hi
   rw [YC h v, hc, h]
  ·by_cases hl : i < w.heap.size
   ·exact ((zb.refl [r] w).setCell (p := ⟨r, o, none⟩) (.inl (by simp)) v).block i hl (by simp [hi])
   ·have hz : (w.setCell ⟨r, o, none⟩ v).heap.size = w.heap.size := by unfold World.setCell; simp
    rw [Array.getElem?_eq_none (by omega), Array.getElem?_eq_none (by omega)]
 show ({ w with heap := (w.setCell ⟨r, o, none⟩ v).heap } : World) = w
 rw [he]
theorem zb.fresh {X : List Nat} {w w' : World} (h : zb X w w') (hX : ∀ k, k ∈ X → w.heap.size ≤ k) : zb [] w w' :=
 ⟨h.os, h.tape, h.output, h.size, fun k hk _ => h.block k hk (fun hx => by have := hX k hx; omega)⟩
def km (l : List UInt8) (B : Nat) (e : Ending) (w' : World) : Prop :=
 match yM l with
 | .inl x => (0 < x ∧ x ≤ 1000) ∧ ∃ n : Nat, n ≤ 262144 ∧ e = .returned (.tuple #[.agg zeroA, .int .i64 n, .int .i64 x])
 | .inr v => ∃ cs : List Value, jk cs ∧ e = .returned (.tuple #[.agg cs.toArray, .int .i64 l.length, .int .i64 0]) ∧ yS 12 B w' cs v
theorem Yw {l : List UInt8} {B : Nat} {w' : World} {x : Int} {n : Nat} (h : yM l = .inl x) (hx : 0 < x ∧ x ≤ 1000) (hn : n ≤ 262144) : km l B (.returned (.tuple #[.agg #[.int .i64 0, .int .i64 0, .string ⟨#[]⟩, .slice none 0 0, .slice none 0 0], .int .i64 n, .int .i64 x])) w' := by
 unfold km
 rw [h]
 exact ⟨hx, n, hn, rfl⟩
theorem parseAns_ok {l : List UInt8} {B : Nat} {w' : World} {cs : List Value} {v : V 12} (h : yM l = .inr v) (hc : jk cs) (ho : yS 12 B w' cs v) : km l B (.returned (.tuple #[.agg cs.toArray, .int .i64 l.length, .int .i64 0])) w' := by
 unfold km
 rw [h]
 exact ⟨cs, hc, rfl, ho⟩
section
variable {w : World} {a : Option Addr} {c : Nat} {l : List UInt8}
theorem parse_long (hl : 262144 < l.length) : Calls Tryz.prog 24 #[.slice a l.length c] w fun e w' => km l w.heap.size e w' ∧ zb [] w w' := by
 obtain ⟨W0, Ga⟩ : ∃ W0, Hid (W0 = w.alloc (.cells #[.int .i64 0, .int .i64 0, .string ⟨#[]⟩, .slice none 0 0, .slice none 0 0] 25)) := ⟨_, qI rfl⟩
 have Gb : Hid (zb [] w W0) := qI (by rw [Ga.o]; exact (zb.refl [] w).alloc _)
 have Gh : Hid (xh W0 w.heap.size) := qI (by rw [Ga.o]; exact yA w)
 have hlI : (262144 : Int) < l.length := by omega
 have HX : Hid (yM l = .inl 3) := qI (by unfold yM; rw [if_pos hl])
 clear hl
 go_enter func24, ntmps24
 go_wp2_with fail
 rw [← Ga.o]
 obtain ⟨⟨d0, d1, d2, d3, d4⟩, -⟩ := Gh.o.facts
 exact bodyPost_ret (v := .tuple #[.agg #[.int .i64 0, .int .i64 0, .string ⟨#[]⟩, .slice none 0 0, .slice none 0 0], .int .i64 0, .int .i64 3]) (by simp [results, results24, go_sem, d0, d1, d2, d3, d4]) rfl ⟨Yw (n := 0) HX.o (by decide) (by decide), Gb.o⟩
theorem parse_eq (hl : l.length ≤ 262144) : yM l = match zr 12 l 0 with | .inl e => .inl e | .inr (v, r, _) => if r = [] then .inr v else .inl 50 := by
 unfold yM
 rw [if_neg (by omega)]
 cases zr 12 l 0 with
 | inl e => rfl
 | inr y => rfl
set_option maxRecDepth 100000 in
theorem parse_short (hb : xt w (.slice a l.length c) l) (ht : yK w) (hl : l.length ≤ 262144) : Calls Tryz.prog 24 #[.slice a l.length c] w fun e w' => km l w.heap.size e w' ∧ zb [] w w' := by
 obtain ⟨W0, Ga⟩ : ∃ W0, Hid (W0 = w.alloc (.cells #[.int .i64 0, .int .i64 0, .string ⟨#[]⟩, .slice none 0 0, .slice none 0 0] 25)) := ⟨_, qI rfl⟩
 have Gb : Hid (zb [] w W0) := qI (by rw [Ga.o]; exact (zb.refl [] w).alloc _)
 have Mb : Hid (W0.heap.size = w.heap.size + 1) := qI (by rw [Ga.o]; simp)
 have Gh : Hid (xh W0 w.heap.size) := qI (by rw [Ga.o]; exact yA w)
 obtain ⟨W1, Jn⟩ : ∃ W1, Hid (W1 = W0.alloc (.cells #[.string (zg l), .int .i64 0, .int .i64 0, .int .i64 0] 63)) := ⟨_, qI rfl⟩
 have Gg : Hid (zb [] W0 W1) := qI (by rw [Jn.o]; exact (zb.refl [] W0).alloc _)
 have Yd : Hid (PS W1 (w.heap.size + 1) (zg l) 4097 (.inr (l, 0))) := qI ⟨0, 0, 0, by unfold PAt; rw [Jn.o]; exact zn Mb.o, Nat.zero_le _, Nat.zero_le _, rfl, by rw [zq]; rfl, rfl⟩
 have hS : (zg l).size ≤ 262144 := by rw [zK]; exact hl
 have Yn : Hid (xr (w.heap.size + 1) W1) := qI ⟨w, ht, Gb.o.then Gg.o, by omega⟩
 have CV : Hid (Calls Tryz.prog 49 #[.pointer (some ⟨w.heap.size + 1, 0, none⟩), .int .i64 12] W1 fun e w' => xU 12 (.inr (l, 0)) (w.heap.size + 1) (zg l) W1 e w') := qI (pvalue_known 12 (by decide) Yd.o (Nat.zero_le _) hS Yn.o)
 have hcv := xt.toStr (hb.kept0 Gb.o)
 rw [Ga.o] at hcv
 have hlI : (l.length : Int) ≤ 262144 := by omega
 have Jb := qI (parse_eq hl)
 have Mi := qI hS
 clear hb ht hl hS
 go_enter func24, ntmps24
 go_wp2_with fail
 rw [← Ga.o, ← Jn.o]
 clear hcv
 refine CV.o.mono ?_
 rintro e w2 ⟨cs, rfl, ⟨k5, m5, s5, p5, i5, c5, q5, j5, d5, rfl⟩, hk2, hrest⟩
 obtain ⟨W3, Mc⟩ : ∃ W3, Hid (W3 = w2.alloc (.cells #[.int .i64 k5, .int .i64 m5, .string s5, .slice p5 i5 c5, .slice q5 j5 d5] 25)) := ⟨_, qI rfl⟩
 have Gp : Hid (W3.heap[w2.heap.size]? = some (.cells #[.int .i64 k5, .int .i64 m5, .string s5, .slice p5 i5 c5, .slice q5 j5 d5] 25 (0, 0))) := qI (by rw [Mc.o]; exact zn rfl)
 have Ge : Hid (zb [] w2 W3) := qI (by rw [Mc.o]; exact (zb.refl [] w2).alloc _)
 have Gf := qI hk2
 have Mt : Hid (zb [w.heap.size + 1] W0 W3) := qI (((Gg.o.mono (by simp)).trans' hk2).then Ge.o)
 have Yq : Hid (w.heap.size + 1 < w2.heap.size) := qI (by have h1 := hk2.size; have h2 := Yd.o.lt; omega)
 dsimp only at hrest
 clear hk2
 have hpe := Jb.o
 clear Jb
 have hsplit : (∃ x, zr 12 l 0 = .inl x) ∨ (∃ v r c', zr 12 l 0 = .inr (v, r, c') ∧ r ≠ []) ∨ ∃ v c', zr 12 l 0 = .inr (v, [], c') := by
  cases hR : zr 12 l 0 with
  | inl x => exact .inl ⟨x, rfl⟩
  | inr y =>
   obtain ⟨v, r, c'⟩ := y
   by_cases hr : r = []
   ·subst hr; exact .inr (.inr ⟨v, c', rfl⟩)
   ·exact .inr (.inl ⟨v, r, c', rfl, hr⟩)
 rcases hsplit with ⟨x, hR⟩ | ⟨v, r, c', hR, hr⟩ | ⟨v, c', hR⟩
 rotate_left 2
 ·rw [hR] at hrest hpe
  replace hpe : yM l = .inr v := hpe.trans (if_pos rfl)
  have HX := qI hpe
  have Gk := qI (PS.kept0 hrest.1 Ge.o)
  have HO := qI hrest.2
  have CR : Hid (Calls Tryz.prog 50 #[.pointer (some ⟨w.heap.size + 1, 0, none⟩)] W3 fun r w' => r = .returned (.string ⟨#[]⟩) ∧ zb [] W3 w') := qI (qw Gk.o Mi.o)
  clear hrest hpe hR
  go_wp2_with fail
  rw [← Mc.o]
  refine CR.o.mono ?_
  rintro e w4 ⟨rfl, hk4⟩
  have Gj := qI (Mt.o.then hk4)
  have Gu := qI (hk4.heap Gp.o (by simp))
  have Mu := qI (Ge.o.then hk4)
  obtain ⟨i, q4, hi, hn, -⟩ := (Gk.o.kept0 hk4).open_ok
  have c3 := q4.cells.2.2.2.1
  have x0 := za (o := 0) (v := .int .i64 k5) Gu.o rfl
  have x1 := za (o := 1) (v := .int .i64 m5) Gu.o rfl
  have x2 := za (o := 2) (v := .string s5) Gu.o rfl
  have x3 := za (o := 3) (v := .slice p5 i5 c5) Gu.o rfl
  have x4 := za (o := 4) (v := .slice q5 j5 d5) Gu.o rfl
  have Md := qI (Gh.o.kept Gj.o (by simp))
  obtain ⟨⟨d0, d1, d2, d3, d4⟩, f0, f1, f2, f3, f4⟩ := Md.o.facts
  clear q4 hk4 hi hn
  go_wp2_with fail
  obtain ⟨WF, e⟩ : ∃ WF, WF = zy w4 w.heap.size (.int .i64 k5) (.int .i64 m5) (.string s5) (.slice p5 i5 c5) (.slice q5 j5 d5) := ⟨_, rfl⟩
  obtain ⟨KF, y0, y1, y2, y3, y4⟩ := Md.o.stored e
  unfold zy at e
  rw [← e]
  have hz1 := Mb.o
  have hz2 := Gg.o.size
  exact bodyPost_ret (v := .tuple #[.agg #[.int .i64 k5, .int .i64 m5, .string s5, .slice p5 i5 c5, .slice q5 j5 d5], .int .i64 l.length, .int .i64 0]) (by simp [results, results24, go_sem, y0, y1, y2, y3, y4]) rfl
   ⟨parseAns_ok (cs := [.int .i64 k5, .int .i64 m5, .string s5, .slice p5 i5 c5, .slice q5 j5 d5]) HX.o ⟨_, _, _, _, _, _, _, _, _, rfl⟩ (HO.o.move ((Mu.o.mono (by simp)).trans' KF) (fun g hg => by simp at hg; omega) (by omega)), (Gb.o.mono (Y := [w.heap.size + 1, w.heap.size]) (by simp)).trans' ((Gj.o.mono (by simp)).trans' (KF.mono (by simp))) |>.fresh (by simp)⟩
 case' inl =>
  rw [hR] at hrest hpe
  have HX : Hid (yM l = .inl x) := qI hpe
  have Gk := qI (PS.kept0 hrest Ge.o)
  have CR : Hid (Calls Tryz.prog 50 #[.pointer (some ⟨w.heap.size + 1, 0, none⟩)] W3 fun r w' => r = .returned (.string ⟨#[]⟩) ∧ zb [] W3 w') := qI (qw Gk.o Mi.o)
  clear hrest hpe hR
  go_wp2_with fail
  rw [← Mc.o]
  refine CR.o.mono ?_
  rintro e w4 ⟨rfl, hk4⟩
  have Gj := qI (Mt.o.then hk4)
  have Gq := qI (Gk.o.kept0 hk4)
  clear hk4
 case' inr.inl =>
  rw [hR] at hrest hpe
  replace hpe : yM l = .inl 50 := hpe.trans (if_neg hr)
  obtain ⟨x, hx⟩ : ∃ x : Int, 50 = x := ⟨_, rfl⟩
  rw [hx] at hpe
  have HX : Hid (yM l = .inl x) := qI hpe
  have Gk := qI (PS.kept0 hrest.1 Ge.o)
  have CR := qI (qw Gk.o Mi.o)
  rw [show qQ (.inr (r, c')) = r from rfl] at CR
  have hne : zg r ≠ ⟨#[]⟩ := fun e => hr (by have h9 := congrArg (fun s : ByteArray => s.data.toList) e; simpa only [zq] using h9)
  obtain ⟨g1, g2⟩ := qe hne
  have CF : Hid (∀ w1, PS w1 (w.heap.size + 1) (zg l) 4097 (.inr (r, c')) → ∀ i : Nat, i ≤ (zg l).size → Calls Tryz.prog 51 #[.pointer (some ⟨w.heap.size + 1, 0, none⟩), .int .i64 i, .int .i64 50] w1 fun e w2 => e = .returned (.bool false) ∧ PS w2 (w.heap.size + 1) (zg l) 4097 (.inl x) ∧ zb [w.heap.size + 1] w1 w2) := qI (fun w1 h i hi => by
   have h9 := yt h i 50 hi (by decide) (by decide)
   rw [← hx]
   exact h9)
  have Yo := qI hx
  clear hrest hpe hR hr hne hx
  revert CR g1 g2
  generalize zg r = T
  intro CR g1 g2
  go_wp2_with fail
  rw [← Mc.o]
  refine CR.o.mono ?_
  rintro e w3 ⟨rfl, hk3⟩
  have Mv := qI (Mt.o.then hk3)
  have Me := qI (Gk.o.kept0 hk3)
  obtain ⟨i, q4, hi, hn, -⟩ := Me.o.open_ok
  have c1 := q4.cells.2.1
  have hiH := qI hi
  clear q4 hk3 hi hn
  go_wp2_with fail
  refine (CF.o _ Me.o i hiH.o).mono ?_
  rintro e w4 ⟨rfl, hp4, hk4⟩
  have Gj := qI (Mv.o.trans' hk4)
  have Gq := qI hp4
  clear hp4 hk4 c1 g1 g2
 all_goals
  obtain ⟨i, n, q4, hi, hn, hx0, hx1⟩ := Gq.o.open_bad
  have hi2 := Mi.o
  have HI : Hid (i ≤ 262144) := qI (by omega)
  have Mw : Hid (0 < x ∧ x ≤ 1000) := qI ⟨hx0, hx1⟩
  have e1 := zu q4.cells.2.1
  have e3 := zu q4.cells.2.2.2.1
  have c3 := q4.cells.2.2.2.1
  obtain ⟨g1, g2⟩ := zt (a := x) (b := 0) (by omega)
  have hr4 := Gh.o.kept Gj.o (by simp)
  have s0 : ∀ z : Ext w4, z.w.setCell ⟨w.heap.size, 0, none⟩ (.int .i64 0) = z.w := fun z => x5 (z.k.heap hr4 (by simp)) rfl
  have s1 : ∀ z : Ext w4, z.w.setCell ⟨w.heap.size, 1, none⟩ (.int .i64 0) = z.w := fun z => x5 (z.k.heap hr4 (by simp)) rfl
  have s2 : ∀ z : Ext w4, z.w.setCell ⟨w.heap.size, 2, none⟩ (.string ⟨#[]⟩) = z.w := fun z => x5 (z.k.heap hr4 (by simp)) rfl
  have s3 : ∀ z : Ext w4, z.w.setCell ⟨w.heap.size, 3, none⟩ (.slice none 0 0) = z.w := fun z => x5 (z.k.heap hr4 (by simp)) rfl
  have s4 : ∀ z : Ext w4, z.w.setCell ⟨w.heap.size, 4, none⟩ (.slice none 0 0) = z.w := fun z => x5 (z.k.heap hr4 (by simp)) rfl
  have Md := qI hr4
  clear hr4 q4 hi2 hi hn hx0 hx1
  go_wp2_with fail
  refine yd w4 (by kernel_rfl) (by kernel_rfl) (zb.refl _ _) ?_
  clear c3
  repeat go_big_quiet_step (fail)
  refine wpQuiet_step (fun K hK => ?_)
  rw [if_pos (by kernel_rfl)]
  refine ⟨undef, ?_, hK _ ?_⟩
  ·rintro _ ⟨z, rfl⟩
   have hz := z.k.heap Md.o (by simp)
   have x0 := za (o := 0) (v := .int .i64 0) hz rfl
   have y0 := zc (o := 0) hz
   have x1 := za (o := 1) (v := .int .i64 0) hz rfl
   have y1 := zc (o := 1) hz
   have x2 := za (o := 2) (v := .string ⟨#[]⟩) hz rfl
   have y2 := zc (o := 2) hz
   have x3 := za (o := 3) (v := .slice none 0 0) hz rfl
   have y3 := zc (o := 3) hz
   have x4 := za (o := 4) (v := .slice none 0 0) hz rfl
   have y4 := zc (o := 4) hz
   unfold Oper.quietAt
   go_simp
  clear hK K
  dsimp only [Act.put]
  repeat go_big_quiet_step (fail)
  refine wpQuiet_nil ?_
  intro w5 hk5
  clear s0 s1 s2 s3 s4 e1 e3
  go_wp2_with fail
  obtain ⟨y0, y1, y2, y3, y4⟩ := (Md.o.kept hk5 (by simp)).facts.1
  exact bodyPost_ret (v := .tuple #[.agg #[.int .i64 0, .int .i64 0, .string ⟨#[]⟩, .slice none 0 0, .slice none 0 0], .int .i64 i, .int .i64 x]) (by simp [results, results24, go_sem, y0, y1, y2, y3, y4]) rfl
   ⟨Yw HX.o Mw.o HI.o, (Gb.o.mono (Y := [w.heap.size + 1]) (by simp)).trans' (Gj.o.then hk5) |>.fresh (by simp)⟩
theorem parse_any (hb : xt w (.slice a l.length c) l) (ht : yK w) : Calls Tryz.prog 24 #[.slice a l.length c] w fun e w' => km l w.heap.size e w' ∧ zb [] w w' := by
 by_cases h : l.length ≤ 262144
 ·exact parse_short hb ht h
 ·exact parse_long (by omega)
end
def bn (l : List UInt8) (B : Nat) (e : Ending) (w' : World) : Prop :=
 match bZ l with
 | .inl x => (0 < x ∧ x ≤ 1000) ∧ e = .returned (.tuple #[.agg zeroA, .int .i64 x])
 | .inr v => ∃ cs : List Value, jk cs ∧ e = .returned (.tuple #[.agg cs.toArray, .int .i64 0]) ∧ yS 12 B w' cs v
theorem Zs {l : List UInt8} {B : Nat} {w' : World} {x : Int} (h : bZ l = .inl x) (hx : 0 < x ∧ x ≤ 1000) : bn l B (.returned (.tuple #[.agg #[.int .i64 0, .int .i64 0, .string ⟨#[]⟩, .slice none 0 0, .slice none 0 0], .int .i64 x])) w' := by
 unfold bn
 rw [h]
 exact ⟨hx, rfl⟩
theorem decAns_ok {l : List UInt8} {B : Nat} {w' : World} {cs : List Value} {v : V 12} (h : bZ l = .inr v) (hc : jk cs) (ho : yS 12 B w' cs v) : bn l B (.returned (.tuple #[.agg cs.toArray, .int .i64 0])) w' := by
 unfold bn
 rw [h]
 exact ⟨cs, hc, rfl, ho⟩
theorem parse_small {l : List UInt8} {v : V 12} (h : yM l = .inr v) : zZ 12 v := by
 obtain ⟨-, h2, h3, h4⟩ := parse_facts h
 exact ⟨by omega, by omega⟩
theorem dec_parse {l : List UInt8} {x : Int} (h : yM l = .inl x) : bZ l = .inl x := by unfold bZ; rw [h]
theorem dec_yes {l : List UInt8} {v : V 12} (h : yM l = .inr v) (h2 : vf 12 v = (l, 0)) : bZ l = .inr v := by unfold bZ; rw [h]; exact if_pos h2
theorem dec_no {l : List UInt8} {v : V 12} (h : yM l = .inr v) (h2 : vf 12 v ≠ (l, 0)) : bZ l = .inl 60 := by unfold bZ; rw [h]; exact if_neg h2
section
variable {w : World} {a : Option Addr} {c : Nat} {l : List UInt8}
set_option maxRecDepth 100000 in
theorem Zq (hb : xt w (.slice a l.length c) l) (ht : yK w) : Calls Tryz.prog 17 #[.slice a l.length c] w fun e w' => bn l w.heap.size e w' ∧ zb [] w w' := by
 obtain ⟨W0, Ga⟩ : ∃ W0, Hid (W0 = w.alloc (.cells #[.int .i64 0, .int .i64 0, .string ⟨#[]⟩, .slice none 0 0, .slice none 0 0] 25)) := ⟨_, qI rfl⟩
 have Gb : Hid (zb [] w W0) := qI (by rw [Ga.o]; exact (zb.refl [] w).alloc _)
 have Mb : Hid (W0.heap.size = w.heap.size + 1) := qI (by rw [Ga.o]; simp)
 have Gh : Hid (xh W0 w.heap.size) := qI (by rw [Ga.o]; exact yA w)
 have CP := qI (parse_any (hb.kept0 Gb.o) (ht.kept0 Gb.o))
 have Gs := qI (ht.kept0 Gb.o)
 have Yp := qI (hb.kept0 Gb.o)
 clear hb ht
 go_enter func17, ntmps17
 go_wp2_with fail
 rw [← Ga.o]
 refine CP.o.mono ?_
 rintro e w1 ⟨ha, hk1⟩
 have Gg := qI hk1
 have hw1 : w.heap.size < w1.heap.size := by have := hk1.size; have := Mb.o; omega
 clear hk1
 unfold km at ha
 cases hp : yM l with
 | inl x =>
  rw [hp] at ha
  obtain ⟨hx, n, hn, rfl⟩ := ha
  have HD := qI (dec_parse hp)
  have Mw := qI hx
  unfold zeroA
  obtain ⟨g1, g2⟩ := zt (a := x) (b := 0) (by omega)
  have Ye := qI (Gh.o.kept Gg.o (by simp))
  obtain ⟨⟨d0, d1, d2, d3, d4⟩, f0, f1, f2, f3, f4⟩ := Ye.o.facts
  clear hp hx
  go_wp2_with fail
  obtain ⟨WF, e⟩ : ∃ WF, WF = zy w1 w.heap.size (.int .i64 0) (.int .i64 0) (.string ⟨#[]⟩) (.slice none 0 0) (.slice none 0 0) := ⟨_, rfl⟩
  obtain ⟨KF, y0, y1, y2, y3, y4⟩ := Ye.o.stored e
  unfold zy at e
  rw [← e]
  have KG : zb [] WF (WF.alloc (.cells #[.int .i64 0, .int .i64 0, .string ⟨#[]⟩, .slice none 0 0, .slice none 0 0] 25)) := (zb.refl [] WF).alloc _
  have z0 := KG.cell y0 (by simp)
  have z1 := KG.cell y1 (by simp)
  have z2 := KG.cell y2 (by simp)
  have z3 := KG.cell y3 (by simp)
  have z4 := KG.cell y4 (by simp)
  exact bodyPost_ret (v := .tuple #[.agg #[.int .i64 0, .int .i64 0, .string ⟨#[]⟩, .slice none 0 0, .slice none 0 0], .int .i64 x]) (by simp [results, results17, go_sem, z0, z1, z2, z3, z4]) rfl ⟨Zs HD.o Mw.o, ((Gb.o.mono (Y := [w.heap.size]) (by simp)).trans' (((Gg.o.mono (by simp)).trans' KF).then KG)).fresh (by simp)⟩
 | inr v =>
  rw [hp] at ha
  obtain ⟨cs, ⟨k5, m5, s5, p5, i5, c5, q5, j5, d5, rfl⟩, rfl, ho⟩ := ha
  obtain ⟨W2, Mx⟩ : ∃ W2, Hid (W2 = w1.alloc (.cells #[.int .i64 k5, .int .i64 m5, .string s5, .slice p5 i5 c5, .slice q5 j5 d5] 25)) := ⟨_, qI rfl⟩
  have Jq : Hid (zb [] w1 W2) := qI (by rw [Mx.o]; exact (zb.refl [] w1).alloc _)
  have Gf := qI (Gg.o.then Jq.o)
  have Jl : Hid (W2.heap[w1.heap.size]? = some (.cells #[.int .i64 k5, .int .i64 m5, .string s5, .slice p5 i5 c5, .slice q5 j5 d5] 25 (0, 0))) := qI (by rw [Mx.o]; exact zn rfl)
  have HO := qI ho
  have CE := qI (QP (ho.rep.kept0 Jq.o) (parse_small hp) (by decide) (Gs.o.kept0 Gf.o))
  have HY := qI (dec_yes hp)
  have HN := qI (dec_no hp)
  clear ho hp
  go_wp2_with fail
  rw [← Mx.o]
  refine CE.o.mono ?_
  rintro e w3 ⟨⟨a3, c3, rfl, hb3⟩, hk3⟩
  have Ge := qI (Gf.o.then hk3)
  have Gp := qI hb3
  have Ja := qI (hk3.heap Jl.o (by simp))
  have My := qI (Jq.o.then hk3)
  clear hb3 hk3
  obtain ⟨E1, E2, hE⟩ : ∃ E1 E2, vf 12 v = (E1, E2) := ⟨_, _, rfl⟩
  rw [hE] at Gp HY HN
  simp only [hE] at *
  have Mj := qI (Gh.o.kept Ge.o (by simp))
  obtain ⟨⟨d0, d1, d2, d3, d4⟩, f0, f1, f2, f3, f4⟩ := Mj.o.facts
  by_cases h2 : E2 = 0
  rotate_left
  ·have HD := qI (HN.o (fun e => h2 (Prod.mk.inj e).2))
   obtain ⟨g1, g2⟩ := zt h2
   clear h2
   go_wp2_with fail
   obtain ⟨WF, e⟩ : ∃ WF, WF = zy w3 w.heap.size (.int .i64 0) (.int .i64 0) (.string ⟨#[]⟩) (.slice none 0 0) (.slice none 0 0) := ⟨_, rfl⟩
   obtain ⟨KF, y0, y1, y2, y3, y4⟩ := Mj.o.stored e
   unfold zy at e
   rw [← e]
   exact bodyPost_ret (v := .tuple #[.agg #[.int .i64 0, .int .i64 0, .string ⟨#[]⟩, .slice none 0 0, .slice none 0 0], .int .i64 60]) (by simp [results, results17, go_sem, y0, y1, y2, y3, y4]) rfl ⟨Zs HD.o (by decide), ((Gb.o.mono (Y := [w.heap.size]) (by simp)).trans' ((Ge.o.mono (by simp)).trans' KF)).fresh (by simp)⟩
  subst h2
  have CQ := qI (libEqual (Yp.o.kept0 Ge.o) Gp.o)
  go_wp2_with fail
  refine CQ.o.mono ?_
  rintro e w4 ⟨rfl, rfl⟩
  by_cases h3 : l = E1
  rotate_left
  ·have HD := qI (HN.o (fun e => h3 (Prod.mk.inj e).1.symm))
   rw [decide_eq_false h3]
   clear h3
   go_wp2_with fail
   obtain ⟨WF, e⟩ : ∃ WF, WF = zy w3 w.heap.size (.int .i64 0) (.int .i64 0) (.string ⟨#[]⟩) (.slice none 0 0) (.slice none 0 0) := ⟨_, rfl⟩
   obtain ⟨KF, y0, y1, y2, y3, y4⟩ := Mj.o.stored e
   unfold zy at e
   rw [← e]
   exact bodyPost_ret (v := .tuple #[.agg #[.int .i64 0, .int .i64 0, .string ⟨#[]⟩, .slice none 0 0, .slice none 0 0], .int .i64 60]) (by simp [results, results17, go_sem, y0, y1, y2, y3, y4]) rfl ⟨Zs HD.o (by decide), ((Gb.o.mono (Y := [w.heap.size]) (by simp)).trans' ((Ge.o.mono (by simp)).trans' KF)).fresh (by simp)⟩
  have HD := qI (HY.o (by rw [h3]))
  rw [decide_eq_true h3]
  clear h3
  have x0 := za (o := 0) (v := .int .i64 k5) Ja.o rfl
  have x1 := za (o := 1) (v := .int .i64 m5) Ja.o rfl
  have x2 := za (o := 2) (v := .string s5) Ja.o rfl
  have x3 := za (o := 3) (v := .slice p5 i5 c5) Ja.o rfl
  have x4 := za (o := 4) (v := .slice q5 j5 d5) Ja.o rfl
  go_wp2_with fail
  obtain ⟨WF, e⟩ : ∃ WF, WF = zy w3 w.heap.size (.int .i64 k5) (.int .i64 m5) (.string s5) (.slice p5 i5 c5) (.slice q5 j5 d5) := ⟨_, rfl⟩
  obtain ⟨KF, y0, y1, y2, y3, y4⟩ := Mj.o.stored e
  unfold zy at e
  rw [← e]
  have hz := Mb.o
  exact bodyPost_ret (v := .tuple #[.agg #[.int .i64 k5, .int .i64 m5, .string s5, .slice p5 i5 c5, .slice q5 j5 d5], .int .i64 0]) (by simp [results, results17, go_sem, y0, y1, y2, y3, y4]) rfl
   ⟨decAns_ok (cs := [.int .i64 k5, .int .i64 m5, .string s5, .slice p5 i5 c5, .slice q5 j5 d5]) HD.o ⟨_, _, _, _, _, _, _, _, _, rfl⟩ (HO.o.move ((My.o.mono (by simp)).trans' KF) (fun g hg => by simp at hg; omega) (by omega)), ((Gb.o.mono (Y := [w.heap.size]) (by simp)).trans' ((Ge.o.mono (by simp)).trans' KF)).fresh (by simp)⟩
end
end Go.Proofs.YtpbphdkjjoipnaaGreatDoor
