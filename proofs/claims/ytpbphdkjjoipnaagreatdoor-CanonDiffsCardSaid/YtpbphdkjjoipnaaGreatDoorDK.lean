/- Parts of one proof, merged: XPL XPM XPN XPO XPQ XPR XPS XPT XDe. -/
import Derived.Test.YtpbphdkjjoipnaaGreatDoorDJ
import Derived.Test.YtpbphdkjjoipnaaGreatDoorDB
import Derived.Test.YtpbphdkjjoipnaaGreatDoorDF
set_option linter.all false
set_option linter.unusedVariables false
set_option linter.unusedSimpArgs false
set_option linter.unnecessarySimpa false
namespace Go.Proofs.YtpbphdkjjoipnaaGreatDoor
open Go.RowKit
def pMeas (S : ByteArray) (p : Nat) (w : World) : Nat :=
  match w.heap[p]? with
  | some (.cells c _ _) => (match (c[1]? : Option Value), (c[3]? : Option Value) with | some (Value.int _ i), some (Value.int _ e) => if e = 0 then S.size - i.toNat + 1 else 0 | _, _ => 0)
  | _ => 0
theorem meas_ok {w : World} {p B c : Nat} {S : ByteArray} {r : List UInt8} (h : PS w p S B (.inr (r, c))) : pMeas S p w = r.length + 1 := by
  obtain ⟨i, h1, hi, hc, hr⟩ := h.open_ok
  have := drop_len hr hi
  unfold PAt at h1
  unfold pMeas
  rw [h1]
  simp
  omega
theorem meas_bad {w : World} {p B : Nat} {S : ByteArray} {e : Int} (h : PS w p S B (.inl e)) : pMeas S p w = 0 := by
  obtain ⟨i, c, h1, hi, hc, h2, h3⟩ := h.open_bad
  unfold PAt at h1
  unfold pMeas
  rw [h1]
  have : e ≠ 0 := by omega
  simp [this]
section
variable {σ : Type} {step : List UInt8 → Nat → σ → Sum Int (σ × List UInt8 × Nat)} {stop : UInt8} {a1 a2 a3 a4 : Value} {GJ : σ → World → Prop} {GB : World → Prop} {len : σ → Nat} {p : Nat} {S : ByteArray} {w : World}
def GAns (step : List UInt8 → Nat → σ → Sum Int (σ × List UInt8 × Nat)) (p : Nat) (S : ByteArray) (GJ : σ → World → Prop) (GB : World → Prop) (s : List UInt8) (c : Nat) (acc : σ) (w' : World) : Prop :=
  match step s c acc with
  | .inl x => PS w' p S 4097 (.inl x) ∧ GB w'
  | .inr (acc', r, c') => PS w' p S 4097 (.inr (r, c')) ∧ GJ acc' w'
def GFin (R : Sum Int (σ × List UInt8 × Nat)) (p : Nat) (S : ByteArray) (GJ : σ → World → Prop) (GB : World → Prop) (w' : World) : Prop :=
  match R with
  | .inl x => PS w' p S 4097 (.inl x) ∧ GB w'
  | .inr (acc', r, c') => PS w' p S 4097 (.inr (r, c')) ∧ GJ acc' w' ∧ c' ≤ 4096
def GRel (step : List UInt8 → Nat → σ → Sum Int (σ × List UInt8 × Nat)) (stop : UInt8) (R : Sum Int (σ × List UInt8 × Nat)) (len : σ → Nat) (p : Nat) (S : ByteArray) (GJ : σ → World → Prop) (GB : World → Prop) (w' : World) : Prop :=
  (∃ x, PS w' p S 4097 (.inl x) ∧ R = .inl x ∧ GB w') ∨ ∃ s c acc, PS w' p S 4097 (.inr (s, c)) ∧ c ≤ 4096 ∧ len acc ≤ c ∧ ItAt step stop R s c acc ∧ GJ acc w'
theorem head_eats (a : UInt8) (r : List UInt8) (c : Nat) : eatB [a] (.inr (r, c)) = decide (r.head? = some a) ∧ (r.head? = some a → eatX [a] (.inr (r, c)) = .inr (r.tail, c)) ∧ (r.head? ≠ some a → eatX [a] (.inr (r, c)) = .inr (r, c)) := by
  refine ⟨eat_one a r c, fun h => ?_, fun h => eatX_no (by rw [eat_one, decide_eq_false h])⟩
  rw [eatX_yes (by rw [eat_one, decide_eq_true h])]
  show (Sum.inr (r.drop 1, c) : PX) = _
  rw [List.drop_one]
theorem head_needs (r : List UInt8) (c : Nat) : (r.head? = some 44 → needX [44] (.inr (r, c)) = .inr (r.tail, c)) ∧ (r.head? ≠ some 44 → needX [44] (.inr (r, c)) = .inl 50) := by
  refine ⟨fun h => ?_, fun h => needX_no (by rw [eat_one, decide_eq_false h])⟩
  rw [needX_yes (by rw [eat_one, decide_eq_true h])]
  show (Sum.inr (r.drop 1, c) : PX) = _
  rw [List.drop_one]
set_option maxRecDepth 10000 in
set_option maxHeartbeats 6400000 in
theorem items1_any (hS : S.size ≤ 262144)
    (HC : ∀ s c acc w, PS w p S 4097 (.inr (s, c)) → c ≤ 4096 → len acc ≤ c → GJ acc w → Calls Tryz.prog 159 #[a1,a2,a3] w fun e w' => e = .returned (.tuple #[]) ∧ GAns step p S GJ GB s c acc w')
    (HJ : ∀ acc w w', GJ acc w → Kept [p] w w' → GJ acc w') (HB : ∀ w w', GB w → Kept [p] w w' → GB w') (HJB : ∀ acc w, GJ acc w → GB w)
    (HST : ∀ s c acc acc' r c', c ≤ 4096 → step s c acc = .inr (acc', r, c') → r.length ≤ s.length ∧ c' ≤ 4096 ∧ (len acc ≤ c → len acc' ≤ c'))
    {s : List UInt8} {c f : Nat} {acc : σ} (hs : PS w p S 4097 (.inr (s, c))) (hc : c ≤ 4096) (hl : len acc ≤ c) (hj : GJ acc w) (hf : s.length < f) :
    Calls Tryz.prog 158 #[.pointer (some ⟨p, 0, none⟩), .string ⟨#[stop]⟩, .func (.func 159) #[] #[a1,a2,a3]] w fun e w' => e = .returned (.tuple #[]) ∧ GFin (pItems step stop f s c acc) p S GJ GB w' := by
  have C1 := Lib.hid (pskip_any hs hS)
  have HW := Lib.hid HC
  have HJ := Lib.hid HJ
  have HB := Lib.hid HB
  have HJB := Lib.hid HJB
  have HST := Lib.hid HST
  have HJ0 := Lib.hid hj
  have HC0 := Lib.hid hc
  have HL0 := Lib.hid hl
  have HF := Lib.hid hf
  clear hs hc hl hj hf HC
  have hsk : skipX (.inr (s, c)) = .inr (skipB s, c) := rfl
  rw [hsk] at C1
  clear hsk
  by_cases h0 : (skipB s).head? = some stop
  · have HR : Hid (pItems step stop f s c acc = .inr (acc, (skipB s).tail, c)) := Lib.hid (if_pos h0)
    rw [HR.out]
    have HH0 := Lib.hid h0
    clear h0
    go_enter Tryz.func158, Tryz.ntmps158
    go_wp2_with fail
    refine C1.out.mono ?_
    rintro e w1 ⟨rfl, hp1, hk1⟩
    have HP1 := Lib.hid hp1
    have HJ1 := Lib.hid (HJ.out _ _ _ HJ0.out hk1)
    have C2 := Lib.hid (peat_any hp1 hS ⟨#[stop]⟩)
    rw [show (⟨#[stop]⟩ : ByteArray).data.toList = [stop] from rfl, (head_eats stop (skipB s) c).1] at C2
    clear hk1 hp1
    rw [decide_eq_true HH0.out, (head_eats stop (skipB s) c).2.1 HH0.out] at C2
    go_wp2_with fail
    refine C2.out.mono ?_
    rintro e w2 ⟨rfl, hp2, hk2⟩
    go_wp2_with fail
    ((try simp only [Exit.inBlock, Exit.then]); refine bodyPost_ret (results_none rfl _ _ _) rfl ?_)
    exact ⟨rfl, hp2, HJ.out _ _ _ HJ1.out hk2, HC0.out⟩
  · have HR : Hid (pItems step stop f s c acc = pIter step stop f (skipB s) c acc) := Lib.hid (if_neg h0)
    rw [HR.out]
    have HI : Hid (ItAt step stop (pIter step stop f (skipB s) c acc) (skipB s) c acc) := Lib.hid ⟨f, Nat.lt_of_le_of_lt (skip_le s) HF.out, rfl⟩
    have HH0 := Lib.hid h0
    clear h0 HR
    revert HI
    generalize pIter step stop f (skipB s) c acc = R
    intro HI
    go_enter Tryz.func158, Tryz.ntmps158
    go_wp2_with fail
    refine C1.out.mono ?_
    rintro e w1 ⟨rfl, hp1, hk1⟩
    have HP1 := Lib.hid hp1
    have HJ1 := Lib.hid (HJ.out _ _ _ HJ0.out hk1)
    have C2 := Lib.hid (peat_any hp1 hS ⟨#[stop]⟩)
    rw [show (⟨#[stop]⟩ : ByteArray).data.toList = [stop] from rfl, (head_eats stop (skipB s) c).1] at C2
    clear hk1 hp1
    rw [decide_eq_false HH0.out, (head_eats stop (skipB s) c).2.2 HH0.out] at C2
    go_wp2_with fail
    refine C2.out.mono ?_
    rintro e w2 ⟨rfl, hp2, hk2⟩
    have HREL : Hid (GRel step stop R len p S GJ GB w2) := Lib.hid (.inr ⟨skipB s, c, acc, hp2, HC0.out, HL0.out, HI.out, HJ.out _ _ _ HJ1.out hk2⟩)
    clear hp2 hk2
    go_wp2_with fail
    go_loopw [] (fun wr => GRel step stop R len p S GJ GB wr) (fun wr => pMeas S p wr)
    case atStart => exact HREL.out
    case round =>
      rcases hrel with ⟨x, hp3, hx, hb3⟩ | ⟨s3, c3, acc3, hp3, hc3, hl3, hi3, hj3⟩
      · have HX := Lib.hid hx
        have HP3 := Lib.hid hp3
        have HB3 := Lib.hid hb3
        obtain ⟨i, cc, h1, hi, hcc, h2, h3⟩ := hp3.open_bad
        have d3 := cell_head (o := 3) (v := .int .i64 x) h1 rfl
        obtain ⟨f1, f2⟩ := int_ne (a := x) (b := 0) (by omega)
        clear hx hp3 hb3 h1 h2 h3 hi hcc
        go_wp2_with fail
        go_end0
        rw [HX.out]
        exact ⟨rfl, HP3.out, HB3.out⟩
      · have HM := Lib.hid (meas_ok hp3)
        have CO := Lib.hid (HW.out _ _ _ _ hp3 hc3 hl3 hj3)
        have HI3 := Lib.hid hi3
        have HL3 := Lib.hid hl3
        have HC3 := Lib.hid hc3
        obtain ⟨i, h1, hi, hcc, h2⟩ := hp3.open_ok
        have d3 := cell_head (o := 3) (v := .int .i64 0) h1 rfl
        clear hp3 hc3 hl3 hi3 hj3 h1 hi hcc h2
        unfold GAns at CO
        go_wp2_with fail
        refine CO.out.mono ?_
        rintro e w4 ⟨rfl, hans⟩
        clear d3
        cases hst : step s3 c3 acc3 with
        | inl x =>
          rw [hst] at hans
          obtain ⟨hp4, hb4⟩ := hans
          have HX := Lib.hid (HI3.out.bad hst)
          have HB4 := Lib.hid hb4
          have C5 := Lib.hid (peat_any hp4 hS ⟨#[stop]⟩)
          rw [show eatB (⟨#[stop]⟩ : ByteArray).data.toList (.inl x) = false from rfl, eatX_no rfl] at C5
          clear hp4 hb4 hst
          go_wp2_with fail
          refine C5.out.mono ?_
          rintro e w5 ⟨rfl, hp5, hk5⟩
          have HB5 := Lib.hid (HB.out _ _ HB4.out hk5)
          have C6 := Lib.hid (pneed_any hp5 hS ⟨#[44]⟩)
          rw [needX_no rfl] at C6
          clear hp5 hk5
          go_wp2_with fail
          refine C6.out.mono ?_
          rintro e w6 ⟨rfl, hp6, hk6⟩
          have HP6 : Hid (PS w6 p S 4097 (.inl x)) := Lib.hid hp6
          have HB6 := Lib.hid (HB.out _ _ HB5.out hk6)
          clear hp6 hk6
          go_wp2_with fail
          case roundEnd => exact ⟨.inl ⟨x, HP6.out, HX.out, HB6.out⟩, by rw [meas_bad HP6.out, HM.out]; omega⟩
        | inr y =>
          obtain ⟨acc4, r4, c4⟩ := y
          rw [hst] at hans
          obtain ⟨hp4, hj4⟩ := hans
          obtain ⟨q1, q2, q3⟩ := HST.out _ _ _ _ _ _ HC3.out hst
          have HQ : Hid (r4.length ≤ s3.length ∧ c4 ≤ 4096 ∧ len acc4 ≤ c4) := Lib.hid ⟨q1, q2, q3 HL3.out⟩
          have HST4 := Lib.hid hst
          have HJ4 := Lib.hid hj4
          have C5 := Lib.hid (peat_any hp4 hS ⟨#[stop]⟩)
          rw [show (⟨#[stop]⟩ : ByteArray).data.toList = [stop] from rfl, (head_eats stop r4 c4).1] at C5
          clear hp4 hj4 hst q1 q2 q3
          by_cases h4 : r4.head? = some stop
          · rw [decide_eq_true h4, (head_eats stop r4 c4).2.1 h4] at C5
            have HX := Lib.hid (HI3.out.done HST4.out h4)
            clear h4
            go_wp2_with fail
            refine C5.out.mono ?_
            rintro e w5 ⟨rfl, hp5, hk5⟩
            go_wp2_with fail
            ((try simp only [Exit.inBlock, Exit.then]); refine bodyPost_ret (results_none rfl _ _ _) rfl ?_)
            rw [HX.out]
            exact ⟨rfl, hp5, HJ.out _ _ _ HJ4.out hk5, HQ.out.2.1⟩
          · rw [decide_eq_false h4, (head_eats stop r4 c4).2.2 h4] at C5
            have HN4 := Lib.hid h4
            clear h4
            go_wp2_with fail
            refine C5.out.mono ?_
            rintro e w5 ⟨rfl, hp5, hk5⟩
            have HJ5 := Lib.hid (HJ.out _ _ _ HJ4.out hk5)
            have C6 := Lib.hid (pneed_any hp5 hS ⟨#[44]⟩)
            rw [show (⟨#[44]⟩ : ByteArray).data.toList = [44] from rfl] at C6
            clear hp5 hk5
            go_wp2_with fail
            refine C6.out.mono ?_
            rintro e w6 ⟨rfl, hp6, hk6⟩
            have HJ6 := Lib.hid (HJ.out _ _ _ HJ5.out hk6)
            have HP6 := Lib.hid hp6
            clear hp6 hk6
            go_wp2_with fail
            case roundEnd =>
              by_cases h7 : r4.head? = some 44
              · have hp7 := HP6.out
                rw [(head_needs r4 c4).1 h7] at hp7
                refine ⟨.inr ⟨r4.tail, c4, acc4, hp7, HQ.out.2.1, HQ.out.2.2, HI3.out.next HST4.out HN4.out h7 HQ.out.1, HJ6.out⟩, ?_⟩
                rw [meas_ok hp7, HM.out]
                have := HQ.out.1
                cases r4 with
                | nil => cases h7
                | cons a t => simp only [List.tail_cons, List.length_cons] at *; omega
              · have hp7 := HP6.out
                rw [(head_needs r4 c4).2 h7] at hp7
                exact ⟨.inl ⟨50, hp7, HI3.out.other HST4.out HN4.out h7, HJB.out _ _ HJ6.out⟩, by rw [meas_bad hp7, HM.out]; omega⟩
set_option maxRecDepth 10000 in
set_option maxHeartbeats 6400000 in
theorem items2_any (hS : S.size ≤ 262144)
    (HC : ∀ s c acc w, PS w p S 4097 (.inr (s, c)) → c ≤ 4096 → len acc ≤ c → GJ acc w → Calls Tryz.prog 160 #[a1,a2,a3,a4] w fun e w' => e = .returned (.tuple #[]) ∧ GAns step p S GJ GB s c acc w')
    (HJ : ∀ acc w w', GJ acc w → Kept [p] w w' → GJ acc w') (HB : ∀ w w', GB w → Kept [p] w w' → GB w') (HJB : ∀ acc w, GJ acc w → GB w)
    (HST : ∀ s c acc acc' r c', c ≤ 4096 → step s c acc = .inr (acc', r, c') → r.length ≤ s.length ∧ c' ≤ 4096 ∧ (len acc ≤ c → len acc' ≤ c'))
    {s : List UInt8} {c f : Nat} {acc : σ} (hs : PS w p S 4097 (.inr (s, c))) (hc : c ≤ 4096) (hl : len acc ≤ c) (hj : GJ acc w) (hf : s.length < f) :
    Calls Tryz.prog 158 #[.pointer (some ⟨p, 0, none⟩), .string ⟨#[stop]⟩, .func (.func 160) #[] #[a1,a2,a3,a4]] w fun e w' => e = .returned (.tuple #[]) ∧ GFin (pItems step stop f s c acc) p S GJ GB w' := by
  have C1 := Lib.hid (pskip_any hs hS)
  have HW := Lib.hid HC
  have HJ := Lib.hid HJ
  have HB := Lib.hid HB
  have HJB := Lib.hid HJB
  have HST := Lib.hid HST
  have HJ0 := Lib.hid hj
  have HC0 := Lib.hid hc
  have HL0 := Lib.hid hl
  have HF := Lib.hid hf
  clear hs hc hl hj hf HC
  have hsk : skipX (.inr (s, c)) = .inr (skipB s, c) := rfl
  rw [hsk] at C1
  clear hsk
  by_cases h0 : (skipB s).head? = some stop
  · have HR : Hid (pItems step stop f s c acc = .inr (acc, (skipB s).tail, c)) := Lib.hid (if_pos h0)
    rw [HR.out]
    have HH0 := Lib.hid h0
    clear h0
    go_enter Tryz.func158, Tryz.ntmps158
    go_wp2_with fail
    refine C1.out.mono ?_
    rintro e w1 ⟨rfl, hp1, hk1⟩
    have HP1 := Lib.hid hp1
    have HJ1 := Lib.hid (HJ.out _ _ _ HJ0.out hk1)
    have C2 := Lib.hid (peat_any hp1 hS ⟨#[stop]⟩)
    rw [show (⟨#[stop]⟩ : ByteArray).data.toList = [stop] from rfl, (head_eats stop (skipB s) c).1] at C2
    clear hk1 hp1
    rw [decide_eq_true HH0.out, (head_eats stop (skipB s) c).2.1 HH0.out] at C2
    go_wp2_with fail
    refine C2.out.mono ?_
    rintro e w2 ⟨rfl, hp2, hk2⟩
    go_wp2_with fail
    ((try simp only [Exit.inBlock, Exit.then]); refine bodyPost_ret (results_none rfl _ _ _) rfl ?_)
    exact ⟨rfl, hp2, HJ.out _ _ _ HJ1.out hk2, HC0.out⟩
  · have HR : Hid (pItems step stop f s c acc = pIter step stop f (skipB s) c acc) := Lib.hid (if_neg h0)
    rw [HR.out]
    have HI : Hid (ItAt step stop (pIter step stop f (skipB s) c acc) (skipB s) c acc) := Lib.hid ⟨f, Nat.lt_of_le_of_lt (skip_le s) HF.out, rfl⟩
    have HH0 := Lib.hid h0
    clear h0 HR
    revert HI
    generalize pIter step stop f (skipB s) c acc = R
    intro HI
    go_enter Tryz.func158, Tryz.ntmps158
    go_wp2_with fail
    refine C1.out.mono ?_
    rintro e w1 ⟨rfl, hp1, hk1⟩
    have HP1 := Lib.hid hp1
    have HJ1 := Lib.hid (HJ.out _ _ _ HJ0.out hk1)
    have C2 := Lib.hid (peat_any hp1 hS ⟨#[stop]⟩)
    rw [show (⟨#[stop]⟩ : ByteArray).data.toList = [stop] from rfl, (head_eats stop (skipB s) c).1] at C2
    clear hk1 hp1
    rw [decide_eq_false HH0.out, (head_eats stop (skipB s) c).2.2 HH0.out] at C2
    go_wp2_with fail
    refine C2.out.mono ?_
    rintro e w2 ⟨rfl, hp2, hk2⟩
    have HREL : Hid (GRel step stop R len p S GJ GB w2) := Lib.hid (.inr ⟨skipB s, c, acc, hp2, HC0.out, HL0.out, HI.out, HJ.out _ _ _ HJ1.out hk2⟩)
    clear hp2 hk2
    go_wp2_with fail
    go_loopw [] (fun wr => GRel step stop R len p S GJ GB wr) (fun wr => pMeas S p wr)
    case atStart => exact HREL.out
    case round =>
      rcases hrel with ⟨x, hp3, hx, hb3⟩ | ⟨s3, c3, acc3, hp3, hc3, hl3, hi3, hj3⟩
      · have HX := Lib.hid hx
        have HP3 := Lib.hid hp3
        have HB3 := Lib.hid hb3
        obtain ⟨i, cc, h1, hi, hcc, h2, h3⟩ := hp3.open_bad
        have d3 := cell_head (o := 3) (v := .int .i64 x) h1 rfl
        obtain ⟨f1, f2⟩ := int_ne (a := x) (b := 0) (by omega)
        clear hx hp3 hb3 h1 h2 h3 hi hcc
        go_wp2_with fail
        go_end0
        rw [HX.out]
        exact ⟨rfl, HP3.out, HB3.out⟩
      · have HM := Lib.hid (meas_ok hp3)
        have CO := Lib.hid (HW.out _ _ _ _ hp3 hc3 hl3 hj3)
        have HI3 := Lib.hid hi3
        have HL3 := Lib.hid hl3
        have HC3 := Lib.hid hc3
        obtain ⟨i, h1, hi, hcc, h2⟩ := hp3.open_ok
        have d3 := cell_head (o := 3) (v := .int .i64 0) h1 rfl
        clear hp3 hc3 hl3 hi3 hj3 h1 hi hcc h2
        unfold GAns at CO
        go_wp2_with fail
        refine CO.out.mono ?_
        rintro e w4 ⟨rfl, hans⟩
        clear d3
        cases hst : step s3 c3 acc3 with
        | inl x =>
          rw [hst] at hans
          obtain ⟨hp4, hb4⟩ := hans
          have HX := Lib.hid (HI3.out.bad hst)
          have HB4 := Lib.hid hb4
          have C5 := Lib.hid (peat_any hp4 hS ⟨#[stop]⟩)
          rw [show eatB (⟨#[stop]⟩ : ByteArray).data.toList (.inl x) = false from rfl, eatX_no rfl] at C5
          clear hp4 hb4 hst
          go_wp2_with fail
          refine C5.out.mono ?_
          rintro e w5 ⟨rfl, hp5, hk5⟩
          have HB5 := Lib.hid (HB.out _ _ HB4.out hk5)
          have C6 := Lib.hid (pneed_any hp5 hS ⟨#[44]⟩)
          rw [needX_no rfl] at C6
          clear hp5 hk5
          go_wp2_with fail
          refine C6.out.mono ?_
          rintro e w6 ⟨rfl, hp6, hk6⟩
          have HP6 : Hid (PS w6 p S 4097 (.inl x)) := Lib.hid hp6
          have HB6 := Lib.hid (HB.out _ _ HB5.out hk6)
          clear hp6 hk6
          go_wp2_with fail
          case roundEnd => exact ⟨.inl ⟨x, HP6.out, HX.out, HB6.out⟩, by rw [meas_bad HP6.out, HM.out]; omega⟩
        | inr y =>
          obtain ⟨acc4, r4, c4⟩ := y
          rw [hst] at hans
          obtain ⟨hp4, hj4⟩ := hans
          obtain ⟨q1, q2, q3⟩ := HST.out _ _ _ _ _ _ HC3.out hst
          have HQ : Hid (r4.length ≤ s3.length ∧ c4 ≤ 4096 ∧ len acc4 ≤ c4) := Lib.hid ⟨q1, q2, q3 HL3.out⟩
          have HST4 := Lib.hid hst
          have HJ4 := Lib.hid hj4
          have C5 := Lib.hid (peat_any hp4 hS ⟨#[stop]⟩)
          rw [show (⟨#[stop]⟩ : ByteArray).data.toList = [stop] from rfl, (head_eats stop r4 c4).1] at C5
          clear hp4 hj4 hst q1 q2 q3
          by_cases h4 : r4.head? = some stop
          · rw [decide_eq_true h4, (head_eats stop r4 c4).2.1 h4] at C5
            have HX := Lib.hid (HI3.out.done HST4.out h4)
            clear h4
            go_wp2_with fail
            refine C5.out.mono ?_
            rintro e w5 ⟨rfl, hp5, hk5⟩
            go_wp2_with fail
            ((try simp only [Exit.inBlock, Exit.then]); refine bodyPost_ret (results_none rfl _ _ _) rfl ?_)
            rw [HX.out]
            exact ⟨rfl, hp5, HJ.out _ _ _ HJ4.out hk5, HQ.out.2.1⟩
          · rw [decide_eq_false h4, (head_eats stop r4 c4).2.2 h4] at C5
            have HN4 := Lib.hid h4
            clear h4
            go_wp2_with fail
            refine C5.out.mono ?_
            rintro e w5 ⟨rfl, hp5, hk5⟩
            have HJ5 := Lib.hid (HJ.out _ _ _ HJ4.out hk5)
            have C6 := Lib.hid (pneed_any hp5 hS ⟨#[44]⟩)
            rw [show (⟨#[44]⟩ : ByteArray).data.toList = [44] from rfl] at C6
            clear hp5 hk5
            go_wp2_with fail
            refine C6.out.mono ?_
            rintro e w6 ⟨rfl, hp6, hk6⟩
            have HJ6 := Lib.hid (HJ.out _ _ _ HJ5.out hk6)
            have HP6 := Lib.hid hp6
            clear hp6 hk6
            go_wp2_with fail
            case roundEnd =>
              by_cases h7 : r4.head? = some 44
              · have hp7 := HP6.out
                rw [(head_needs r4 c4).1 h7] at hp7
                refine ⟨.inr ⟨r4.tail, c4, acc4, hp7, HQ.out.2.1, HQ.out.2.2, HI3.out.next HST4.out HN4.out h7 HQ.out.1, HJ6.out⟩, ?_⟩
                rw [meas_ok hp7, HM.out]
                have := HQ.out.1
                cases r4 with
                | nil => cases h7
                | cons a t => simp only [List.tail_cons, List.length_cons] at *; omega
              · have hp7 := HP6.out
                rw [(head_needs r4 c4).2 h7] at hp7
                exact ⟨.inl ⟨50, hp7, HI3.out.other HST4.out HN4.out h7, HJB.out _ _ HJ6.out⟩, by rw [meas_bad hp7, HM.out]; omega⟩
end
end Go.Proofs.YtpbphdkjjoipnaaGreatDoor
namespace Go.Proofs.YtpbphdkjjoipnaaGreatDoor
open Go.RowKit
theorem listStep_st {d : Nat} : ∀ (s : List UInt8) (c : Nat) (acc acc' : List (V d)) (r : List UInt8) (c' : Nat), c ≤ 4096 → listStep (pValue d) s c acc = .inr (acc', r, c') → r.length ≤ s.length ∧ c' ≤ 4096 ∧ (acc.length ≤ c → acc'.length ≤ c') := by
  intro s c acc acc' r c' hc h
  obtain ⟨h1, h2⟩ := listStep_le h
  refine ⟨h1, h2, fun hl => ?_⟩
  unfold listStep at h
  cases hv : pValue d s c with
  | inl e => rw [hv] at h; cases h
  | inr y =>
    obtain ⟨v, r0, c0⟩ := y
    rw [hv] at h
    simp only at h
    injection h with h; injection h with h3 h4; injection h4 with h4 h5
    subst h3; subst h5
    obtain ⟨g1, g2, g3, g4⟩ := read_facts d s c v r0 c0 hv
    have : 1 ≤ countV d v := by
      rcases countV_pos (v := v) with q | q
      · subst q; exact nomatch v
      · exact q
    rw [List.length_append, List.length_singleton]
    omega
theorem pairStep_st {d : Nat} : ∀ (s : List UInt8) (c : Nat) (acc acc' : List (ByteArray × V d)) (r : List UInt8) (c' : Nat), c ≤ 4096 → pairStep (pValue d) s c acc = .inr (acc', r, c') → r.length ≤ s.length ∧ c' ≤ 4096 ∧ (acc.length ≤ c → acc'.length ≤ c') := by
  intro s c acc acc' r c' hc h
  obtain ⟨h1, h2⟩ := pairStep_le h
  refine ⟨h1, h2, fun hl => ?_⟩
  unfold pairStep at h
  split at h
  · cases h
  split at h
  · cases h
  split at h
  · split at h
    · cases h
    · rename_i v r1 c1 hv
      injection h with h; injection h with h3 h4; injection h4 with h4 h5
      subst h3; subst h5
      obtain ⟨g1, g2, g3, g4⟩ := read_facts d _ c v r1 c1 hv
      have : 1 ≤ countV d v := by
        rcases countV_pos (v := v) with q | q
        · subst q; exact nomatch v
        · exact q
      rw [List.length_append, List.length_singleton]
      omega
  · cases h
def BothAns (d : Nat) (R : Sum Int (VS (V d) × List UInt8 × Nat)) (p : Nat) (S : ByteArray) (w : World) (e : Ending) (w' : World) : Prop :=
  ∃ cs : List Value, e = .returned (.agg cs.toArray) ∧ Shape cs ∧ Kept [p] w w' ∧
    match R with
    | .inl x => PS w' p S 4097 (.inl x)
    | .inr (v, r, c') => PS w' p S 4097 (.inr (r, c')) ∧ OwnRep (d + 1) w.heap.size w' cs v
def asList {d : Nat} : Sum Int (List (V d) × List UInt8 × Nat) → Sum Int (VS (V d) × List UInt8 × Nat) | .inl e => .inl e | .inr (l, r, c) => .inr (⟨5, 0, ⟨#[]⟩, l, []⟩, r, c)
def asMap {d : Nat} : Sum Int (List (ByteArray × V d) × List UInt8 × Nat) → Sum Int (VS (V d) × List UInt8 × Nat) | .inl e => .inl e | .inr (l, r, c) => .inr (⟨6, 0, ⟨#[]⟩, [], l⟩, r, c)
theorem bothAns_bad {d p : Nat} {R : Sum Int (VS (V d) × List UInt8 × Nat)} {S : ByteArray} {w w' : World} {cs : List Value} {x : Int} (h : R = .inl x) (h1 : Shape cs) (h2 : Kept [p] w w') (h3 : PS w' p S 4097 (.inl x)) : BothAns d R p S w (.returned (.agg cs.toArray)) w' := ⟨cs, rfl, h1, h2, by rw [h]; exact h3⟩
theorem bothAns_ok {d p : Nat} {R : Sum Int (VS (V d) × List UInt8 × Nat)} {S : ByteArray} {w w' : World} {cs : List Value} {v : VS (V d)} {r : List UInt8} {c' : Nat} (h : R = .inr (v, r, c')) (h1 : Shape cs) (h2 : Kept [p] w w') (h3 : PS w' p S 4097 (.inr (r, c'))) (h4 : OwnRep (d + 1) w.heap.size w' cs v) : BothAns d R p S w (.returned (.agg cs.toArray)) w' := ⟨cs, rfl, h1, h2, by rw [h]; exact ⟨h3, h4⟩⟩
section
variable {w : World} {p d : Nat} {S : ByteArray} {s : List UInt8} {c f : Nat}
theorem ListAns.g {W w' : World} {bv b2 b3 : Nat} {acc : List (V d)} (h : ListAns W bv b2 b3 p d S s c acc w') : GAns (listStep (pValue d)) p S (fun acc w' => ∃ vl lcs, LJ W bv b2 b3 p d acc w' vl lcs) (LBad W bv b2 b3 p d) s c acc w' := by
  unfold ListAns at h
  unfold GAns
  cases e : listStep (pValue d) s c acc with
  | inl x => rw [e] at h; exact h
  | inr y => obtain ⟨a, b, q⟩ := y; rw [e] at h; exact h
theorem PairAns.g {W w' : World} {bv b2 b3 b6 bm : Nat} {acc : List (ByteArray × V d)} (h : PairAns W bv b2 b3 b6 bm p d S s c acc w') : GAns (pairStep (pValue d)) p S (fun acc w' => ∃ vm mcs, MJ W bv b2 b3 b6 bm p d (acc.map (fun q => q.1)) acc w' vm mcs) (MBad W bv b2 b3 b6 bm p d) s c acc w' := by
  unfold PairAns at h
  unfold GAns
  cases e : pairStep (pValue d) s c acc with
  | inl x => rw [e] at h; exact h
  | inr y => obtain ⟨a, b, q⟩ := y; rw [e] at h; exact h
set_option maxRecDepth 10000 in
set_option maxHeartbeats 6400000 in
theorem plist_any (IH0 : PValKnown d) (hs : PS w p S 4097 (.inr (s, c))) (hc : c ≤ 4096) (hS : S.size ≤ 262144) (hT : TabsB p w) (hf : s.length < f) :
    Calls Tryz.prog 121 #[.pointer (some ⟨p, 0, none⟩), .int .i64 d] w fun e w' => BothAns d (asList (pItems (listStep (pValue d)) 93 f s c [])) p S w e w' := by
  obtain ⟨W0, HW0⟩ : ∃ W0, Hid (W0 = (((w.alloc (.cells #[.pointer (some ⟨p, 0, none⟩)] 61)).alloc (.cells #[.int .i64 d] 3)).alloc (.cells #[.int .i64 0, .int .i64 0, .string ⟨#[]⟩, .slice none 0 0, .slice none 0 0] 25)).alloc (.cells #[.int .i64 5, .int .i64 0, .string ⟨#[]⟩, .slice none 0 0, .slice none 0 0] 25)) := ⟨_, Lib.hid rfl⟩
  have HSZ : Hid (W0.heap.size = w.heap.size + 4) := Lib.hid (by rw [HW0.out]; simp)
  have HK0 : Hid (Kept [] w W0) := Lib.hid (by rw [HW0.out]; exact ((((Kept.refl [] w).alloc _).alloc _).alloc _).alloc _)
  have HPW : Hid (p < w.heap.size) := Lib.hid hs.lt
  have HB2 : Hid (W0.heap[w.heap.size]? = some (.cells #[.pointer (some ⟨p, 0, none⟩)] 61 (0, 0))) := Lib.hid (by
    rw [HW0.out]; exact ((((Kept.refl [] _).alloc _).alloc _).alloc _).heap (block_alloc rfl) (by simp))
  have HB3 : Hid (W0.heap[w.heap.size + 1]? = some (.cells #[.int .i64 d] 3 (0, 0))) := Lib.hid (by
    rw [HW0.out]; exact (((Kept.refl [] _).alloc _).alloc _).heap (block_alloc (by simp)) (by simp))
  have HR0 : Hid (ResAt W0 (w.heap.size + 1 + 1)) := Lib.hid (by
    rw [HW0.out]; exact ((Kept.refl [] _).alloc _).heap (block_alloc (by simp)) (by simp))
  have HBV : Hid (W0.heap[w.heap.size + 1 + 1 + 1]? = some (.cells (valA 5 0 ⟨#[]⟩ (.slice none 0 0) (.slice none 0 0)) 25 (0, 0))) := Lib.hid (by
    rw [HW0.out]; exact block_alloc (by simp))
  have HP : Hid (LPos W0 (w.heap.size + 1 + 1 + 1) w.heap.size (w.heap.size + 1) p) := Lib.hid (by
    have h1 := HPW.out
    have h2 := HSZ.out
    constructor <;> omega)
  have HJ0 : Hid (LJ W0 (w.heap.size + 1 + 1 + 1) w.heap.size (w.heap.size + 1) p d [] W0 (.slice none 0 0) []) := Lib.hid ⟨⟨HB2.out, HB3.out, Kept.refl _ _⟩, HBV.out, World.ownsRow_nil _ _ _ _, All2.nil _⟩
  have HS0 := Lib.hid (hs.kept0 HK0.out)
  have HT0 := Lib.hid (hT.step (HK0.out.mono (by simp)))
  have f2 := cell_head (o := 0) (v := .pointer (some ⟨p, 0, none⟩)) HB2.out rfl
  rw [HW0.out] at f2
  have CI := Lib.hid (items1_any (step := listStep (pValue d)) (stop := 93) (p := p) (S := S) (w := W0) (GJ := fun acc w' => ∃ vl lcs, LJ W0 (w.heap.size + 1 + 1 + 1) w.heap.size (w.heap.size + 1) p d acc w' vl lcs) (GB := LBad W0 (w.heap.size + 1 + 1 + 1) w.heap.size (w.heap.size + 1) p d) (len := List.length) hS
    (fun s c acc w1 h1 h2 h3 ⟨vl, lcs, h4⟩ => (list1_any (by exact @IH0) HP.out h4 h1 h2 hS HT0.out (by omega)).mono fun e w2 ⟨q1, q2⟩ => ⟨q1, q2.g⟩)
    (fun acc w1 w2 ⟨vl, lcs, h4⟩ k => ⟨vl, lcs, h4.step HP.out k⟩) (fun w1 w2 h k => h.step HP.out k) (fun acc w1 ⟨vl, lcs, h4⟩ => h4.bad) listStep_st HS0.out hc (Nat.zero_le _) ⟨_, _, HJ0.out⟩ hf)
  clear hs hc hT hf IH0
  go_enter Tryz.func121, Tryz.ntmps121
  go_wp2_with fail
  rw [← HW0.out]
  refine CI.out.mono ?_
  rintro e w1 ⟨rfl, hfin⟩
  clear f2
  have hz := HSZ.out
  have hpw := HPW.out
  unfold GFin at hfin
  cases hR : pItems (listStep (pValue d)) 93 f s c [] with
  | inl x =>
    rw [hR] at hfin
    obtain ⟨hp1, hcap, a, n, cc, hb⟩ := hfin
    have HP1 := Lib.hid hp1
    have HCAP := Lib.hid hcap
    have x0 := cell_head (o := 0) (v := .int .i64 5) hb rfl
    have x1 := cell_head (o := 1) (v := .int .i64 0) hb rfl
    have x2 := cell_head (o := 2) (v := .string ⟨#[]⟩) hb rfl
    have x3 := cell_head (o := 3) (v := .slice a n cc) hb rfl
    have x4 := cell_head (o := 4) (v := .slice none 0 0) hb rfl
    have HRR := Lib.hid (HR0.out.kept hcap.kept (by simp; omega))
    obtain ⟨⟨d0, d1, d2, d3, d4⟩, f0, f1, f2, f3, f4⟩ := HRR.out.facts
    have HRE : Hid (asList (pItems (listStep (pValue d)) 93 f s c []) = .inl x) := Lib.hid (by rw [hR]; rfl)
    clear hp1 hcap hb hR
    go_wp2_with fail
    obtain ⟨WF, e⟩ : ∃ WF, WF = set5 w1 (w.heap.size + 1 + 1) (.int .i64 5) (.int .i64 0) (.string ⟨#[]⟩) (.slice a n cc) (.slice none 0 0) := ⟨_, rfl⟩
    obtain ⟨KF, y0, y1, y2, y3, y4⟩ := HRR.out.stored e
    unfold set5 at e
    rw [← e]
    exact bodyPost_ret (v := .agg #[.int .i64 5, .int .i64 0, .string ⟨#[]⟩, .slice a n cc, .slice none 0 0]) (by simp [results, Tryz.results121, go_sem, y0, y1, y2, y3, y4]) rfl
      (bothAns_bad (cs := [.int .i64 5, .int .i64 0, .string ⟨#[]⟩, .slice a n cc, .slice none 0 0]) HRE.out ⟨_, _, _, _, _, _, _, _, _, rfl⟩ (((HK0.out.mono (Y := [p]) (by simp)).trans HCAP.out.kept (fun i hi => by simp at hi; rcases hi with h | h; exact .inl (by simp [h]); exact .inr (by omega))).trans KF (fun i hi => by simp at hi; exact .inr (by omega))) (HP1.out.kept KF (by simp; omega)))
  | inr y =>
    obtain ⟨l, r, c'⟩ := y
    rw [hR] at hfin
    obtain ⟨hp1, ⟨vl, lcs, hj⟩, -⟩ := hfin
    obtain ⟨a, cc, rfl, -, -⟩ := (Slc.of_row hj.row).form
    have HP1 := Lib.hid hp1
    have HJ := Lib.hid hj
    have hb := hj.blk
    have x0 := cell_head (o := 0) (v := .int .i64 5) hb rfl
    have x1 := cell_head (o := 1) (v := .int .i64 0) hb rfl
    have x2 := cell_head (o := 2) (v := .string ⟨#[]⟩) hb rfl
    have x3 := cell_head (o := 3) (v := .slice a l.length cc) hb rfl
    have x4 := cell_head (o := 4) (v := .slice none 0 0) hb rfl
    have HRR := Lib.hid (HR0.out.kept hj.cap.kept (by simp; omega))
    obtain ⟨⟨d0, d1, d2, d3, d4⟩, f0, f1, f2, f3, f4⟩ := HRR.out.facts
    have HRE : Hid (asList (pItems (listStep (pValue d)) 93 f s c []) = .inr ((⟨5, 0, ⟨#[]⟩, l, []⟩ : VS (V d)), r, c')) := Lib.hid (by rw [hR]; rfl)
    clear hp1 hj hb hR
    go_wp2_with fail
    obtain ⟨WF, e⟩ : ∃ WF, WF = set5 w1 (w.heap.size + 1 + 1) (.int .i64 5) (.int .i64 0) (.string ⟨#[]⟩) (.slice a l.length cc) (.slice none 0 0) := ⟨_, rfl⟩
    obtain ⟨KF, y0, y1, y2, y3, y4⟩ := HRR.out.stored e
    unfold set5 at e
    rw [← e]
    have hown : OwnRep (d + 1) w.heap.size WF [.int .i64 5, .int .i64 0, .string ⟨#[]⟩, .slice a l.length cc, .slice none 0 0] (⟨5, 0, ⟨#[]⟩, l, []⟩ : VS (V d)) := by
      refine ⟨_, _, lcs, [], rfl, ?_, ?_, World.ownsRow_nil _ _ _ _, All2.nil _, rfl, rfl⟩
      · exact row_base (row_kept HJ.out.row KF (fun g hg hx => by simp at hx; have := (HJ.out.row.lt g hg).1; omega)) (fun g hg => by have := (HJ.out.row.lt g hg).1; omega)
      · exact HJ.out.all.mono fun _ _ _ q => q.move KF (fun g _ h => ⟨fun hx => by simp at hx; omega, by omega, h.2, by simp [Value.ownBlock]⟩)
    exact bodyPost_ret (v := .agg #[.int .i64 5, .int .i64 0, .string ⟨#[]⟩, .slice a l.length cc, .slice none 0 0]) (by simp [results, Tryz.results121, go_sem, y0, y1, y2, y3, y4]) rfl
      (bothAns_ok (cs := [.int .i64 5, .int .i64 0, .string ⟨#[]⟩, .slice a l.length cc, .slice none 0 0]) HRE.out ⟨_, _, _, _, _, _, _, _, _, rfl⟩ (((HK0.out.mono (Y := [p]) (by simp)).trans HJ.out.cap.kept (fun i hi => by simp at hi; rcases hi with h | h; exact .inl (by simp [h]); exact .inr (by omega))).trans KF (fun i hi => by simp at hi; exact .inr (by omega))) (HP1.out.kept KF (by simp; omega)) hown)
end
end Go.Proofs.YtpbphdkjjoipnaaGreatDoor
namespace Go.Proofs.YtpbphdkjjoipnaaGreatDoor
open Go.RowKit
section
variable {w : World} {p d : Nat} {S : ByteArray} {s : List UInt8} {c f : Nat}
set_option maxRecDepth 10000 in
set_option maxHeartbeats 6400000 in
theorem pmap_any (IH0 : PValKnown d) (hs : PS w p S 4097 (.inr (s, c))) (hc : c ≤ 4096) (hS : S.size ≤ 262144) (hT : TabsB p w) (hf : s.length < f) :
    Calls Tryz.prog 122 #[.pointer (some ⟨p, 0, none⟩), .int .i64 d] w fun e w' => BothAns d (asMap (pItems (pairStep (pValue d)) 125 f s c [])) p S w e w' := by
  obtain ⟨W0, HW0⟩ : ∃ W0, Hid (W0 = (((((w.alloc (.cells #[.pointer (some ⟨p, 0, none⟩)] 61)).alloc (.cells #[.int .i64 d] 3)).alloc (.cells #[.int .i64 0, .int .i64 0, .string ⟨#[]⟩, .slice none 0 0, .slice none 0 0] 25)).alloc (.cells #[.int .i64 6, .int .i64 0, .string ⟨#[]⟩, .slice none 0 0, .slice none 0 0] 25)).alloc (.map #[] 0)).alloc (.cells #[.map (some (w.heap.size + 1 + 1 + 1 + 1))] 176)) := ⟨_, Lib.hid rfl⟩
  have HSZ : Hid (W0.heap.size = w.heap.size + 6) := Lib.hid (by rw [HW0.out]; simp)
  have HK0 : Hid (Kept [] w W0) := Lib.hid (by rw [HW0.out]; exact ((((((Kept.refl [] w).alloc _).alloc _).alloc _).alloc _).alloc _).alloc _)
  have HPW : Hid (p < w.heap.size) := Lib.hid hs.lt
  have HB2 : Hid (W0.heap[w.heap.size]? = some (.cells #[.pointer (some ⟨p, 0, none⟩)] 61 (0, 0))) := Lib.hid (by
    rw [HW0.out]; exact ((((((Kept.refl [] _).alloc _).alloc _).alloc _).alloc _).alloc _).heap (block_alloc rfl) (by simp))
  have HB3 : Hid (W0.heap[w.heap.size + 1]? = some (.cells #[.int .i64 d] 3 (0, 0))) := Lib.hid (by
    rw [HW0.out]; exact (((((Kept.refl [] _).alloc _).alloc _).alloc _).alloc _).heap (block_alloc (by simp)) (by simp))
  have HR0 : Hid (ResAt W0 (w.heap.size + 1 + 1)) := Lib.hid (by
    rw [HW0.out]; exact ((((Kept.refl [] _).alloc _).alloc _).alloc _).heap (block_alloc (by simp)) (by simp))
  have HBV : Hid (W0.heap[w.heap.size + 1 + 1 + 1]? = some (.cells (valA 6 0 ⟨#[]⟩ (.slice none 0 0) (.slice none 0 0)) 25 (0, 0))) := Lib.hid (by
    rw [HW0.out]; exact (((Kept.refl [] _).alloc _).alloc _).heap (block_alloc (by simp)) (by simp))
  have HBM : Hid (SeenAt W0 (w.heap.size + 1 + 1 + 1 + 1) []) := Lib.hid (by
    rw [HW0.out]; exact (seen_new (by simp)).kept0 ((Kept.refl [] _).alloc _))
  have HB6 : Hid (W0.heap[w.heap.size + 1 + 1 + 1 + 1 + 1]? = some (.cells #[.map (some (w.heap.size + 1 + 1 + 1 + 1))] 176 (0, 0))) := Lib.hid (by
    rw [HW0.out]; exact block_alloc (by simp))
  have HP : Hid (MPos W0 (w.heap.size + 1 + 1 + 1) w.heap.size (w.heap.size + 1) (w.heap.size + 1 + 1 + 1 + 1 + 1) (w.heap.size + 1 + 1 + 1 + 1) p) := Lib.hid (by
    have h1 := HPW.out
    have h2 := HSZ.out
    constructor <;> omega)
  have HJ0 : Hid (MJ W0 (w.heap.size + 1 + 1 + 1) w.heap.size (w.heap.size + 1) (w.heap.size + 1 + 1 + 1 + 1 + 1) (w.heap.size + 1 + 1 + 1 + 1) p d [] [] W0 (.slice none 0 0) []) := Lib.hid ⟨⟨HB2.out, HB3.out, HB6.out, Kept.refl _ _⟩, HBM.out, HBV.out, World.ownsRow_nil _ _ _ _, All2.nil _⟩
  have HS0 := Lib.hid (hs.kept0 HK0.out)
  have HT0 := Lib.hid (hT.step (HK0.out.mono (by simp)))
  have f2 := cell_head (o := 0) (v := .pointer (some ⟨p, 0, none⟩)) HB2.out rfl
  rw [HW0.out] at f2
  have CI := Lib.hid (items2_any (acc := ([] : List (ByteArray × V d))) (step := pairStep (pValue d)) (stop := 125) (p := p) (S := S) (w := W0) (GJ := fun acc w' => ∃ vm mcs, MJ W0 (w.heap.size + 1 + 1 + 1) w.heap.size (w.heap.size + 1) (w.heap.size + 1 + 1 + 1 + 1 + 1) (w.heap.size + 1 + 1 + 1 + 1) p d (acc.map (fun q => q.1)) acc w' vm mcs) (GB := MBad W0 (w.heap.size + 1 + 1 + 1) w.heap.size (w.heap.size + 1) (w.heap.size + 1 + 1 + 1 + 1 + 1) (w.heap.size + 1 + 1 + 1 + 1) p d) (len := List.length) hS
    (fun s c acc w1 h1 h2 h3 ⟨vl, lcs, h4⟩ => (pairs1_any (by exact @IH0) HP.out h4 h1 h2 hS HT0.out (by omega)).mono fun e w2 ⟨q1, q2⟩ => ⟨q1, q2.g⟩)
    (fun acc w1 w2 ⟨vl, lcs, h4⟩ k => ⟨vl, lcs, h4.step HP.out k⟩) (fun w1 w2 h k => h.step HP.out k) (fun acc w1 ⟨vl, lcs, h4⟩ => h4.bad) pairStep_st HS0.out hc (Nat.zero_le _) ⟨_, _, HJ0.out⟩ hf)
  clear hs hc hT hf IH0
  go_enter Tryz.func122, Tryz.ntmps122
  have hmm := @run_makeMap Tryz.prog
  go_wp2_with fail
  clear hmm
  rw [← HW0.out]
  refine CI.out.mono ?_
  rintro e w1 ⟨rfl, hfin⟩
  clear f2
  have hz := HSZ.out
  have hpw := HPW.out
  unfold GFin at hfin
  cases hR : pItems (pairStep (pValue d)) 125 f s c [] with
  | inl x =>
    rw [hR] at hfin
    obtain ⟨hp1, hcap, a, n, cc, hb⟩ := hfin
    have HP1 := Lib.hid hp1
    have HCAP := Lib.hid hcap
    have x0 := cell_head (o := 0) (v := .int .i64 6) hb rfl
    have x1 := cell_head (o := 1) (v := .int .i64 0) hb rfl
    have x2 := cell_head (o := 2) (v := .string ⟨#[]⟩) hb rfl
    have x3 := cell_head (o := 3) (v := .slice none 0 0) hb rfl
    have x4 := cell_head (o := 4) (v := .slice a n cc) hb rfl
    have HRR := Lib.hid (HR0.out.kept hcap.kept (by simp; omega))
    obtain ⟨⟨d0, d1, d2, d3, d4⟩, f0, f1, f2, f3, f4⟩ := HRR.out.facts
    have HRE : Hid (asMap (pItems (pairStep (pValue d)) 125 f s c []) = .inl x) := Lib.hid (by rw [hR]; rfl)
    clear hp1 hcap hb hR
    go_wp2_with fail
    obtain ⟨WF, e⟩ : ∃ WF, WF = set5 w1 (w.heap.size + 1 + 1) (.int .i64 6) (.int .i64 0) (.string ⟨#[]⟩) (.slice none 0 0) (.slice a n cc) := ⟨_, rfl⟩
    obtain ⟨KF, y0, y1, y2, y3, y4⟩ := HRR.out.stored e
    unfold set5 at e
    rw [← e]
    exact bodyPost_ret (v := .agg #[.int .i64 6, .int .i64 0, .string ⟨#[]⟩, .slice none 0 0, .slice a n cc]) (by simp [results, Tryz.results122, go_sem, y0, y1, y2, y3, y4]) rfl
      (bothAns_bad (cs := [.int .i64 6, .int .i64 0, .string ⟨#[]⟩, .slice none 0 0, .slice a n cc]) HRE.out ⟨_, _, _, _, _, _, _, _, _, rfl⟩ (((HK0.out.mono (Y := [p]) (by simp)).trans HCAP.out.kept (fun i hi => by simp at hi; rcases hi with h | h | h; exact .inl (by simp [h]); exact .inr (by omega); exact .inr (by omega))).trans KF (fun i hi => by simp at hi; exact .inr (by omega))) (HP1.out.kept KF (by simp; omega)))
  | inr y =>
    obtain ⟨l, r, c'⟩ := y
    rw [hR] at hfin
    obtain ⟨hp1, ⟨vl, lcs, hj⟩, -⟩ := hfin
    obtain ⟨a, cc, rfl, -, -⟩ := (Slc.of_row hj.row).form
    have HP1 := Lib.hid hp1
    have HJ := Lib.hid hj
    have hb := hj.blk
    have x0 := cell_head (o := 0) (v := .int .i64 6) hb rfl
    have x1 := cell_head (o := 1) (v := .int .i64 0) hb rfl
    have x2 := cell_head (o := 2) (v := .string ⟨#[]⟩) hb rfl
    have x3 := cell_head (o := 3) (v := .slice none 0 0) hb rfl
    have x4 := cell_head (o := 4) (v := .slice a l.length cc) hb rfl
    have HRR := Lib.hid (HR0.out.kept hj.cap.kept (by simp; omega))
    obtain ⟨⟨d0, d1, d2, d3, d4⟩, f0, f1, f2, f3, f4⟩ := HRR.out.facts
    have HRE : Hid (asMap (pItems (pairStep (pValue d)) 125 f s c []) = .inr ((⟨6, 0, ⟨#[]⟩, [], l⟩ : VS (V d)), r, c')) := Lib.hid (by rw [hR]; rfl)
    clear hp1 hj hb hR
    go_wp2_with fail
    obtain ⟨WF, e⟩ : ∃ WF, WF = set5 w1 (w.heap.size + 1 + 1) (.int .i64 6) (.int .i64 0) (.string ⟨#[]⟩) (.slice none 0 0) (.slice a l.length cc) := ⟨_, rfl⟩
    obtain ⟨KF, y0, y1, y2, y3, y4⟩ := HRR.out.stored e
    unfold set5 at e
    rw [← e]
    have hown : OwnRep (d + 1) w.heap.size WF [.int .i64 6, .int .i64 0, .string ⟨#[]⟩, .slice none 0 0, .slice a l.length cc] (⟨6, 0, ⟨#[]⟩, [], l⟩ : VS (V d)) := by
      refine ⟨_, _, [], lcs, rfl, World.ownsRow_nil _ _ _ _, All2.nil _, ?_, ?_, rfl, rfl⟩
      · exact row_base (row_kept HJ.out.row KF (fun g hg hx => by simp at hx; have := (HJ.out.row.lt g hg).1; omega)) (fun g hg => by have := (HJ.out.row.lt g hg).1; omega)
      · exact HJ.out.all.mono fun _ _ _ q => ⟨q.1, q.2.move KF (fun g _ h => ⟨fun hx => by simp at hx; omega, by omega, by simp [Value.ownBlock], h.2⟩)⟩
    exact bodyPost_ret (v := .agg #[.int .i64 6, .int .i64 0, .string ⟨#[]⟩, .slice none 0 0, .slice a l.length cc]) (by simp [results, Tryz.results122, go_sem, y0, y1, y2, y3, y4]) rfl
      (bothAns_ok (cs := [.int .i64 6, .int .i64 0, .string ⟨#[]⟩, .slice none 0 0, .slice a l.length cc]) HRE.out ⟨_, _, _, _, _, _, _, _, _, rfl⟩ (((HK0.out.mono (Y := [p]) (by simp)).trans HJ.out.cap.kept (fun i hi => by simp at hi; rcases hi with h | h | h; exact .inl (by simp [h]); exact .inr (by omega); exact .inr (by omega))).trans KF (fun i hi => by simp at hi; exact .inr (by omega))) (HP1.out.kept KF (by simp; omega)) hown)
end
end Go.Proofs.YtpbphdkjjoipnaaGreatDoor
namespace Go.Proofs.YtpbphdkjjoipnaaGreatDoor
open Go.RowKit
section
variable {α : Type} {sub : List UInt8 → Nat → Sum Int (α × List UInt8 × Nat)} {s : List UInt8} {c : Nat}
theorem read_word {k n : Int} (h : wordOf s = some (k, n)) : pRead sub s c = .inr (leaf k n ⟨#[]⟩, s.drop (if k = 2 ∧ n = 0 then 5 else 4), c) ∧ (if k = 2 ∧ n = 0 then 5 else 4) ≤ s.length ∧ ((k = 1 ∧ n = 0) ∨ (k = 2 ∧ n = 1) ∨ (k = 2 ∧ n = 0)) := by
  unfold wordOf at h
  unfold pRead
  split at h
  · rename_i h1
    injection h with h; injection h with h2 h3; subst h2; subst h3
    rw [if_pos h1]
    exact ⟨rfl, eat_room h1, .inl ⟨rfl, rfl⟩⟩
  rename_i h1
  rw [if_neg h1]
  split at h
  · rename_i h2
    injection h with h; injection h with h3 h4; subst h3; subst h4
    rw [if_pos h2]
    exact ⟨rfl, eat_room h2, .inr (.inl ⟨rfl, rfl⟩)⟩
  rename_i h2
  rw [if_neg h2]
  split at h
  · rename_i h3
    injection h with h; injection h with h4 h5; subst h4; subst h5
    rw [if_pos h3]
    exact ⟨rfl, eat_room h3, .inr (.inr ⟨rfl, rfl⟩)⟩
  · cases h
theorem read_not (h : wordOf s = none) : pRead sub s c = if s.head? = some 34 then (match unqL s with | .inl e => .inl e | .inr (t, r) => .inr (leaf 4 0 (strB t), r, c))
    else if s.head? = some 91 then (match pItems (listStep sub) 93 (s.length + 1) s.tail c [] with | .inl e => .inl e | .inr (l, r, c') => .inr (⟨5, 0, ⟨#[]⟩, l, []⟩, r, c'))
    else if s.head? = some 123 then (match pItems (pairStep sub) 125 (s.length + 1) s.tail c [] with | .inl e => .inl e | .inr (l, r, c') => .inr (⟨6, 0, ⟨#[]⟩, [], l⟩, r, c'))
    else match numL s with | .inl e => .inl e | .inr (n, r) => .inr (leaf 3 n ⟨#[]⟩, r, c) := by
  by_cases h5 : s.head? = some 91
  · rw [if_neg (by rw [h5]; decide), if_pos h5, pRead_items sub s c h5]
    cases pItems (listStep sub) 93 (s.length + 1) s.tail c [] with
    | inl e => rfl
    | inr y => obtain ⟨l, r, c'⟩ := y; rfl
  by_cases h6 : s.head? = some 123
  · rw [if_neg (by rw [h6]; decide), if_neg h5, if_pos h6, pRead_map sub s c h6]
    cases pItems (pairStep sub) 125 (s.length + 1) s.tail c [] with
    | inl e => rfl
    | inr y => obtain ⟨l, r, c'⟩ := y; rfl
  rw [if_neg h5, if_neg h6]
  unfold wordOf at h
  unfold pRead
  split at h
  · cases h
  split at h
  · cases h
  split at h
  · cases h
  rename_i h1 h2 h3
  rw [if_neg h1, if_neg h2, if_neg h3, if_neg h5, if_neg h6]
  by_cases h7 : s.head? = some 34
  · rw [if_pos h7, if_pos h7]
    cases unqL s with
    | inl e => rfl
    | inr y => obtain ⟨t, r⟩ := y; rfl
  · rw [if_neg h7, if_neg h7]
    cases numL s with
    | inl e => rfl
    | inr y => obtain ⟨t, r⟩ := y; rfl
end
section
variable {w : World} {p d : Nat} {S : ByteArray} {s : List UInt8} {c : Nat}
theorem ownRep_leaf {d B : Nat} {w : World} {k n : Int} {s : ByteArray} (h1 : (Lit.int .i64 k).wf = true) (h2 : (Lit.int .i64 n).wf = true) : OwnRep (d + 1) B w [.int .i64 k, .int .i64 n, .string s, .slice none 0 0, .slice none 0 0] (leaf k n s : VS (V d)) :=
  ⟨_, _, [], [], rfl, World.ownsRow_nil _ _ _ _, All2.nil _, World.ownsRow_nil _ _ _ _, All2.nil _, h1, h2⟩
set_option maxRecDepth 10000 in
set_option maxHeartbeats 6400000 in
theorem pread_word (hs : PS w p S 4097 (.inr (s, c))) (hS : S.size ≤ 262144) {k n : Int} (hw : wordOf s = some (k, n)) :
    Calls Tryz.prog 81 #[.pointer (some ⟨p, 0, none⟩), .int .i64 ((d : Int) + 1)] w fun e w' => BothAns d (pRead (pValue d) s c) p S w e w' := by
  obtain ⟨W0, HW0⟩ : ∃ W0, Hid (W0 = w.alloc (.cells #[.int .i64 0, .int .i64 0, .string ⟨#[]⟩, .slice none 0 0, .slice none 0 0] 25)) := ⟨_, Lib.hid rfl⟩
  have HK0 : Hid (Kept [] w W0) := Lib.hid (by rw [HW0.out]; exact (Kept.refl [] w).alloc _)
  have HSZ : Hid (W0.heap.size = w.heap.size + 1) := Lib.hid (by rw [HW0.out]; simp)
  have HR0 : Hid (ResAt W0 w.heap.size) := Lib.hid (by rw [HW0.out]; exact resAt_new w)
  have HPW : Hid (p < w.heap.size) := Lib.hid hs.lt
  have CW := Lib.hid (pword_any (hs.kept0 HK0.out) hS)
  obtain ⟨r1, r2, r3⟩ := read_word (sub := pValue d) (c := c) hw
  obtain ⟨i, h1, hi, hc, hr⟩ := hs.open_ok
  have hl := drop_len hr hi
  have HRD := Lib.hid r1
  have HKN := Lib.hid r3
  have HWD := Lib.hid hw
  have CLT : Hid (∀ w', _) := Lib.hid (fun w' => pletters_any k n r3 w')
  obtain ⟨L, hL⟩ : ∃ L : Nat, L = (if k = 2 ∧ n = 0 then 5 else 4) := ⟨_, rfl⟩
  have hL2 : (if k = 2 ∧ n = 0 then (5 : Int) else 4) = (L : Int) := by rw [hL]; split <;> rfl
  rw [hL2] at CLT
  rw [← hL] at HRD r2
  have HDR : Hid (S.data.toList.drop (i + L) = s.drop L) := Lib.hid (by rw [← hr, List.drop_drop])
  have hiL : i + L ≤ S.size := by omega
  have HIL := Lib.hid hiL
  have hiLI : (i : Int) + L ≤ 262144 := by omega
  have H1 := Lib.hid (HK0.out.heap h1 (by simp))
  have HC := Lib.hid hc
  clear hs hw r1 r2 r3 h1 hi hc hr hl hL hL2 hiL
  go_enter Tryz.func81, Tryz.ntmps81
  go_wp2_with fail
  rw [← HW0.out]
  refine CW.out.mono ?_
  rintro e w1 ⟨ha, hk1⟩
  unfold WordAns at ha
  rw [HWD.out] at ha
  subst ha
  unfold leafA
  obtain ⟨W1, HW1⟩ : ∃ W1, Hid (W1 = w1.alloc (.cells #[.int .i64 k, .int .i64 n, .string ⟨#[]⟩, .slice none 0 0, .slice none 0 0] 25)) := ⟨_, Lib.hid rfl⟩
  have HK1 := Lib.hid hk1
  have HK2 : Hid (Kept [] w1 W1) := Lib.hid (by rw [HW1.out]; exact (Kept.refl [] w1).alloc _)
  have HBX : Hid (BoxAt W1 w1.heap.size k n ⟨#[]⟩ (.slice none 0 0) (.slice none 0 0)) := Lib.hid (by rw [HW1.out]; exact box_at _ _ _ _ _ _ _)
  have HPA : Hid (PAt W1 p S i c 0) := Lib.hid ((HK1.out.then HK2.out).heap H1.out (by simp))
  have HSZ1 : Hid (W0.heap.size ≤ w1.heap.size) := Lib.hid hk1.size
  clear hk1
  go_wp2_with fail
  rw [← HW1.out]
  refine wp_region_last' (n := 10) (fun w' : World => PAt w' p S i c 0 ∧ BoxAt w' w1.heap.size k n ⟨#[]⟩ (.slice none 0 0) (.slice none 0 0)) 9 (by kernel_rfl) (by kernel_rfl) ?_
  change wpAnyT _ _ _ _ _ _ _ _ _ W1.drew
  have hSS : (fun w' : World => PAt w' p S i c 0 ∧ BoxAt w' w1.heap.size k n ⟨#[]⟩ (.slice none 0 0) (.slice none 0 0)) W1.drew := ⟨(Kept.refl [] W1).drew.heap HPA.out (by simp), HBX.out.kept0 (Kept.refl [] W1).drew⟩
  have HKD : Hid (Kept [] W1 W1.drew) := Lib.hid (Kept.refl [] W1).drew
  revert hSS HKD
  generalize W1.drew = WD
  intro hSS HKD
  refine wpAnyT_start ?_
  intro O R hO hR
  have hQp : ∀ c a (d : Nat) v w, R (.panic c) (a.put (some d) v) w → R (.panic c) a w := by subst hR; exact fun _ _ _ _ _ h => h
  refine wpAnyT_take' (i := 0) (v := ?_) hO rfl rfl (by kernel_rfl) (by kernel_rfl) (by kernel_rfl) (by kernel_rfl) hQp (Or.inl ⟨by kernel_rfl, fun w hSw => ?_⟩) hSS ?_
  rotate_left
  · go_simp; try with_reducible rfl
  try simp only [Act.put, List.setIfInBounds_toArray, List.set_cons_zero, List.set_cons_succ]
  refine wpAnyT_take' (i := 1) (v := ?_) hO rfl rfl (by kernel_rfl) (by kernel_rfl) (by kernel_rfl) (by kernel_rfl) hQp (Or.inl ⟨by kernel_rfl, fun w hSw => ?_⟩) hSS ?_
  rotate_left
  · go_simp; try with_reducible rfl
  try simp only [Act.put, List.setIfInBounds_toArray, List.set_cons_zero, List.set_cons_succ]
  refine wpAnyT_take' (i := 2) (v := ?_) hO rfl rfl (by kernel_rfl) (by kernel_rfl) (by kernel_rfl) (by kernel_rfl) hQp (Or.inl ⟨by kernel_rfl, fun w hSw => ?_⟩) hSS ?_
  rotate_left
  · go_simp; try with_reducible rfl
  try simp only [Act.put, List.setIfInBounds_toArray, List.set_cons_zero, List.set_cons_succ]
  refine wpAnyT_take' (i := 3) (v := ?_) hO rfl rfl (by kernel_rfl) (by kernel_rfl) (by kernel_rfl) (by kernel_rfl) hQp (Or.inl ⟨by kernel_rfl, fun w hSw => ?_⟩) hSS ?_
  rotate_left
  · obtain ⟨s0, s1, s2, s3, s4⟩ := hSw.1.cells; go_simp; try with_reducible rfl
  try simp only [Act.put, List.setIfInBounds_toArray, List.set_cons_zero, List.set_cons_succ]
  refine wpAnyT_take' (i := 4) (v := ?_) hO rfl rfl (by kernel_rfl) (by kernel_rfl) (by kernel_rfl) (by kernel_rfl) hQp (Or.inl ⟨by kernel_rfl, fun w hSw => ?_⟩) hSS ?_
  rotate_left
  · obtain ⟨s0, s1, s2, s3, s4⟩ := hSw.2; go_simp; try with_reducible rfl
  try simp only [Act.put, List.setIfInBounds_toArray, List.set_cons_zero, List.set_cons_succ]
  refine wpAnyT_one' (i := 5) hO rfl (by kernel_rfl) (by kernel_rfl) (fun K hK => ?_)
  go_simp
  refine Calls.mono (CLT.out _) ?_
  rintro e w3 ⟨rfl, hk3⟩
  have HK3 := Lib.hid (HKD.out.then hk3)
  have hS3 : (fun w' : World => PAt w' p S i c 0 ∧ BoxAt w' w1.heap.size k n ⟨#[]⟩ (.slice none 0 0) (.slice none 0 0)) w3 := ⟨hk3.heap hSS.1 (by simp), hSS.2.kept0 hk3⟩
  refine hK _ _ (.inr hS3) ?_
  clear hK K
  try simp only [Act.put, List.setIfInBounds_toArray, List.set_cons_zero, List.set_cons_succ]
  clear hSS hk3
  have hSS := hS3
  clear hS3
  refine wpAnyT_take' (i := 6) (v := ?_) hO rfl rfl (by kernel_rfl) (by kernel_rfl) (by kernel_rfl) (by kernel_rfl) hQp (Or.inl ⟨by kernel_rfl, fun w hSw => ?_⟩) hSS ?_
  rotate_left
  · go_simp; try with_reducible rfl
  try simp only [Act.put, List.setIfInBounds_toArray, List.set_cons_zero, List.set_cons_succ]
  refine wpAnyT_one' (i := 7) hO rfl (by kernel_rfl) (by kernel_rfl) (fun K hK => ?_)
  go_simp
  refine hK _ _ (.inr hSS) ?_
  clear hK K
  try simp only [Act.put, List.setIfInBounds_toArray, List.set_cons_zero, List.set_cons_succ]
  refine wpAnyT_take' (i := 8) (v := ?_) hO rfl rfl (by kernel_rfl) (by kernel_rfl) (by kernel_rfl) (by kernel_rfl) hQp (Or.inl ⟨by kernel_rfl, fun w hSw => ?_⟩) hSS ?_
  rotate_left
  · go_simp; try with_reducible rfl
  try simp only [Act.put, List.setIfInBounds_toArray, List.set_cons_zero, List.set_cons_succ]
  have HP3 := Lib.hid hSS.1
  have HB3 := Lib.hid hSS.2
  obtain ⟨s0, s1, s2, s3, fz⟩ := hSS.1.cells
  have f1 := fz 1
  clear fz
  refine wpAnyT_one' (i := 9) hO rfl (by kernel_rfl) (by kernel_rfl) (fun K hK => ?_)
  go_simp
  refine hK _ _ (.inl rfl) ?_
  clear hK K
  try simp only [Act.put, List.setIfInBounds_toArray, List.set_cons_zero, List.set_cons_succ]
  refine wpAnyT_done' hO (by kernel_rfl) ?_ _
  subst hR
  try clear hQp hO O
  clear s0 s1 s2 s3 f1 hSS
  rw [show IntKind.i64.wrap ((i : Int) + (L : Int)) = ((i + L : Nat) : Int) by rw [IntKind.wrap_i64]; omega]
  have hp4 := HP3.out.set1 (i + L)
  have hk4 := kept_set w3 p 1 (.int .i64 ((i + L : Nat)))
  revert hp4 hk4
  generalize w3.setCell ⟨p, 1, none⟩ (.int .i64 ((i + L : Nat))) = w4
  intro hp4 hk4
  have HP4 := Lib.hid hp4
  have HK4 : Hid (Kept [p] W0 w4) := Lib.hid (((((HK1.out.then HK2.out).then HK3.out)).mono (by simp)).trans' hk4)
  obtain ⟨b0, b1, b2, b3, b4⟩ := HB3.out.kept hk4 (by have h1 := HPW.out; have h2 := HSZ.out; have h3 := HSZ1.out; simp; omega)
  have HRR := Lib.hid (HR0.out.kept HK4.out (by have := HPW.out; simp; omega))
  obtain ⟨⟨d0, d1, d2, d3, d4⟩, f0, f1, f2, f3, f4⟩ := HRR.out.facts
  clear hp4 hk4
  go_wp2_with fail
  obtain ⟨WF, e⟩ : ∃ WF, WF = set5 w4 w.heap.size (.int .i64 k) (.int .i64 n) (.string ⟨#[]⟩) (.slice none 0 0) (.slice none 0 0) := ⟨_, rfl⟩
  obtain ⟨KF, y0, y1, y2, y3, y4⟩ := HRR.out.stored e
  unfold set5 at e
  rw [← e]
  have hpF := PS.good (show PAt WF p S (i + L) c 0 from KF.heap HP4.out (by have := HPW.out; simp; omega)) HIL.out HC.out
  rw [HDR.out] at hpF
  exact bodyPost_ret (v := .agg #[.int .i64 k, .int .i64 n, .string ⟨#[]⟩, .slice none 0 0, .slice none 0 0]) (by simp [results, Tryz.results81, go_sem, y0, y1, y2, y3, y4]) rfl
    (bothAns_ok (cs := [.int .i64 k, .int .i64 n, .string ⟨#[]⟩, .slice none 0 0, .slice none 0 0]) HRD.out ⟨_, _, _, _, _, _, _, _, _, rfl⟩ (((HK0.out.mono (Y := [p]) (by simp)).trans' HK4.out).trans KF (fun i hi => by simp at hi; exact .inr (by omega))) hpF (ownRep_leaf (by rcases HKN.out with ⟨rfl, rfl⟩ | ⟨rfl, rfl⟩ | ⟨rfl, rfl⟩ <;> rfl) (by rcases HKN.out with ⟨rfl, rfl⟩ | ⟨rfl, rfl⟩ | ⟨rfl, rfl⟩ <;> rfl)))
end
end Go.Proofs.YtpbphdkjjoipnaaGreatDoor
namespace Go.Proofs.YtpbphdkjjoipnaaGreatDoor
open Go.RowKit
section
variable {w : World} {p d : Nat} {S : ByteArray} {s : List UInt8} {c : Nat}
theorem BothAns.move {d p : Nat} {R : Sum Int (VS (V d) × List UInt8 × Nat)} {S : ByteArray} {w w0 w' WF : World} {e : Ending} {r : Nat} {b0 b1 b2 b3 b4 : Value} (h : BothAns d R p S w0 (.returned (.agg #[b0, b1, b2, b3, b4])) w') (k0 : Kept [p] w w0) (kF : Kept [r] w' WF) (hr : w.heap.size ≤ r) (hr0 : r < w0.heap.size) (hp : p < w.heap.size) : BothAns d R p S w (.returned (.agg #[b0, b1, b2, b3, b4])) WF := by
  obtain ⟨cs, e1, e2, e3, e4⟩ := h
  refine ⟨cs, e1, e2, (k0.trans e3 (fun i hi => .inl hi)).trans kF (fun i hi => by simp at hi; exact .inr (by omega)), ?_⟩
  cases R with
  | inl x => exact PS.kept e4 kF (by simp; omega)
  | inr y =>
    obtain ⟨v, q, c'⟩ := y
    exact ⟨PS.kept e4.1 kF (by simp; omega), e4.2.move kF (fun g hg => by simp at hg; omega) (by have := k0.size; omega)⟩
set_option maxRecDepth 10000 in
set_option maxHeartbeats 12800000 in
theorem pread_not (hd : d ≤ 100) (IH0 : PValKnown d) (hs : PS w p S 4097 (.inr (s, c))) (hc : c ≤ 4096) (hS : S.size ≤ 262144) (hT : TabsB p w) (hw : wordOf s = none) (hb : begins s = true) :
    Calls Tryz.prog 81 #[.pointer (some ⟨p, 0, none⟩), .int .i64 ((d : Int) + 1)] w fun e w' => BothAns d (pRead (pValue d) s c) p S w e w' := by
  obtain ⟨W0, HW0⟩ : ∃ W0, Hid (W0 = w.alloc (.cells #[.int .i64 0, .int .i64 0, .string ⟨#[]⟩, .slice none 0 0, .slice none 0 0] 25)) := ⟨_, Lib.hid rfl⟩
  have HK0 : Hid (Kept [] w W0) := Lib.hid (by rw [HW0.out]; exact (Kept.refl [] w).alloc _)
  have HSZ : Hid (W0.heap.size = w.heap.size + 1) := Lib.hid (by rw [HW0.out]; simp)
  have HR0 : Hid (ResAt W0 w.heap.size) := Lib.hid (by rw [HW0.out]; exact resAt_new w)
  have HPW : Hid (p < w.heap.size) := Lib.hid hs.lt
  have CW := Lib.hid (pword_any (hs.kept0 HK0.out) hS)
  have HS0 := Lib.hid (hs.kept0 HK0.out)
  have HT0 := Lib.hid (hT.step (HK0.out.mono (by simp)))
  have HRN := Lib.hid (read_not (sub := pValue d) (c := c) hw)
  have HWD := Lib.hid hw
  have HC := Lib.hid hc
  have hdI : (d : Int) ≤ 100 := by omega
  clear hd
  have HIH := @Lib.hid (PValKnown d) (by exact @IH0)
  clear hs hc hT hw IH0
  cases s with
  | nil => exact absurd hb (by decide)
  | cons a t =>
    have hsz : 0 < (strB (a :: t)).size := by rw [strB_size]; simp
    have h0 : (strB (a :: t))[0]'hsz = a := rfl
    have hszI : (0 : Int) < (strB (a :: t)).size := by omega
    have CR : Hid (∀ w', Kept [] W0 w' → Calls Tryz.prog 50 #[.pointer (some ⟨p, 0, none⟩)] w' fun e w2 => e = .returned (.string (strB (a :: t))) ∧ Kept [] w' w2) := Lib.hid (fun w' k => prest_ok (HS0.out.kept0 k) hS)
    have HHD : Hid ((a :: t).head? = some a) := Lib.hid rfl
    clear hb
    revert CR hsz h0 hszI
    generalize strB (a :: t) = T
    intro hsz h0 hszI CR
    by_cases h34 : a = 34
    · subst h34
      have HR34 : Hid (pRead (pValue d) (34 :: t) c = (match unqL (34 :: t) with | .inl e => .inl e | .inr (t, r) => .inr (leaf 4 0 (strB t), r, c))) := Lib.hid (by rw [HRN.out]; exact if_pos rfl)
      have HANS : Hid (∀ (WF : World), PS WF p S 4097 (litX (.inr (34 :: t, c))) → Kept [p] w WF → BothAns d (pRead (pValue d) (34 :: t) c) p S w (.returned (.agg #[.int .i64 4, .int .i64 0, .string (strB (litS (.inr (34 :: t, c)))), .slice none 0 0, .slice none 0 0])) WF) := Lib.hid (fun WF h1 h2 => by
        cases hu : unqL (34 :: t) with
        | inl e =>
          rw [(litX_bad hu).1] at h1
          exact bothAns_bad (by rw [HR34.out, hu]) ⟨_, _, _, _, _, _, _, _, _, rfl⟩ h2 h1
        | inr y =>
          obtain ⟨q, r⟩ := y
          rw [(litX_ok hu).1] at h1
          rw [(litX_ok hu).2]
          exact bothAns_ok (by rw [HR34.out, hu]) ⟨_, _, _, _, _, _, _, _, _, rfl⟩ h2 h1 (ownRep_leaf rfl rfl))
      go_enter Tryz.func81, Tryz.ntmps81
      go_wp2_with fail
      rw [← HW0.out]
      refine CW.out.mono ?_
      rintro e w1 ⟨ha, hk1⟩
      unfold WordAns at ha
      rw [HWD.out] at ha
      subst ha
      unfold leafA
      have HK1 := Lib.hid (hk1.alloc (.cells #[.int .i64 0, .int .i64 0, .string ⟨#[]⟩, .slice none 0 0, .slice none 0 0] 25))
      clear hk1
      go_wp2_with fail
      refine (CR.out _ HK1.out).mono ?_
      rintro e w2 ⟨rfl, hk2⟩
      have HK2 := Lib.hid (HK1.out.then hk2)
      have HP2 := Lib.hid (HS0.out.kept0 HK2.out)
      have HT2 := Lib.hid (HT0.out.step (HK2.out.mono (Y := [p]) (by simp)))
      clear hk2
      go_wp2_with fail
      refine (pliteral_any HP2.out HT2.out hS).mono ?_
      rintro e w3 ⟨rfl, hp3, hk3⟩
      have HP3 := Lib.hid hp3
      have HK3 := Lib.hid ((HK2.out.mono (Y := [p]) (by simp)).trans' hk3)
      clear hp3 hk3
      go_wp2_with fail
      refine (vtext_any _ _).mono ?_
      rintro e w4 ⟨rfl, hk4⟩
      unfold leafA
      have HP4 := Lib.hid (HP3.out.kept0 hk4)
      have HK4 := Lib.hid (HK3.out.then hk4)
      clear hk4
      have HRR := Lib.hid (HR0.out.kept HK4.out (by have := HPW.out; simp; omega))
      obtain ⟨⟨d0, d1, d2, d3, d4⟩, f0, f1, f2, f3, f4⟩ := HRR.out.facts
      go_wp2_with fail
      obtain ⟨WF, e⟩ : ∃ WF, WF = set5 w4 w.heap.size (.int .i64 4) (.int .i64 0) (.string (strB (litS (.inr (34 :: t, c))))) (.slice none 0 0) (.slice none 0 0) := ⟨_, rfl⟩
      obtain ⟨KF, y0, y1, y2, y3, y4⟩ := HRR.out.stored e
      unfold set5 at e
      rw [← e]
      exact bodyPost_ret (v := .agg #[.int .i64 4, .int .i64 0, .string (strB (litS (.inr (34 :: t, c)))), .slice none 0 0, .slice none 0 0]) (by simp [results, Tryz.results81, go_sem, y0, y1, y2, y3, y4]) rfl (HANS.out _ (HP4.out.kept KF (by have := HPW.out; simp; omega)) (((HK0.out.mono (Y := [p]) (by simp)).trans' HK4.out).trans KF (fun i hi => by simp at hi; exact .inr (by omega))))
    have hn34 : a.toNat ≠ 34 := fun q => h34 (UInt8.toNat_inj.1 q)
    obtain ⟨j1, j2⟩ := int_ne (a := (a.toNat : Int)) (b := 34) (by omega)
    by_cases h91 : a = 91
    · have HRL : Hid (pRead (pValue d) (a :: t) c = asList (pItems (listStep (pValue d)) 93 ((a :: t).length + 1) t c [])) := Lib.hid (by
        rw [HRN.out, if_neg (by rw [HHD.out]; exact fun q => h34 (by injection q)), if_pos (by rw [HHD.out, h91]), List.tail_cons]
        cases pItems (listStep (pValue d)) 93 ((a :: t).length + 1) t c [] with
        | inl e => rfl
        | inr y => obtain ⟨l, r, c'⟩ := y; rfl)
      rw [HRL.out]
      have HA := Lib.hid h91
      have HA34 := Lib.hid h34
      clear h34 h91
      go_enter Tryz.func81, Tryz.ntmps81
      go_wp2_with fail
      rw [← HW0.out]
      refine CW.out.mono ?_
      rintro e w1 ⟨ha, hk1⟩
      unfold WordAns at ha
      rw [HWD.out] at ha
      subst ha
      unfold leafA
      have HK1 := Lib.hid (hk1.alloc (.cells #[.int .i64 0, .int .i64 0, .string ⟨#[]⟩, .slice none 0 0, .slice none 0 0] 25))
      clear hk1
      go_wp2_with fail
      refine (CR.out _ HK1.out).mono ?_
      rintro e w2 ⟨rfl, hk2⟩
      have HK2 := Lib.hid (HK1.out.then hk2)
      have HP2 := Lib.hid (HS0.out.kept0 HK2.out)
      have HT2 := Lib.hid (HT0.out.step (HK2.out.mono (Y := [p]) (by simp)))
      clear hk2
      go_wp2_with fail
      have C3 := Lib.hid (peat_any HP2.out hS ⟨#[91]⟩)
      rw [show (⟨#[91]⟩ : ByteArray).data.toList = [91] from rfl, (head_eats 91 (a :: t) c).1, decide_eq_true (by rw [HHD.out, HA.out]), (head_eats 91 (a :: t) c).2.1 (by rw [HHD.out, HA.out]), List.tail_cons] at C3
      refine C3.out.mono ?_
      rintro e w3 ⟨rfl, hp3, hk3⟩
      have HP3 := Lib.hid hp3
      have HK3 := Lib.hid ((HK2.out.mono (Y := [p]) (by simp)).trans' hk3)
      have HT3 := Lib.hid (HT2.out.step hk3)
      clear hp3 hk3
      go_wp2_with fail
      refine (plist_any (d := d) (by exact @HIH.out) HP3.out HC.out hS HT3.out (f := (a :: t).length + 1) (by simp only [List.length_cons]; omega)).mono ?_
      rintro e w5 hans
      obtain ⟨cs, rfl, ⟨k5, m5, s5, p5, i5, c5, q5, j5, d5, rfl⟩, hk5, hrest⟩ := hans
      have HANS : Hid (BothAns d (asList (pItems (listStep (pValue d)) 93 ((a :: t).length + 1) t c [])) p S w3 (.returned (.agg #[.int .i64 k5, .int .i64 m5, .string s5, .slice p5 i5 c5, .slice q5 j5 d5])) w5) := Lib.hid ⟨_, rfl, ⟨_, _, _, _, _, _, _, _, _, rfl⟩, hk5, hrest⟩
      have HK5 := Lib.hid (HK3.out.trans' hk5)
      have HWZ : Hid (w.heap.size < w3.heap.size) := Lib.hid (by have h1 := HK3.out.size; have h2 := HSZ.out; omega)
      clear hk5 hrest
      have HRR := Lib.hid (HR0.out.kept HK5.out (by have := HPW.out; simp; omega))
      obtain ⟨⟨d0, d1, d2, d3, d4⟩, f0, f1, f2, f3, f4⟩ := HRR.out.facts
      go_wp2_with fail
      obtain ⟨WF, e⟩ : ∃ WF, WF = set5 w5 w.heap.size (.int .i64 k5) (.int .i64 m5) (.string s5) (.slice p5 i5 c5) (.slice q5 j5 d5) := ⟨_, rfl⟩
      obtain ⟨KF, y0, y1, y2, y3, y4⟩ := HRR.out.stored e
      unfold set5 at e
      rw [← e]
      exact bodyPost_ret (v := .agg #[.int .i64 k5, .int .i64 m5, .string s5, .slice p5 i5 c5, .slice q5 j5 d5]) (by simp [results, Tryz.results81, go_sem, y0, y1, y2, y3, y4]) rfl (HANS.out.move (e := .panicked []) ((HK0.out.mono (Y := [p]) (by simp)).trans' HK3.out) KF (Nat.le_refl _) HWZ.out HPW.out)
    by_cases h123 : a = 123
    · have HRL : Hid (pRead (pValue d) (a :: t) c = asMap (pItems (pairStep (pValue d)) 125 ((a :: t).length + 1) t c [])) := Lib.hid (by
        rw [HRN.out, if_neg (by rw [HHD.out]; exact fun q => h34 (by injection q)), if_neg (by rw [HHD.out]; exact fun q => h91 (by injection q)), if_pos (by rw [HHD.out, h123]), List.tail_cons]
        cases pItems (pairStep (pValue d)) 125 ((a :: t).length + 1) t c [] with
        | inl e => rfl
        | inr y => obtain ⟨l, r, c'⟩ := y; rfl)
      rw [HRL.out]
      have HA := Lib.hid h123
      have HA91 := Lib.hid h91
      clear h34 h91 h123
      go_enter Tryz.func81, Tryz.ntmps81
      go_wp2_with fail
      rw [← HW0.out]
      refine CW.out.mono ?_
      rintro e w1 ⟨ha, hk1⟩
      unfold WordAns at ha
      rw [HWD.out] at ha
      subst ha
      unfold leafA
      have HK1 := Lib.hid (hk1.alloc (.cells #[.int .i64 0, .int .i64 0, .string ⟨#[]⟩, .slice none 0 0, .slice none 0 0] 25))
      clear hk1
      go_wp2_with fail
      refine (CR.out _ HK1.out).mono ?_
      rintro e w2 ⟨rfl, hk2⟩
      have HK2 := Lib.hid (HK1.out.then hk2)
      have HP2 := Lib.hid (HS0.out.kept0 HK2.out)
      have HT2 := Lib.hid (HT0.out.step (HK2.out.mono (Y := [p]) (by simp)))
      clear hk2
      go_wp2_with fail
      have C3 := Lib.hid (peat_any HP2.out hS ⟨#[91]⟩)
      rw [show (⟨#[91]⟩ : ByteArray).data.toList = [91] from rfl, (head_eats 91 (a :: t) c).1, decide_eq_false (by rw [HHD.out]; exact fun q => HA91.out (by injection q)), (head_eats 91 (a :: t) c).2.2 (by rw [HHD.out]; exact fun q => HA91.out (by injection q))] at C3
      refine C3.out.mono ?_
      rintro e w3 ⟨rfl, hp3, hk3⟩
      have HP3 := Lib.hid hp3
      have HK3 := Lib.hid ((HK2.out.mono (Y := [p]) (by simp)).trans' hk3)
      have HT3 := Lib.hid (HT2.out.step hk3)
      clear hp3 hk3
      go_wp2_with fail
      have C4 := Lib.hid (peat_any HP3.out hS ⟨#[123]⟩)
      rw [show (⟨#[123]⟩ : ByteArray).data.toList = [123] from rfl, (head_eats 123 (a :: t) c).1, decide_eq_true (by rw [HHD.out, HA.out]), (head_eats 123 (a :: t) c).2.1 (by rw [HHD.out, HA.out]), List.tail_cons] at C4
      refine C4.out.mono ?_
      rintro e w4 ⟨rfl, hp4, hk4⟩
      have HP4 := Lib.hid hp4
      have HK4 := Lib.hid (HK3.out.trans' hk4)
      have HT4 := Lib.hid (HT3.out.step hk4)
      clear hp4 hk4
      go_wp2_with fail
      refine (pmap_any (d := d) (by exact @HIH.out) HP4.out HC.out hS HT4.out (f := (a :: t).length + 1) (by simp only [List.length_cons]; omega)).mono ?_
      rintro e w5 hans
      obtain ⟨cs, rfl, ⟨k5, m5, s5, p5, i5, c5, q5, j5, d5, rfl⟩, hk5, hrest⟩ := hans
      have HANS : Hid (BothAns d (asMap (pItems (pairStep (pValue d)) 125 ((a :: t).length + 1) t c [])) p S w4 (.returned (.agg #[.int .i64 k5, .int .i64 m5, .string s5, .slice p5 i5 c5, .slice q5 j5 d5])) w5) := Lib.hid ⟨_, rfl, ⟨_, _, _, _, _, _, _, _, _, rfl⟩, hk5, hrest⟩
      have HK5 := Lib.hid (HK4.out.trans' hk5)
      have HWZ : Hid (w.heap.size < w4.heap.size) := Lib.hid (by have h1 := HK4.out.size; have h2 := HSZ.out; omega)
      clear hk5 hrest
      have HRR := Lib.hid (HR0.out.kept HK5.out (by have := HPW.out; simp; omega))
      obtain ⟨⟨d0, d1, d2, d3, d4⟩, f0, f1, f2, f3, f4⟩ := HRR.out.facts
      go_wp2_with fail
      obtain ⟨WF, e⟩ : ∃ WF, WF = set5 w5 w.heap.size (.int .i64 k5) (.int .i64 m5) (.string s5) (.slice p5 i5 c5) (.slice q5 j5 d5) := ⟨_, rfl⟩
      obtain ⟨KF, y0, y1, y2, y3, y4⟩ := HRR.out.stored e
      unfold set5 at e
      rw [← e]
      exact bodyPost_ret (v := .agg #[.int .i64 k5, .int .i64 m5, .string s5, .slice p5 i5 c5, .slice q5 j5 d5]) (by simp [results, Tryz.results81, go_sem, y0, y1, y2, y3, y4]) rfl (HANS.out.move (e := .panicked []) ((HK0.out.mono (Y := [p]) (by simp)).trans' HK4.out) KF (Nat.le_refl _) HWZ.out HPW.out)
    have HRL : Hid (pRead (pValue d) (a :: t) c = match numL (a :: t) with | .inl e => .inl e | .inr (n, r) => .inr (leaf 3 n ⟨#[]⟩, r, c)) := Lib.hid (by
          rw [HRN.out, if_neg (by rw [HHD.out]; exact fun q => h34 (by injection q)), if_neg (by rw [HHD.out]; exact fun q => h91 (by injection q)), if_neg (by rw [HHD.out]; exact fun q => h123 (by injection q))]
          first
          | done
          | (cases numL (a :: t) with
            | inl e => rfl
            | inr y => cases y; rfl))
    have HA123 := Lib.hid h123
    have HA91 := Lib.hid h91
    clear h34 h91 h123
    go_enter Tryz.func81, Tryz.ntmps81
    go_wp2_with fail
    rw [← HW0.out]
    refine CW.out.mono ?_
    rintro e w1 ⟨ha, hk1⟩
    unfold WordAns at ha
    rw [HWD.out] at ha
    subst ha
    unfold leafA
    have HK1 := Lib.hid (hk1.alloc (.cells #[.int .i64 0, .int .i64 0, .string ⟨#[]⟩, .slice none 0 0, .slice none 0 0] 25))
    clear hk1
    go_wp2_with fail
    refine (CR.out _ HK1.out).mono ?_
    rintro e w2 ⟨rfl, hk2⟩
    have HK2 := Lib.hid (HK1.out.then hk2)
    have HP2 := Lib.hid (HS0.out.kept0 HK2.out)
    have HT2 := Lib.hid (HT0.out.step (HK2.out.mono (Y := [p]) (by simp)))
    clear hk2
    go_wp2_with fail
    have C3 := Lib.hid (peat_any HP2.out hS ⟨#[91]⟩)
    rw [show (⟨#[91]⟩ : ByteArray).data.toList = [91] from rfl, (head_eats 91 (a :: t) c).1, decide_eq_false (by rw [HHD.out]; exact fun q => HA91.out (by injection q)), (head_eats 91 (a :: t) c).2.2 (by rw [HHD.out]; exact fun q => HA91.out (by injection q))] at C3
    refine C3.out.mono ?_
    rintro e w3 ⟨rfl, hp3, hk3⟩
    have HP3 := Lib.hid hp3
    have HK3 := Lib.hid ((HK2.out.mono (Y := [p]) (by simp)).trans' hk3)
    have HT3 := Lib.hid (HT2.out.step hk3)
    clear hp3 hk3
    go_wp2_with fail
    have C4 := Lib.hid (peat_any HP3.out hS ⟨#[123]⟩)
    rw [show (⟨#[123]⟩ : ByteArray).data.toList = [123] from rfl, (head_eats 123 (a :: t) c).1, decide_eq_false (by rw [HHD.out]; exact fun q => HA123.out (by injection q)), (head_eats 123 (a :: t) c).2.2 (by rw [HHD.out]; exact fun q => HA123.out (by injection q))] at C4
    refine C4.out.mono ?_
    rintro e w4 ⟨rfl, hp4, hk4⟩
    have HP4 := Lib.hid hp4
    have HK4 := Lib.hid (HK3.out.trans' hk4)
    clear hp4 hk4
    go_wp2_with fail
    refine (pnumber_any HP4.out hS).mono ?_
    rintro e w5 ⟨hans, hk5⟩
    have HK5 := Lib.hid (HK4.out.trans' hk5)
    clear hk5
    unfold NumAns at hans
    cases hn : numL (a :: t) with
    | inl x =>
      rw [hn] at hans
      obtain ⟨rfl, hp5⟩ := hans
      unfold leafA
      have HP5 := Lib.hid hp5
      have HRE : Hid (pRead (pValue d) (a :: t) c = .inl x) := Lib.hid (by rw [HRL.out, hn])
      clear hp5 hn
      have HRR := Lib.hid (HR0.out.kept HK5.out (by have := HPW.out; simp; omega))
      obtain ⟨⟨d0, d1, d2, d3, d4⟩, f0, f1, f2, f3, f4⟩ := HRR.out.facts
      go_wp2_with fail
      obtain ⟨WF, e⟩ : ∃ WF, WF = set5 w5 w.heap.size (.int .i64 0) (.int .i64 0) (.string ⟨#[]⟩) (.slice none 0 0) (.slice none 0 0) := ⟨_, rfl⟩
      obtain ⟨KF, y0, y1, y2, y3, y4⟩ := HRR.out.stored e
      unfold set5 at e
      rw [← e]
      exact bodyPost_ret (v := .agg #[.int .i64 0, .int .i64 0, .string ⟨#[]⟩, .slice none 0 0, .slice none 0 0]) (by simp [results, Tryz.results81, go_sem, y0, y1, y2, y3, y4]) rfl (bothAns_bad (cs := [.int .i64 0, .int .i64 0, .string ⟨#[]⟩, .slice none 0 0, .slice none 0 0]) HRE.out ⟨_, _, _, _, _, _, _, _, _, rfl⟩ (((HK0.out.mono (Y := [p]) (by simp)).trans' HK5.out).trans KF (fun i hi => by simp at hi; exact .inr (by omega))) (HP5.out.kept KF (by have := HPW.out; simp; omega)))
    | inr y =>
      obtain ⟨n, r⟩ := y
      rw [hn] at hans
      obtain ⟨rfl, hp5⟩ := hans
      unfold leafA
      have HP5 := Lib.hid hp5
      have HNF := Lib.hid (num_facts hn).1
      have HRE : Hid (pRead (pValue d) (a :: t) c = .inr (leaf 3 n ⟨#[]⟩, r, c)) := Lib.hid (by rw [HRL.out, hn])
      clear hp5 hn
      have HRR := Lib.hid (HR0.out.kept HK5.out (by have := HPW.out; simp; omega))
      obtain ⟨⟨d0, d1, d2, d3, d4⟩, f0, f1, f2, f3, f4⟩ := HRR.out.facts
      go_wp2_with fail
      obtain ⟨WF, e⟩ : ∃ WF, WF = set5 w5 w.heap.size (.int .i64 3) (.int .i64 n) (.string ⟨#[]⟩) (.slice none 0 0) (.slice none 0 0) := ⟨_, rfl⟩
      obtain ⟨KF, y0, y1, y2, y3, y4⟩ := HRR.out.stored e
      unfold set5 at e
      rw [← e]
      exact bodyPost_ret (v := .agg #[.int .i64 3, .int .i64 n, .string ⟨#[]⟩, .slice none 0 0, .slice none 0 0]) (by simp [results, Tryz.results81, go_sem, y0, y1, y2, y3, y4]) rfl (bothAns_ok (cs := [.int .i64 3, .int .i64 n, .string ⟨#[]⟩, .slice none 0 0, .slice none 0 0]) HRE.out ⟨_, _, _, _, _, _, _, _, _, rfl⟩ (((HK0.out.mono (Y := [p]) (by simp)).trans' HK5.out).trans KF (fun i hi => by simp at hi; exact .inr (by omega))) (HP5.out.kept KF (by have := HPW.out; simp; omega)) (ownRep_leaf rfl (wf64 (by have := HNF.out; omega) (by have := HNF.out; omega))))
end
end Go.Proofs.YtpbphdkjjoipnaaGreatDoor
namespace Go.Proofs.YtpbphdkjjoipnaaGreatDoor
open Go.RowKit
theorem valAns_bad {d p : Nat} {X : PX} {S : ByteArray} {w w' : World} {x : Int} (h : X = .inl x ∨ ∃ s c, X = .inr (s, c) ∧ pValue d s c = .inl x) (h2 : Kept [p] w w') (h3 : PS w' p S 4097 (.inl x)) : ValAns d X p S w (.returned (.agg #[.int .i64 0, .int .i64 0, .string ⟨#[]⟩, .slice none 0 0, .slice none 0 0])) w' := by
  refine ⟨zero5, rfl, ⟨_, _, _, _, _, _, _, _, _, rfl⟩, h2, ?_⟩
  rcases h with rfl | ⟨s, c, rfl, h⟩
  · exact h3
  · show (match pValue d s c with | .inl x => _ | .inr (v, r, c') => _)
    rw [h]
    exact h3
section
variable {w : World} {p d : Nat} {S : ByteArray} {s : List UInt8} {c : Nat} {x : Int}
theorem pread_any (hd : d ≤ 100) (IH0 : PValKnown d) (hs : PS w p S 4097 (.inr (s, c))) (hc : c ≤ 4096) (hS : S.size ≤ 262144) (hT : TabsB p w) (hb : begins s = true) :
    Calls Tryz.prog 81 #[.pointer (some ⟨p, 0, none⟩), .int .i64 ((d : Int) + 1)] w fun e w' => BothAns d (pRead (pValue d) s c) p S w e w' := by
  cases hw : wordOf s with
  | some q => obtain ⟨k, n⟩ := q; exact pread_word hs hS hw
  | none => exact pread_not hd (by exact @IH0) hs hc hS hT hw hb
theorem value_dull (h : begins (skipB s) = false) : pValue d s c = .inl 50 := by
  cases d with
  | zero => unfold pValue; rw [if_pos h]
  | succ d => unfold pValue; rw [if_pos h]
theorem value_many (h : begins (skipB s) = true) (hc : 4096 < c + 1) : pValue d s c = .inl 42 := by
  cases d with
  | zero => unfold pValue; rw [if_neg (by rw [h]; decide), if_pos hc]
  | succ d => unfold pValue; rw [if_neg (by rw [h]; decide), if_pos hc]
theorem value_deep (h : begins (skipB s) = true) (hc : ¬ 4096 < c + 1) : pValue 0 s c = .inl 41 := by
  unfold pValue; rw [if_neg (by rw [h]; decide), if_neg hc]
set_option maxRecDepth 10000 in
set_option maxHeartbeats 6400000 in
theorem pvalue_fault (hd : d ≤ 100) (hs : PS w p S 4097 (.inl x)) (hS : S.size ≤ 262144) :
    Calls Tryz.prog 49 #[.pointer (some ⟨p, 0, none⟩), .int .i64 d] w fun e w' => ValAns d (.inl x) p S w e w' := by
  obtain ⟨W0, HW0⟩ : ∃ W0, Hid (W0 = w.alloc (.cells #[.int .i64 0, .int .i64 0, .string ⟨#[]⟩, .slice none 0 0, .slice none 0 0] 25)) := ⟨_, Lib.hid rfl⟩
  have HK0 : Hid (Kept [] w W0) := Lib.hid (by rw [HW0.out]; exact (Kept.refl [] w).alloc _)
  have HR0 : Hid (ResAt W0 w.heap.size) := Lib.hid (by rw [HW0.out]; exact resAt_new w)
  have HPW : Hid (p < w.heap.size) := Lib.hid hs.lt
  have CS := Lib.hid (pskip_any (hs.kept0 HK0.out) hS)
  have hdI : (d : Int) ≤ 100 := by omega
  clear hd
  clear hs
  go_enter Tryz.func49, Tryz.ntmps49
  go_wp2_with fail
  rw [← HW0.out]
  refine CS.out.mono ?_
  rintro e w1 ⟨rfl, hp1, hk1⟩
  have HP1 : Hid (PS w1 p S 4097 (.inl x)) := Lib.hid hp1
  obtain ⟨i, c, q1, hi, hc, hx0, hx1⟩ := HP1.out.open_bad
  obtain ⟨c0, c1, c2, c3, fz⟩ := q1.cells
  obtain ⟨g1, g2⟩ := int_ne (a := x) (b := 0) (by omega)
  have HK1 := Lib.hid hk1
  have CF := Lib.hid (pfail_any HP1.out i 50 hi (by omega) (by omega))
  clear hp1 hk1 q1 fz c0 c2
  go_wp2_with fail
  refine CF.out.mono ?_
  rintro e w2 ⟨rfl, hp2, hk2⟩
  have HPE : Hid (PS w2 p S 4097 (.inl x)) := Lib.hid hp2
  have HK2 := Lib.hid (HK1.out.trans' hk2)
  clear hp2 hk2 c1 c3
  have HRR := Lib.hid (HR0.out.kept HK2.out (by have := HPW.out; simp; omega))
  obtain ⟨⟨d0, d1, d2, d3, d4⟩, f0, f1, f2, f3, f4⟩ := HRR.out.facts
  go_wp2_with fail
  obtain ⟨WF, e⟩ : ∃ WF, WF = set5 w2 w.heap.size (.int .i64 0) (.int .i64 0) (.string ⟨#[]⟩) (.slice none 0 0) (.slice none 0 0) := ⟨_, rfl⟩
  obtain ⟨KF, y0, y1, y2, y3, y4⟩ := HRR.out.stored e
  unfold set5 at e
  rw [← e]
  exact bodyPost_ret (v := .agg #[.int .i64 0, .int .i64 0, .string ⟨#[]⟩, .slice none 0 0, .slice none 0 0]) (by simp [results, Tryz.results49, go_sem, y0, y1, y2, y3, y4]) rfl
    (valAns_bad (.inl rfl) (((HK0.out.mono (Y := [p]) (by simp)).trans' HK2.out).trans KF (fun i hi => by simp at hi; exact .inr (by omega))) (PS.kept HPE.out KF (by have := HPW.out; simp; omega)))
set_option maxRecDepth 10000 in
set_option maxHeartbeats 6400000 in
theorem pvalue_dull (hd : d ≤ 100) (hb : begins (skipB s) = false) (hs : PS w p S 4097 (.inr (s, c))) (hS : S.size ≤ 262144) :
    Calls Tryz.prog 49 #[.pointer (some ⟨p, 0, none⟩), .int .i64 d] w fun e w' => ValAns d (.inr (s, c)) p S w e w' := by
  obtain ⟨W0, HW0⟩ : ∃ W0, Hid (W0 = w.alloc (.cells #[.int .i64 0, .int .i64 0, .string ⟨#[]⟩, .slice none 0 0, .slice none 0 0] 25)) := ⟨_, Lib.hid rfl⟩
  have HK0 : Hid (Kept [] w W0) := Lib.hid (by rw [HW0.out]; exact (Kept.refl [] w).alloc _)
  have HR0 : Hid (ResAt W0 w.heap.size) := Lib.hid (by rw [HW0.out]; exact resAt_new w)
  have HPW : Hid (p < w.heap.size) := Lib.hid hs.lt
  have CS := Lib.hid (pskip_any (hs.kept0 HK0.out) hS)
  have hdI : (d : Int) ≤ 100 := by omega
  have HB := Lib.hid hb
  clear hd hb
  clear hs
  go_enter Tryz.func49, Tryz.ntmps49
  go_wp2_with fail
  rw [← HW0.out]
  refine CS.out.mono ?_
  rintro e w1 ⟨rfl, hp1, hk1⟩
  have HP1 : Hid (PS w1 p S 4097 (.inr (skipB s, c))) := Lib.hid hp1
  have HK1 := Lib.hid hk1
  obtain ⟨i, q1, hi, hcc, hr⟩ := HP1.out.open_ok
  have Q1 := Lib.hid q1
  have HR := Lib.hid hr
  obtain ⟨c0, c1, c2, c3, fz⟩ := q1.cells
  have CB := Lib.hid (pbegins_any HP1.out hS)
  clear hp1 hk1 q1 fz c0 c1 c2 hr
  go_wp2_with fail
  refine CB.out.mono ?_
  rintro e w2 ⟨rfl, hk2⟩
  rw [HB.out]
  have Q2 : Hid (PAt w2 p S i c 0) := Lib.hid (hk2.heap Q1.out (by simp))
  have HK2 := Lib.hid (HK1.out.then hk2)
  obtain ⟨c0, c1, c2, k3, fz⟩ := Q2.out.cells
  have z2 := fz 2
  clear fz c3 hk2
  have CF := Lib.hid (pfail_any (x := .inr (skipB s, c)) ⟨i, c, 0, Q2.out, hi, hcc, rfl, HR.out, rfl⟩ i 50 hi (by omega) (by omega))
  clear c0 c2 k3 z2
  go_wp2_with fail
  refine CF.out.mono ?_
  rintro e w3 ⟨rfl, hp3, hk3⟩
  have HPE : Hid (PS w3 p S 4097 (.inl 50)) := Lib.hid hp3
  have HK3 := Lib.hid (HK2.out.trans' hk3)
  clear hp3 hk3 c1
  have HRR := Lib.hid (HR0.out.kept HK3.out (by have := HPW.out; simp; omega))
  obtain ⟨⟨d0, d1, d2, d3, d4⟩, f0, f1, f2, f3, f4⟩ := HRR.out.facts
  go_wp2_with fail
  obtain ⟨WF, e⟩ : ∃ WF, WF = set5 w3 w.heap.size (.int .i64 0) (.int .i64 0) (.string ⟨#[]⟩) (.slice none 0 0) (.slice none 0 0) := ⟨_, rfl⟩
  obtain ⟨KF, y0, y1, y2, y3, y4⟩ := HRR.out.stored e
  unfold set5 at e
  rw [← e]
  exact bodyPost_ret (v := .agg #[.int .i64 0, .int .i64 0, .string ⟨#[]⟩, .slice none 0 0, .slice none 0 0]) (by simp [results, Tryz.results49, go_sem, y0, y1, y2, y3, y4]) rfl
    (valAns_bad (.inr ⟨_, _, rfl, value_dull HB.out⟩) (((HK0.out.mono (Y := [p]) (by simp)).trans' HK3.out).trans KF (fun i hi => by simp at hi; exact .inr (by omega))) (PS.kept HPE.out KF (by have := HPW.out; simp; omega)))
set_option maxRecDepth 10000 in
set_option maxHeartbeats 6400000 in
theorem pvalue_many (hd : d ≤ 100) (hb : begins (skipB s) = true) (hm : 4096 < c + 1) (hc : c ≤ 4096) (hs : PS w p S 4097 (.inr (s, c))) (hS : S.size ≤ 262144) :
    Calls Tryz.prog 49 #[.pointer (some ⟨p, 0, none⟩), .int .i64 d] w fun e w' => ValAns d (.inr (s, c)) p S w e w' := by
  obtain ⟨W0, HW0⟩ : ∃ W0, Hid (W0 = w.alloc (.cells #[.int .i64 0, .int .i64 0, .string ⟨#[]⟩, .slice none 0 0, .slice none 0 0] 25)) := ⟨_, Lib.hid rfl⟩
  have HK0 : Hid (Kept [] w W0) := Lib.hid (by rw [HW0.out]; exact (Kept.refl [] w).alloc _)
  have HR0 : Hid (ResAt W0 w.heap.size) := Lib.hid (by rw [HW0.out]; exact resAt_new w)
  have HPW : Hid (p < w.heap.size) := Lib.hid hs.lt
  have CS := Lib.hid (pskip_any (hs.kept0 HK0.out) hS)
  have hdI : (d : Int) ≤ 100 := by omega
  have hmI : (4096 : Int) < (c : Int) + 1 := by omega
  have hcI : (c : Int) ≤ 4096 := by omega
  have HB := Lib.hid hb
  have HM := Lib.hid hm
  have HC := Lib.hid hc
  clear hd hb hm hc
  clear hs
  go_enter Tryz.func49, Tryz.ntmps49
  go_wp2_with fail
  rw [← HW0.out]
  refine CS.out.mono ?_
  rintro e w1 ⟨rfl, hp1, hk1⟩
  have HP1 : Hid (PS w1 p S 4097 (.inr (skipB s, c))) := Lib.hid hp1
  have HK1 := Lib.hid hk1
  obtain ⟨i, q1, hi, hcc, hr⟩ := HP1.out.open_ok
  have Q1 := Lib.hid q1
  have HR := Lib.hid hr
  obtain ⟨c0, c1, c2, c3, fz⟩ := q1.cells
  have CB := Lib.hid (pbegins_any HP1.out hS)
  clear hp1 hk1 q1 fz c0 c1 c2 hr
  go_wp2_with fail
  refine CB.out.mono ?_
  rintro e w2 ⟨rfl, hk2⟩
  rw [HB.out]
  have Q2 : Hid (PAt w2 p S i c 0) := Lib.hid (hk2.heap Q1.out (by simp))
  have HK2 := Lib.hid (HK1.out.then hk2)
  obtain ⟨c0, c1, c2, k3, fz⟩ := Q2.out.cells
  have z2 := fz 2
  clear fz c3 hk2
  obtain ⟨WS, HWS⟩ : ∃ WS, Hid (WS = w2.setCell ⟨p, 2, none⟩ (.int .i64 ((c : Int) + 1))) := ⟨_, Lib.hid rfl⟩
  have Q3 : Hid (PAt WS p S i (c + 1) 0) := Lib.hid (by rw [HWS.out]; exact Q2.out.set2 (c + 1))
  have HK3 : Hid (Kept [p] W0 WS) := Lib.hid (by rw [HWS.out]; exact HK2.out.trans' (kept_set _ _ _ _))
  have CF := Lib.hid (pfail_any (x := .inr (skipB s, c + 1)) ⟨i, c + 1, 0, Q3.out, hi, (by have := HC.out; omega : c + 1 ≤ 4097), rfl, HR.out, rfl⟩ i 42 hi (by omega) (by omega))
  clear c0 k3
  go_wp2_with fail
  rw [← HWS.out]
  refine CF.out.mono ?_
  rintro e w3 ⟨rfl, hp3, hk3⟩
  have HPE : Hid (PS w3 p S 4097 (.inl 42)) := Lib.hid hp3
  have HK4 := Lib.hid (HK3.out.trans' hk3)
  clear hp3 hk3 c1 c2 z2
  have HRR := Lib.hid (HR0.out.kept HK4.out (by have := HPW.out; simp; omega))
  obtain ⟨⟨d0, d1, d2, d3, d4⟩, f0, f1, f2, f3, f4⟩ := HRR.out.facts
  go_wp2_with fail
  obtain ⟨WF, e⟩ : ∃ WF, WF = set5 w3 w.heap.size (.int .i64 0) (.int .i64 0) (.string ⟨#[]⟩) (.slice none 0 0) (.slice none 0 0) := ⟨_, rfl⟩
  obtain ⟨KF, y0, y1, y2, y3, y4⟩ := HRR.out.stored e
  unfold set5 at e
  rw [← e]
  exact bodyPost_ret (v := .agg #[.int .i64 0, .int .i64 0, .string ⟨#[]⟩, .slice none 0 0, .slice none 0 0]) (by simp [results, Tryz.results49, go_sem, y0, y1, y2, y3, y4]) rfl
    (valAns_bad (.inr ⟨_, _, rfl, value_many HB.out HM.out⟩) (((HK0.out.mono (Y := [p]) (by simp)).trans' HK4.out).trans KF (fun i hi => by simp at hi; exact .inr (by omega))) (PS.kept HPE.out KF (by have := HPW.out; simp; omega)))
end
end Go.Proofs.YtpbphdkjjoipnaaGreatDoor
namespace Go.Proofs.YtpbphdkjjoipnaaGreatDoor
open Go.RowKit
section
variable {w : World} {p d : Nat} {S : ByteArray} {s : List UInt8} {c : Nat} {x : Int}
theorem value_read (h : begins (skipB s) = true) (hc : ¬ 4096 < c + 1) : pValue (d + 1) s c = match pRead (pValue d) (skipB s) (c + 1) with | .inl e => .inl e | .inr (v, r, c') => .inr (v, skipB r, c') := by
  rw [pValue, if_neg (by rw [h]; decide), if_neg hc]
  cases pRead (pValue d) (skipB s) (c + 1) with
  | inl e => rfl
  | inr y => rfl
set_option maxRecDepth 100000 in
set_option maxHeartbeats 6400000 in
theorem pvalue_deep (hb : begins (skipB s) = true) (hm : ¬ 4096 < c + 1) (hc : c ≤ 4096) (hs : PS w p S 4097 (.inr (s, c))) (hS : S.size ≤ 262144) :
    Calls Tryz.prog 49 #[.pointer (some ⟨p, 0, none⟩), .int .i64 0] w fun e w' => ValAns 0 (.inr (s, c)) p S w e w' := by
  obtain ⟨W0, HW0⟩ : ∃ W0, Hid (W0 = w.alloc (.cells #[.int .i64 0, .int .i64 0, .string ⟨#[]⟩, .slice none 0 0, .slice none 0 0] 25)) := ⟨_, Lib.hid rfl⟩
  have HK0 : Hid (Kept [] w W0) := Lib.hid (by rw [HW0.out]; exact (Kept.refl [] w).alloc _)
  have HR0 : Hid (ResAt W0 w.heap.size) := Lib.hid (by rw [HW0.out]; exact resAt_new w)
  have HPW : Hid (p < w.heap.size) := Lib.hid hs.lt
  have CS := Lib.hid (pskip_any (hs.kept0 HK0.out) hS)
  have hcI : (c : Int) ≤ 4095 := by omega
  have HB := Lib.hid hb
  have HM := Lib.hid hm
  have HC := Lib.hid hc
  clear hb hm hc
  clear hs
  go_enter Tryz.func49, Tryz.ntmps49
  go_wp2_with fail
  rw [← HW0.out]
  refine CS.out.mono ?_
  rintro e w1 ⟨rfl, hp1, hk1⟩
  have HP1 : Hid (PS w1 p S 4097 (.inr (skipB s, c))) := Lib.hid hp1
  have HK1 := Lib.hid hk1
  obtain ⟨i, q1, hi, hcc, hr⟩ := HP1.out.open_ok
  have Q1 := Lib.hid q1
  have HR := Lib.hid hr
  obtain ⟨c0, c1, c2, c3, fz⟩ := q1.cells
  have CB := Lib.hid (pbegins_any HP1.out hS)
  clear hp1 hk1 q1 fz c0 c1 c2 hr
  go_wp2_with fail
  refine CB.out.mono ?_
  rintro e w2 ⟨rfl, hk2⟩
  rw [HB.out]
  have Q2 : Hid (PAt w2 p S i c 0) := Lib.hid (hk2.heap Q1.out (by simp))
  have HK2 := Lib.hid (HK1.out.then hk2)
  obtain ⟨c0, c1, c2, k3, fz⟩ := Q2.out.cells
  have z2 := fz 2
  clear fz c3 hk2
  obtain ⟨WS, HWS⟩ : ∃ WS, Hid (WS = w2.setCell ⟨p, 2, none⟩ (.int .i64 ((c : Int) + 1))) := ⟨_, Lib.hid rfl⟩
  have Q3 : Hid (PAt WS p S i (c + 1) 0) := Lib.hid (by rw [HWS.out]; exact Q2.out.set2 (c + 1))
  have HK3 : Hid (Kept [p] W0 WS) := Lib.hid (by rw [HWS.out]; exact HK2.out.trans' (kept_set _ _ _ _))
  have CF := Lib.hid (pfail_any (x := .inr (skipB s, c + 1)) ⟨i, c + 1, 0, Q3.out, hi, (by have := HC.out; omega : c + 1 ≤ 4097), rfl, HR.out, rfl⟩ i 41 hi (by omega) (by omega))
  clear c0 k3
  go_wp2_with fail
  rw [← HWS.out]
  refine CF.out.mono ?_
  rintro e w3 ⟨rfl, hp3, hk3⟩
  have HPE : Hid (PS w3 p S 4097 (.inl 41)) := Lib.hid hp3
  have HK4 := Lib.hid (HK3.out.trans' hk3)
  clear hp3 hk3 c1 c2 z2
  have HRR := Lib.hid (HR0.out.kept HK4.out (by have := HPW.out; simp; omega))
  obtain ⟨⟨d0, d1, d2, d3, d4⟩, f0, f1, f2, f3, f4⟩ := HRR.out.facts
  go_wp2_with fail
  obtain ⟨WF, e⟩ : ∃ WF, WF = set5 w3 w.heap.size (.int .i64 0) (.int .i64 0) (.string ⟨#[]⟩) (.slice none 0 0) (.slice none 0 0) := ⟨_, rfl⟩
  obtain ⟨KF, y0, y1, y2, y3, y4⟩ := HRR.out.stored e
  unfold set5 at e
  rw [← e]
  exact bodyPost_ret (v := .agg #[.int .i64 0, .int .i64 0, .string ⟨#[]⟩, .slice none 0 0, .slice none 0 0]) (by simp [results, Tryz.results49, go_sem, y0, y1, y2, y3, y4]) rfl
    (valAns_bad (.inr ⟨_, _, rfl, value_deep HB.out HM.out⟩) (((HK0.out.mono (Y := [p]) (by simp)).trans' HK4.out).trans KF (fun i hi => by simp at hi; exact .inr (by omega))) (PS.kept HPE.out KF (by have := HPW.out; simp; omega)))
theorem valAns_read {w0 w1 : World} {r : Nat} {b0 b1 b2 b3 b4 : Value} (hb : begins (skipB s) = true) (hm : ¬ 4096 < c + 1) (h : BothAns d (pRead (pValue d) (skipB s) (c + 1)) p S w0 (.returned (.agg #[b0, b1, b2, b3, b4])) w1) (k0 : Kept [p] w w0) (ht0 : p < w.heap.size) (hr : w.heap.size ≤ r) (hr0 : r < w0.heap.size) : ∃ X, PS w1 p S 4097 X ∧ ∀ WF, PS WF p S 4097 (skipX X) → Kept [p, r] w1 WF → ValAns (d + 1) (.inr (s, c)) p S w (.returned (.agg #[b0, b1, b2, b3, b4])) WF := by
  obtain ⟨cs, e1, e2, e3, e4⟩ := h
  have hz := k0.size
  have hz1 := e3.size
  cases hR : pRead (pValue d) (skipB s) (c + 1) with
  | inl x =>
    rw [hR] at e4
    refine ⟨.inl x, e4, fun WF hX kF => ⟨cs, e1, e2, (k0.trans e3 (fun i hi => .inl hi)).trans kF (fun i hi => by simp at hi; rcases hi with h | h; exact .inl (by simp [h]); exact .inr (by omega)), ?_⟩⟩
    dsimp only
    rw [value_read hb hm, hR]
    exact hX
  | inr y =>
    obtain ⟨v, q, c'⟩ := y
    rw [hR] at e4
    refine ⟨.inr (q, c'), e4.1, fun WF hX kF => ⟨cs, e1, e2, (k0.trans e3 (fun i hi => .inl hi)).trans kF (fun i hi => by simp at hi; rcases hi with h | h; exact .inl (by simp [h]); exact .inr (by omega)), ?_⟩⟩
    dsimp only
    rw [value_read hb hm, hR]
    exact ⟨hX, e4.2.move kF (fun g hg => by simp at hg; omega) (by omega)⟩
set_option maxRecDepth 100000 in
set_option maxHeartbeats 6400000 in
theorem pvalue_read (hd : d ≤ 100) (IH0 : PValKnown d) (hT : TabsB p w) (hb : begins (skipB s) = true) (hm : ¬ 4096 < c + 1) (hc : c ≤ 4096) (hs : PS w p S 4097 (.inr (s, c))) (hS : S.size ≤ 262144) :
    Calls Tryz.prog 49 #[.pointer (some ⟨p, 0, none⟩), .int .i64 ((d : Int) + 1)] w fun e w' => ValAns (d + 1) (.inr (s, c)) p S w e w' := by
  obtain ⟨W0, HW0⟩ : ∃ W0, Hid (W0 = w.alloc (.cells #[.int .i64 0, .int .i64 0, .string ⟨#[]⟩, .slice none 0 0, .slice none 0 0] 25)) := ⟨_, Lib.hid rfl⟩
  have HK0 : Hid (Kept [] w W0) := Lib.hid (by rw [HW0.out]; exact (Kept.refl [] w).alloc _)
  have HR0 : Hid (ResAt W0 w.heap.size) := Lib.hid (by rw [HW0.out]; exact resAt_new w)
  have HPW : Hid (p < w.heap.size) := Lib.hid hs.lt
  have CS := Lib.hid (pskip_any (hs.kept0 HK0.out) hS)
  have HSZ : Hid (W0.heap.size = w.heap.size + 1) := Lib.hid (by rw [HW0.out]; simp)
  have hdI : (d : Int) ≤ 100 := by omega
  have hcI : (c : Int) ≤ 4095 := by omega
  have HB := Lib.hid hb
  have HM := Lib.hid hm
  have HT0 := Lib.hid (hT.step (HK0.out.mono (by simp)))
  have HD := Lib.hid hd
  obtain ⟨j1, j2⟩ := int_ne (a := (d : Int) + 1) (b := 0) (by omega)
  have HIH := @Lib.hid (PValKnown d) (by exact @IH0)
  clear hb hm hc hd IH0 hT
  clear hs
  go_enter Tryz.func49, Tryz.ntmps49
  go_wp2_with fail
  rw [← HW0.out]
  refine CS.out.mono ?_
  rintro e w1 ⟨rfl, hp1, hk1⟩
  have HP1 : Hid (PS w1 p S 4097 (.inr (skipB s, c))) := Lib.hid hp1
  have HK1 := Lib.hid hk1
  obtain ⟨i, q1, hi, hcc, hr⟩ := HP1.out.open_ok
  have Q1 := Lib.hid q1
  have HR := Lib.hid hr
  obtain ⟨c0, c1, c2, c3, fz⟩ := q1.cells
  have CB := Lib.hid (pbegins_any HP1.out hS)
  clear hp1 hk1 q1 fz c0 c1 c2 hr
  go_wp2_with fail
  refine CB.out.mono ?_
  rintro e w2 ⟨rfl, hk2⟩
  rw [HB.out]
  have Q2 : Hid (PAt w2 p S i c 0) := Lib.hid (hk2.heap Q1.out (by simp))
  have HK2 := Lib.hid (HK1.out.then hk2)
  obtain ⟨c0, c1, c2, k3, fz⟩ := Q2.out.cells
  have z2 := fz 2
  clear fz c3 hk2
  obtain ⟨WS, HWS⟩ : ∃ WS, Hid (WS = w2.setCell ⟨p, 2, none⟩ (.int .i64 ((c : Int) + 1))) := ⟨_, Lib.hid rfl⟩
  have Q3 : Hid (PAt WS p S i (c + 1) 0) := Lib.hid (by rw [HWS.out]; exact Q2.out.set2 (c + 1))
  have HK3 : Hid (Kept [p] W0 WS) := Lib.hid (by rw [HWS.out]; exact HK2.out.trans' (kept_set _ _ _ _))
  have HP3 : Hid (PS WS p S 4097 (.inr (skipB s, c + 1))) := Lib.hid ⟨i, c + 1, 0, Q3.out, hi, (by have := HM.out; omega : c + 1 ≤ 4097), rfl, HR.out, rfl⟩
  have CV := Lib.hid (pread_any (d := d) HD.out (by exact @HIH.out) HP3.out (by have := HM.out; omega) hS (HT0.out.step HK3.out) HB.out)
  clear c0 k3
  go_wp2_with fail
  rw [← HWS.out]
  refine CV.out.mono ?_
  rintro e w3 hans
  obtain ⟨cs, rfl, ⟨k5, m5, s5, p5, i5, c5, q5, j5, d5, rfl⟩, hk5, hrest⟩ := hans
  have HANS : Hid (BothAns d (pRead (pValue d) (skipB s) (c + 1)) p S WS (.returned (.agg #[.int .i64 k5, .int .i64 m5, .string s5, .slice p5 i5 c5, .slice q5 j5 d5])) w3) := Lib.hid ⟨_, rfl, ⟨_, _, _, _, _, _, _, _, _, rfl⟩, hk5, hrest⟩
  have HK4 := Lib.hid (HK3.out.trans' hk5)
  clear hk5 hrest c1 c2 z2
  obtain ⟨X4, hp4, hans4⟩ := valAns_read (r := w.heap.size) HB.out HM.out HANS.out ((HK0.out.mono (Y := [p]) (by simp)).trans' HK3.out) HPW.out (Nat.le_refl _) (by have h1 := HK3.out.size; have h2 := HSZ.out; omega)
  have HP4 := Lib.hid hp4
  have HANS4 := Lib.hid hans4
  obtain ⟨W4, HW4⟩ : ∃ W4, Hid (W4 = w3.alloc (.cells #[.int .i64 k5, .int .i64 m5, .string s5, .slice p5 i5 c5, .slice q5 j5 d5] 25)) := ⟨_, Lib.hid rfl⟩
  have HB4 : Hid (W4.heap[w3.heap.size]? = some (.cells #[.int .i64 k5, .int .i64 m5, .string s5, .slice p5 i5 c5, .slice q5 j5 d5] 25 (0, 0))) := Lib.hid (by rw [HW4.out]; exact block_alloc rfl)
  have HK5 : Hid (Kept [] w3 W4) := Lib.hid (by rw [HW4.out]; exact (Kept.refl [] w3).alloc _)
  have CS2 := Lib.hid (pskip_any (HP4.out.kept0 HK5.out) hS)
  have hp3lt : p < w3.heap.size := HP4.out.lt
  clear hp4 hans4
  go_wp2_with fail
  rw [← HW4.out]
  refine CS2.out.mono ?_
  rintro e w5 ⟨rfl, hp5, hk5⟩
  have HP5 := Lib.hid hp5
  have HB5 := Lib.hid (hk5.heap HB4.out (by simp; omega))
  have HK6 : Hid (Kept [p] w3 w5) := Lib.hid ((HK5.out.mono (Y := [p]) (by simp)).trans' hk5)
  have HK7 := Lib.hid (HK4.out.trans' HK6.out)
  have l0 := cell_head (o := 0) HB5.out rfl
  have l1 := cell_head (o := 1) HB5.out rfl
  have l2 := cell_head (o := 2) HB5.out rfl
  have l3 := cell_head (o := 3) HB5.out rfl
  have l4 := cell_head (o := 4) HB5.out rfl
  clear hp5 hk5
  have HRR := Lib.hid (HR0.out.kept HK7.out (by have := HPW.out; simp; omega))
  obtain ⟨⟨d0, d1, d2, d3, d4⟩, f0, f1, f2, f3, f4⟩ := HRR.out.facts
  go_wp2_with fail
  obtain ⟨WF, e⟩ : ∃ WF, WF = set5 w5 w.heap.size (.int .i64 k5) (.int .i64 m5) (.string s5) (.slice p5 i5 c5) (.slice q5 j5 d5) := ⟨_, rfl⟩
  obtain ⟨KF, y0, y1, y2, y3, y4⟩ := HRR.out.stored e
  unfold set5 at e
  rw [← e]
  exact bodyPost_ret (v := .agg #[.int .i64 k5, .int .i64 m5, .string s5, .slice p5 i5 c5, .slice q5 j5 d5]) (by simp [results, Tryz.results49, go_sem, y0, y1, y2, y3, y4]) rfl (HANS4.out _ (HP5.out.kept KF (by have := HPW.out; simp; omega)) ((HK6.out.mono (Y := [p, w.heap.size]) (by simp)).trans KF (fun i hi => by simp at hi; exact .inl (by simp [hi]))))
end
theorem pvalue_known : ∀ (d : Nat), d ≤ 100 → PValKnown d := by
  intro d
  induction d with
  | zero =>
    intro hd w p S X hs hc hS hT
    cases X with
    | inl x => exact pvalue_fault hd hs hS
    | inr y =>
      obtain ⟨s, c⟩ := y
      by_cases hb : begins (skipB s) = true
      · by_cases hm : 4096 < c + 1
        · exact pvalue_many hd hb hm hc hs hS
        · exact pvalue_deep hb hm hc hs hS
      · exact pvalue_dull hd (by simpa using hb) hs hS
  | succ d IH =>
    intro hd w p S X hs hc hS hT
    cases X with
    | inl x => exact pvalue_fault hd hs hS
    | inr y =>
      obtain ⟨s, c⟩ := y
      by_cases hb : begins (skipB s) = true
      · by_cases hm : 4096 < c + 1
        · exact pvalue_many hd hb hm hc hs hS
        · rw [show ((d + 1 : Nat) : Int) = (d : Int) + 1 from by omega]
          exact pvalue_read (by omega) (by exact @IH (by omega)) hT hb hm hc hs hS
      · exact pvalue_dull hd (by simpa using hb) hs hS
end Go.Proofs.YtpbphdkjjoipnaaGreatDoor
namespace Go.Proofs.YtpbphdkjjoipnaaGreatDoor
open Go.RowKit
theorem setCell_same {w : World} {r o : Nat} {c : Array Value} {t : Nat} {f : Nat × Nat} {v : Value} (h : w.heap[r]? = some (.cells c t f)) (hv : c[o]? = some v) : w.setCell ⟨r, o, none⟩ v = w := by
  have hc : c.setIfInBounds o v = c := by
    apply Array.ext_getElem?
    intro i
    rw [Array.getElem?_setIfInBounds]
    split
    · rename_i e
      subst e
      split
      · exact hv.symm
      · rename_i hn
        rw [Array.getElem?_eq_none (by omega)] at hv
        cases hv
    · rfl
  have he : (w.setCell ⟨r, o, none⟩ v).heap = w.heap := by
    apply Array.ext_getElem?
    intro i
    by_cases hi : i = r
    · subst hi
      rw [setCell_heap h v, hc, h]
    · by_cases hl : i < w.heap.size
      · exact ((Kept.refl [r] w).setCell (p := ⟨r, o, none⟩) (.inl (by simp)) v).block i hl (by simp [hi])
      · have hz : (w.setCell ⟨r, o, none⟩ v).heap.size = w.heap.size := by unfold World.setCell; simp
        rw [Array.getElem?_eq_none (by omega), Array.getElem?_eq_none (by omega)]
  show ({ w with heap := (w.setCell ⟨r, o, none⟩ v).heap } : World) = w
  rw [he]
theorem Kept.fresh {X : List Nat} {w w' : World} (h : Kept X w w') (hX : ∀ k, k ∈ X → w.heap.size ≤ k) : Kept [] w w' :=
  ⟨h.os, h.tape, h.output, h.size, fun k hk _ => h.block k hk (fun hx => by have := hX k hx; omega)⟩
def ParseAns (l : List UInt8) (B : Nat) (e : Ending) (w' : World) : Prop :=
  match parseL l with
  | .inl x => (0 < x ∧ x ≤ 1000) ∧ ∃ n : Nat, n ≤ 262144 ∧ e = .returned (.tuple #[.agg zeroA, .int .i64 n, .int .i64 x])
  | .inr v => ∃ cs : List Value, Shape cs ∧ e = .returned (.tuple #[.agg cs.toArray, .int .i64 l.length, .int .i64 0]) ∧ OwnRep 12 B w' cs v
theorem parseAns_bad {l : List UInt8} {B : Nat} {w' : World} {x : Int} {n : Nat} (h : parseL l = .inl x) (hx : 0 < x ∧ x ≤ 1000) (hn : n ≤ 262144) : ParseAns l B (.returned (.tuple #[.agg #[.int .i64 0, .int .i64 0, .string ⟨#[]⟩, .slice none 0 0, .slice none 0 0], .int .i64 n, .int .i64 x])) w' := by
  unfold ParseAns
  rw [h]
  exact ⟨hx, n, hn, rfl⟩
theorem parseAns_ok {l : List UInt8} {B : Nat} {w' : World} {cs : List Value} {v : V 12} (h : parseL l = .inr v) (hc : Shape cs) (ho : OwnRep 12 B w' cs v) : ParseAns l B (.returned (.tuple #[.agg cs.toArray, .int .i64 l.length, .int .i64 0])) w' := by
  unfold ParseAns
  rw [h]
  exact ⟨cs, hc, rfl, ho⟩
section
variable {w : World} {a : Option Addr} {c : Nat} {l : List UInt8}
set_option maxRecDepth 10000 in
set_option maxHeartbeats 1600000 in
theorem parse_long (hl : 262144 < l.length) : Calls Tryz.prog 24 #[.slice a l.length c] w fun e w' => ParseAns l w.heap.size e w' ∧ Kept [] w w' := by
  obtain ⟨W0, HW0⟩ : ∃ W0, Hid (W0 = w.alloc (.cells #[.int .i64 0, .int .i64 0, .string ⟨#[]⟩, .slice none 0 0, .slice none 0 0] 25)) := ⟨_, Lib.hid rfl⟩
  have HK0 : Hid (Kept [] w W0) := Lib.hid (by rw [HW0.out]; exact (Kept.refl [] w).alloc _)
  have HR0 : Hid (ResAt W0 w.heap.size) := Lib.hid (by rw [HW0.out]; exact resAt_new w)
  have hlI : (262144 : Int) < l.length := by omega
  have HX : Hid (parseL l = .inl 3) := Lib.hid (by unfold parseL; rw [if_pos hl])
  clear hl
  go_enter Tryz.func24, Tryz.ntmps24
  go_wp2_with fail
  rw [← HW0.out]
  obtain ⟨⟨d0, d1, d2, d3, d4⟩, -⟩ := HR0.out.facts
  exact bodyPost_ret (v := .tuple #[.agg #[.int .i64 0, .int .i64 0, .string ⟨#[]⟩, .slice none 0 0, .slice none 0 0], .int .i64 0, .int .i64 3]) (by simp [results, Tryz.results24, go_sem, d0, d1, d2, d3, d4]) rfl ⟨parseAns_bad (n := 0) HX.out (by decide) (by decide), HK0.out⟩
theorem parse_eq (hl : l.length ≤ 262144) : parseL l = match pValue 12 l 0 with | .inl e => .inl e | .inr (v, r, _) => if r = [] then .inr v else .inl 50 := by
  unfold parseL
  rw [if_neg (by omega)]
  cases pValue 12 l 0 with
  | inl e => rfl
  | inr y => rfl
set_option maxRecDepth 100000 in
set_option maxHeartbeats 6400000 in
theorem parse_short (hb : Bytes w (.slice a l.length c) l) (ht : Tabs w) (hl : l.length ≤ 262144) : Calls Tryz.prog 24 #[.slice a l.length c] w fun e w' => ParseAns l w.heap.size e w' ∧ Kept [] w w' := by
  obtain ⟨W0, HW0⟩ : ∃ W0, Hid (W0 = w.alloc (.cells #[.int .i64 0, .int .i64 0, .string ⟨#[]⟩, .slice none 0 0, .slice none 0 0] 25)) := ⟨_, Lib.hid rfl⟩
  have HK0 : Hid (Kept [] w W0) := Lib.hid (by rw [HW0.out]; exact (Kept.refl [] w).alloc _)
  have HZ0 : Hid (W0.heap.size = w.heap.size + 1) := Lib.hid (by rw [HW0.out]; simp)
  have HR0 : Hid (ResAt W0 w.heap.size) := Lib.hid (by rw [HW0.out]; exact resAt_new w)
  obtain ⟨W1, HW1⟩ : ∃ W1, Hid (W1 = W0.alloc (.cells #[.string (strB l), .int .i64 0, .int .i64 0, .int .i64 0] 63)) := ⟨_, Lib.hid rfl⟩
  have HK1 : Hid (Kept [] W0 W1) := Lib.hid (by rw [HW1.out]; exact (Kept.refl [] W0).alloc _)
  have HS1 : Hid (PS W1 (w.heap.size + 1) (strB l) 4097 (.inr (l, 0))) := Lib.hid ⟨0, 0, 0, by unfold PAt; rw [HW1.out]; exact block_alloc HZ0.out, Nat.zero_le _, Nat.zero_le _, rfl, by rw [strB_list]; rfl, rfl⟩
  have hS : (strB l).size ≤ 262144 := by rw [strB_size]; exact hl
  have HT1 : Hid (TabsB (w.heap.size + 1) W1) := Lib.hid ⟨w, ht, HK0.out.then HK1.out, by omega⟩
  have CV : Hid (Calls Tryz.prog 49 #[.pointer (some ⟨w.heap.size + 1, 0, none⟩), .int .i64 12] W1 fun e w' => ValAns 12 (.inr (l, 0)) (w.heap.size + 1) (strB l) W1 e w') := Lib.hid (pvalue_known 12 (by decide) HS1.out (Nat.zero_le _) hS HT1.out)
  have hcv := Bytes.toStr (hb.kept0 HK0.out)
  rw [HW0.out] at hcv
  have hlI : (l.length : Int) ≤ 262144 := by omega
  have HPE := Lib.hid (parse_eq hl)
  have HHS := Lib.hid hS
  clear hb ht hl hS
  go_enter Tryz.func24, Tryz.ntmps24
  go_wp2_with fail
  rw [← HW0.out, ← HW1.out]
  clear hcv
  refine CV.out.mono ?_
  rintro e w2 ⟨cs, rfl, ⟨k5, m5, s5, p5, i5, c5, q5, j5, d5, rfl⟩, hk2, hrest⟩
  obtain ⟨W3, HW3⟩ : ∃ W3, Hid (W3 = w2.alloc (.cells #[.int .i64 k5, .int .i64 m5, .string s5, .slice p5 i5 c5, .slice q5 j5 d5] 25)) := ⟨_, Lib.hid rfl⟩
  have HB3 : Hid (W3.heap[w2.heap.size]? = some (.cells #[.int .i64 k5, .int .i64 m5, .string s5, .slice p5 i5 c5, .slice q5 j5 d5] 25 (0, 0))) := Lib.hid (by rw [HW3.out]; exact block_alloc rfl)
  have HK3 : Hid (Kept [] w2 W3) := Lib.hid (by rw [HW3.out]; exact (Kept.refl [] w2).alloc _)
  have HK2 := Lib.hid hk2
  have HKA : Hid (Kept [w.heap.size + 1] W0 W3) := Lib.hid (((HK1.out.mono (by simp)).trans' hk2).then HK3.out)
  have HLT : Hid (w.heap.size + 1 < w2.heap.size) := Lib.hid (by have h1 := hk2.size; have h2 := HS1.out.lt; omega)
  dsimp only at hrest
  clear hk2
  have hpe := HPE.out
  clear HPE
  have hsplit : (∃ x, pValue 12 l 0 = .inl x) ∨ (∃ v r c', pValue 12 l 0 = .inr (v, r, c') ∧ r ≠ []) ∨ ∃ v c', pValue 12 l 0 = .inr (v, [], c') := by
    cases hR : pValue 12 l 0 with
    | inl x => exact .inl ⟨x, rfl⟩
    | inr y =>
      obtain ⟨v, r, c'⟩ := y
      by_cases hr : r = []
      · subst hr; exact .inr (.inr ⟨v, c', rfl⟩)
      · exact .inr (.inl ⟨v, r, c', rfl, hr⟩)
  rcases hsplit with ⟨x, hR⟩ | ⟨v, r, c', hR, hr⟩ | ⟨v, c', hR⟩
  rotate_left 2
  · rw [hR] at hrest hpe
    replace hpe : parseL l = .inr v := hpe.trans (if_pos rfl)
    have HX := Lib.hid hpe
    have HP3 := Lib.hid (PS.kept0 hrest.1 HK3.out)
    have HO := Lib.hid hrest.2
    have CR : Hid (Calls Tryz.prog 50 #[.pointer (some ⟨w.heap.size + 1, 0, none⟩)] W3 fun r w' => r = .returned (.string ⟨#[]⟩) ∧ Kept [] W3 w') := Lib.hid (prest_any HP3.out HHS.out)
    clear hrest hpe hR
    go_wp2_with fail
    rw [← HW3.out]
    refine CR.out.mono ?_
    rintro e w4 ⟨rfl, hk4⟩
    have HK4 := Lib.hid (HKA.out.then hk4)
    have HB4 := Lib.hid (hk4.heap HB3.out (by simp))
    have HK34 := Lib.hid (HK3.out.then hk4)
    obtain ⟨i, q4, hi, hn, -⟩ := (HP3.out.kept0 hk4).open_ok
    have c3 := q4.cells.2.2.2.1
    have x0 := cell_head (o := 0) (v := .int .i64 k5) HB4.out rfl
    have x1 := cell_head (o := 1) (v := .int .i64 m5) HB4.out rfl
    have x2 := cell_head (o := 2) (v := .string s5) HB4.out rfl
    have x3 := cell_head (o := 3) (v := .slice p5 i5 c5) HB4.out rfl
    have x4 := cell_head (o := 4) (v := .slice q5 j5 d5) HB4.out rfl
    have HR4 := Lib.hid (HR0.out.kept HK4.out (by simp))
    obtain ⟨⟨d0, d1, d2, d3, d4⟩, f0, f1, f2, f3, f4⟩ := HR4.out.facts
    clear q4 hk4 hi hn
    go_wp2_with fail
    obtain ⟨WF, e⟩ : ∃ WF, WF = set5 w4 w.heap.size (.int .i64 k5) (.int .i64 m5) (.string s5) (.slice p5 i5 c5) (.slice q5 j5 d5) := ⟨_, rfl⟩
    obtain ⟨KF, y0, y1, y2, y3, y4⟩ := HR4.out.stored e
    unfold set5 at e
    rw [← e]
    have hz1 := HZ0.out
    have hz2 := HK1.out.size
    exact bodyPost_ret (v := .tuple #[.agg #[.int .i64 k5, .int .i64 m5, .string s5, .slice p5 i5 c5, .slice q5 j5 d5], .int .i64 l.length, .int .i64 0]) (by simp [results, Tryz.results24, go_sem, y0, y1, y2, y3, y4]) rfl
      ⟨parseAns_ok (cs := [.int .i64 k5, .int .i64 m5, .string s5, .slice p5 i5 c5, .slice q5 j5 d5]) HX.out ⟨_, _, _, _, _, _, _, _, _, rfl⟩ (HO.out.move ((HK34.out.mono (by simp)).trans' KF) (fun g hg => by simp at hg; omega) (by omega)), (HK0.out.mono (Y := [w.heap.size + 1, w.heap.size]) (by simp)).trans' ((HK4.out.mono (by simp)).trans' (KF.mono (by simp))) |>.fresh (by simp)⟩
  case' inl =>
    rw [hR] at hrest hpe
    have HX : Hid (parseL l = .inl x) := Lib.hid hpe
    have HP3 := Lib.hid (PS.kept0 hrest HK3.out)
    have CR : Hid (Calls Tryz.prog 50 #[.pointer (some ⟨w.heap.size + 1, 0, none⟩)] W3 fun r w' => r = .returned (.string ⟨#[]⟩) ∧ Kept [] W3 w') := Lib.hid (prest_any HP3.out HHS.out)
    clear hrest hpe hR
    go_wp2_with fail
    rw [← HW3.out]
    refine CR.out.mono ?_
    rintro e w4 ⟨rfl, hk4⟩
    have HK4 := Lib.hid (HKA.out.then hk4)
    have HP4 := Lib.hid (HP3.out.kept0 hk4)
    clear hk4
  case' inr.inl =>
    rw [hR] at hrest hpe
    replace hpe : parseL l = .inl 50 := hpe.trans (if_neg hr)
    obtain ⟨x, hx⟩ : ∃ x : Int, 50 = x := ⟨_, rfl⟩
    rw [hx] at hpe
    have HX : Hid (parseL l = .inl x) := Lib.hid hpe
    have HP3 := Lib.hid (PS.kept0 hrest.1 HK3.out)
    have CR := Lib.hid (prest_any HP3.out HHS.out)
    rw [show restX (.inr (r, c')) = r from rfl] at CR
    have hne : strB r ≠ ⟨#[]⟩ := fun e => hr (by have h9 := congrArg (fun s : ByteArray => s.data.toList) e; simpa only [strB_list] using h9)
    obtain ⟨g1, g2⟩ := str_some hne
    have CF : Hid (∀ w1, PS w1 (w.heap.size + 1) (strB l) 4097 (.inr (r, c')) → ∀ i : Nat, i ≤ (strB l).size → Calls Tryz.prog 51 #[.pointer (some ⟨w.heap.size + 1, 0, none⟩), .int .i64 i, .int .i64 50] w1 fun e w2 => e = .returned (.bool false) ∧ PS w2 (w.heap.size + 1) (strB l) 4097 (.inl x) ∧ Kept [w.heap.size + 1] w1 w2) := Lib.hid (fun w1 h i hi => by
      have h9 := pfail_any h i 50 hi (by decide) (by decide)
      rw [← hx]
      exact h9)
    have HX50 := Lib.hid hx
    clear hrest hpe hR hr hne hx
    revert CR g1 g2
    generalize strB r = T
    intro CR g1 g2
    go_wp2_with fail
    rw [← HW3.out]
    refine CR.out.mono ?_
    rintro e w3 ⟨rfl, hk3⟩
    have HK4' := Lib.hid (HKA.out.then hk3)
    have HP4' := Lib.hid (HP3.out.kept0 hk3)
    obtain ⟨i, q4, hi, hn, -⟩ := HP4'.out.open_ok
    have c1 := q4.cells.2.1
    have hiH := Lib.hid hi
    clear q4 hk3 hi hn
    go_wp2_with fail
    refine (CF.out _ HP4'.out i hiH.out).mono ?_
    rintro e w4 ⟨rfl, hp4, hk4⟩
    have HK4 := Lib.hid (HK4'.out.trans' hk4)
    have HP4 := Lib.hid hp4
    clear hp4 hk4 c1 g1 g2
  all_goals
    obtain ⟨i, n, q4, hi, hn, hx0, hx1⟩ := HP4.out.open_bad
    have hi2 := HHS.out
    have HI : Hid (i ≤ 262144) := Lib.hid (by omega)
    have HXX : Hid (0 < x ∧ x ≤ 1000) := Lib.hid ⟨hx0, hx1⟩
    have e1 := ext_cell q4.cells.2.1
    have e3 := ext_cell q4.cells.2.2.2.1
    have c3 := q4.cells.2.2.2.1
    obtain ⟨g1, g2⟩ := int_ne (a := x) (b := 0) (by omega)
    have hr4 := HR0.out.kept HK4.out (by simp)
    have s0 : ∀ z : Ext w4, z.w.setCell ⟨w.heap.size, 0, none⟩ (.int .i64 0) = z.w := fun z => setCell_same (z.k.heap hr4 (by simp)) rfl
    have s1 : ∀ z : Ext w4, z.w.setCell ⟨w.heap.size, 1, none⟩ (.int .i64 0) = z.w := fun z => setCell_same (z.k.heap hr4 (by simp)) rfl
    have s2 : ∀ z : Ext w4, z.w.setCell ⟨w.heap.size, 2, none⟩ (.string ⟨#[]⟩) = z.w := fun z => setCell_same (z.k.heap hr4 (by simp)) rfl
    have s3 : ∀ z : Ext w4, z.w.setCell ⟨w.heap.size, 3, none⟩ (.slice none 0 0) = z.w := fun z => setCell_same (z.k.heap hr4 (by simp)) rfl
    have s4 : ∀ z : Ext w4, z.w.setCell ⟨w.heap.size, 4, none⟩ (.slice none 0 0) = z.w := fun z => setCell_same (z.k.heap hr4 (by simp)) rfl
    have HR4 := Lib.hid hr4
    clear hr4 q4 hi2 hi hn hx0 hx1
    go_wp2_with fail
    refine wp_region_ext w4 (by kernel_rfl) (by kernel_rfl) (Kept.refl _ _) ?_
    clear c3
    repeat go_big_quiet_step (fail)
    refine wpQuiet_step (fun K hK => ?_)
    rw [if_pos (by kernel_rfl)]
    refine ⟨undef, ?_, hK _ ?_⟩
    · rintro _ ⟨z, rfl⟩
      have hz := z.k.heap HR4.out (by simp)
      have x0 := cell_head (o := 0) (v := .int .i64 0) hz rfl
      have y0 := free_head (o := 0) hz
      have x1 := cell_head (o := 1) (v := .int .i64 0) hz rfl
      have y1 := free_head (o := 1) hz
      have x2 := cell_head (o := 2) (v := .string ⟨#[]⟩) hz rfl
      have y2 := free_head (o := 2) hz
      have x3 := cell_head (o := 3) (v := .slice none 0 0) hz rfl
      have y3 := free_head (o := 3) hz
      have x4 := cell_head (o := 4) (v := .slice none 0 0) hz rfl
      have y4 := free_head (o := 4) hz
      unfold Oper.quietAt
      go_simp
    clear hK K
    dsimp only [Act.put]
    repeat go_big_quiet_step (fail)
    refine wpQuiet_nil ?_
    intro w5 hk5
    clear s0 s1 s2 s3 s4 e1 e3
    go_wp2_with fail
    obtain ⟨y0, y1, y2, y3, y4⟩ := (HR4.out.kept hk5 (by simp)).facts.1
    exact bodyPost_ret (v := .tuple #[.agg #[.int .i64 0, .int .i64 0, .string ⟨#[]⟩, .slice none 0 0, .slice none 0 0], .int .i64 i, .int .i64 x]) (by simp [results, Tryz.results24, go_sem, y0, y1, y2, y3, y4]) rfl
      ⟨parseAns_bad HX.out HXX.out HI.out, (HK0.out.mono (Y := [w.heap.size + 1]) (by simp)).trans' (HK4.out.then hk5) |>.fresh (by simp)⟩
theorem parse_any (hb : Bytes w (.slice a l.length c) l) (ht : Tabs w) : Calls Tryz.prog 24 #[.slice a l.length c] w fun e w' => ParseAns l w.heap.size e w' ∧ Kept [] w w' := by
  by_cases h : l.length ≤ 262144
  · exact parse_short hb ht h
  · exact parse_long (by omega)
end
end Go.Proofs.YtpbphdkjjoipnaaGreatDoor
namespace Go.Proofs.YtpbphdkjjoipnaaGreatDoor
open Go.RowKit
def DecAns (l : List UInt8) (B : Nat) (e : Ending) (w' : World) : Prop :=
  match decV l with
  | .inl x => (0 < x ∧ x ≤ 1000) ∧ e = .returned (.tuple #[.agg zeroA, .int .i64 x])
  | .inr v => ∃ cs : List Value, Shape cs ∧ e = .returned (.tuple #[.agg cs.toArray, .int .i64 0]) ∧ OwnRep 12 B w' cs v
theorem decAns_bad {l : List UInt8} {B : Nat} {w' : World} {x : Int} (h : decV l = .inl x) (hx : 0 < x ∧ x ≤ 1000) : DecAns l B (.returned (.tuple #[.agg #[.int .i64 0, .int .i64 0, .string ⟨#[]⟩, .slice none 0 0, .slice none 0 0], .int .i64 x])) w' := by
  unfold DecAns
  rw [h]
  exact ⟨hx, rfl⟩
theorem decAns_ok {l : List UInt8} {B : Nat} {w' : World} {cs : List Value} {v : V 12} (h : decV l = .inr v) (hc : Shape cs) (ho : OwnRep 12 B w' cs v) : DecAns l B (.returned (.tuple #[.agg cs.toArray, .int .i64 0])) w' := by
  unfold DecAns
  rw [h]
  exact ⟨cs, hc, rfl, ho⟩
theorem parse_small {l : List UInt8} {v : V 12} (h : parseL l = .inr v) : Small 12 v := by
  obtain ⟨-, h2, h3, h4⟩ := parse_facts h
  exact ⟨by omega, by omega⟩
theorem dec_parse {l : List UInt8} {x : Int} (h : parseL l = .inl x) : decV l = .inl x := by unfold decV; rw [h]
theorem dec_yes {l : List UInt8} {v : V 12} (h : parseL l = .inr v) (h2 : encV 12 v = (l, 0)) : decV l = .inr v := by unfold decV; rw [h]; exact if_pos h2
theorem dec_no {l : List UInt8} {v : V 12} (h : parseL l = .inr v) (h2 : encV 12 v ≠ (l, 0)) : decV l = .inl 60 := by unfold decV; rw [h]; exact if_neg h2
section
variable {w : World} {a : Option Addr} {c : Nat} {l : List UInt8}
set_option maxRecDepth 100000 in
set_option maxHeartbeats 6400000 in
theorem decode_any (hb : Bytes w (.slice a l.length c) l) (ht : Tabs w) : Calls Tryz.prog 17 #[.slice a l.length c] w fun e w' => DecAns l w.heap.size e w' ∧ Kept [] w w' := by
  obtain ⟨W0, HW0⟩ : ∃ W0, Hid (W0 = w.alloc (.cells #[.int .i64 0, .int .i64 0, .string ⟨#[]⟩, .slice none 0 0, .slice none 0 0] 25)) := ⟨_, Lib.hid rfl⟩
  have HK0 : Hid (Kept [] w W0) := Lib.hid (by rw [HW0.out]; exact (Kept.refl [] w).alloc _)
  have HZ0 : Hid (W0.heap.size = w.heap.size + 1) := Lib.hid (by rw [HW0.out]; simp)
  have HR0 : Hid (ResAt W0 w.heap.size) := Lib.hid (by rw [HW0.out]; exact resAt_new w)
  have CP := Lib.hid (parse_any (hb.kept0 HK0.out) (ht.kept0 HK0.out))
  have HT0 := Lib.hid (ht.kept0 HK0.out)
  have HB0 := Lib.hid (hb.kept0 HK0.out)
  clear hb ht
  go_enter Tryz.func17, Tryz.ntmps17
  go_wp2_with fail
  rw [← HW0.out]
  refine CP.out.mono ?_
  rintro e w1 ⟨ha, hk1⟩
  have HK1 := Lib.hid hk1
  have hw1 : w.heap.size < w1.heap.size := by have := hk1.size; have := HZ0.out; omega
  clear hk1
  unfold ParseAns at ha
  cases hp : parseL l with
  | inl x =>
    rw [hp] at ha
    obtain ⟨hx, n, hn, rfl⟩ := ha
    have HD := Lib.hid (dec_parse hp)
    have HXX := Lib.hid hx
    unfold zeroA
    obtain ⟨g1, g2⟩ := int_ne (a := x) (b := 0) (by omega)
    have HR1 := Lib.hid (HR0.out.kept HK1.out (by simp))
    obtain ⟨⟨d0, d1, d2, d3, d4⟩, f0, f1, f2, f3, f4⟩ := HR1.out.facts
    clear hp hx
    go_wp2_with fail
    obtain ⟨WF, e⟩ : ∃ WF, WF = set5 w1 w.heap.size (.int .i64 0) (.int .i64 0) (.string ⟨#[]⟩) (.slice none 0 0) (.slice none 0 0) := ⟨_, rfl⟩
    obtain ⟨KF, y0, y1, y2, y3, y4⟩ := HR1.out.stored e
    unfold set5 at e
    rw [← e]
    have KG : Kept [] WF (WF.alloc (.cells #[.int .i64 0, .int .i64 0, .string ⟨#[]⟩, .slice none 0 0, .slice none 0 0] 25)) := (Kept.refl [] WF).alloc _
    have z0 := KG.cell y0 (by simp)
    have z1 := KG.cell y1 (by simp)
    have z2 := KG.cell y2 (by simp)
    have z3 := KG.cell y3 (by simp)
    have z4 := KG.cell y4 (by simp)
    exact bodyPost_ret (v := .tuple #[.agg #[.int .i64 0, .int .i64 0, .string ⟨#[]⟩, .slice none 0 0, .slice none 0 0], .int .i64 x]) (by simp [results, Tryz.results17, go_sem, z0, z1, z2, z3, z4]) rfl ⟨decAns_bad HD.out HXX.out, ((HK0.out.mono (Y := [w.heap.size]) (by simp)).trans' (((HK1.out.mono (by simp)).trans' KF).then KG)).fresh (by simp)⟩
  | inr v =>
    rw [hp] at ha
    obtain ⟨cs, ⟨k5, m5, s5, p5, i5, c5, q5, j5, d5, rfl⟩, rfl, ho⟩ := ha
    obtain ⟨W2, HW2⟩ : ∃ W2, Hid (W2 = w1.alloc (.cells #[.int .i64 k5, .int .i64 m5, .string s5, .slice p5 i5 c5, .slice q5 j5 d5] 25)) := ⟨_, Lib.hid rfl⟩
    have HK12 : Hid (Kept [] w1 W2) := Lib.hid (by rw [HW2.out]; exact (Kept.refl [] w1).alloc _)
    have HK2 := Lib.hid (HK1.out.then HK12.out)
    have HB2 : Hid (W2.heap[w1.heap.size]? = some (.cells #[.int .i64 k5, .int .i64 m5, .string s5, .slice p5 i5 c5, .slice q5 j5 d5] 25 (0, 0))) := Lib.hid (by rw [HW2.out]; exact block_alloc rfl)
    have HO := Lib.hid ho
    have CE := Lib.hid (encode_any (ho.rep.kept0 HK12.out) (parse_small hp) (by decide) (HT0.out.kept0 HK2.out))
    have HY := Lib.hid (dec_yes hp)
    have HN := Lib.hid (dec_no hp)
    clear ho hp
    go_wp2_with fail
    rw [← HW2.out]
    refine CE.out.mono ?_
    rintro e w3 ⟨⟨a3, c3, rfl, hb3⟩, hk3⟩
    have HK3 := Lib.hid (HK2.out.then hk3)
    have HB3 := Lib.hid hb3
    have HB3' := Lib.hid (hk3.heap HB2.out (by simp))
    have HK13 := Lib.hid (HK12.out.then hk3)
    clear hb3 hk3
    obtain ⟨E1, E2, hE⟩ : ∃ E1 E2, encV 12 v = (E1, E2) := ⟨_, _, rfl⟩
    rw [hE] at HB3 HY HN
    simp only [hE] at *
    have HRX := Lib.hid (HR0.out.kept HK3.out (by simp))
    obtain ⟨⟨d0, d1, d2, d3, d4⟩, f0, f1, f2, f3, f4⟩ := HRX.out.facts
    by_cases h2 : E2 = 0
    rotate_left
    · have HD := Lib.hid (HN.out (fun e => h2 (Prod.mk.inj e).2))
      obtain ⟨g1, g2⟩ := int_ne h2
      clear h2
      go_wp2_with fail
      obtain ⟨WF, e⟩ : ∃ WF, WF = set5 w3 w.heap.size (.int .i64 0) (.int .i64 0) (.string ⟨#[]⟩) (.slice none 0 0) (.slice none 0 0) := ⟨_, rfl⟩
      obtain ⟨KF, y0, y1, y2, y3, y4⟩ := HRX.out.stored e
      unfold set5 at e
      rw [← e]
      exact bodyPost_ret (v := .tuple #[.agg #[.int .i64 0, .int .i64 0, .string ⟨#[]⟩, .slice none 0 0, .slice none 0 0], .int .i64 60]) (by simp [results, Tryz.results17, go_sem, y0, y1, y2, y3, y4]) rfl ⟨decAns_bad HD.out (by decide), ((HK0.out.mono (Y := [w.heap.size]) (by simp)).trans' ((HK3.out.mono (by simp)).trans' KF)).fresh (by simp)⟩
    subst h2
    have CQ := Lib.hid (libEqual (HB0.out.kept0 HK3.out) HB3.out)
    go_wp2_with fail
    refine CQ.out.mono ?_
    rintro e w4 ⟨rfl, rfl⟩
    by_cases h3 : l = E1
    rotate_left
    · have HD := Lib.hid (HN.out (fun e => h3 (Prod.mk.inj e).1.symm))
      rw [decide_eq_false h3]
      clear h3
      go_wp2_with fail
      obtain ⟨WF, e⟩ : ∃ WF, WF = set5 w3 w.heap.size (.int .i64 0) (.int .i64 0) (.string ⟨#[]⟩) (.slice none 0 0) (.slice none 0 0) := ⟨_, rfl⟩
      obtain ⟨KF, y0, y1, y2, y3, y4⟩ := HRX.out.stored e
      unfold set5 at e
      rw [← e]
      exact bodyPost_ret (v := .tuple #[.agg #[.int .i64 0, .int .i64 0, .string ⟨#[]⟩, .slice none 0 0, .slice none 0 0], .int .i64 60]) (by simp [results, Tryz.results17, go_sem, y0, y1, y2, y3, y4]) rfl ⟨decAns_bad HD.out (by decide), ((HK0.out.mono (Y := [w.heap.size]) (by simp)).trans' ((HK3.out.mono (by simp)).trans' KF)).fresh (by simp)⟩
    have HD := Lib.hid (HY.out (by rw [h3]))
    rw [decide_eq_true h3]
    clear h3
    have x0 := cell_head (o := 0) (v := .int .i64 k5) HB3'.out rfl
    have x1 := cell_head (o := 1) (v := .int .i64 m5) HB3'.out rfl
    have x2 := cell_head (o := 2) (v := .string s5) HB3'.out rfl
    have x3 := cell_head (o := 3) (v := .slice p5 i5 c5) HB3'.out rfl
    have x4 := cell_head (o := 4) (v := .slice q5 j5 d5) HB3'.out rfl
    go_wp2_with fail
    obtain ⟨WF, e⟩ : ∃ WF, WF = set5 w3 w.heap.size (.int .i64 k5) (.int .i64 m5) (.string s5) (.slice p5 i5 c5) (.slice q5 j5 d5) := ⟨_, rfl⟩
    obtain ⟨KF, y0, y1, y2, y3, y4⟩ := HRX.out.stored e
    unfold set5 at e
    rw [← e]
    have hz := HZ0.out
    exact bodyPost_ret (v := .tuple #[.agg #[.int .i64 k5, .int .i64 m5, .string s5, .slice p5 i5 c5, .slice q5 j5 d5], .int .i64 0]) (by simp [results, Tryz.results17, go_sem, y0, y1, y2, y3, y4]) rfl
      ⟨decAns_ok (cs := [.int .i64 k5, .int .i64 m5, .string s5, .slice p5 i5 c5, .slice q5 j5 d5]) HD.out ⟨_, _, _, _, _, _, _, _, _, rfl⟩ (HO.out.move ((HK13.out.mono (by simp)).trans' KF) (fun g hg => by simp at hg; omega) (by omega)), ((HK0.out.mono (Y := [w.heap.size]) (by simp)).trans' ((HK3.out.mono (by simp)).trans' KF)).fresh (by simp)⟩
end
end Go.Proofs.YtpbphdkjjoipnaaGreatDoor
