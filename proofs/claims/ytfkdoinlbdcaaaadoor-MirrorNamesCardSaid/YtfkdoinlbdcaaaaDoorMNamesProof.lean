/- For every version, name, target and flag, MirrorNames returns true, and its arguments read as they did. No condition (package variables start as the text lays them). -/
import Derived.Test.YtfkdoinlbdcaaaaDoorMNamesW
import Derived.Test.YtfkdoinlbdcaaaaDoorMArgs
import Derived.Test.YtfkdoinlbdcaaaaDoorRows
import Derived.Test.YtfkdoinlbdcaaaaDoorCards
import Derived.Test.YtfkdoinlbdcaaaaDoorTie
import Derived.ProofKit
import Derived.LaidMore
import Derived.OpenShut
import Derived.ShutString
import Derived.ChangeOld
import Derived.Below
import Derived.Stop.Joined
import Derived.Stop.LaidErr
import Derived.MakeChecks
import Derived.SizedLaws
import Derived.Lib.LaidTab
import Derived.SevenTiedAt
namespace Go.Proofs.YtfkdoinlbdcaaaaDoor
open Go.ChangeMaps (open_string shut_string)
open Go.ChangeShapes Go.WideShapes Go.ChangeAt Go.RowKit Go.WideMaps Go.WideElems
namespace MNames
set_option linter.unusedVariables false
theorem own : ownKnob Tryd.prog.godebug = none := by kernel_rfl
theorem laidOut : laidOutB Tryd.prog = true := by kernel_rfl
theorem list_three {α : Type} {l : List α} (h : l.length = 3) : ∃ a b c, l = [a, b, c] := by
  match l, h with
  | [a, b, c], _ => exact ⟨a, b, c, rfl⟩
theorem bounds_i64 {i : Int} (h : (Lit.int .i64 i).wf = true) : -9223372036854775808 ≤ i ∧ i ≤ 9223372036854775807 := by
  have e0 : IntKind.i64.min = -9223372036854775808 := by decide
  have e1 : IntKind.i64.max = 9223372036854775807 := by decide
  change (decide (IntKind.i64.min ≤ i) && decide (i ≤ IntKind.i64.max)) = true at h
  rw [e0, e1, Bool.and_eq_true, decide_eq_true_eq, decide_eq_true_eq] at h
  exact h
theorem target_weights {H : Type} (a b : List UInt8) (k : Int) : DataW.weights (H := H) Tryd.prog 37 (.agg [.lit (.string a), .lit (.int .i64 k), .lit (.string b)]) = [a.length, b.length] := by
  simp [DataW.weights, DataW.weightsEach, Tryd.underlying37]
theorem trod_target {H : Type} {enc : TypeId × Value → H} {w : World} {held : Bool} {fuel : Nat} {cs : Array Value} {x : DataW H} {ps : List MemPlace} (h : DataW.trod enc Tryd.prog w 0 (fun _ => true) held fuel 37 (Value.agg cs).cells.toList = some (x, ps)) :
    ∃ (p : ByteArray) (n : Int) (q : ByteArray), cs = #[.string p, .int .i64 n, .string q] ∧ x = .agg [.lit (.string p.data.toList), .lit (.int .i64 n), .lit (.string q.data.toList)] := by
  obtain ⟨xs, n, _, hx, hl, hlen, hf⟩ := DataW.trod_struct Tryd.underlying37 h
  rw [show Tryd.prog.cellsOf 37 = 3 by kernel_rfl] at hl
  obtain ⟨c0, c1, c2, hc⟩ := list_three hl
  rw [hc] at hf
  obtain ⟨y0, y1, y2, rfl⟩ := list_three hlen
  have h0 : DataW.trod enc Tryd.prog w 0 (fun _ => true) held n 9 (([c0, c1, c2].drop 0).take (Tryd.prog.cellsOf 9)) = some y0 := hf 0 _ rfl
  have h1 : DataW.trod enc Tryd.prog w 0 (fun _ => true) held n 3 (([c0, c1, c2].drop 1).take (Tryd.prog.cellsOf 3)) = some y1 := hf 1 _ rfl
  have h2 : DataW.trod enc Tryd.prog w 0 (fun _ => true) held n 9 (([c0, c1, c2].drop 2).take (Tryd.prog.cellsOf 9)) = some y2 := hf 2 _ rfl
  rw [cellsStr] at h0 h2
  rw [cellsInt] at h1
  obtain ⟨s, e0, f0, w0⟩ := DataW.trod_string Tryd.underlying9 (x := y0) h0
  obtain ⟨i, e1, f1, w1⟩ := DataW.trod_int Tryd.underlying3 (x := y1) h1
  obtain ⟨s2, e2, f2, w2⟩ := DataW.trod_string Tryd.underlying9 (x := y2) h2
  simp at e0 e1 e2
  refine ⟨s, i, s2, ?_, ?_⟩
  · have : (Value.agg cs).cells = cs := by simp [Value.cells]
    rw [this, e0, e1, e2] at hc
    exact Array.toList_inj.1 (by rw [hc])
  · have := congrArg Prod.fst hx
    simpa [f0, f1, f2] using this
def laid3 : List (String × DataW Unit) := [("math/bits.deBruijn32tab", Rows.laid_math_bits_deBruijn32tab), ("math/bits.deBruijn64tab", Rows.laid_math_bits_deBruijn64tab), ("internal/strconv.uint64pow10", Rows.laid_internal_strconv_uint64pow10)]
/-- The door's own heap meets the condition. -/
theorem door_met (os : Os) (args : Array Value) : laidMetH Tryd.prog laid3 ((World.doorLaid Tryd.prog 2000 os).forCall (fun _ _ => 0) ⟨#[], args, []⟩).memory :=
  laidMetH_of_parts3 (fuel := 8) (laidMet_of_run' 8 (by kernel_rfl) (by kernel_rfl)) (by kernel_rfl) (by kernel_rfl)

set_option maxRecDepth 100000 in
theorem lifted (os : Os) (started : os.Started) (H : Type) (enc : TypeId × Value → H) :
    ReturnsInHanded {} Tryd.checked os 4 .any (fun w args => (Rows.mirrorNamesSpec.pre enc Tryd.prog Tryd.f4 [] false w args ∧ laidMetH Tryd.prog laid3 w) ∧ sizedMet enc Tryd.prog Tryd.f4 (OpenSpec.ofChange Rows.mirrorNamesSpec) false w args)
      (Rows.mirrorNamesSpec.post enc Tryd.prog Tryd.f4 false true false false) := by
  refine returnsInHanded_of_change_and (C := Tryd.checked) (X := fun w _ => laidMetH Tryd.prog laid3 w) (fun _ _ _ hh h => h.of_heap hh) own started (by kernel_rfl) Tryd.func4
    (ChangeSpec.witness_shaped (enc := enc) (C := Tryd.checked) (os := os) (X := fun w _ => laidMetH Tryd.prog laid3 w) false (World.doorLaid Tryd.prog 2000 os) #[.int .i64 0, .string ⟨#[]⟩, .agg #[.string ⟨#[]⟩, .int .i64 0, .string ⟨#[]⟩], .bool false] 8 rfl (World.shaped_of_RefB (by kernel_rfl) (by kernel_rfl)) (by kernel_rfl) (by kernel_rfl) (by kernel_rfl) (door_met os _)) ?_
  intro W base args ds gs before hval0 hW _ hsz0 hL _
  have hval : ∀ (j : Nat) t v, Tryd.f4.params[j]? = some t → args[j]? = some v → Value.okWide Tryd.prog W .any base t v := hval0
  have hW' := hW
  obtain ⟨p, q, hA0, hV, rfl, hfz, hnd⟩ := hW
  have hA : DataW.TrodAll enc Tryd.prog W 0 (fun _ => true) true Tryd.f4.params.toList args.toList ds p := hA0
  rw [Tryd.params4] at hA hval hsz0
  obtain ⟨v0, vs0, d0, ds0, p0, q0, hargs, rfl, rfl, h0, r0⟩ := trodAll_cons hA
  obtain ⟨v1, vs1, d1, ds1, p1, q1, rfl, rfl, rfl, h1, r1⟩ := trodAll_cons r0
  obtain ⟨v2, vs2, d2, ds2, p2, q2, rfl, rfl, rfl, h2, r2⟩ := trodAll_cons r1
  obtain ⟨v3, vs3, d3, ds3, p3, q3, rfl, rfl, rfl, h3, r3⟩ := trodAll_cons r2
  obtain ⟨rfl, rfl, rfl⟩ := trodAll_nil r3
  obtain rfl : args = #[v0, v1, v2, v3] := by cases args; simp_all
  obtain ⟨rfl, rfl⟩ := trodVars_none hV
  obtain ⟨x0, rfl, rfl, rfl, o0⟩ := open_int Tryd.underlying3 (hval 0 3 v0 rfl rfl) h0
  obtain ⟨s1, rfl, rfl, rfl, o1⟩ := open_string Tryd.underlying9 (hval 1 9 v1 rfl rfl) h1
  obtain ⟨x3, rfl, rfl, rfl⟩ := open_bool Tryd.underlying4 (hval 3 4 v3 rfl rfl) h3
  have k2 := h2
  have lt2 : ∀ x ∈ p2, x.block < W.heap.size := by obtain ⟨m, hm⟩ := k2; exact DataW.trod_lt m _ _ _ hm
  obtain ⟨cs2, rfl, hsz⟩ := okWide_struct Tryd.underlying37 (hval 2 37 v2 rfl rfl)
  obtain ⟨pp, ln, hh, hcs, hd2⟩ : ∃ (pp : ByteArray) (ln : Int) (hh : ByteArray), cs2 = #[.string pp, .int .i64 ln, .string hh] ∧ d2 = .agg [.lit (.string pp.data.toList), .lit (.int .i64 ln), .lit (.string hh.data.toList)] := by
    obtain ⟨fuel, hf⟩ := h2
    exact trod_target hf
  subst hcs
  subst hd2
  have z1 := sized_string hsz0 (j := 1) (t := 9) rfl rfl
  have zp := List.all_eq_true.1 hsz0 _ (DataW.weights_mem_each (ts := _) (j := 2) (t := 37) rfl rfl pp.data.toList.length (by change _ ∈ DataW.weights Tryd.prog 37 _; rw [target_weights]; simp))
  have zh := List.all_eq_true.1 hsz0 _ (DataW.weights_mem_each (ts := _) (j := 2) (t := 37) rfl rfl hh.data.toList.length (by change _ ∈ DataW.weights Tryd.prog 37 _; rw [target_weights]; simp))
  have hrb := reachBytes_lt
  have y1 : s1.size ≤ 281474976710656 := by have e : s1.size = s1.data.toList.length := by rw [Array.length_toList]; rfl
                                            rw [e]; omega
  have yp : pp.size ≤ 281474976710656 := by have e : pp.size = pp.data.toList.length := by rw [Array.length_toList]; rfl
                                            simp only [decide_eq_true_eq] at zp
                                            rw [e]; omega
  have yh : hh.size ≤ 281474976710656 := by have e : hh.size = hh.data.toList.length := by rw [Array.length_toList]; rfl
                                            simp only [decide_eq_true_eq] at zh
                                            rw [e]; omega
  have htab : Tab W := by
    rw [MakeChecks.laidMetH_plain _ _ _ (by kernel_rfl)] at hL
    have h3 := hL.tail.tail
    have e : (Rows.laid_internal_strconv_uint64pow10 : DataW Unit) = Lib.tabData .u64 Lib.pow10Tab := by kernel_rfl
    rw [e] at h3
    exact Lib.tabIs_of_head gTab (by kernel_rfl) Tryd.underlying101 Tryd.underlying83 (by kernel_rfl) (by kernel_rfl) h3
  have hb0 := bounds_i64 o0
  clear hA0 hval0
  refine (names_any x0 hb0.1 hb0.2 s1 pp hh ln x3 y1 yp yh W htab).mono fun e W' ⟨he, bel0⟩ => ?_
  have bel := bel0.below (Nat.le_refl _) (by simp)
  subst he
  exact ⟨_, rfl, _, _, _, [], _, [], hW', trodAll_mk1 (shut_bool Tryd.underlying4 _), (trodAll_cons_mk (shut_int Tryd.underlying3 o0) (trodAll_cons_mk (shut_string Tryd.underlying9 o1) (trodAll_cons_mk (Below.trod laidOut (by kernel_rfl) (of_decide_eq_true (by kernel_rfl)) k2 bel lt2) (trodAll_cons_mk (shut_bool Tryd.underlying4 x3) trodAll_mk0)))), rfl, bel.frame _, fun h => by cases h⟩

theorem over : Rows.mirrorNamesRow.holds Tryd.pinned (OpenSpec.ofChange Rows.mirrorNamesSpec) :=
  OpenClaim.holds_of_wide 4 Tryd.f4 rfl rfl rfl rfl rfl rfl rfl ⟨rfl, rfl, rfl, rfl, rfl⟩ rfl rfl rfl rfl rfl (by kernel_rfl) Tryd.func4 (by kernel_rfl)
    (of_decide_eq_true (by kernel_rfl)) (by unfold Func.isWrapper; first | (rw [if_pos (by decide +kernel)]; kernel_rfl) | (rw [if_neg (by decide +kernel)]; exact ⟨rfl, rfl⟩))
    (fun os started H enc _ => lifted os started H enc)

theorem card : Claim7.holds Tryd.pinned (.plain (OpenSpec.ofChange Rows.mirrorNamesSpec)) Rows.mirrorNamesCard :=
  Claim7.holds_tied_plain_at .later [] [.data, .data, .data] true (true, "e63ae6af4b3efa1863887e85de4aaeca493f818ab4f3d56fe97cdf85911095d2") false
    over (fun _ h => by cases h) (by kernel_rfl) (fun _ h => by cases h) mirrorNames_row_tie rfl ⟨rfl, rfl⟩ (by kernel_rfl) rfl
    (fun f fn hf hfn => by
      obtain rfl : f = 4 := Option.some.inj ((show Tryd.prog.funcNamed "pursuivant/pursuivantlaw24.MirrorNames" = some 4 by kernel_rfl).symm.trans hf) |>.symm
      obtain rfl : fn = Tryd.f4 := (Option.some.inj (Tryd.func4.symm.trans hfn)).symm
      exact ⟨by kernel_rfl, fun j t ht => by
        rw [Tryd.params4] at ht
        have hm : t ∈ [3, 9, 37, 4] := by simpa using Array.mem_of_getElem? ht
        have hall : ([3, 9, 37, 4].all fun u => !Tryd.prog.wantsStandIn u) = true := by kernel_rfl
        exact (show Tryd.prog.wantsStandIn t = false by simpa using List.all_eq_true.1 hall t hm)⟩)
    (by kernel_rfl)
end MNames

/-- The given statement. -/
theorem mirrorNames_holds : Rows.MirrorNamesCardSaid := MNames.card
#print axioms mirrorNames_holds
end Go.Proofs.YtfkdoinlbdcaaaaDoor
