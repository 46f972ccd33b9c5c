/- Parts of one proof, merged: XTb XHb. -/
import Derived.Test.YtckbnjipecclaaaGreatDoorHkI
import Derived.Test.YtckbnjipecclaaaGreatDoorHkE
import Derived.Test.YtckbnjipecclaaaGreatDoorRows
import Derived.LaidMore
import Derived.Stop.LaidErr
import Derived.MakeChecks
import Derived.Lib.LaidTab
import Derived.Lib.LaidU8T
import Derived.PinnedBridge
import Derived.Test.YtckbnjipecclaaaGreatDoorHkAH
import Derived.Handed
set_option linter.all false
set_option maxHeartbeats 12800000
set_option maxRecDepth 10000
set_option linter.unusedVariables false
set_option linter.unusedSimpArgs false
set_option linter.unnecessarySimpa false
namespace Go.Proofs.YtckbnjipecclaaaGreatDoor
open Go.RowKit
def laid6 : List (String × DataW Unit) := [("math/bits.deBruijn32tab", Rows.laid_math_bits_deBruijn32tab), ("math/bits.deBruijn64tab", Rows.laid_math_bits_deBruijn64tab), ("internal/strconv.uint64pow10", Rows.laid_internal_strconv_uint64pow10), ("unicode/utf8.acceptRanges", Rows.laid_unicode_utf8_acceptRanges), ("pursuivant/sha.constants", Rows.laid_pursuivant_sha_constants), ("unicode/utf8.first", Rows.laid_unicode_utf8_first)]
theorem gPow : Tryz.prog.globalNamed "internal/strconv.uint64pow10" = some 4 := by kernel_rfl
theorem gKs : Tryz.prog.globalNamed "pursuivant/sha.constants" = some 2 := by kernel_rfl
theorem first_eq : Rows.laid_unicode_utf8_first = Lib.firstData := Pinned.utf8First_eq
theorem accept_eq : Rows.laid_unicode_utf8_acceptRanges = Lib.acceptData := by kernel_rfl
theorem pow_eq : (Rows.laid_internal_strconv_uint64pow10 : DataW Unit) = Lib.tabData .u64 Lib.pow10Tab := by kernel_rfl
theorem ks_eq : (Rows.laid_pursuivant_sha_constants : DataW Unit) = Lib.tabData .u32 KS := by kernel_rfl
theorem tabs_of_laid {W : World} (hL : laidMetH Tryz.prog laid6 W) : Tabs W := by
 rw [MakeChecks.laidMetH_plain _ _ _ (by kernel_rfl)] at hL
 have r1 : ("unicode/utf8.first", Lib.firstData) ∈ laid6 := by rw [← first_eq]; simp [laid6]
 have r2 : ("unicode/utf8.acceptRanges", Lib.acceptData) ∈ laid6 := by rw [← accept_eq]; simp [laid6]
 refine ⟨utf8Tabs_of_readsT (U8Types.of260 { Tryz.shDecode with }) ⟨by kernel_rfl, by kernel_rfl, by kernel_rfl, by kernel_rfl, by kernel_rfl, by kernel_rfl, by kernel_rfl⟩ (Lib.laidMet.reads hL r1) (Lib.laidMet.reads hL r2), ?_⟩
 have h3 := hL.tail.tail
 rw [show (Rows.laid_internal_strconv_uint64pow10 : DataW Unit) = Lib.tabData .u64 Lib.pow10Tab from pow_eq] at h3
 exact Lib.tabIs_of_head gPow (by kernel_rfl) Tryz.underlying262 Tryz.underlying225 (by kernel_rfl) (by kernel_rfl) h3
theorem ksIs_of_laid {W : World} (hL : laidMetH Tryz.prog laid6 W) : Lib.TabIs Tryz.prog W "pursuivant/sha.constants" .u32 KS := by
 rw [MakeChecks.laidMetH_plain _ _ _ (by kernel_rfl)] at hL
 have h3 := hL.tail.tail.tail.tail
 rw [show (Rows.laid_pursuivant_sha_constants : DataW Unit) = Lib.tabData .u32 KS from ks_eq] at h3
 exact Lib.tabIs_of_head gKs (by kernel_rfl) Tryz.underlying179 Tryz.underlying139 (by kernel_rfl) (by kernel_rfl) h3
theorem ks_of_laid {W : World} (hL : laidMetH Tryz.prog laid6 W) : KsAt W := by
 have h := ksIs_of_laid hL
 unfold Lib.TabIs World.var? at h
 rw [gKs] at h
 simp only [Option.bind_some] at h
 split at h
 ·rename_i cs t f hb
  have hc := Option.some.inj h
  subst hc
  intro j v hv
  rw [Nat.zero_add]
  refine cell_head hb ?_
  rw [List.getElem?_toArray]
  have e : wordsL KS 0 = KS.map (fun z => Value.int .u32 z) := by unfold wordsL; rw [List.replicate_zero, List.append_nil]; rfl
  rw [e] at hv
  exact hv
 ·cases h
section
variable {H : Type} {enc : TypeId × Value → H}
theorem handed_shaped {a : Assume} {C : Checked} {os : Os} {f : FuncId} {fn : Func} {s : ChangeSpec} {conds : List PathCond} {apart fresh handsOn again : Bool} {X : World → Array Value → Prop}
  (hX : ∀ (w w' : World) (args : Array Value), w.heap = w'.heap → X w args → X w' args)
  (own : ownKnob C.prog.godebug = none) (started : os.Started) (noInit : C.prog.inits.idxOf? f = none) (hfn : C.prog.funcs[f]? = some fn)
  (witness : ∃ (w : World) (tape : Tape) (i : Input), w.os = os ∧ (w.forCall tape i).Shaped C.prog ∧ i.vars = [] ∧ Input.okWide C.prog (w.forCall tape i) .any w.heap.size f i ∧
   ((s.pre enc C.prog fn conds apart (w.forCall tape i).memory i.args ∧ X (w.forCall tape i).memory i.args) ∧ sizedMet enc C.prog fn (OpenSpec.ofChange s) apart (w.forCall tape i).memory i.args) ∧ a.holds C.prog (lone (Frame.enter C.prog f i.args .normal) [] (w.forCall tape i)))
  (contract : ∀ (W : World) (base : Nat) (args : Array Value) (ds gs : List (DataW H)) (before : List MemPlace),
   (∀ (j : Nat) t v, fn.params[j]? = some t → args[j]? = some v → Value.okWide C.prog W .any base t v) →
   DataW.Whole enc C.prog fn.params.toList s.vars apart W args.toList ds gs before →
   (DataW.weightsEach C.prog (fn.params.toList ++ s.plain.varTypes C.prog) (ds ++ gs)).all (· ≤ reachBytes) = true → X W args →
   W.ShapedOpen C.prog →
   Calls C.prog f args W fun e W' => ∃ v, e = .returned v ∧ s.post enc C.prog fn apart fresh handsOn again W args v W') :
  ReturnsInHanded a C os f .any (fun w args => (s.pre enc C.prog fn conds apart w args ∧ X w args) ∧ sizedMet enc C.prog fn (OpenSpec.ofChange s) apart w args) (s.post enc C.prog fn apart fresh handsOn again) := by
 refine returnsInHanded_of_calls own started noInit witness ?_
 intro w tape i _ hsh _ hok hpre _
 obtain ⟨_, _, _, fn', hfn', _, _, _, _, hval⟩ := hok
 obtain rfl : fn' = fn := Option.some.inj (hfn'.symm.trans hfn)
 obtain ⟨⟨⟨ds, gs, before, hw, -⟩, hx⟩, hz⟩ := hpre
 refine (contract (w.forCall tape i) w.heap.size i.args ds gs before hval (DataW.Whole.of_heap (by rfl) hw) (hz.weights hw) (hX _ _ _ (by rfl) hx) hsh).mono fun e W' h9 => ?_
 obtain ⟨v, rfl, hp⟩ := h9
 exact ChangeSpec.post_blind hp
end
end Go.Proofs.YtckbnjipecclaaaGreatDoor
