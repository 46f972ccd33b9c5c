/- CanonPointers returns true for every input whatever, and its arguments read as they did. No condition (package variables start as the text lays them). -/
import Derived.Test.YtpbphdkjjoipnaaGreatDoorFX
import Derived.Test.YtpbphdkjjoipnaaGreatDoorFD
import Derived.Test.YtpbphdkjjoipnaaGreatDoorRows
import Derived.Test.YtpbphdkjjoipnaaGreatDoorCards
import Derived.Test.YtpbphdkjjoipnaaGreatDoorTie
import Derived.ProofKit
import Derived.LaidMore
import Derived.OpenShut
import Derived.ChangeOld
import Derived.Below
import Derived.Lay
import Derived.Stop.Joined
import Derived.Stop.LaidErr
import Derived.MakeChecks
import Derived.SizedLaws
import Derived.SevenTiedAt
set_option linter.all false
set_option maxHeartbeats 12800000
set_option maxRecDepth 10000
set_option linter.unusedVariables false
set_option linter.unusedSimpArgs false
set_option linter.unnecessarySimpa false
namespace Go.Proofs.YtpbphdkjjoipnaaGreatDoor
open Go.ChangeShapes Go.WideShapes Go.ChangeAt Go.RowKit Go.WideMaps Go.WideElems
namespace Pointers
set_option linter.unusedVariables false
theorem own : ownKnob Tryz.prog.godebug = none := by kernel_rfl
theorem laidOut : laidOutB Tryz.prog = true := by kernel_rfl
theorem lay_fits (os : Os) : (World.holding Tryz.prog os ⟨#[], #[], []⟩).layFits Tryz.prog laid6 [] = true := by kernel_rfl
theorem lay_ifaces (os : Os) : (World.holding Tryz.prog os ⟨#[], #[], []⟩).layIfaces Tryz.prog laid6 (World.laidAll Tryz.prog os laid6) = true := by kernel_rfl
theorem door_met (os : Os) (args : Array Value) : laidMetH Tryz.prog laid6 ((World.laidAll Tryz.prog os laid6).forCall (fun _ _ => 0) ⟨#[], args, []⟩).memory := by
 rw [MakeChecks.laidMetH_plain _ _ _ (by kernel_rfl)]
 exact laidMet_laidAll _ (lay_fits os) (lay_ifaces os)
set_option maxRecDepth 100000 in
theorem lifted (os : Os) (started : os.Started) (H : Type) (enc : TypeId × Value → H) :
  ReturnsInHanded {} Tryz.checked os 8 .any (fun w args => (Rows.canonPointersSpec.pre enc Tryz.prog Tryz.f8 [] false w args ∧ laidMetH Tryz.prog laid6 w) ∧ sizedMet enc Tryz.prog Tryz.f8 (OpenSpec.ofChange Rows.canonPointersSpec) false w args)
   (Rows.canonPointersSpec.post enc Tryz.prog Tryz.f8 false true false false) := by
 refine handed_shaped (C := Tryz.checked) (X := fun w _ => laidMetH Tryz.prog laid6 w) (fun _ _ _ hh h => h.of_heap hh) own started (by kernel_rfl) Tryz.func8
  (ChangeSpec.witness_shaped (enc := enc) (C := Tryz.checked) (os := os) (X := fun w _ => laidMetH Tryz.prog laid6 w) false (World.laidAll Tryz.prog os laid6) #[.slice none 0 0, .string ⟨#[]⟩] 8 (World.laidAll_os _ _ _) (World.shaped_of_ZipB (by kernel_rfl) (by kernel_rfl)) (by kernel_rfl) (by kernel_rfl) (by kernel_rfl) (door_met os _)) ?_
 intro W base args ds gs before hval0 hW hsz0 hL hsh
 have hval : ∀ (j : Nat) t v, Tryz.f8.params[j]? = some t → args[j]? = some v → Value.okWide Tryz.prog W .any base t v := hval0
 have hW' := hW
 obtain ⟨p, q, hA0, hV, rfl, hfz, hnd⟩ := hW
 have hA : DataW.TrodAll enc Tryz.prog W 0 (fun _ => true) true Tryz.f8.params.toList args.toList ds p := hA0
 rw [Tryz.params8] at hA hval hsz0
 obtain ⟨v0, vs0, d0, ds0, p0, q0, hargs, rfl, rfl, h0, r0⟩ := trodAll_cons hA
 obtain ⟨v1, vs1, d1, ds1, p1, q1, rfl, rfl, rfl, h1, r1⟩ := trodAll_cons r0
 obtain ⟨rfl, rfl, rfl⟩ := trodAll_nil r1
 obtain rfl : args = #[v0, v1] := by cases args; simp_all
 obtain ⟨rfl, rfl⟩ := trodVars_none hV
 have k0 := h0
 have lt0 : ∀ x ∈ p0, x.block < W.heap.size := by obtain ⟨m, hm⟩ := k0; exact DataW.trod_lt m _ _ _ hm
 have k1 := h1
 have lt1 : ∀ x ∈ p1, x.block < W.heap.size := by obtain ⟨m, hm⟩ := k1; exact DataW.trod_lt m _ _ _ hm
 obtain ⟨a0, len0, cap0, rfl⟩ := okWide_slice Tryz.underlying39 (hval 0 39 v0 rfl rfl)
 obtain ⟨s1, rfl⟩ := okWide_string Tryz.underlying9 (hval 1 9 v1 rfl rfl)
 have hrb := reachBytes_lt
 obtain ⟨n0, f0⟩ := h0
 have w0 : ∀ k, k ∈ d0.weights Tryz.prog 39 → k ≤ BB := fun k hk => by
  have z := List.all_eq_true.1 hsz0 _ (DataW.weights_mem_each (ts := _) (j := 0) (t := 39) rfl rfl k hk)
  simp only [decide_eq_true_eq] at z
  unfold BB
  omega
 obtain ⟨l0, g0, b0⟩ := trod_strsV (x := (d0, p0)) f0 w0
 obtain rfl : len0 = l0.length := by
  obtain ⟨a9, c9, e9, -, -⟩ := g0.form
  simp only [Value.slice.injEq] at e9
  exact e9.2.1
 have ht := tabs_of_laid hL
 have hm : MaxAt W := Tryz.shSplit.s1_3 W hsh
 clear hA0 hval0
 have main := pointers_any g0 s1 hm ht
 refine main.mono fun e W' ⟨he, bel0⟩ => ?_
 have bel := bel0.below (Nat.le_refl _) (by simp)
 subst he
 exact ⟨_, rfl, _, _, _, [], _, [], hW', trodAll_mk1 (shut_bool Tryz.underlying4 _), (trodAll_cons_mk (Below.trod laidOut (by kernel_rfl) (of_decide_eq_true (by kernel_rfl)) k0 bel lt0) (trodAll_cons_mk (Below.trod laidOut (by kernel_rfl) (of_decide_eq_true (by kernel_rfl)) k1 bel lt1) trodAll_mk0)), rfl, bel.frame _, fun h => by cases h⟩
theorem both {a b : Bool} (h : a = true) (k : b = true) : (a && b) = true := by rw [h, k]; rfl
theorem lump_one {a b : Bool} (h : (a && b) = true) : a = true := by cases a <;> simp_all
theorem lump_two {a b : Bool} (h : (a && b) = true) : b = true := by cases b <;> simp_all
theorem lump0 : ((Rows.canonPointersRow.wf (OpenSpec.ofChange Rows.canonPointersSpec)) && ((laidOutB Tryz.prog) && ((mapsRowed Tryz.prog) && ((Tryz.f8.params.all (Tryz.prog.readableRec ·)) && ((namedTie Tryz.prog Rows.canonPointersRow.named Rows.canonPointersSpec.vars) && (((Rows.canonPointersRow.stops == [])) && (((Tryz.prog.stops == [])) && (((Rows.canonPointersRow.knobs == [])) && ((Tryz.prog.stopKnobs == [])))))))))) = true := by kernel_rfl
theorem lump1 : (((Rows.canonPointersRow.inPlace == Tryz.prog.inPlace 8)) && (((Rows.canonPointersRow.unfollowed == Tryz.prog.unfollowed 8)) && (((Rows.canonPointersRow.recurses == Tryz.prog.recurses 8)) && ((Rows.canonPointersRow.named == Tryz.prog.varsNamed 8))))) = true := by kernel_rfl
theorem lump2 : (((Rows.canonPointersRow.maps == (Tryz.f8.params.toList ++ Rows.canonPointersSpec.plain.varTypes Tryz.prog).any (Tryz.prog.mapsRec ·))) && (((Rows.canonPointersRow.ifaces == (Tryz.f8.params.toList ++ Rows.canonPointersSpec.plain.varTypes Tryz.prog).any (Tryz.prog.ifacesRec ·))) && (((Rows.canonPointersRow.mapsOut == Tryz.prog.mapsAmong Tryz.f8.resultTypes.toList)) && (((Rows.canonPointersRow.loops == (Tryz.f8.params.toList ++ Rows.canonPointersSpec.plain.varTypes Tryz.prog).any (Tryz.prog.loopsFrom ·))) && (((Rows.canonPointersRow.wideKeys == (Tryz.f8.params.toList ++ Rows.canonPointersSpec.plain.varTypes Tryz.prog ++ Tryz.f8.resultTypes.toList).any (Tryz.prog.wideKeysFrom ·))) && ((Rows.canonPointersSpec.vars.all (Tryz.prog.varReadable ·)) && ((Tryz.f8.resultTypes.all (fun t => Tryz.prog.readableRec t && decide (t < Tryz.prog.types.size))) && (((Rows.canonPointersRow.ifacesOut == Tryz.f8.resultTypes.toList.any (Tryz.prog.ifacesRec ·))) && (((Rows.canonPointersRow.loopsOut == Tryz.f8.resultTypes.toList.any (Tryz.prog.loopsFrom ·))) && (((Rows.canonPointersRow.plainKeys == Tryz.prog.plainKeys)) && (Rows.canonPointersRow.shortTexts.isNone))))))))))) = true := by kernel_rfl
theorem lump3 : ((Tryz.prog.stopsHeard) && ((Tryz.prog.mayEnter) && (((Rows.canonPointersRow.lifted == Tryz.prog.liftsFinal)) && ((Tryz.prog.make == some Rows.canonPointersRow.make))))) = true := by kernel_rfl
theorem lump4 : (((Rows.canonPointersRow.pinned == Rows.canonPointersRow.pinnedBy)) && (((Rows.canonPointersRow.veiled == (Tryz.f8.params.toList ++ Rows.canonPointersSpec.plain.varTypes Tryz.prog ++ Tryz.f8.resultTypes.toList).any (Tryz.prog.veiledRec ·))) && (Rows.canonPointersRow.veiledFits Tryz.prog Tryz.f8.params.toList (Tryz.f8.params.toList ++ Rows.canonPointersSpec.plain.varTypes Tryz.prog ++ Tryz.f8.resultTypes.toList)))) = true := by kernel_rfl
set_option maxRecDepth 100000 in
theorem joined : joinedFacts Tryz.prog 8 Tryz.f8 Rows.canonPointersSpec Rows.canonPointersRow = true := by
 unfold joinedFacts
 exact (both (both (both (both (both (both (both (both (both (both (both (both (both (both (both (both (both (both (both (both (both (both (both (both (both (both (both (both (both (both (both (lump_one lump0) (lump_one (lump_two lump0))) (lump_one (lump_two (lump_two lump0)))) (lump_one (lump_two (lump_two (lump_two lump0))))) (lump_one (lump_two (lump_two (lump_two (lump_two lump0)))))) (lump_one (lump_two (lump_two (lump_two (lump_two (lump_two lump0))))))) (lump_one (lump_two (lump_two (lump_two (lump_two (lump_two (lump_two lump0)))))))) (lump_one (lump_two (lump_two (lump_two (lump_two (lump_two (lump_two (lump_two lump0))))))))) (lump_two (lump_two (lump_two (lump_two (lump_two (lump_two (lump_two (lump_two lump0))))))))) (lump_one lump1)) (lump_one (lump_two lump1))) (lump_one (lump_two (lump_two lump1)))) (lump_two (lump_two (lump_two lump1)))) (lump_one lump2)) (lump_one (lump_two lump2))) (lump_one (lump_two (lump_two lump2)))) (lump_one (lump_two (lump_two (lump_two lump2))))) (lump_one (lump_two (lump_two (lump_two (lump_two lump2)))))) (lump_one (lump_two (lump_two (lump_two (lump_two (lump_two lump2))))))) (lump_one (lump_two (lump_two (lump_two (lump_two (lump_two (lump_two lump2)))))))) (lump_one (lump_two (lump_two (lump_two (lump_two (lump_two (lump_two (lump_two lump2))))))))) (lump_one (lump_two (lump_two (lump_two (lump_two (lump_two (lump_two (lump_two (lump_two lump2)))))))))) (lump_one (lump_two (lump_two (lump_two (lump_two (lump_two (lump_two (lump_two (lump_two (lump_two lump2))))))))))) (lump_two (lump_two (lump_two (lump_two (lump_two (lump_two (lump_two (lump_two (lump_two (lump_two lump2))))))))))) (lump_one lump3)) (lump_one (lump_two lump3))) (lump_one (lump_two (lump_two lump3)))) (lump_two (lump_two (lump_two lump3)))) (by kernel_rfl)) (lump_one lump4)) (lump_one (lump_two lump4))) (lump_two (lump_two lump4)))
theorem worded : Rows.canonPointersRow.wfByText (OpenSpec.ofChange Rows.canonPointersSpec) = true := by kernel_rfl
theorem main_is : Tryz.prog.mainIs = some (true, "2d7dc3d20f9f026166fbbd4f33e041de1d309c8d4dd75b69ca1b9abf9e4afbf9".toList) := by kernel_rfl
theorem looks : true = Tryz.prog.looks [] := by kernel_rfl
theorem goes : false = Rows.canonPointersRow.goesBy Tryz.prog := by kernel_rfl
theorem named_f : Tryz.prog.funcNamed "pursuivant/pursuivantlaw06.CanonPointers" = some 8 := by kernel_rfl
theorem wants : ([39, 9].all fun u => !Tryz.prog.wantsStandIn u) = true := by kernel_rfl
theorem over : Rows.canonPointersRow.holds Tryz.pinned (OpenSpec.ofChange Rows.canonPointersSpec) :=
 OpenClaim.holds_of_wide 8 Tryz.f8 rfl rfl rfl rfl rfl rfl rfl ⟨rfl, rfl, rfl, rfl, rfl⟩ rfl rfl rfl rfl rfl named_f Tryz.func8 joined
  (of_decide_eq_true (by kernel_rfl)) (by unfold Func.isWrapper; first | (rw [if_pos (by decide +kernel)]; kernel_rfl) | (rw [if_neg (by decide +kernel)]; exact ⟨rfl, rfl⟩))
  (fun os started H enc _ => lifted os started H enc)
theorem card : Claim7.holds Tryz.pinned (.plain (OpenSpec.ofChange Rows.canonPointersSpec)) Rows.canonPointersCard :=
 Claim7.holds_tied_plain_at .later [] [.data, .data, .data, .data, .pinned, .pinned] true (true, "2d7dc3d20f9f026166fbbd4f33e041de1d309c8d4dd75b69ca1b9abf9e4afbf9") true
  over (fun _ h => by cases h) worded (fun _ h => by cases h) canonPointers_row_tie rfl ⟨rfl, rfl⟩ main_is rfl
  (fun f fn hf hfn => by
   obtain rfl : f = 8 := Option.some.inj (named_f.symm.trans hf) |>.symm
   obtain rfl : fn = Tryz.f8 := (Option.some.inj (Tryz.func8.symm.trans hfn)).symm
   exact ⟨looks, fun j t ht => by
    rw [Tryz.params8] at ht
    have hm : t ∈ [39, 9] := by simpa using Array.mem_of_getElem? ht
    exact (show Tryz.prog.wantsStandIn t = false by simpa using List.all_eq_true.1 wants t hm)⟩)
  goes
end Pointers
theorem canonPointers_holds : Rows.CanonPointersCardSaid := Pointers.card
#print axioms canonPointers_holds
end Go.Proofs.YtpbphdkjjoipnaaGreatDoor
