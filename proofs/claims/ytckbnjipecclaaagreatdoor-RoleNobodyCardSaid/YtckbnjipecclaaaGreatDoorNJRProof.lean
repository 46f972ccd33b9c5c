/- RoleNobody: nil fields. No condition (package variables start as the text lays them). -/
import Derived.Test.YtckbnjipecclaaaGreatDoorNR
import Derived.Test.YtckbnjipecclaaaGreatDoorRows
import Derived.Test.YtckbnjipecclaaaGreatDoorCards
import Derived.Test.YtckbnjipecclaaaGreatDoorTie
import Derived.ProofKit
import Derived.LaidMore
import Derived.OpenShut
import Derived.ChangeOld
import Derived.Below
import Derived.Lay
import Derived.Stop.Joined
import Derived.Stop.LaidErr
import Derived.MakeChecks
import Derived.SizedLaws
import Derived.SevenTiedAt
set_option linter.all false
set_option maxHeartbeats 12800000
set_option maxRecDepth 10000
set_option linter.unusedVariables false
set_option linter.unusedSimpArgs false
set_option linter.unnecessarySimpa false
namespace Go.Proofs.YtckbnjipecclaaaGreatDoor
open Go.ChangeShapes Go.WideShapes Go.ChangeAt Go.RowKit Go.WideMaps Go.WideElems
namespace RNobody
set_option linter.unusedVariables false
theorem own : ownKnob Tryz.prog.godebug = none := by kernel_rfl
theorem laidOut : laidOutB Tryz.prog = true := by kernel_rfl
theorem lay_fits (os : Os) : (World.holding Tryz.prog os ⟨#[], #[], []⟩).layFits Tryz.prog laid6 [] = true := by kernel_rfl
theorem lay_ifaces (os : Os) : (World.holding Tryz.prog os ⟨#[], #[], []⟩).layIfaces Tryz.prog laid6 (World.laidAll Tryz.prog os laid6) = true := by kernel_rfl
theorem door_met (os : Os) (args : Array Value) : laidMetH Tryz.prog laid6 ((World.laidAll Tryz.prog os laid6).forCall (fun _ _ => 0) ⟨#[], args, []⟩).memory := by
 rw [MakeChecks.laidMetH_plain _ _ _ (by kernel_rfl)]
 exact laidMet_laidAll _ (lay_fits os) (lay_ifaces os)
set_option maxRecDepth 100000 in
theorem lifted (os : Os) (started : os.Started) (H : Type) (enc : TypeId × Value → H) :
  ReturnsInHanded {} Tryz.checked os 5 .any (fun w args => (Rows.roleNobodySpec.pre enc Tryz.prog Tryz.f5 [] false w args ∧ laidMetH Tryz.prog laid6 w) ∧ sizedMet enc Tryz.prog Tryz.f5 (OpenSpec.ofChange Rows.roleNobodySpec) false w args)
   (Rows.roleNobodySpec.post enc Tryz.prog Tryz.f5 false true false false) := by
 refine handed_shaped (C := Tryz.checked) (X := fun w _ => laidMetH Tryz.prog laid6 w) (fun _ _ _ hh h => h.of_heap hh) own started (by kernel_rfl) Tryz.func5
  (ChangeSpec.witness_shaped (enc := enc) (C := Tryz.checked) (os := os) (X := fun w _ => laidMetH Tryz.prog laid6 w) false (World.laidAll Tryz.prog os laid6) #[.agg #[.int .i64 0, .string ⟨#[]⟩, .int .i64 0, .int .i64 0]] 8 (World.laidAll_os _ _ _) (World.shaped_of_ZipB (by kernel_rfl) (by kernel_rfl)) (by kernel_rfl) (by kernel_rfl) (by kernel_rfl) (door_met os _)) ?_
 intro W base args ds gs before hval0 hW hsz0 hL hsh
 have hval : ∀ (j : Nat) t v, Tryz.f5.params[j]? = some t → args[j]? = some v → Value.okWide Tryz.prog W .any base t v := hval0
 have hW' := hW
 obtain ⟨p, q, hA0, hV, rfl, hfz, hnd⟩ := hW
 have hA : DataW.TrodAll enc Tryz.prog W 0 (fun _ => true) true Tryz.f5.params.toList args.toList ds p := hA0
 rw [Tryz.params5] at hA hval hsz0
 obtain ⟨v0, vs0, d0, ds0, p0, q0, hargs, rfl, rfl, h0, r0⟩ := trodAll_cons hA
 obtain ⟨rfl, rfl, rfl⟩ := trodAll_nil r0
 obtain rfl : args = #[v0] := by cases args; simp_all
 obtain ⟨rfl, rfl⟩ := trodVars_none hV
 have k0 := h0
 have lt0 : ∀ x ∈ p0, x.block < W.heap.size := by obtain ⟨m, hm⟩ := k0; exact DataW.trod_lt m _ _ _ hm
 obtain ⟨cs0, rfl, _⟩ := okWide_struct Tryz.underlying53 (hval 0 53 v0 rfl rfl)
 obtain ⟨kd, lo, hi, key, ho⟩ : ∃ (kd lo hi : Int) (key : ByteArray), cs0 = #[.int .i64 kd, .string key, .int .i64 lo, .int .i64 hi] := by
  obtain ⟨fuel, hf⟩ := h0
  obtain ⟨kd, lo, hi, key, ho⟩ := trod_op13 hf
  exact ⟨kd, lo, hi, key, by apply Array.toList_inj.1; rw [← show (Value.agg cs0).cells.toList = _ from ho]; simp [Value.cells]⟩
 subst ho
 have ht := tabs_of_laid hL
 have hm : MaxW W := Tryz.shSplit.s1_3 W hsh
 have hks := ks_of_laid hL
 clear hA0 hval0
 have main := nobody_any ht hks hm kd lo hi key
 refine main.mono fun e W' ⟨he, bel0⟩ => ?_
 have bel := bel0.below (Nat.le_refl _) (by simp)
 subst he
 exact ⟨_, rfl, _, _, _, [], _, [], hW', trodAll_mk1 (shut_bool Tryz.underlying4 _), (trodAll_cons_mk (Below.trod laidOut (by kernel_rfl) (of_decide_eq_true (by kernel_rfl)) k0 bel lt0) trodAll_mk0), rfl, bel.frame _, fun h => by cases h⟩
theorem both {a b : Bool} (h : a = true) (k : b = true) : (a && b) = true := by rw [h, k]; rfl
theorem lump_one {a b : Bool} (h : (a && b) = true) : a = true := by cases a <;> simp_all
theorem lump_two {a b : Bool} (h : (a && b) = true) : b = true := by cases b <;> simp_all
theorem lump0 : ((Rows.roleNobodyRow.wf (OpenSpec.ofChange Rows.roleNobodySpec)) && ((laidOutB Tryz.prog) && ((mapsRowed Tryz.prog) && ((Tryz.f5.params.all (Tryz.prog.readableRec ·)) && ((namedTie Tryz.prog Rows.roleNobodyRow.named Rows.roleNobodySpec.vars) && (((Rows.roleNobodyRow.stops == [])) && (((Tryz.prog.stops == [])) && (((Rows.roleNobodyRow.knobs == [])) && ((Tryz.prog.stopKnobs == [])))))))))) = true := by kernel_rfl
theorem lump1 : (((Rows.roleNobodyRow.inPlace == Tryz.prog.inPlace 5)) && (((Rows.roleNobodyRow.unfollowed == Tryz.prog.unfollowed 5)) && (((Rows.roleNobodyRow.recurses == Tryz.prog.recurses 5)) && ((Rows.roleNobodyRow.named == Tryz.prog.varsNamed 5))))) = true := by kernel_rfl
theorem lump2 : (((Rows.roleNobodyRow.maps == (Tryz.f5.params.toList ++ Rows.roleNobodySpec.plain.varTypes Tryz.prog).any (Tryz.prog.mapsRec ·))) && (((Rows.roleNobodyRow.ifaces == (Tryz.f5.params.toList ++ Rows.roleNobodySpec.plain.varTypes Tryz.prog).any (Tryz.prog.ifacesRec ·))) && (((Rows.roleNobodyRow.mapsOut == Tryz.prog.mapsAmong Tryz.f5.resultTypes.toList)) && (((Rows.roleNobodyRow.loops == (Tryz.f5.params.toList ++ Rows.roleNobodySpec.plain.varTypes Tryz.prog).any (Tryz.prog.loopsFrom ·))) && (((Rows.roleNobodyRow.wideKeys == (Tryz.f5.params.toList ++ Rows.roleNobodySpec.plain.varTypes Tryz.prog ++ Tryz.f5.resultTypes.toList).any (Tryz.prog.wideKeysFrom ·))) && ((Rows.roleNobodySpec.vars.all (Tryz.prog.varReadable ·)) && ((Tryz.f5.resultTypes.all (fun t => Tryz.prog.readableRec t && decide (t < Tryz.prog.types.size))) && (((Rows.roleNobodyRow.ifacesOut == Tryz.f5.resultTypes.toList.any (Tryz.prog.ifacesRec ·))) && (((Rows.roleNobodyRow.loopsOut == Tryz.f5.resultTypes.toList.any (Tryz.prog.loopsFrom ·))) && (((Rows.roleNobodyRow.plainKeys == Tryz.prog.plainKeys)) && (Rows.roleNobodyRow.shortTexts.isNone))))))))))) = true := by kernel_rfl
theorem lump3 : ((Tryz.prog.stopsHeard) && ((Tryz.prog.mayEnter) && (((Rows.roleNobodyRow.lifted == Tryz.prog.liftsFinal)) && ((Tryz.prog.make == some Rows.roleNobodyRow.make))))) = true := by kernel_rfl
theorem lump4 : (((Rows.roleNobodyRow.pinned == Rows.roleNobodyRow.pinnedBy)) && (((Rows.roleNobodyRow.veiled == (Tryz.f5.params.toList ++ Rows.roleNobodySpec.plain.varTypes Tryz.prog ++ Tryz.f5.resultTypes.toList).any (Tryz.prog.veiledRec ·))) && (Rows.roleNobodyRow.veiledFits Tryz.prog Tryz.f5.params.toList (Tryz.f5.params.toList ++ Rows.roleNobodySpec.plain.varTypes Tryz.prog ++ Tryz.f5.resultTypes.toList)))) = true := by kernel_rfl
set_option maxRecDepth 100000 in
theorem joined : joinedFacts Tryz.prog 5 Tryz.f5 Rows.roleNobodySpec Rows.roleNobodyRow = true := by
 unfold joinedFacts
 exact (both (both (both (both (both (both (both (both (both (both (both (both (both (both (both (both (both (both (both (both (both (both (both (both (both (both (both (both (both (both (both (lump_one lump0) (lump_one (lump_two lump0))) (lump_one (lump_two (lump_two lump0)))) (lump_one (lump_two (lump_two (lump_two lump0))))) (lump_one (lump_two (lump_two (lump_two (lump_two lump0)))))) (lump_one (lump_two (lump_two (lump_two (lump_two (lump_two lump0))))))) (lump_one (lump_two (lump_two (lump_two (lump_two (lump_two (lump_two lump0)))))))) (lump_one (lump_two (lump_two (lump_two (lump_two (lump_two (lump_two (lump_two lump0))))))))) (lump_two (lump_two (lump_two (lump_two (lump_two (lump_two (lump_two (lump_two lump0))))))))) (lump_one lump1)) (lump_one (lump_two lump1))) (lump_one (lump_two (lump_two lump1)))) (lump_two (lump_two (lump_two lump1)))) (lump_one lump2)) (lump_one (lump_two lump2))) (lump_one (lump_two (lump_two lump2)))) (lump_one (lump_two (lump_two (lump_two lump2))))) (lump_one (lump_two (lump_two (lump_two (lump_two lump2)))))) (lump_one (lump_two (lump_two (lump_two (lump_two (lump_two lump2))))))) (lump_one (lump_two (lump_two (lump_two (lump_two (lump_two (lump_two lump2)))))))) (lump_one (lump_two (lump_two (lump_two (lump_two (lump_two (lump_two (lump_two lump2))))))))) (lump_one (lump_two (lump_two (lump_two (lump_two (lump_two (lump_two (lump_two (lump_two lump2)))))))))) (lump_one (lump_two (lump_two (lump_two (lump_two (lump_two (lump_two (lump_two (lump_two (lump_two lump2))))))))))) (lump_two (lump_two (lump_two (lump_two (lump_two (lump_two (lump_two (lump_two (lump_two (lump_two lump2))))))))))) (lump_one lump3)) (lump_one (lump_two lump3))) (lump_one (lump_two (lump_two lump3)))) (lump_two (lump_two (lump_two lump3)))) (by kernel_rfl)) (lump_one lump4)) (lump_one (lump_two lump4))) (lump_two (lump_two lump4)))
theorem worded : Rows.roleNobodyRow.wfByText (OpenSpec.ofChange Rows.roleNobodySpec) = true := by kernel_rfl
theorem main_is : Tryz.prog.mainIs = some (true, "f5290c8537b5b34fc11b615dd1d802bb94c8f816076d34f25044d82f42f2fd71".toList) := by kernel_rfl
theorem looks : false = Tryz.prog.looks [] := by kernel_rfl
theorem goes : false = Rows.roleNobodyRow.goesBy Tryz.prog := by kernel_rfl
theorem named_f : Tryz.prog.funcNamed "pursuivant/pursuivantlaw13.RoleNobody" = some 5 := by kernel_rfl
theorem wants : ([53].all fun u => !Tryz.prog.wantsStandIn u) = true := by kernel_rfl
theorem over : Rows.roleNobodyRow.holds Tryz.pinned (OpenSpec.ofChange Rows.roleNobodySpec) :=
 OpenClaim.holds_of_wide 5 Tryz.f5 rfl rfl rfl rfl rfl rfl rfl ⟨rfl, rfl, rfl, rfl, rfl⟩ rfl rfl rfl rfl rfl named_f Tryz.func5 joined
  (of_decide_eq_true (by kernel_rfl)) (by unfold Func.isWrapper; first | (rw [if_pos (by decide +kernel)]; kernel_rfl) | (rw [if_neg (by decide +kernel)]; exact ⟨rfl, rfl⟩))
  (fun os started H enc _ => lifted os started H enc)
set_option maxRecDepth 100000 in
theorem card : Claim7.holds Tryz.pinned (.plain (OpenSpec.ofChange Rows.roleNobodySpec)) Rows.roleNobodyCard :=
 Claim7.holds_tied_plain_at .later [] [.data, .data, .data, .data, .data, .pinned] true (true, "f5290c8537b5b34fc11b615dd1d802bb94c8f816076d34f25044d82f42f2fd71") false
  over (fun _ h => by cases h) worded (fun _ h => by cases h) roleNobody_row_tie rfl ⟨rfl, rfl⟩ main_is rfl
  (fun f fn hf hfn => by
   obtain rfl : f = 5 := Option.some.inj (named_f.symm.trans hf) |>.symm
   obtain rfl : fn = Tryz.f5 := (Option.some.inj (Tryz.func5.symm.trans hfn)).symm
   exact ⟨looks, fun j t ht => by
    rw [Tryz.params5] at ht
    have hm : t ∈ [53] := by simpa using Array.mem_of_getElem? ht
    exact (show Tryz.prog.wantsStandIn t = false by simpa using List.all_eq_true.1 wants t hm)⟩)
  goes
end RNobody
theorem roleNobody_holds : Rows.RoleNobodyCardSaid := RNobody.card
#print axioms roleNobody_holds
end Go.Proofs.YtckbnjipecclaaaGreatDoor
