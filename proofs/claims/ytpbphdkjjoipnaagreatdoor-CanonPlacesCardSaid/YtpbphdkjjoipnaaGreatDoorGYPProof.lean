/- CanonPlaces returns true for every input whatever, and its arguments read as they did. No condition (package variables start as the text lays them). -/
import Derived.Test.YtpbphdkjjoipnaaGreatDoorGO
import Derived.Test.YtpbphdkjjoipnaaGreatDoorGT
import Derived.Test.YtpbphdkjjoipnaaGreatDoorRows
import Derived.Test.YtpbphdkjjoipnaaGreatDoorCards
import Derived.Test.YtpbphdkjjoipnaaGreatDoorTie
import Derived.ProofKit
import Derived.LaidMore
import Derived.OpenShut
import Derived.ChangeOld
import Derived.Below
import Derived.Lay
import Derived.Stop.Joined
import Derived.Stop.LaidErr
import Derived.MakeChecks
import Derived.SizedLaws
import Derived.SevenTiedAt
set_option linter.all false
set_option maxHeartbeats 12800000
set_option maxRecDepth 10000
set_option linter.unusedVariables false
set_option linter.unusedSimpArgs false
set_option linter.unnecessarySimpa false
namespace Go.Proofs.YtpbphdkjjoipnaaGreatDoor
open Go.ChangeShapes Go.WideShapes Go.ChangeAt Go.RowKit Go.WideMaps Go.WideElems
namespace Places
set_option linter.unusedVariables false
theorem own : ownKnob Tryz.prog.godebug = none := by kernel_rfl
theorem laidOut : laidOutB Tryz.prog = true := by kernel_rfl
theorem lay_fits (os : Os) : (World.holding Tryz.prog os ⟨#[], #[], []⟩).layFits Tryz.prog ki [] = true := by kernel_rfl
theorem lay_ifaces (os : Os) : (World.holding Tryz.prog os ⟨#[], #[], []⟩).layIfaces Tryz.prog ki (World.laidAll Tryz.prog os ki) = true := by kernel_rfl
theorem door_met (os : Os) (args : Array Value) : laidMetH Tryz.prog ki ((World.laidAll Tryz.prog os ki).forCall (fun _ _ => 0) ⟨#[], args, []⟩).memory := by
 rw [MakeChecks.laidMetH_plain _ _ _ (by kernel_rfl)]
 exact laidMet_laidAll _ (lay_fits os) (lay_ifaces os)
set_option maxRecDepth 100000 in
theorem lifted (os : Os) (started : os.Started) (H : Type) (enc : TypeId × Value → H) :
  ReturnsInHanded {} Tryz.checked os 10 .any (fun w args => (Rows.canonPlacesSpec.pre enc Tryz.prog Tryz.f10 [] false w args ∧ laidMetH Tryz.prog ki w) ∧ sizedMet enc Tryz.prog Tryz.f10 (OpenSpec.ofChange Rows.canonPlacesSpec) false w args)
   (Rows.canonPlacesSpec.post enc Tryz.prog Tryz.f10 false true false false) := by
 refine KQ (C := Tryz.checked) (X := fun w _ => laidMetH Tryz.prog ki w) (fun _ _ _ hh h => h.of_heap hh) own started (by kernel_rfl) Tryz.func10
  (ChangeSpec.witness_shaped (enc := enc) (C := Tryz.checked) (os := os) (X := fun w _ => laidMetH Tryz.prog ki w) false (World.laidAll Tryz.prog os ki) #[.agg #[.int .i64 0, .int .i64 0, .string ⟨#[]⟩, .slice none 0 0, .slice none 0 0], .string ⟨#[]⟩] 8 (World.laidAll_os _ _ _) (World.shaped_of_ZipB (by kernel_rfl) (by kernel_rfl)) (by kernel_rfl) (by kernel_rfl) (by kernel_rfl) (door_met os _)) ?_
 intro W base args ds gs before hval0 hW hsz0 hL hsh
 have hval : ∀ (j : Nat) t v, Tryz.f10.params[j]? = some t → args[j]? = some v → Value.okWide Tryz.prog W .any base t v := hval0
 have hW' := hW
 obtain ⟨p, q, hA0, hV, rfl, hfz, hnd⟩ := hW
 have hA : DataW.TrodAll enc Tryz.prog W 0 (fun _ => true) true Tryz.f10.params.toList args.toList ds p := hA0
 rw [Tryz.params10] at hA hval hsz0
 obtain ⟨v0, vs0, d0, ds0, p0, q0, hargs, rfl, rfl, h0, r0⟩ := trodAll_cons hA
 obtain ⟨v1, vs1, d1, ds1, p1, q1, rfl, rfl, rfl, h1, r1⟩ := trodAll_cons r0
 obtain ⟨rfl, rfl, rfl⟩ := trodAll_nil r1
 obtain rfl : args = #[v0, v1] := by cases args; simp_all
 obtain ⟨rfl, rfl⟩ := trodVars_none hV
 have k0 := h0
 have lt0 : ∀ x ∈ p0, x.block < W.heap.size := by obtain ⟨m, hm⟩ := k0; exact DataW.trod_lt m _ _ _ hm
 have k1 := h1
 have lt1 : ∀ x ∈ p1, x.block < W.heap.size := by obtain ⟨m, hm⟩ := k1; exact DataW.trod_lt m _ _ _ hm
 obtain ⟨cs0, rfl, _⟩ := okWide_struct Tryz.underlying25 (hval 0 25 v0 rfl rfl)
 obtain ⟨s1, rfl⟩ := okWide_string Tryz.underlying9 (hval 1 9 v1 rfl rfl)
 have hrb := reachBytes_lt
 obtain ⟨n0, f0⟩ := h0
 have w0 : ∀ k, k ∈ d0.weights Tryz.prog 25 → k ≤ BB := fun k hk => by
  have z := List.all_eq_true.1 hsz0 _ (DataW.weights_mem_each (ts := _) (j := 0) (t := 25) rfl rfl k hk)
  simp only [decide_eq_true_eq] at z
  unfold BB
  omega
 have e0 : (Value.agg cs0).cells = cs0 := by simp [Value.cells]
 rw [e0] at f0
 obtain ⟨u0, g0⟩ := trod_value n0 f0 w0
 have ht := tabs8 hL
 have hm : Zv W := Tryz.shSplit.s1_3 W hsh
 have he8 := errs8 hL
 clear hA0 hval0
 have main := places_any g0 s1 hm ht he8
 simp only [Array.toArray_toList] at main
 refine main.mono fun e W' ⟨he, bel0⟩ => ?_
 have bel := bel0.below (Nat.le_refl _) (by simp)
 subst he
 exact ⟨_, rfl, _, _, _, [], _, [], hW', trodAll_mk1 (shut_bool Tryz.underlying4 _), (trodAll_cons_mk (Below.trod laidOut (by kernel_rfl) (of_decide_eq_true (by kernel_rfl)) k0 bel lt0) (trodAll_cons_mk (Below.trod laidOut (by kernel_rfl) (of_decide_eq_true (by kernel_rfl)) k1 bel lt1) trodAll_mk0)), rfl, bel.frame _, fun h => by cases h⟩
theorem qn {a b : Bool} (h : a = true) (k : b = true) : (a && b) = true := by rw [h, k]; rfl
theorem yc {a b : Bool} (h : (a && b) = true) : a = true := by cases a <;> simp_all
theorem zh {a b : Bool} (h : (a && b) = true) : b = true := by cases b <;> simp_all
theorem ZG : ((Rows.canonPlacesRow.wf (OpenSpec.ofChange Rows.canonPlacesSpec)) && ((laidOutB Tryz.prog) && ((mapsRowed Tryz.prog) && ((Tryz.f10.params.all (Tryz.prog.readableRec ·)) && ((namedTie Tryz.prog Rows.canonPlacesRow.named Rows.canonPlacesSpec.vars) && (((Rows.canonPlacesRow.stops == [])) && (((Tryz.prog.stops == [])) && (((Rows.canonPlacesRow.knobs == [])) && ((Tryz.prog.stopKnobs == [])))))))))) = true := by kernel_rfl
theorem lump1 : (((Rows.canonPlacesRow.inPlace == Tryz.prog.inPlace 10)) && (((Rows.canonPlacesRow.unfollowed == Tryz.prog.unfollowed 10)) && (((Rows.canonPlacesRow.recurses == Tryz.prog.recurses 10)) && ((Rows.canonPlacesRow.named == Tryz.prog.varsNamed 10))))) = true := by kernel_rfl
theorem v8 : (((Rows.canonPlacesRow.maps == (Tryz.f10.params.toList ++ Rows.canonPlacesSpec.plain.varTypes Tryz.prog).any (Tryz.prog.mapsRec ·))) && (((Rows.canonPlacesRow.ifaces == (Tryz.f10.params.toList ++ Rows.canonPlacesSpec.plain.varTypes Tryz.prog).any (Tryz.prog.ifacesRec ·))) && (((Rows.canonPlacesRow.mapsOut == Tryz.prog.mapsAmong Tryz.f10.resultTypes.toList)) && (((Rows.canonPlacesRow.loops == (Tryz.f10.params.toList ++ Rows.canonPlacesSpec.plain.varTypes Tryz.prog).any (Tryz.prog.loopsFrom ·))) && (((Rows.canonPlacesRow.wideKeys == (Tryz.f10.params.toList ++ Rows.canonPlacesSpec.plain.varTypes Tryz.prog ++ Tryz.f10.resultTypes.toList).any (Tryz.prog.wideKeysFrom ·))) && ((Rows.canonPlacesSpec.vars.all (Tryz.prog.varReadable ·)) && ((Tryz.f10.resultTypes.all (fun t => Tryz.prog.readableRec t && decide (t < Tryz.prog.types.size))) && (((Rows.canonPlacesRow.ifacesOut == Tryz.f10.resultTypes.toList.any (Tryz.prog.ifacesRec ·))) && (((Rows.canonPlacesRow.loopsOut == Tryz.f10.resultTypes.toList.any (Tryz.prog.loopsFrom ·))) && (((Rows.canonPlacesRow.plainKeys == Tryz.prog.plainKeys)) && (Rows.canonPlacesRow.shortTexts.isNone))))))))))) = true := by kernel_rfl
theorem lump3 : ((Tryz.prog.stopsHeard) && ((Tryz.prog.mayEnter) && (((Rows.canonPlacesRow.lifted == Tryz.prog.liftsFinal)) && ((Tryz.prog.make == some Rows.canonPlacesRow.make))))) = true := by kernel_rfl
theorem lump4 : (((Rows.canonPlacesRow.pinned == Rows.canonPlacesRow.pinnedBy)) && (((Rows.canonPlacesRow.veiled == (Tryz.f10.params.toList ++ Rows.canonPlacesSpec.plain.varTypes Tryz.prog ++ Tryz.f10.resultTypes.toList).any (Tryz.prog.veiledRec ·))) && (Rows.canonPlacesRow.veiledFits Tryz.prog Tryz.f10.params.toList (Tryz.f10.params.toList ++ Rows.canonPlacesSpec.plain.varTypes Tryz.prog ++ Tryz.f10.resultTypes.toList)))) = true := by kernel_rfl
set_option maxRecDepth 100000 in
theorem joined : joinedFacts Tryz.prog 10 Tryz.f10 Rows.canonPlacesSpec Rows.canonPlacesRow = true := by
 unfold joinedFacts
 exact (qn (qn (qn (qn (qn (qn (qn (qn (qn (qn (qn (qn (qn (qn (qn (qn (qn (qn (qn (qn (qn (qn (qn (qn (qn (qn (qn (qn (qn (qn (qn (yc ZG) (yc (zh ZG))) (yc (zh (zh ZG)))) (yc (zh (zh (zh ZG))))) (yc (zh (zh (zh (zh ZG)))))) (yc (zh (zh (zh (zh (zh ZG))))))) (yc (zh (zh (zh (zh (zh (zh ZG)))))))) (yc (zh (zh (zh (zh (zh (zh (zh ZG))))))))) (zh (zh (zh (zh (zh (zh (zh (zh ZG))))))))) (yc lump1)) (yc (zh lump1))) (yc (zh (zh lump1)))) (zh (zh (zh lump1)))) (yc v8)) (yc (zh v8))) (yc (zh (zh v8)))) (yc (zh (zh (zh v8))))) (yc (zh (zh (zh (zh v8)))))) (yc (zh (zh (zh (zh (zh v8))))))) (yc (zh (zh (zh (zh (zh (zh v8)))))))) (yc (zh (zh (zh (zh (zh (zh (zh v8))))))))) (yc (zh (zh (zh (zh (zh (zh (zh (zh v8)))))))))) (yc (zh (zh (zh (zh (zh (zh (zh (zh (zh v8))))))))))) (zh (zh (zh (zh (zh (zh (zh (zh (zh (zh v8))))))))))) (yc lump3)) (yc (zh lump3))) (yc (zh (zh lump3)))) (zh (zh (zh lump3)))) (by kernel_rfl)) (yc lump4)) (yc (zh lump4))) (zh (zh lump4)))
theorem worded : Rows.canonPlacesRow.wfByText (OpenSpec.ofChange Rows.canonPlacesSpec) = true := by kernel_rfl
theorem main_is : Tryz.prog.mainIs = some (true, "2d7dc3d20f9f026166fbbd4f33e041de1d309c8d4dd75b69ca1b9abf9e4afbf9".toList) := by kernel_rfl
theorem looks : true = Tryz.prog.looks [] := by kernel_rfl
theorem goes : false = Rows.canonPlacesRow.goesBy Tryz.prog := by kernel_rfl
theorem named_f : Tryz.prog.funcNamed "pursuivant/pursuivantlaw06.CanonPlaces" = some 10 := by kernel_rfl
theorem wants : ([25, 9].all fun u => !Tryz.prog.wantsStandIn u) = true := by kernel_rfl
theorem over : Rows.canonPlacesRow.holds Tryz.pinned (OpenSpec.ofChange Rows.canonPlacesSpec) :=
 OpenClaim.holds_of_wide 10 Tryz.f10 rfl rfl rfl rfl rfl rfl rfl ⟨rfl, rfl, rfl, rfl, rfl⟩ rfl rfl rfl rfl rfl named_f Tryz.func10 joined
  (of_decide_eq_true (by kernel_rfl)) (by unfold Func.isWrapper; first | (rw [if_pos (by decide +kernel)]; kernel_rfl) | (rw [if_neg (by decide +kernel)]; exact ⟨rfl, rfl⟩))
  (fun os started H enc _ => lifted os started H enc)
theorem card : Claim7.holds Tryz.pinned (.plain (OpenSpec.ofChange Rows.canonPlacesSpec)) Rows.canonPlacesCard :=
 Claim7.holds_tied_plain_at .later [] [.data, .data, .data, .data, .sentinel, .sentinel, .pinned, .pinned] true (true, "2d7dc3d20f9f026166fbbd4f33e041de1d309c8d4dd75b69ca1b9abf9e4afbf9") true
  over (fun _ h => by cases h) worded (fun _ h => by cases h) canonPlaces_row_tie rfl ⟨rfl, rfl⟩ main_is rfl
  (fun f fn hf hfn => by
   obtain rfl : f = 10 := Option.some.inj (named_f.symm.trans hf) |>.symm
   obtain rfl : fn = Tryz.f10 := (Option.some.inj (Tryz.func10.symm.trans hfn)).symm
   exact ⟨looks, fun j t ht => by
    rw [Tryz.params10] at ht
    have hm : t ∈ [25, 9] := by simpa using Array.mem_of_getElem? ht
    exact (show Tryz.prog.wantsStandIn t = false by simpa using List.all_eq_true.1 wants t hm)⟩)
  goes
end Places
theorem canonPlaces_holds : Rows.CanonPlacesCardSaid := Places.card
#print axioms canonPlaces_holds
end Go.Proofs.YtpbphdkjjoipnaaGreatDoor
