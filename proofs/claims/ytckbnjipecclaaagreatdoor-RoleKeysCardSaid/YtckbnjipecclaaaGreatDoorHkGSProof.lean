/- RoleKeys: any key's value, and back. No condition (package variables start as the text lays them). -/
import Derived.Test.YtckbnjipecclaaaGreatDoorHkAH
import Derived.Test.YtckbnjipecclaaaGreatDoorHkAI
import Derived.Test.YtckbnjipecclaaaGreatDoorRows
import Derived.Test.YtckbnjipecclaaaGreatDoorCards
import Derived.Test.YtckbnjipecclaaaGreatDoorTie
import Derived.ProofKit
import Derived.LaidMore
import Derived.OpenShut
import Derived.ChangeOld
import Derived.Below
import Derived.Lay
import Derived.Stop.Joined
import Derived.Stop.LaidErr
import Derived.MakeChecks
import Derived.SizedLaws
import Derived.SevenTiedAt
set_option linter.all false
set_option maxHeartbeats 12800000
set_option maxRecDepth 10000
set_option linter.unusedVariables false
set_option linter.unusedSimpArgs false
set_option linter.unnecessarySimpa false
namespace Go.Proofs.YtckbnjipecclaaaGreatDoor
open Go.ChangeShapes Go.WideShapes Go.ChangeAt Go.RowKit Go.WideMaps Go.WideElems
namespace RKeys
set_option linter.unusedVariables false
theorem own : ownKnob Tryz.prog.godebug = none := by kernel_rfl
theorem laidOut : laidOutB Tryz.prog = true := by kernel_rfl
theorem lay_fits (os : Os) : (World.holding Tryz.prog os ⟨#[], #[], []⟩).layFits Tryz.prog laid6 [] = true := by kernel_rfl
theorem lay_ifaces (os : Os) : (World.holding Tryz.prog os ⟨#[], #[], []⟩).layIfaces Tryz.prog laid6 (World.laidAll Tryz.prog os laid6) = true := by kernel_rfl
theorem door_met (os : Os) (args : Array Value) : laidMetH Tryz.prog laid6 ((World.laidAll Tryz.prog os laid6).forCall (fun _ _ => 0) ⟨#[], args, []⟩).memory := by
 rw [MakeChecks.laidMetH_plain _ _ _ (by kernel_rfl)]
 exact laidMet_laidAll _ (lay_fits os) (lay_ifaces os)
set_option maxRecDepth 100000 in
theorem lifted (os : Os) (started : os.Started) (H : Type) (enc : TypeId × Value → H) :
  ReturnsInHanded {} Tryz.checked os 3 .any (fun w args => (Rows.roleKeysSpec.pre enc Tryz.prog Tryz.f3 [] false w args ∧ laidMetH Tryz.prog laid6 w) ∧ sizedMet enc Tryz.prog Tryz.f3 (OpenSpec.ofChange Rows.roleKeysSpec) false w args)
   (Rows.roleKeysSpec.post enc Tryz.prog Tryz.f3 false true false false) := by
 refine handed_shaped (C := Tryz.checked) (X := fun w _ => laidMetH Tryz.prog laid6 w) (fun _ _ _ hh h => h.of_heap hh) own started (by kernel_rfl) Tryz.func3
  (ChangeSpec.witness_shaped (enc := enc) (C := Tryz.checked) (os := os) (X := fun w _ => laidMetH Tryz.prog laid6 w) false (World.laidAll Tryz.prog os laid6) #[.agg #[.int .i64 0, .int .i64 0, .int .u8 0, .int .u8 0, .int .u8 0, .int .u8 0, .int .u8 0, .int .u8 0, .int .u8 0, .int .u8 0, .int .u8 0, .int .u8 0, .int .u8 0, .int .u8 0, .int .u8 0, .int .u8 0, .int .u8 0, .int .u8 0, .int .u8 0, .int .u8 0, .int .u8 0, .int .u8 0, .int .u8 0, .int .u8 0, .int .u8 0, .int .u8 0, .int .u8 0, .int .u8 0, .int .u8 0, .int .u8 0, .int .u8 0, .int .u8 0, .int .u8 0, .int .u8 0], .agg #[.int .i64 0, .int .i64 0, .string ⟨#[]⟩, .slice none 0 0, .slice none 0 0]] 8 (World.laidAll_os _ _ _) (World.shaped_of_ZipB (by kernel_rfl) (by kernel_rfl)) (by kernel_rfl) (by kernel_rfl) (by kernel_rfl) (door_met os _)) ?_
 intro W base args ds gs before hval0 hW hsz0 hL hsh
 have hval : ∀ (j : Nat) t v, Tryz.f3.params[j]? = some t → args[j]? = some v → Value.okWide Tryz.prog W .any base t v := hval0
 have hW' := hW
 obtain ⟨p, q, hA0, hV, rfl, hfz, hnd⟩ := hW
 have hA : DataW.TrodAll enc Tryz.prog W 0 (fun _ => true) true Tryz.f3.params.toList args.toList ds p := hA0
 rw [Tryz.params3] at hA hval hsz0
 obtain ⟨v0, vs0, d0, ds0, p0, q0, hargs, rfl, rfl, h0, r0⟩ := trodAll_cons hA
 obtain ⟨v1, vs1, d1, ds1, p1, q1, rfl, rfl, rfl, h1, r1⟩ := trodAll_cons r0
 obtain ⟨rfl, rfl, rfl⟩ := trodAll_nil r1
 obtain rfl : args = #[v0, v1] := by cases args; simp_all
 obtain ⟨rfl, rfl⟩ := trodVars_none hV
 have k0 := h0
 have lt0 : ∀ x ∈ p0, x.block < W.heap.size := by obtain ⟨m, hm⟩ := k0; exact DataW.trod_lt m _ _ _ hm
 have k1 := h1
 have lt1 : ∀ x ∈ p1, x.block < W.heap.size := by obtain ⟨m, hm⟩ := k1; exact DataW.trod_lt m _ _ _ hm
 obtain ⟨cs0, rfl, _⟩ := okWide_struct Tryz.underlying24 (hval 0 24 v0 rfl rfl)
 obtain ⟨cs1, rfl, _⟩ := okWide_struct Tryz.underlying28 (hval 1 28 v1 rfl rfl)
 have hrb := reachBytes_lt
 obtain ⟨n0, f0⟩ := h0
 have w0 : ∀ k, k ∈ d0.weights Tryz.prog 24 → k ≤ BB := fun k hk => by
  have z := List.all_eq_true.1 hsz0 _ (DataW.weights_mem_each (ts := _) (j := 0) (t := 24) rfl rfl k hk)
  simp only [decide_eq_true_eq] at z
  unfold BB
  omega
 have e0 : (Value.agg cs0).cells = cs0 := by simp [Value.cells]
 rw [e0] at f0
 obtain ⟨n1, f1⟩ := h1
 have w1 : ∀ k, k ∈ d1.weights Tryz.prog 28 → k ≤ BB := fun k hk => by
  have z := List.all_eq_true.1 hsz0 _ (DataW.weights_mem_each (ts := _) (j := 1) (t := 28) rfl rfl k hk)
  simp only [decide_eq_true_eq] at z
  unfold BB
  omega
 have e1 : (Value.agg cs1).cells = cs1 := by simp [Value.cells]
 rw [e1] at f1
 obtain ⟨u0, hcs0, b0⟩ := trod_key (x := (d0, p0)) f0
 obtain rfl : cs0 = keyA u0 := Array.toList_inj.1 (by rw [hcs0]; rfl)
 obtain ⟨u1, g1⟩ := trod_value n1 f1 w1
 have ht := tabs_of_laid hL
 have hm : MaxW W := Tryz.shSplit.s1_3 W hsh
 have hks := ks_of_laid hL
 clear hA0 hval0
 have main := roleKeys_any b0 g1 ht hks hm
 simp only [Array.toArray_toList] at main
 refine main.mono fun e W' ⟨he, bel0⟩ => ?_
 have bel := bel0.below (Nat.le_refl _) (by simp)
 subst he
 exact ⟨_, rfl, _, _, _, [], _, [], hW', trodAll_mk1 (shut_bool Tryz.underlying4 _), (trodAll_cons_mk (Below.trod laidOut (by kernel_rfl) (of_decide_eq_true (by kernel_rfl)) k0 bel lt0) (trodAll_cons_mk (Below.trod laidOut (by kernel_rfl) (of_decide_eq_true (by kernel_rfl)) k1 bel lt1) trodAll_mk0)), rfl, bel.frame _, fun h => by cases h⟩
theorem both {a b : Bool} (h : a = true) (k : b = true) : (a && b) = true := by rw [h, k]; rfl
theorem lump_one {a b : Bool} (h : (a && b) = true) : a = true := by cases a <;> simp_all
theorem lump_two {a b : Bool} (h : (a && b) = true) : b = true := by cases b <;> simp_all
theorem lump0 : ((Rows.roleKeysRow.wf (OpenSpec.ofChange Rows.roleKeysSpec)) && ((laidOutB Tryz.prog) && ((mapsRowed Tryz.prog) && ((Tryz.f3.params.all (Tryz.prog.readableRec ·)) && ((namedTie Tryz.prog Rows.roleKeysRow.named Rows.roleKeysSpec.vars) && (((Rows.roleKeysRow.stops == [])) && (((Tryz.prog.stops == [])) && (((Rows.roleKeysRow.knobs == [])) && ((Tryz.prog.stopKnobs == [])))))))))) = true := by kernel_rfl
theorem lump1 : (((Rows.roleKeysRow.inPlace == Tryz.prog.inPlace 3)) && (((Rows.roleKeysRow.unfollowed == Tryz.prog.unfollowed 3)) && (((Rows.roleKeysRow.recurses == Tryz.prog.recurses 3)) && ((Rows.roleKeysRow.named == Tryz.prog.varsNamed 3))))) = true := by kernel_rfl
theorem lump2 : (((Rows.roleKeysRow.maps == (Tryz.f3.params.toList ++ Rows.roleKeysSpec.plain.varTypes Tryz.prog).any (Tryz.prog.mapsRec ·))) && (((Rows.roleKeysRow.ifaces == (Tryz.f3.params.toList ++ Rows.roleKeysSpec.plain.varTypes Tryz.prog).any (Tryz.prog.ifacesRec ·))) && (((Rows.roleKeysRow.mapsOut == Tryz.prog.mapsAmong Tryz.f3.resultTypes.toList)) && (((Rows.roleKeysRow.loops == (Tryz.f3.params.toList ++ Rows.roleKeysSpec.plain.varTypes Tryz.prog).any (Tryz.prog.loopsFrom ·))) && (((Rows.roleKeysRow.wideKeys == (Tryz.f3.params.toList ++ Rows.roleKeysSpec.plain.varTypes Tryz.prog ++ Tryz.f3.resultTypes.toList).any (Tryz.prog.wideKeysFrom ·))) && ((Rows.roleKeysSpec.vars.all (Tryz.prog.varReadable ·)) && ((Tryz.f3.resultTypes.all (fun t => Tryz.prog.readableRec t && decide (t < Tryz.prog.types.size))) && (((Rows.roleKeysRow.ifacesOut == Tryz.f3.resultTypes.toList.any (Tryz.prog.ifacesRec ·))) && (((Rows.roleKeysRow.loopsOut == Tryz.f3.resultTypes.toList.any (Tryz.prog.loopsFrom ·))) && (((Rows.roleKeysRow.plainKeys == Tryz.prog.plainKeys)) && (Rows.roleKeysRow.shortTexts.isNone))))))))))) = true := by kernel_rfl
theorem lump3 : ((Tryz.prog.stopsHeard) && ((Tryz.prog.mayEnter) && (((Rows.roleKeysRow.lifted == Tryz.prog.liftsFinal)) && ((Tryz.prog.make == some Rows.roleKeysRow.make))))) = true := by kernel_rfl
theorem lump4 : (((Rows.roleKeysRow.pinned == Rows.roleKeysRow.pinnedBy)) && (((Rows.roleKeysRow.veiled == (Tryz.f3.params.toList ++ Rows.roleKeysSpec.plain.varTypes Tryz.prog ++ Tryz.f3.resultTypes.toList).any (Tryz.prog.veiledRec ·))) && (Rows.roleKeysRow.veiledFits Tryz.prog Tryz.f3.params.toList (Tryz.f3.params.toList ++ Rows.roleKeysSpec.plain.varTypes Tryz.prog ++ Tryz.f3.resultTypes.toList)))) = true := by kernel_rfl
set_option maxRecDepth 100000 in
theorem joined : joinedFacts Tryz.prog 3 Tryz.f3 Rows.roleKeysSpec Rows.roleKeysRow = true := by
 unfold joinedFacts
 exact (both (both (both (both (both (both (both (both (both (both (both (both (both (both (both (both (both (both (both (both (both (both (both (both (both (both (both (both (both (both (both (lump_one lump0) (lump_one (lump_two lump0))) (lump_one (lump_two (lump_two lump0)))) (lump_one (lump_two (lump_two (lump_two lump0))))) (lump_one (lump_two (lump_two (lump_two (lump_two lump0)))))) (lump_one (lump_two (lump_two (lump_two (lump_two (lump_two lump0))))))) (lump_one (lump_two (lump_two (lump_two (lump_two (lump_two (lump_two lump0)))))))) (lump_one (lump_two (lump_two (lump_two (lump_two (lump_two (lump_two (lump_two lump0))))))))) (lump_two (lump_two (lump_two (lump_two (lump_two (lump_two (lump_two (lump_two lump0))))))))) (lump_one lump1)) (lump_one (lump_two lump1))) (lump_one (lump_two (lump_two lump1)))) (lump_two (lump_two (lump_two lump1)))) (lump_one lump2)) (lump_one (lump_two lump2))) (lump_one (lump_two (lump_two lump2)))) (lump_one (lump_two (lump_two (lump_two lump2))))) (lump_one (lump_two (lump_two (lump_two (lump_two lump2)))))) (lump_one (lump_two (lump_two (lump_two (lump_two (lump_two lump2))))))) (lump_one (lump_two (lump_two (lump_two (lump_two (lump_two (lump_two lump2)))))))) (lump_one (lump_two (lump_two (lump_two (lump_two (lump_two (lump_two (lump_two lump2))))))))) (lump_one (lump_two (lump_two (lump_two (lump_two (lump_two (lump_two (lump_two (lump_two lump2)))))))))) (lump_one (lump_two (lump_two (lump_two (lump_two (lump_two (lump_two (lump_two (lump_two (lump_two lump2))))))))))) (lump_two (lump_two (lump_two (lump_two (lump_two (lump_two (lump_two (lump_two (lump_two (lump_two lump2))))))))))) (lump_one lump3)) (lump_one (lump_two lump3))) (lump_one (lump_two (lump_two lump3)))) (lump_two (lump_two (lump_two lump3)))) (by kernel_rfl)) (lump_one lump4)) (lump_one (lump_two lump4))) (lump_two (lump_two lump4)))
theorem worded : Rows.roleKeysRow.wfByText (OpenSpec.ofChange Rows.roleKeysSpec) = true := by kernel_rfl
theorem main_is : Tryz.prog.mainIs = some (true, "f5290c8537b5b34fc11b615dd1d802bb94c8f816076d34f25044d82f42f2fd71".toList) := by kernel_rfl
theorem looks : false = Tryz.prog.looks [] := by kernel_rfl
theorem goes : false = Rows.roleKeysRow.goesBy Tryz.prog := by kernel_rfl
theorem named_f : Tryz.prog.funcNamed "pursuivant/pursuivantlaw13.RoleKeys" = some 3 := by kernel_rfl
theorem wants : ([24, 28].all fun u => !Tryz.prog.wantsStandIn u) = true := by kernel_rfl
theorem over : Rows.roleKeysRow.holds Tryz.pinned (OpenSpec.ofChange Rows.roleKeysSpec) :=
 OpenClaim.holds_of_wide 3 Tryz.f3 rfl rfl rfl rfl rfl rfl rfl ⟨rfl, rfl, rfl, rfl, rfl⟩ rfl rfl rfl rfl rfl named_f Tryz.func3 joined
  (of_decide_eq_true (by kernel_rfl)) (by unfold Func.isWrapper; first | (rw [if_pos (by decide +kernel)]; kernel_rfl) | (rw [if_neg (by decide +kernel)]; exact ⟨rfl, rfl⟩))
  (fun os started H enc _ => lifted os started H enc)
set_option maxRecDepth 100000 in
theorem card : Claim7.holds Tryz.pinned (.plain (OpenSpec.ofChange Rows.roleKeysSpec)) Rows.roleKeysCard :=
 Claim7.holds_tied_plain_at .later [] [.data, .data, .data, .data, .data, .pinned] true (true, "f5290c8537b5b34fc11b615dd1d802bb94c8f816076d34f25044d82f42f2fd71") false
  over (fun _ h => by cases h) worded (fun _ h => by cases h) roleKeys_row_tie rfl ⟨rfl, rfl⟩ main_is rfl
  (fun f fn hf hfn => by
   obtain rfl : f = 3 := Option.some.inj (named_f.symm.trans hf) |>.symm
   obtain rfl : fn = Tryz.f3 := (Option.some.inj (Tryz.func3.symm.trans hfn)).symm
   exact ⟨looks, fun j t ht => by
    rw [Tryz.params3] at ht
    have hm : t ∈ [24, 28] := by simpa using Array.mem_of_getElem? ht
    exact (show Tryz.prog.wantsStandIn t = false by simpa using List.all_eq_true.1 wants t hm)⟩)
  goes
end RKeys
theorem roleKeys_holds : Rows.RoleKeysCardSaid := RKeys.card
#print axioms roleKeys_holds
end Go.Proofs.YtckbnjipecclaaaGreatDoor
