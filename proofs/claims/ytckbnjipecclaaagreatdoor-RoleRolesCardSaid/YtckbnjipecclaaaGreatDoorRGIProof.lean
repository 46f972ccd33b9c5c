/- RoleRoles: any role's value, and back. No condition (package variables start as the text lays them). -/
import Derived.Test.YtckbnjipecclaaaGreatDoorRAC
import Derived.Test.YtckbnjipecclaaaGreatDoorRAD
import Derived.Test.YtckbnjipecclaaaGreatDoorRows
import Derived.Test.YtckbnjipecclaaaGreatDoorCards
import Derived.Test.YtckbnjipecclaaaGreatDoorTie
import Derived.ProofKit
import Derived.LaidMore
import Derived.OpenShut
import Derived.ChangeOld
import Derived.Below
import Derived.Lay
import Derived.Stop.Joined
import Derived.Stop.LaidErr
import Derived.MakeChecks
import Derived.SizedLaws
import Derived.SevenTiedAt
set_option linter.all false
set_option maxHeartbeats 12800000
set_option maxRecDepth 10000
set_option linter.unusedVariables false
set_option linter.unusedSimpArgs false
set_option linter.unnecessarySimpa false
namespace Go.Proofs.YtckbnjipecclaaaGreatDoor
open Go.ChangeShapes Go.WideShapes Go.ChangeAt Go.RowKit Go.WideMaps Go.WideElems
namespace RRoles
set_option linter.unusedVariables false
theorem own : ownKnob Tryz.prog.godebug = none := by kernel_rfl
theorem laidOut : laidOutB Tryz.prog = true := by kernel_rfl
theorem lay_fits (os : Os) : (World.holding Tryz.prog os ⟨#[], #[], []⟩).layFits Tryz.prog laid6 [] = true := by kernel_rfl
theorem lay_ifaces (os : Os) : (World.holding Tryz.prog os ⟨#[], #[], []⟩).layIfaces Tryz.prog laid6 (World.laidAll Tryz.prog os laid6) = true := by kernel_rfl
theorem door_met (os : Os) (args : Array Value) : laidMetH Tryz.prog laid6 ((World.laidAll Tryz.prog os laid6).forCall (fun _ _ => 0) ⟨#[], args, []⟩).memory := by
 rw [MakeChecks.laidMetH_plain _ _ _ (by kernel_rfl)]
 exact laidMet_laidAll _ (lay_fits os) (lay_ifaces os)
set_option maxRecDepth 100000 in
theorem lifted (os : Os) (started : os.Started) (H : Type) (enc : TypeId × Value → H) :
  ReturnsInHanded {} Tryz.checked os 4 .any (fun w args => (Rows.roleRolesSpec.pre enc Tryz.prog Tryz.f4 [] false w args ∧ laidMetH Tryz.prog laid6 w) ∧ sizedMet enc Tryz.prog Tryz.f4 (OpenSpec.ofChange Rows.roleRolesSpec) false w args)
   (Rows.roleRolesSpec.post enc Tryz.prog Tryz.f4 false true false false) := by
 refine handed_shaped (C := Tryz.checked) (X := fun w _ => laidMetH Tryz.prog laid6 w) (fun _ _ _ hh h => h.of_heap hh) own started (by kernel_rfl) Tryz.func4
  (ChangeSpec.witness_shaped (enc := enc) (C := Tryz.checked) (os := os) (X := fun w _ => laidMetH Tryz.prog laid6 w) false (World.laidAll Tryz.prog os laid6) #[.agg #[.slice none 0 0, .int .i64 0], .agg #[.int .i64 0, .int .i64 0, .string ⟨#[]⟩, .slice none 0 0, .slice none 0 0]] 8 (World.laidAll_os _ _ _) (World.shaped_of_ZipB (by kernel_rfl) (by kernel_rfl)) (by kernel_rfl) (by kernel_rfl) (by kernel_rfl) (door_met os _)) ?_
 intro W base args ds gs before hval0 hW hsz0 hL hsh
 have hval : ∀ (j : Nat) t v, Tryz.f4.params[j]? = some t → args[j]? = some v → Value.okWide Tryz.prog W .any base t v := hval0
 have hW' := hW
 obtain ⟨p, q, hA0, hV, rfl, hfz, hnd⟩ := hW
 have hA : DataW.TrodAll enc Tryz.prog W 0 (fun _ => true) true Tryz.f4.params.toList args.toList ds p := hA0
 rw [Tryz.params4] at hA hval hsz0
 obtain ⟨v0, vs0, d0, ds0, p0, q0, hargs, rfl, rfl, h0, r0⟩ := trodAll_cons hA
 obtain ⟨v1, vs1, d1, ds1, p1, q1, rfl, rfl, rfl, h1, r1⟩ := trodAll_cons r0
 obtain ⟨rfl, rfl, rfl⟩ := trodAll_nil r1
 obtain rfl : args = #[v0, v1] := by cases args; simp_all
 obtain ⟨rfl, rfl⟩ := trodVars_none hV
 have k0 := h0
 have lt0 : ∀ x ∈ p0, x.block < W.heap.size := by obtain ⟨m, hm⟩ := k0; exact DataW.trod_lt m _ _ _ hm
 have k1 := h1
 have lt1 : ∀ x ∈ p1, x.block < W.heap.size := by obtain ⟨m, hm⟩ := k1; exact DataW.trod_lt m _ _ _ hm
 obtain ⟨cs0, rfl, _⟩ := okWide_struct Tryz.underlying43 (hval 0 43 v0 rfl rfl)
 obtain ⟨cs1, rfl, _⟩ := okWide_struct Tryz.underlying28 (hval 1 28 v1 rfl rfl)
 have hrb := reachBytes_lt
 obtain ⟨n0, f0⟩ := h0
 have w0 : ∀ k, k ∈ d0.weights Tryz.prog 43 → k ≤ 140737488355328 := fun k hk => by
  have z := List.all_eq_true.1 hsz0 _ (DataW.weights_mem_each (ts := _) (j := 0) (t := 43) rfl rfl k hk)
  simp only [decide_eq_true_eq] at z
  skip
  omega
 have e0 : (Value.agg cs0).cells = cs0 := by simp [Value.cells]
 rw [e0] at f0
 obtain ⟨n1, f1⟩ := h1
 have w1 : ∀ k, k ∈ d1.weights Tryz.prog 28 → k ≤ BB := fun k hk => by
  have z := List.all_eq_true.1 hsz0 _ (DataW.weights_mem_each (ts := _) (j := 1) (t := 28) rfl rfl k hk)
  simp only [decide_eq_true_eq] at z
  unfold BB
  omega
 have e1 : (Value.agg cs1).cells = cs1 := by simp [Value.cells]
 rw [e1] at f1
 obtain ⟨u0, a0, c0, hcs0, g0, b0, z0⟩ := trod_role (x := (d0, p0)) f0 w0
 obtain rfl : cs0 = #[.slice a0 u0.keys.length c0, .int .i64 u0.thr] := Array.toList_inj.1 hcs0
 obtain ⟨u1, g1⟩ := trod_value n1 f1 w1
 have ht := tabs_of_laid hL
 have hm : MaxW W := Tryz.shSplit.s1_3 W hsh
 have hks := ks_of_laid hL
 clear hA0 hval0
 have main := roleRoles_any g0 z0 b0 g1 ht hks hm
 simp only [Array.toArray_toList] at main
 refine main.mono fun e W' ⟨he, bel0⟩ => ?_
 have bel := bel0.below (Nat.le_refl _) (by simp)
 subst he
 exact ⟨_, rfl, _, _, _, [], _, [], hW', trodAll_mk1 (shut_bool Tryz.underlying4 _), (trodAll_cons_mk (Below.trod laidOut (by kernel_rfl) (of_decide_eq_true (by kernel_rfl)) k0 bel lt0) (trodAll_cons_mk (Below.trod laidOut (by kernel_rfl) (of_decide_eq_true (by kernel_rfl)) k1 bel lt1) trodAll_mk0)), rfl, bel.frame _, fun h => by cases h⟩
theorem both {a b : Bool} (h : a = true) (k : b = true) : (a && b) = true := by rw [h, k]; rfl
theorem lump_one {a b : Bool} (h : (a && b) = true) : a = true := by cases a <;> simp_all
theorem lump_two {a b : Bool} (h : (a && b) = true) : b = true := by cases b <;> simp_all
theorem lump0 : ((Rows.roleRolesRow.wf (OpenSpec.ofChange Rows.roleRolesSpec)) && ((laidOutB Tryz.prog) && ((mapsRowed Tryz.prog) && ((Tryz.f4.params.all (Tryz.prog.readableRec ·)) && ((namedTie Tryz.prog Rows.roleRolesRow.named Rows.roleRolesSpec.vars) && (((Rows.roleRolesRow.stops == [])) && (((Tryz.prog.stops == [])) && (((Rows.roleRolesRow.knobs == [])) && ((Tryz.prog.stopKnobs == [])))))))))) = true := by kernel_rfl
theorem lump1 : (((Rows.roleRolesRow.inPlace == Tryz.prog.inPlace 4)) && (((Rows.roleRolesRow.unfollowed == Tryz.prog.unfollowed 4)) && (((Rows.roleRolesRow.recurses == Tryz.prog.recurses 4)) && ((Rows.roleRolesRow.named == Tryz.prog.varsNamed 4))))) = true := by kernel_rfl
theorem lump2 : (((Rows.roleRolesRow.maps == (Tryz.f4.params.toList ++ Rows.roleRolesSpec.plain.varTypes Tryz.prog).any (Tryz.prog.mapsRec ·))) && (((Rows.roleRolesRow.ifaces == (Tryz.f4.params.toList ++ Rows.roleRolesSpec.plain.varTypes Tryz.prog).any (Tryz.prog.ifacesRec ·))) && (((Rows.roleRolesRow.mapsOut == Tryz.prog.mapsAmong Tryz.f4.resultTypes.toList)) && (((Rows.roleRolesRow.loops == (Tryz.f4.params.toList ++ Rows.roleRolesSpec.plain.varTypes Tryz.prog).any (Tryz.prog.loopsFrom ·))) && (((Rows.roleRolesRow.wideKeys == (Tryz.f4.params.toList ++ Rows.roleRolesSpec.plain.varTypes Tryz.prog ++ Tryz.f4.resultTypes.toList).any (Tryz.prog.wideKeysFrom ·))) && ((Rows.roleRolesSpec.vars.all (Tryz.prog.varReadable ·)) && ((Tryz.f4.resultTypes.all (fun t => Tryz.prog.readableRec t && decide (t < Tryz.prog.types.size))) && (((Rows.roleRolesRow.ifacesOut == Tryz.f4.resultTypes.toList.any (Tryz.prog.ifacesRec ·))) && (((Rows.roleRolesRow.loopsOut == Tryz.f4.resultTypes.toList.any (Tryz.prog.loopsFrom ·))) && (((Rows.roleRolesRow.plainKeys == Tryz.prog.plainKeys)) && (Rows.roleRolesRow.shortTexts.isNone))))))))))) = true := by kernel_rfl
theorem lump3 : ((Tryz.prog.stopsHeard) && ((Tryz.prog.mayEnter) && (((Rows.roleRolesRow.lifted == Tryz.prog.liftsFinal)) && ((Tryz.prog.make == some Rows.roleRolesRow.make))))) = true := by kernel_rfl
theorem lump4 : (((Rows.roleRolesRow.pinned == Rows.roleRolesRow.pinnedBy)) && (((Rows.roleRolesRow.veiled == (Tryz.f4.params.toList ++ Rows.roleRolesSpec.plain.varTypes Tryz.prog ++ Tryz.f4.resultTypes.toList).any (Tryz.prog.veiledRec ·))) && (Rows.roleRolesRow.veiledFits Tryz.prog Tryz.f4.params.toList (Tryz.f4.params.toList ++ Rows.roleRolesSpec.plain.varTypes Tryz.prog ++ Tryz.f4.resultTypes.toList)))) = true := by kernel_rfl
set_option maxRecDepth 100000 in
theorem joined : joinedFacts Tryz.prog 4 Tryz.f4 Rows.roleRolesSpec Rows.roleRolesRow = true := by
 unfold joinedFacts
 exact (both (both (both (both (both (both (both (both (both (both (both (both (both (both (both (both (both (both (both (both (both (both (both (both (both (both (both (both (both (both (both (lump_one lump0) (lump_one (lump_two lump0))) (lump_one (lump_two (lump_two lump0)))) (lump_one (lump_two (lump_two (lump_two lump0))))) (lump_one (lump_two (lump_two (lump_two (lump_two lump0)))))) (lump_one (lump_two (lump_two (lump_two (lump_two (lump_two lump0))))))) (lump_one (lump_two (lump_two (lump_two (lump_two (lump_two (lump_two lump0)))))))) (lump_one (lump_two (lump_two (lump_two (lump_two (lump_two (lump_two (lump_two lump0))))))))) (lump_two (lump_two (lump_two (lump_two (lump_two (lump_two (lump_two (lump_two lump0))))))))) (lump_one lump1)) (lump_one (lump_two lump1))) (lump_one (lump_two (lump_two lump1)))) (lump_two (lump_two (lump_two lump1)))) (lump_one lump2)) (lump_one (lump_two lump2))) (lump_one (lump_two (lump_two lump2)))) (lump_one (lump_two (lump_two (lump_two lump2))))) (lump_one (lump_two (lump_two (lump_two (lump_two lump2)))))) (lump_one (lump_two (lump_two (lump_two (lump_two (lump_two lump2))))))) (lump_one (lump_two (lump_two (lump_two (lump_two (lump_two (lump_two lump2)))))))) (lump_one (lump_two (lump_two (lump_two (lump_two (lump_two (lump_two (lump_two lump2))))))))) (lump_one (lump_two (lump_two (lump_two (lump_two (lump_two (lump_two (lump_two (lump_two lump2)))))))))) (lump_one (lump_two (lump_two (lump_two (lump_two (lump_two (lump_two (lump_two (lump_two (lump_two lump2))))))))))) (lump_two (lump_two (lump_two (lump_two (lump_two (lump_two (lump_two (lump_two (lump_two (lump_two lump2))))))))))) (lump_one lump3)) (lump_one (lump_two lump3))) (lump_one (lump_two (lump_two lump3)))) (lump_two (lump_two (lump_two lump3)))) (by kernel_rfl)) (lump_one lump4)) (lump_one (lump_two lump4))) (lump_two (lump_two lump4)))
theorem worded : Rows.roleRolesRow.wfByText (OpenSpec.ofChange Rows.roleRolesSpec) = true := by kernel_rfl
theorem main_is : Tryz.prog.mainIs = some (true, "f5290c8537b5b34fc11b615dd1d802bb94c8f816076d34f25044d82f42f2fd71".toList) := by kernel_rfl
theorem looks : false = Tryz.prog.looks [] := by kernel_rfl
theorem goes : false = Rows.roleRolesRow.goesBy Tryz.prog := by kernel_rfl
theorem named_f : Tryz.prog.funcNamed "pursuivant/pursuivantlaw13.RoleRoles" = some 4 := by kernel_rfl
theorem wants : ([43, 28].all fun u => !Tryz.prog.wantsStandIn u) = true := by kernel_rfl
theorem over : Rows.roleRolesRow.holds Tryz.pinned (OpenSpec.ofChange Rows.roleRolesSpec) :=
 OpenClaim.holds_of_wide 4 Tryz.f4 rfl rfl rfl rfl rfl rfl rfl ⟨rfl, rfl, rfl, rfl, rfl⟩ rfl rfl rfl rfl rfl named_f Tryz.func4 joined
  (of_decide_eq_true (by kernel_rfl)) (by unfold Func.isWrapper; first | (rw [if_pos (by decide +kernel)]; kernel_rfl) | (rw [if_neg (by decide +kernel)]; exact ⟨rfl, rfl⟩))
  (fun os started H enc _ => lifted os started H enc)
set_option maxRecDepth 100000 in
theorem card : Claim7.holds Tryz.pinned (.plain (OpenSpec.ofChange Rows.roleRolesSpec)) Rows.roleRolesCard :=
 Claim7.holds_tied_plain_at .later [] [.data, .data, .data, .data, .data, .pinned] true (true, "f5290c8537b5b34fc11b615dd1d802bb94c8f816076d34f25044d82f42f2fd71") false
  over (fun _ h => by cases h) worded (fun _ h => by cases h) roleRoles_row_tie rfl ⟨rfl, rfl⟩ main_is rfl
  (fun f fn hf hfn => by
   obtain rfl : f = 4 := Option.some.inj (named_f.symm.trans hf) |>.symm
   obtain rfl : fn = Tryz.f4 := (Option.some.inj (Tryz.func4.symm.trans hfn)).symm
   exact ⟨looks, fun j t ht => by
    rw [Tryz.params4] at ht
    have hm : t ∈ [43, 28] := by simpa using Array.mem_of_getElem? ht
    exact (show Tryz.prog.wantsStandIn t = false by simpa using List.all_eq_true.1 wants t hm)⟩)
  goes
end RRoles
theorem roleRoles_holds : Rows.RoleRolesCardSaid := RRoles.card
#print axioms roleRoles_holds
end Go.Proofs.YtckbnjipecclaaaGreatDoor
