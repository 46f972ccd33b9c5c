/- CanonSets is true for every input. No condition (package variables start as the text lays them). -/
import Derived.Test.YtpbphdkjjoipnaaGreatDoorHA5
import Derived.Test.YtpbphdkjjoipnaaGreatDoorHT
import Derived.Test.YtpbphdkjjoipnaaGreatDoorRows
import Derived.Test.YtpbphdkjjoipnaaGreatDoorCards
import Derived.Test.YtpbphdkjjoipnaaGreatDoorTie
import Derived.ProofKit
import Derived.LaidMore
import Derived.OpenShut
import Derived.ChangeOld
import Derived.Below
import Derived.Lay
import Derived.Stop.Joined
import Derived.Stop.LaidErr
import Derived.MakeChecks
import Derived.SizedLaws
import Derived.SevenTiedAt
set_option linter.all false
set_option maxHeartbeats 12800000
set_option maxRecDepth 10000
set_option linter.unusedVariables false
set_option linter.unusedSimpArgs false
set_option linter.unnecessarySimpa false
namespace Go.Proofs.YtpbphdkjjoipnaaGreatDoor
open Go.Proofs.Tryz
open Go.ChangeShapes Go.WideShapes Go.ChangeAt Go.RowKit Go.WideMaps Go.WideElems
namespace Sets
set_option linter.unusedVariables false
theorem own : ownKnob Tryz.prog.godebug = none := by kernel_rfl
theorem lO : laidOutB Tryz.prog = true := by kernel_rfl
theorem lF (os : Os) : (World.holding Tryz.prog os ⟨#[], #[], []⟩).layFits Tryz.prog kj [] = true := by kernel_rfl
theorem lI (os : Os) : (World.holding Tryz.prog os ⟨#[], #[], []⟩).layIfaces Tryz.prog kj (World.laidAll Tryz.prog os kj) = true := by kernel_rfl
theorem dM (os : Os) (args : Array Value) : laidMetH Tryz.prog kj ((World.laidAll Tryz.prog os kj).forCall (fun _ _ => 0) ⟨#[], args, []⟩).memory := by
 rw [MakeChecks.laidMetH_plain _ _ _ (by kernel_rfl)]
 exact laidMet_laidAll _ (lF os) (lI os)
set_option maxRecDepth 100000 in
theorem lifted (os : Os) (started : os.Started) (H : Type) (enc : TypeId × Value → H) :
  ReturnsInHanded {} Tryz.checked os 9 .any (fun w args => (Rows.canonSetsSpec.pre enc Tryz.prog Tryz.f9 [] false w args ∧ laidMetH Tryz.prog kj w) ∧ sizedMet enc Tryz.prog Tryz.f9 (OpenSpec.ofChange Rows.canonSetsSpec) false w args)
   (Rows.canonSetsSpec.post enc Tryz.prog Tryz.f9 false true false false) := by
 refine K2 (C := Tryz.checked) (X := fun w _ => laidMetH Tryz.prog kj w) (fun _ _ _ hh h => h.of_heap hh) own started (by kernel_rfl) func9
  (ChangeSpec.witness_shaped (enc := enc) (C := Tryz.checked) (os := os) (X := fun w _ => laidMetH Tryz.prog kj w) false (World.laidAll Tryz.prog os kj) #[.agg #[.int .i64 0, .int .i64 0, .string ⟨#[]⟩, .slice none 0 0, .slice none 0 0], .string ⟨#[]⟩, .agg #[.int .i64 0, .int .i64 0, .string ⟨#[]⟩, .slice none 0 0, .slice none 0 0]] 8 (World.laidAll_os _ _ _) (World.shaped_of_ZipB (by kernel_rfl) (by kernel_rfl)) (by kernel_rfl) (by kernel_rfl) (by kernel_rfl) (dM os _)) ?_
 intro W base args ds gs before hval0 hW hsz0 hL hsh
 have hval : ∀ (j : Nat) t v, Tryz.f9.params[j]? = some t → args[j]? = some v → Value.okWide Tryz.prog W .any base t v := hval0
 have hW' := hW
 obtain ⟨p, q, hA0, hV, rfl, hfz, hnd⟩ := hW
 have hA : DataW.TrodAll enc Tryz.prog W 0 (fun _ => true) true Tryz.f9.params.toList args.toList ds p := hA0
 rw [Tryz.params9] at hA hval hsz0
 obtain ⟨v0, vs0, d0, ds0, p0, q0, hargs, rfl, rfl, h0, r0⟩ := trodAll_cons hA
 obtain ⟨v1, vs1, d1, ds1, p1, q1, rfl, rfl, rfl, h1, r1⟩ := trodAll_cons r0
 obtain ⟨v2, vs2, d2, ds2, p2, q2, rfl, rfl, rfl, h2, r2⟩ := trodAll_cons r1
 obtain ⟨rfl, rfl, rfl⟩ := trodAll_nil r2
 obtain rfl : args = #[v0, v1, v2] := by cases args; simp_all
 obtain ⟨rfl, rfl⟩ := trodVars_none hV
 have k0 := h0
 have lt0 : ∀ x ∈ p0, x.block < W.heap.size := by obtain ⟨m, hm⟩ := k0; exact DataW.trod_lt m _ _ _ hm
 have k1 := h1
 have lt1 : ∀ x ∈ p1, x.block < W.heap.size := by obtain ⟨m, hm⟩ := k1; exact DataW.trod_lt m _ _ _ hm
 have k2 := h2
 have lt2 : ∀ x ∈ p2, x.block < W.heap.size := by obtain ⟨m, hm⟩ := k2; exact DataW.trod_lt m _ _ _ hm
 obtain ⟨cs0, rfl, _⟩ := okWide_struct underlying25 (hval 0 25 v0 rfl rfl)
 obtain ⟨s1, rfl⟩ := okWide_string underlying9 (hval 1 9 v1 rfl rfl)
 obtain ⟨cs2, rfl, _⟩ := okWide_struct underlying25 (hval 2 25 v2 rfl rfl)
 have hrb := reachBytes_lt
 obtain ⟨n0, f0⟩ := h0
 obtain ⟨n2, f2⟩ := h2
 have w0 : ∀ k, k ∈ d0.weights Tryz.prog 25 → k ≤ BB := fun k hk => by
  have z := List.all_eq_true.1 hsz0 _ (DataW.weights_mem_each (ts := _) (j := 0) (t := 25) rfl rfl k hk)
  simp only [decide_eq_true_eq] at z
  unfold BB
  omega
 have w2 : ∀ k, k ∈ d2.weights Tryz.prog 25 → k ≤ BB := fun k hk => by
  have z := List.all_eq_true.1 hsz0 _ (DataW.weights_mem_each (ts := _) (j := 2) (t := 25) rfl rfl k hk)
  simp only [decide_eq_true_eq] at z
  unfold BB
  omega
 have e0 : (Value.agg cs0).cells = cs0 := by simp [Value.cells]
 rw [e0] at f0
 obtain ⟨u0, g0⟩ := Kf n0 f0 w0
 have e2 : (Value.agg cs2).cells = cs2 := by simp [Value.cells]
 rw [e2] at f2
 obtain ⟨u2, g2⟩ := Kf n2 f2 w2
 have ht := tabs8 hL
 have hm : b9 W := Tryz.shSplit.s1_3 W hsh
 have he8 := errs8 hL
 clear hA0 hval0
 have main := sets_any g0 s1 g2 hm ht he8
 simp only [Array.toArray_toList] at main
 refine main.mono fun e W' ⟨he, bel0⟩ => ?_
 have bel := bel0.below (Nat.le_refl _) (by simp)
 subst he
 exact ⟨_, rfl, _, _, _, [], _, [], hW', trodAll_mk1 (shut_bool underlying4 _), (trodAll_cons_mk (Below.trod lO (by kernel_rfl) (of_decide_eq_true (by kernel_rfl)) k0 bel lt0) (trodAll_cons_mk (Below.trod lO (by kernel_rfl) (of_decide_eq_true (by kernel_rfl)) k1 bel lt1) (trodAll_cons_mk (Below.trod lO (by kernel_rfl) (of_decide_eq_true (by kernel_rfl)) k2 bel lt2) trodAll_mk0))), rfl, bel.frame _, fun h => by cases h⟩
theorem qn {a b : Bool} (h : a = true) (k : b = true) : (a && b) = true := by rw [h, k]; rfl
theorem yi {a b : Bool} (h : (a && b) = true) : a = true := by cases a <;> simp_all
theorem zd {a b : Bool} (h : (a && b) = true) : b = true := by cases b <;> simp_all
theorem YE : ((Rows.canonSetsRow.wf (OpenSpec.ofChange Rows.canonSetsSpec)) && ((laidOutB Tryz.prog) && ((mapsRowed Tryz.prog) && ((Tryz.f9.params.all (Tryz.prog.readableRec ·)) && ((namedTie Tryz.prog Rows.canonSetsRow.named Rows.canonSetsSpec.vars) && (((Rows.canonSetsRow.stops == [])) && (((Tryz.prog.stops == [])) && (((Rows.canonSetsRow.knobs == [])) && ((Tryz.prog.stopKnobs == [])))))))))) = true := by kernel_rfl
theorem l1 : (((Rows.canonSetsRow.inPlace == Tryz.prog.inPlace 9)) && (((Rows.canonSetsRow.unfollowed == Tryz.prog.unfollowed 9)) && (((Rows.canonSetsRow.recurses == Tryz.prog.recurses 9)) && ((Rows.canonSetsRow.named == Tryz.prog.varsNamed 9))))) = true := by kernel_rfl
theorem bh : (((Rows.canonSetsRow.maps == (Tryz.f9.params.toList ++ Rows.canonSetsSpec.plain.varTypes Tryz.prog).any (Tryz.prog.mapsRec ·))) && (((Rows.canonSetsRow.ifaces == (Tryz.f9.params.toList ++ Rows.canonSetsSpec.plain.varTypes Tryz.prog).any (Tryz.prog.ifacesRec ·))) && (((Rows.canonSetsRow.mapsOut == Tryz.prog.mapsAmong Tryz.f9.resultTypes.toList)) && (((Rows.canonSetsRow.loops == (Tryz.f9.params.toList ++ Rows.canonSetsSpec.plain.varTypes Tryz.prog).any (Tryz.prog.loopsFrom ·))) && (((Rows.canonSetsRow.wideKeys == (Tryz.f9.params.toList ++ Rows.canonSetsSpec.plain.varTypes Tryz.prog ++ Tryz.f9.resultTypes.toList).any (Tryz.prog.wideKeysFrom ·))) && ((Rows.canonSetsSpec.vars.all (Tryz.prog.varReadable ·)) && ((Tryz.f9.resultTypes.all (fun t => Tryz.prog.readableRec t && decide (t < Tryz.prog.types.size))) && (((Rows.canonSetsRow.ifacesOut == Tryz.f9.resultTypes.toList.any (Tryz.prog.ifacesRec ·))) && (((Rows.canonSetsRow.loopsOut == Tryz.f9.resultTypes.toList.any (Tryz.prog.loopsFrom ·))) && (((Rows.canonSetsRow.plainKeys == Tryz.prog.plainKeys)) && (Rows.canonSetsRow.shortTexts.isNone))))))))))) = true := by kernel_rfl
theorem l3 : ((Tryz.prog.stopsHeard) && ((Tryz.prog.mayEnter) && (((Rows.canonSetsRow.lifted == Tryz.prog.liftsFinal)) && ((Tryz.prog.make == some Rows.canonSetsRow.make))))) = true := by kernel_rfl
theorem l4 : (((Rows.canonSetsRow.pinned == Rows.canonSetsRow.pinnedBy)) && (((Rows.canonSetsRow.veiled == (Tryz.f9.params.toList ++ Rows.canonSetsSpec.plain.varTypes Tryz.prog ++ Tryz.f9.resultTypes.toList).any (Tryz.prog.veiledRec ·))) && (Rows.canonSetsRow.veiledFits Tryz.prog Tryz.f9.params.toList (Tryz.f9.params.toList ++ Rows.canonSetsSpec.plain.varTypes Tryz.prog ++ Tryz.f9.resultTypes.toList)))) = true := by kernel_rfl
set_option maxRecDepth 100000 in
theorem jD : joinedFacts Tryz.prog 9 Tryz.f9 Rows.canonSetsSpec Rows.canonSetsRow = true := by
 unfold joinedFacts
 exact (qn (qn (qn (qn (qn (qn (qn (qn (qn (qn (qn (qn (qn (qn (qn (qn (qn (qn (qn (qn (qn (qn (qn (qn (qn (qn (qn (qn (qn (qn (qn (yi YE) (yi (zd YE))) (yi (zd (zd YE)))) (yi (zd (zd (zd YE))))) (yi (zd (zd (zd (zd YE)))))) (yi (zd (zd (zd (zd (zd YE))))))) (yi (zd (zd (zd (zd (zd (zd YE)))))))) (yi (zd (zd (zd (zd (zd (zd (zd YE))))))))) (zd (zd (zd (zd (zd (zd (zd (zd YE))))))))) (yi l1)) (yi (zd l1))) (yi (zd (zd l1)))) (zd (zd (zd l1)))) (yi bh)) (yi (zd bh))) (yi (zd (zd bh)))) (yi (zd (zd (zd bh))))) (yi (zd (zd (zd (zd bh)))))) (yi (zd (zd (zd (zd (zd bh))))))) (yi (zd (zd (zd (zd (zd (zd bh)))))))) (yi (zd (zd (zd (zd (zd (zd (zd bh))))))))) (yi (zd (zd (zd (zd (zd (zd (zd (zd bh)))))))))) (yi (zd (zd (zd (zd (zd (zd (zd (zd (zd bh))))))))))) (zd (zd (zd (zd (zd (zd (zd (zd (zd (zd bh))))))))))) (yi l3)) (yi (zd l3))) (yi (zd (zd l3)))) (zd (zd (zd l3)))) (by kernel_rfl)) (yi l4)) (yi (zd l4))) (zd (zd l4)))
theorem wD : Rows.canonSetsRow.wfByText (OpenSpec.ofChange Rows.canonSetsSpec) = true := by kernel_rfl
theorem mI : Tryz.prog.mainIs = some (true, "2d7dc3d20f9f026166fbbd4f33e041de1d309c8d4dd75b69ca1b9abf9e4afbf9".toList) := by kernel_rfl
theorem looks : true = Tryz.prog.looks [] := by kernel_rfl
theorem goes : false = Rows.canonSetsRow.goesBy Tryz.prog := by kernel_rfl
theorem nF : Tryz.prog.funcNamed "pursuivant/pursuivantlaw06.CanonSets" = some 9 := by kernel_rfl
theorem wants : ([25, 9, 25].all fun u => !Tryz.prog.wantsStandIn u) = true := by kernel_rfl
theorem over : Rows.canonSetsRow.holds Tryz.pinned (OpenSpec.ofChange Rows.canonSetsSpec) :=
 OpenClaim.holds_of_wide 9 Tryz.f9 rfl rfl rfl rfl rfl rfl rfl ⟨rfl, rfl, rfl, rfl, rfl⟩ rfl rfl rfl rfl rfl nF func9 jD
  (of_decide_eq_true (by kernel_rfl)) (by unfold Func.isWrapper; first | (rw [if_pos (by decide +kernel)]; kernel_rfl) | (rw [if_neg (by decide +kernel)]; exact ⟨rfl, rfl⟩))
  (fun os started H enc _ => lifted os started H enc)
theorem card : Claim7.holds Tryz.pinned (.plain (OpenSpec.ofChange Rows.canonSetsSpec)) Rows.canonSetsCard :=
 Claim7.holds_tied_plain_at .later [] [.data, .data, .data, .data, .sentinel, .sentinel, .pinned, .pinned] true (true, "2d7dc3d20f9f026166fbbd4f33e041de1d309c8d4dd75b69ca1b9abf9e4afbf9") true
  over (fun _ h => by cases h) wD (fun _ h => by cases h) canonSets_row_tie rfl ⟨rfl, rfl⟩ mI rfl
  (fun f fn hf hfn => by
   obtain rfl : f = 9 := Option.some.inj (nF.symm.trans hf) |>.symm
   obtain rfl : fn = Tryz.f9 := (Option.some.inj (func9.symm.trans hfn)).symm
   exact ⟨looks, fun j t ht => by
    rw [Tryz.params9] at ht
    have hm : t ∈ [25, 9, 25] := by simpa using Array.mem_of_getElem? ht
    exact (show Tryz.prog.wantsStandIn t = false by simpa using List.all_eq_true.1 wants t hm)⟩)
  goes
end Sets
theorem canonSets_holds : Rows.CanonSetsCardSaid := Sets.card
#print axioms canonSets_holds
end Go.Proofs.YtpbphdkjjoipnaaGreatDoor
