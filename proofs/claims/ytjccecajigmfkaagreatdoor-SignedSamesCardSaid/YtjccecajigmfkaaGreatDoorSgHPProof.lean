/- SignedSames: whether any two envelopes are the same, just as the document says. No condition (package variables start as the text lays them). -/
import Derived.Test.YtjccecajigmfkaaGreatDoorSgAO
import Derived.Test.YtjccecajigmfkaaGreatDoorCards
import Derived.Test.YtjccecajigmfkaaGreatDoorTie
import Derived.ProofKit
import Derived.ChangeOld
import Derived.Below
import Derived.Lay
import Derived.Stop.Joined
import Derived.SevenTiedAt
set_option linter.all false
set_option maxHeartbeats 12800000
set_option maxRecDepth 100000
namespace Go.Proofs.YtjccecajigmfkaaGreatDoor
open Go.Proofs.Tryz
open Go.ChangeShapes Go.WideShapes Go.ChangeAt Go.RowKit Go.WideMaps Go.WideElems
namespace RSames
variable {a b:Bool}
theorem own:ownKnob Tryz.prog.godebug=none:=Wr
theorem laidOut:laidOutB prog=true:=Wr
theorem lay_fits (os:Os):(World.holding prog os ⟨#[],#[],[]⟩).layFits prog jF []=true:=Wr
theorem lay_ifaces (os:Os):(World.holding prog os ⟨#[],#[],[]⟩).layIfaces prog jF (World.laidAll prog os jF)=true:=Wr
theorem door_met (os:Os)(args:Array Value):laidMetH prog jF ((World.laidAll prog os jF).forCall (fun _ _=>0) ⟨#[],args,[]⟩).memory:=by
 rw [MakeChecks.laidMetH_plain _ _ _ Wr];exact laidMet_laidAll _ (lay_fits os) (lay_ifaces os)
theorem lifted (os:Os)(b:os.Started)(H:Type)(enc:TypeId×Value→H) : ReturnsInHanded {} Tryz.checked os 3 .any (fun w args=>(Rows.signedSamesSpec.pre enc prog Tryz.f3 [] false w args∧laidMetH prog jF w)∧sizedMet enc prog Tryz.f3 (OpenSpec.ofChange Rows.signedSamesSpec) false w args) (Rows.signedSamesSpec.post enc prog Tryz.f3 false true false false):=by
 refine handed_shaped (C:=Tryz.checked) (X:=fun w _=>laidMetH prog jF w) (fun _ _ _ hh h=>h.of_heap hh) own b Wr func3
  (ChangeSpec.witness_shaped (enc:=enc) (C:=Tryz.checked) (os:=os) (X:=fun w _=>laidMetH prog jF w) false (World.laidAll prog os jF) #[.agg #[.int .i64 0,.int .i64 0,.string ⟨#[]⟩,.slice none 0 0,.slice none 0 0,.slice none 0 0],.agg #[.int .i64 0,.int .i64 0,.string ⟨#[]⟩,.slice none 0 0,.slice none 0 0,.slice none 0 0]] 8 (World.laidAll_os _ _ _) (World.shaped_of_ZipB Wr Wr) Wr Wr Wr (door_met os _)) ?_
 intro W base args ds gs A f hW a Y aj;have d:∀ (j:Nat) t v,Tryz.f3.params[j]? = some t→args[j]? = some v→Value.okWide prog W .any base t v:=f;have K:=hW;obtain⟨p,q,y,hV,rfl,ak,ai⟩:=hW;have Q:DataW.TrodAll enc prog W 0 (fun _=>true) true Tryz.f3.params.toList args.toList ds p:=y;rw [Tryz.params3] at Q d a;obtain⟨v0,ag,d0,aa,R,q0,J,rfl,rfl,h0,r0⟩:=trodAll_cons Q;obtain⟨M,ab,Z,ah,P,q1,rfl,rfl,rfl,O,r1⟩:=trodAll_cons r0;obtain⟨rfl,rfl,rfl⟩:=trodAll_nil r1;obtain rfl:args=#[v0,M]:=by cases args;simp_all
 obtain⟨rfl,rfl⟩:=trodVars_none hV;have k0:=h0;have D:∀ x∈R,x.block<W.heap.size:=by obtain⟨m,hm⟩:=k0;exact DataW.trod_lt m _ _ _ hm
 have N:=O;have F:∀ x∈P,x.block<W.heap.size:=by obtain⟨m,hm⟩:=N;exact DataW.trod_lt m _ _ _ hm
 obtain⟨n,rfl,_⟩:=okWide_struct underlying28 (d 0 28 v0 rfl rfl);obtain⟨l,rfl,_⟩:=okWide_struct underlying28 (d 1 28 M rfl rfl);have af:=reachBytes_lt;obtain⟨n0,U⟩:=h0;have w0:∀ k,k∈d0.weights prog 28→k≤140737488355328:=fun k B=>by have z:=List.all_eq_true.1 a _ (DataW.weights_mem_each (ts:=_) (j:=0) (t:=28) rfl rfl k B);simp only [decide_eq_true_eq] at z;skip;omega
 have e0:(Value.agg n).cells=n:=by simp [Value.cells]
 rw [e0] at U;obtain⟨n1,L⟩:=O;have w1:∀ k,k∈Z.weights prog 28→k≤140737488355328:=fun k B=>by have z:=List.all_eq_true.1 a _ (DataW.weights_mem_each (ts:=_) (j:=1) (t:=28) rfl rfl k B);simp only [decide_eq_true_eq] at z;skip;omega
 have e1:(Value.agg l).cells=l:=by simp [Value.cells]
 rw [e1] at L;obtain⟨ae,u0,I,a0,c0,l0,u,g0,s0,z0,b0,y0⟩:=trod_env (x:=(d0,R)) U (by unfold BB;decide) w0;obtain rfl:n=(YJ I a0 l0.length c0).toArray:=Array.toList_inj.1 u;obtain⟨ad,u1,E,a1,c1,l1,r,g1,s1,z1,b1,y1⟩:=trod_env (x:=(Z,P)) L (by unfold BB;decide) w1;obtain rfl:l=(YJ E a1 l1.length c1).toArray:=Array.toList_inj.1 r;have ht:=tabs_of_laid Y;have G:=ks_of_laid Y;clear y f;have s:=zaq g0 s0 z0 b0 g1 s1 z1 b1 ht G;refine s.mono fun e W' ⟨he,bel0⟩=>?_;have i:=bel0.below (XA) Wz;subst he;exact⟨_,rfl,_,_,_,[],_,[],K,trodAll_mk1 (shut_bool underlying4 _),(trodAll_cons_mk (Below.trod laidOut Wr (of_decide_eq_true Wr) k0 i D) (trodAll_cons_mk (Below.trod laidOut Wr (of_decide_eq_true Wr) N i F) trodAll_mk0)),rfl,i.frame _,fun h=>by cases h⟩
theorem ja (h:a=true)(k:b=true):(a&&b)=true:=by rw [h,k];rfl
theorem yn (h:(a&&b)=true):a=true:=by cases a <;> simp_all
theorem zj (h:(a&&b)=true):b=true:=by cases b <;> simp_all
theorem KT:((Rows.signedSamesRow.wf (OpenSpec.ofChange Rows.signedSamesSpec))&&((laidOutB prog)&&((mapsRowed prog)&&((Tryz.f3.params.all (Tryz.prog.readableRec ·))&&((namedTie prog Rows.signedSamesRow.named Rows.signedSamesSpec.vars)&&(((Rows.signedSamesRow.stops == []))&&(((Tryz.prog.stops == []))&&(((Rows.signedSamesRow.knobs == []))&&((Tryz.prog.stopKnobs == []))))))))))=true:=Wr
theorem lump1:(((Rows.signedSamesRow.inPlace == Tryz.prog.inPlace 3))&&(((Rows.signedSamesRow.unfollowed == Tryz.prog.unfollowed 3))&&(((Rows.signedSamesRow.recurses == Tryz.prog.recurses 3))&&((Rows.signedSamesRow.named == Tryz.prog.varsNamed 3)))))=true:=Wr
theorem YN:(((Rows.signedSamesRow.maps == (Tryz.f3.params.toList++Rows.signedSamesSpec.plain.varTypes prog).any (Tryz.prog.mapsRec ·)))&&(((Rows.signedSamesRow.ifaces == (Tryz.f3.params.toList++Rows.signedSamesSpec.plain.varTypes prog).any (Tryz.prog.ifacesRec ·)))&&(((Rows.signedSamesRow.mapsOut == Tryz.prog.mapsAmong Tryz.f3.resultTypes.toList))&&(((Rows.signedSamesRow.loops == (Tryz.f3.params.toList++Rows.signedSamesSpec.plain.varTypes prog).any (Tryz.prog.loopsFrom ·)))&&(((Rows.signedSamesRow.wideKeys == (Tryz.f3.params.toList++Rows.signedSamesSpec.plain.varTypes prog++Tryz.f3.resultTypes.toList).any (Tryz.prog.wideKeysFrom ·)))&&((Rows.signedSamesSpec.vars.all (Tryz.prog.varReadable ·))&&((Tryz.f3.resultTypes.all (fun t=>Tryz.prog.readableRec t&&decide (t<Tryz.prog.types.size)))&&(((Rows.signedSamesRow.ifacesOut == Tryz.f3.resultTypes.toList.any (Tryz.prog.ifacesRec ·)))&&(((Rows.signedSamesRow.loopsOut == Tryz.f3.resultTypes.toList.any (Tryz.prog.loopsFrom ·)))&&(((Rows.signedSamesRow.plainKeys == Tryz.prog.plainKeys))&&(Rows.signedSamesRow.shortTexts.isNone)))))))))))=true:=Wr
theorem lump3:((Tryz.prog.stopsHeard)&&((Tryz.prog.mayEnter)&&(((Rows.signedSamesRow.lifted == Tryz.prog.liftsFinal))&&((Tryz.prog.make == some Rows.signedSamesRow.make)))))=true:=Wr
theorem lump4:(((Rows.signedSamesRow.pinned == Rows.signedSamesRow.pinnedBy))&&(((Rows.signedSamesRow.veiled == (Tryz.f3.params.toList++Rows.signedSamesSpec.plain.varTypes prog++Tryz.f3.resultTypes.toList).any (Tryz.prog.veiledRec ·)))&&(Rows.signedSamesRow.veiledFits prog Tryz.f3.params.toList (Tryz.f3.params.toList++Rows.signedSamesSpec.plain.varTypes prog++Tryz.f3.resultTypes.toList))))=true:=Wr
theorem joined:joinedFacts prog 3 Tryz.f3 Rows.signedSamesSpec Rows.signedSamesRow=true:=by
 unfold joinedFacts;exact (ja (ja (ja (ja (ja (ja (ja (ja (ja (ja (ja (ja (ja (ja (ja (ja (ja (ja (ja (ja (ja (ja (ja (ja (ja (ja (ja (ja (ja (ja (ja (yn KT) (yn (zj KT))) (yn (zj (zj KT)))) (yn (zj (zj (zj KT))))) (yn (zj (zj (zj (zj KT)))))) (yn (zj (zj (zj (zj (zj KT))))))) (yn (zj (zj (zj (zj (zj (zj KT)))))))) (yn (zj (zj (zj (zj (zj (zj (zj KT))))))))) (zj (zj (zj (zj (zj (zj (zj (zj KT))))))))) (yn lump1)) (yn (zj lump1))) (yn (zj (zj lump1)))) (zj (zj (zj lump1)))) (yn YN)) (yn (zj YN))) (yn (zj (zj YN)))) (yn (zj (zj (zj YN))))) (yn (zj (zj (zj (zj YN)))))) (yn (zj (zj (zj (zj (zj YN))))))) (yn (zj (zj (zj (zj (zj (zj YN)))))))) (yn (zj (zj (zj (zj (zj (zj (zj YN))))))))) (yn (zj (zj (zj (zj (zj (zj (zj (zj YN)))))))))) (yn (zj (zj (zj (zj (zj (zj (zj (zj (zj YN))))))))))) (zj (zj (zj (zj (zj (zj (zj (zj (zj (zj YN))))))))))) (yn lump3)) (yn (zj lump3))) (yn (zj (zj lump3)))) (zj (zj (zj lump3)))) Wr) (yn lump4)) (yn (zj lump4))) (zj (zj lump4)))
theorem worded:Rows.signedSamesRow.wfByText (OpenSpec.ofChange Rows.signedSamesSpec)=true:=Wr
theorem main_is : Tryz.prog.mainIs = some (true, "3a9960d5939262b2d2c45eb731f02e5c0115a9ec0f15106effaf6119b3353c1f".toList) := by kernel_rfl
theorem looks:false=Tryz.prog.looks []:=Wr
theorem goes:false=Rows.signedSamesRow.goesBy prog:=Wr
theorem named_f : Tryz.prog.funcNamed "pursuivant/pursuivantlaw17.SignedSames" = some 3 := by kernel_rfl
theorem wants:([28,28].all fun u=>!Tryz.prog.wantsStandIn u)=true:=Wr
theorem over:Rows.signedSamesRow.holds Tryz.pinned (OpenSpec.ofChange Rows.signedSamesSpec):=
 OpenClaim.holds_of_wide 3 Tryz.f3 rfl rfl rfl rfl rfl rfl rfl ⟨rfl,rfl,rfl,rfl,rfl⟩ rfl rfl rfl rfl rfl named_f func3 joined
  (of_decide_eq_true Wr) (by unfold Func.isWrapper;first | (rw [if_pos (by decide +kernel)];kernel_rfl) | (rw [if_neg (by decide +kernel)];exact⟨rfl,rfl⟩))
  (fun os a H enc _=>lifted os a H enc)
theorem card:Claim7.holds Tryz.pinned (.plain (OpenSpec.ofChange Rows.signedSamesSpec)) Rows.signedSamesCard:=
 Claim7.holds_tied_plain_at .later [] [.data, .data, .data, .data, .data, .pinned, .pinned] true (true, "3a9960d5939262b2d2c45eb731f02e5c0115a9ec0f15106effaf6119b3353c1f") false
  over (fun _ h=>by cases h) worded (fun _ h=>by cases h) signedSames_row_tie rfl ⟨rfl,rfl⟩ main_is rfl
  (fun f fn hf hfn=>by
   obtain rfl:f=3:=Option.some.inj (named_f.symm.trans hf) |>.symm;obtain rfl:fn=Tryz.f3:=(Option.some.inj (func3.symm.trans hfn)).symm;exact⟨looks,fun j t ht=>by
    rw [Tryz.params3] at ht;have hm:t∈[28,28]:=by simpa using Array.mem_of_getElem? ht
    exact (show Tryz.prog.wantsStandIn t=false by simpa using List.all_eq_true.1 wants t hm)⟩)
  goes
end RSames
theorem signedSames_holds:Rows.SignedSamesCardSaid:=RSames.card
#print axioms signedSames_holds
end Go.Proofs.YtjccecajigmfkaaGreatDoor
