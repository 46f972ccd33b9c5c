/- SignedDecodes: what any bytes are as an envelope, just as the document says. No condition (package variables start as the text lays them). -/
import Derived.Test.YtjccecajigmfkaaGreatDoorSdAO
import Derived.Test.YtjccecajigmfkaaGreatDoorCards
import Derived.Test.YtjccecajigmfkaaGreatDoorTie
import Derived.ProofKit
import Derived.ChangeOld
import Derived.Below
import Derived.Lay
import Derived.Stop.Joined
import Derived.SevenTiedAt
set_option linter.all false
set_option maxHeartbeats 12800000
set_option maxRecDepth 100000
namespace Go.Proofs.YtjccecajigmfkaaGreatDoor
open Go.Proofs.Tryz
open Go.ChangeShapes Go.WideShapes Go.ChangeAt Go.RowKit Go.WideMaps Go.WideElems
namespace RDecodes
theorem own:ownKnob Tryz.prog.godebug=none:=Wr
theorem laidOut:laidOutB prog=true:=Wr
theorem lay_fits (os:Os):(World.holding prog os ⟨#[],#[],[]⟩).layFits prog jV []=true:=Wr
theorem lay_ifaces (os:Os):(World.holding prog os ⟨#[],#[],[]⟩).layIfaces prog jV (World.laidAll prog os jV)=true:=Wr
theorem door_met (os:Os)(args:Array Value):laidMetH prog jV ((World.laidAll prog os jV).forCall (fun _ _=>0) ⟨#[],args,[]⟩).memory:=by
 rw [MakeChecks.laidMetH_plain _ _ _ Wr];exact laidMet_laidAll _ (lay_fits os) (lay_ifaces os)
theorem lifted (os:Os)(b:os.Started)(H:Type)(enc:TypeId×Value→H) : ReturnsInHanded {} Tryz.checked os 4 .any (fun w args=>(Rows.signedDecodesSpec.pre enc prog Tryz.f4 [] false w args∧laidMetH prog jV w)∧sizedMet enc prog Tryz.f4 (OpenSpec.ofChange Rows.signedDecodesSpec) false w args) (Rows.signedDecodesSpec.post enc prog Tryz.f4 false true false false):=by
 refine handed_shaped (C:=Tryz.checked) (X:=fun w _=>laidMetH prog jV w) (fun _ _ _ hh h=>h.of_heap hh) own b Wr func4
  (ChangeSpec.witness_shaped (enc:=enc) (C:=Tryz.checked) (os:=os) (X:=fun w _=>laidMetH prog jV w) false (World.laidAll prog os jV) #[.slice none 0 0] 8 (World.laidAll_os _ _ _) (World.shaped_of_ZipB Wr Wr) Wr Wr Wr (door_met os _)) ?_
 intro W base args ds gs s a E f M Z;have d:∀ (j:Nat) t v,Tryz.f4.params[j]? = some t→args[j]? = some v→Value.okWide prog W .any base t v:=a;have A:=E;obtain⟨p,q,n,Q,rfl,aa,ab⟩:=E;have J:DataW.TrodAll enc prog W 0 (fun _=>true) true Tryz.f4.params.toList args.toList ds p:=n;rw [Tryz.params4] at J d f;obtain⟨v0,P,L,Y,G,q0,B,rfl,rfl,I,N⟩:=trodAll_cons J;obtain⟨rfl,rfl,rfl⟩:=trodAll_nil N;obtain rfl:args=#[v0]:=by cases args;simp_all
 obtain⟨rfl,rfl⟩:=trodVars_none Q;have k0:=I;have y:∀ x∈G,x.block<W.heap.size:=by obtain⟨m,hm⟩:=k0;exact DataW.trod_lt m _ _ _ hm
 obtain⟨a0,l,D,rfl⟩:=okWide_slice underlying32 (d 0 32 v0 rfl rfl);have U:=reachBytes_lt;obtain⟨n0,f0⟩:=I;have w0:∀ k,k∈L.weights prog 32→k≤BB:=fun k R=>by have z:=Xk.1 f _ (DataW.weights_mem_each (ts:=_) (j:=0) (t:=32) rfl rfl k R);simp only [Xa] at z;unfold BB;omega
 obtain⟨l0,K,b0⟩:=trod_bytesV (x:=(L,G)) f0 w0;obtain rfl:l=l0.length:=by obtain⟨a9,c9,F,-,-⟩:=K.form;simp only [XU] at F;exact F.2.1
 have O:=tabs_of_laid M;have u:=ks_of_laid M;clear n a;have i:=Kz K O u;refine i.mono fun e W' ⟨he,bel0⟩=>?_;have r:=bel0.below (XA) Wz;subst he;exact⟨_,rfl,_,_,_,[],_,[],A,trodAll_mk1 (shut_bool underlying4 _),(trodAll_cons_mk (Below.trod laidOut Wr (uy Wr) k0 r y) trodAll_mk0),rfl,r.frame _,fun h=>by cases h⟩
theorem jq {a b:Bool}(h:a=true)(k:b=true):(a&&b)=true:=by rw [h,k];rfl
theorem yk {a b:Bool}(h:(a&&b)=true):a=true:=by cases a <;> simp_all
theorem zj {a b:Bool}(h:(a&&b)=true):b=true:=by cases b <;> simp_all
theorem JG:((Rows.signedDecodesRow.wf (OpenSpec.ofChange Rows.signedDecodesSpec))&&((laidOutB prog)&&((mapsRowed prog)&&((Tryz.f4.params.all (Tryz.prog.readableRec ·))&&((namedTie prog Rows.signedDecodesRow.named Rows.signedDecodesSpec.vars)&&(((Rows.signedDecodesRow.stops == []))&&(((Tryz.prog.stops == []))&&(((Rows.signedDecodesRow.knobs == []))&&((Tryz.prog.stopKnobs == []))))))))))=true:=Wr
theorem lump1:(((Rows.signedDecodesRow.inPlace == Tryz.prog.inPlace 4))&&(((Rows.signedDecodesRow.unfollowed == Tryz.prog.unfollowed 4))&&(((Rows.signedDecodesRow.recurses == Tryz.prog.recurses 4))&&((Rows.signedDecodesRow.named == Tryz.prog.varsNamed 4)))))=true:=Wr
theorem Y6:(((Rows.signedDecodesRow.maps == (Tryz.f4.params.toList++Rows.signedDecodesSpec.plain.varTypes prog).any (Tryz.prog.mapsRec ·)))&&(((Rows.signedDecodesRow.ifaces == (Tryz.f4.params.toList++Rows.signedDecodesSpec.plain.varTypes prog).any (Tryz.prog.ifacesRec ·)))&&(((Rows.signedDecodesRow.mapsOut == Tryz.prog.mapsAmong Tryz.f4.resultTypes.toList))&&(((Rows.signedDecodesRow.loops == (Tryz.f4.params.toList++Rows.signedDecodesSpec.plain.varTypes prog).any (Tryz.prog.loopsFrom ·)))&&(((Rows.signedDecodesRow.wideKeys == (Tryz.f4.params.toList++Rows.signedDecodesSpec.plain.varTypes prog++Tryz.f4.resultTypes.toList).any (Tryz.prog.wideKeysFrom ·)))&&((Rows.signedDecodesSpec.vars.all (Tryz.prog.varReadable ·))&&((Tryz.f4.resultTypes.all (fun t=>Tryz.prog.readableRec t&&decide (t<Tryz.prog.types.size)))&&(((Rows.signedDecodesRow.ifacesOut == Tryz.f4.resultTypes.toList.any (Tryz.prog.ifacesRec ·)))&&(((Rows.signedDecodesRow.loopsOut == Tryz.f4.resultTypes.toList.any (Tryz.prog.loopsFrom ·)))&&(((Rows.signedDecodesRow.plainKeys == Tryz.prog.plainKeys))&&(Rows.signedDecodesRow.shortTexts.isNone)))))))))))=true:=Wr
theorem lump3:((Tryz.prog.stopsHeard)&&((Tryz.prog.mayEnter)&&(((Rows.signedDecodesRow.lifted == Tryz.prog.liftsFinal))&&((Tryz.prog.make == some Rows.signedDecodesRow.make)))))=true:=Wr
theorem lump4:(((Rows.signedDecodesRow.pinned == Rows.signedDecodesRow.pinnedBy))&&(((Rows.signedDecodesRow.veiled == (Tryz.f4.params.toList++Rows.signedDecodesSpec.plain.varTypes prog++Tryz.f4.resultTypes.toList).any (Tryz.prog.veiledRec ·)))&&(Rows.signedDecodesRow.veiledFits prog Tryz.f4.params.toList (Tryz.f4.params.toList++Rows.signedDecodesSpec.plain.varTypes prog++Tryz.f4.resultTypes.toList))))=true:=Wr
theorem joined:joinedFacts prog 4 Tryz.f4 Rows.signedDecodesSpec Rows.signedDecodesRow=true:=by
 unfold joinedFacts;exact (jq (jq (jq (jq (jq (jq (jq (jq (jq (jq (jq (jq (jq (jq (jq (jq (jq (jq (jq (jq (jq (jq (jq (jq (jq (jq (jq (jq (jq (jq (jq (yk JG) (yk (zj JG))) (yk (zj (zj JG)))) (yk (zj (zj (zj JG))))) (yk (zj (zj (zj (zj JG)))))) (yk (zj (zj (zj (zj (zj JG))))))) (yk (zj (zj (zj (zj (zj (zj JG)))))))) (yk (zj (zj (zj (zj (zj (zj (zj JG))))))))) (zj (zj (zj (zj (zj (zj (zj (zj JG))))))))) (yk lump1)) (yk (zj lump1))) (yk (zj (zj lump1)))) (zj (zj (zj lump1)))) (yk Y6)) (yk (zj Y6))) (yk (zj (zj Y6)))) (yk (zj (zj (zj Y6))))) (yk (zj (zj (zj (zj Y6)))))) (yk (zj (zj (zj (zj (zj Y6))))))) (yk (zj (zj (zj (zj (zj (zj Y6)))))))) (yk (zj (zj (zj (zj (zj (zj (zj Y6))))))))) (yk (zj (zj (zj (zj (zj (zj (zj (zj Y6)))))))))) (yk (zj (zj (zj (zj (zj (zj (zj (zj (zj Y6))))))))))) (zj (zj (zj (zj (zj (zj (zj (zj (zj (zj Y6))))))))))) (yk lump3)) (yk (zj lump3))) (yk (zj (zj lump3)))) (zj (zj (zj lump3)))) Wr) (yk lump4)) (yk (zj lump4))) (zj (zj lump4)))
theorem worded:Rows.signedDecodesRow.wfByText (OpenSpec.ofChange Rows.signedDecodesSpec)=true:=Wr
theorem main_is : Tryz.prog.mainIs = some (true, "3a9960d5939262b2d2c45eb731f02e5c0115a9ec0f15106effaf6119b3353c1f".toList) := by kernel_rfl
theorem looks:false=Tryz.prog.looks []:=Wr
theorem goes:false=Rows.signedDecodesRow.goesBy prog:=Wr
theorem named_f : Tryz.prog.funcNamed "pursuivant/pursuivantlaw17.SignedDecodes" = some 4 := by kernel_rfl
theorem wants:([32].all fun u=>!Tryz.prog.wantsStandIn u)=true:=Wr
theorem over:Rows.signedDecodesRow.holds Tryz.pinned (OpenSpec.ofChange Rows.signedDecodesSpec):=
 OpenClaim.holds_of_wide 4 Tryz.f4 rfl rfl rfl rfl rfl rfl rfl ⟨rfl,rfl,rfl,rfl,rfl⟩ rfl rfl rfl rfl rfl named_f func4 joined
  (uy Wr) (by unfold Func.isWrapper;first | (rw [XK (by decide +kernel)];kernel_rfl) | (rw [XJ (by decide +kernel)];exact⟨rfl,rfl⟩))
  (fun os a H enc _=>lifted os a H enc)
theorem card:Claim7.holds Tryz.pinned (.plain (OpenSpec.ofChange Rows.signedDecodesSpec)) Rows.signedDecodesCard:=
 Claim7.holds_tied_plain_at .later [] [.data, .data, .data, .data, .data, .pinned, .pinned] true (true, "3a9960d5939262b2d2c45eb731f02e5c0115a9ec0f15106effaf6119b3353c1f") false
  over (fun _ h=>by cases h) worded (fun _ h=>by cases h) signedDecodes_row_tie rfl ⟨rfl,rfl⟩ main_is rfl
  (fun f fn hf hfn=>by
   obtain rfl:f=4:=Option.some.inj (named_f.symm.trans hf) |>.symm;obtain rfl:fn=Tryz.f4:=(Option.some.inj (func4.symm.trans hfn)).symm;exact⟨looks,fun j t ht=>by
    rw [Tryz.params4] at ht;have hm:t∈[32]:=by simpa using Array.mem_of_getElem? ht
    exact (show Tryz.prog.wantsStandIn t=false by simpa using Xk.1 wants t hm)⟩)
  goes
end RDecodes
theorem signedDecodes_holds:Rows.SignedDecodesCardSaid:=RDecodes.card
#print axioms signedDecodes_holds
end Go.Proofs.YtjccecajigmfkaaGreatDoor
