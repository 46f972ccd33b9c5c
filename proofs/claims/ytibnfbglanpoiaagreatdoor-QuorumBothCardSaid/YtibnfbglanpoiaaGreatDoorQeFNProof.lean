/- QuorumBoth: one role by some keys, and another one by others, just as the document says. No condition (package variables start as the text lays them). -/
import Derived.Test.YtibnfbglanpoiaaGreatDoorQeAY
import Derived.Test.YtibnfbglanpoiaaGreatDoorCards
import Derived.Test.YtibnfbglanpoiaaGreatDoorTie
import Derived.ProofKit
import Derived.ChangeOld
import Derived.Below
import Derived.Lay
import Derived.Stop.Joined
import Derived.SevenTiedAt
set_option linter.all false
set_option maxHeartbeats 12800000
set_option maxRecDepth 100000
namespace Go.Proofs.YtibnfbglanpoiaaGreatDoor
open Go.Proofs.Tryz
open Go.ChangeShapes Go.WideShapes Go.ChangeAt Go.RowKit Go.WideMaps Go.WideElems
namespace QBoth
theorem own:ownKnob Tryz.prog.godebug=none:=Wr
theorem Y3:laidOutB Tryz.prog=true:=Wr
theorem lay_fits (os:Os):(World.holding Tryz.prog os ⟨#[],#[],[]⟩).layFits Tryz.prog jz []=true:=Wr
theorem lay_ifaces (os:Os):(World.holding Tryz.prog os ⟨#[],#[],[]⟩).layIfaces Tryz.prog jz (World.laidAll Tryz.prog os jz)=true:=Wr
theorem door_met (os:Os) (args:Array Value):laidMetH Tryz.prog jz ((World.laidAll Tryz.prog os jz).forCall (fun _ _=>0) ⟨#[],args,[]⟩).memory:=by
 rw [MakeChecks.laidMetH_plain _ _ _ Wr]
 exact laidMet_laidAll _ (lay_fits os) (lay_ifaces os)
theorem lifted (os:Os) (started:os.Started) (H:Type) (enc:TypeId×Value→H) :
  ReturnsInHanded {} Tryz.checked os 3 .any (fun w args=>(Rows.quorumBothSpec.pre enc Tryz.prog Tryz.f3 [] false w args∧laidMetH Tryz.prog jz w)∧sizedMet enc Tryz.prog Tryz.f3 (OpenSpec.ofChange Rows.quorumBothSpec) false w args)
   (Rows.quorumBothSpec.post enc Tryz.prog Tryz.f3 false true false false):=by
 refine handed_shaped (C:=Tryz.checked) (X:=fun w _=>laidMetH Tryz.prog jz w) (fun _ _ _ hh h=>h.of_heap hh) own started Wr func3
  (ChangeSpec.witness_shaped (enc:=enc) (C:=Tryz.checked) (os:=os) (X:=fun w _=>laidMetH Tryz.prog jz w) false (World.laidAll Tryz.prog os jz) #[.agg #[.int .i64 0,.int .i64 0,.string ⟨#[]⟩,.slice none 0 0,.slice none 0 0,.slice none 0 0],.agg #[.slice none 0 0,.int .i64 0],.agg #[.slice none 0 0,.int .i64 0],.slice none 0 0,.slice none 0 0] 8 (World.laidAll_os _ _ _) (World.shaped_of_ZipB Wr Wr) Wr Wr Wr (door_met os _)) ?_
 intro W base args ds gs before hval0 hW hsz0 hL hsh
 have hval:∀ (j:Nat) t v,Tryz.f3.params[j]? = some t→args[j]? = some v→Value.okWide Tryz.prog W .any base t v:=hval0
 have hW':=hW
 obtain⟨p,q,hA0,hV,rfl,hfz,hnd⟩:=hW
 have hA:DataW.TrodAll enc Tryz.prog W 0 (fun _=>true) true Tryz.f3.params.toList args.toList ds p:=hA0
 rw [Tryz.params3] at hA hval hsz0
 obtain⟨v0,vs0,d0,ds0,p0,q0,hargs,rfl,rfl,h0,r0⟩:=trodAll_cons hA
 obtain⟨v1,vs1,d1,ds1,p1,q1,rfl,rfl,rfl,h1,r1⟩:=trodAll_cons r0
 obtain⟨v2,vs2,d2,ds2,p2,q2,rfl,rfl,rfl,h2,r2⟩:=trodAll_cons r1
 obtain⟨v3,vs3,d3,ds3,p3,q3,rfl,rfl,rfl,h3,r3⟩:=trodAll_cons r2
 obtain⟨v4,vs4,d4,ds4,p4,q4,rfl,rfl,rfl,h4,r4⟩:=trodAll_cons r3
 obtain⟨rfl,rfl,rfl⟩:=trodAll_nil r4
 obtain rfl:args=#[v0,v1,v2,v3,v4]:=by cases args;simp_all
 obtain⟨rfl,rfl⟩:=trodVars_none hV
 have k0:=h0
 have lt0:∀ x∈p0,x.block<W.heap.size:=by obtain⟨m,hm⟩:=k0;exact DataW.trod_lt m _ _ _ hm
 have k1:=h1
 have lt1:∀ x∈p1,x.block<W.heap.size:=by obtain⟨m,hm⟩:=k1;exact DataW.trod_lt m _ _ _ hm
 have k2:=h2
 have lt2:∀ x∈p2,x.block<W.heap.size:=by obtain⟨m,hm⟩:=k2;exact DataW.trod_lt m _ _ _ hm
 have k3:=h3
 have lt3:∀ x∈p3,x.block<W.heap.size:=by obtain⟨m,hm⟩:=k3;exact DataW.trod_lt m _ _ _ hm
 have k4:=h4
 have lt4:∀ x∈p4,x.block<W.heap.size:=by obtain⟨m,hm⟩:=k4;exact DataW.trod_lt m _ _ _ hm
 obtain⟨cs0,rfl,_⟩:=okWide_struct underlying28 (hval 0 28 v0 rfl rfl)
 obtain⟨cs1,rfl,_⟩:=okWide_struct underlying31 (hval 1 31 v1 rfl rfl)
 obtain⟨cs2,rfl,_⟩:=okWide_struct underlying31 (hval 2 31 v2 rfl rfl)
 obtain⟨a3,len3,cap3,rfl⟩:=okWide_slice underlying32 (hval 3 32 v3 rfl rfl)
 obtain⟨a4,len4,cap4,rfl⟩:=okWide_slice underlying32 (hval 4 32 v4 rfl rfl)
 have hrb:=reachBytes_lt
 obtain⟨n0,f0⟩:=h0
 have w0:∀ k,k∈d0.weights Tryz.prog 28→k≤140737488355328:=fun k hk=>by
  have z:=List.all_eq_true.1 hsz0 _ (DataW.weights_mem_each (ts:=_) (j:=0) (t:=28) rfl rfl k hk)
  simp only [decide_eq_true_eq] at z
  skip
  omega
 have e0:(Value.agg cs0).cells=cs0:=by simp [Value.cells]
 rw [e0] at f0
 obtain⟨n1,f1⟩:=h1
 have w1:∀ k,k∈d1.weights Tryz.prog 31→k≤140737488355328:=fun k hk=>by
  have z:=List.all_eq_true.1 hsz0 _ (DataW.weights_mem_each (ts:=_) (j:=1) (t:=31) rfl rfl k hk)
  simp only [decide_eq_true_eq] at z
  skip
  omega
 have e1:(Value.agg cs1).cells=cs1:=by simp [Value.cells]
 rw [e1] at f1
 obtain⟨n2,f2⟩:=h2
 have w2:∀ k,k∈d2.weights Tryz.prog 31→k≤140737488355328:=fun k hk=>by
  have z:=List.all_eq_true.1 hsz0 _ (DataW.weights_mem_each (ts:=_) (j:=2) (t:=31) rfl rfl k hk)
  simp only [decide_eq_true_eq] at z
  skip
  omega
 have e2:(Value.agg cs2).cells=cs2:=by simp [Value.cells]
 rw [e2] at f2
 obtain⟨n3,f3⟩:=h3
 have w3:∀ k,k∈d3.weights Tryz.prog 32→k≤140737488355328:=fun k hk=>by
  have z:=List.all_eq_true.1 hsz0 _ (DataW.weights_mem_each (ts:=_) (j:=3) (t:=32) rfl rfl k hk)
  simp only [decide_eq_true_eq] at z
  skip
  omega
 obtain⟨n4,f4⟩:=h4
 have w4:∀ k,k∈d4.weights Tryz.prog 32→k≤140737488355328:=fun k hk=>by
  have z:=List.all_eq_true.1 hsz0 _ (DataW.weights_mem_each (ts:=_) (j:=4) (t:=32) rfl rfl k hk)
  simp only [decide_eq_true_eq] at z
  skip
  omega
 obtain⟨en0,u0,vc0,a0,c0,l0,hcs0,g0,s0,z0,b0,y0⟩:=trod_env (x:=(d0,p0)) f0 (by unfold BB;decide) w0
 obtain rfl:cs0=(vG vc0 a0 l0.length c0).toArray:=Array.toList_inj.1 hcs0
 obtain⟨u1,a1,c1,hcs1,g1,b1,z1⟩:=trod_role (x:=(d1,p1)) f1 w1
 obtain rfl:cs1=#[.slice a1 u1.keys.length c1,.int .i64 u1.thr]:=Array.toList_inj.1 hcs1
 obtain⟨u2,a2,c2,hcs2,g2,b2,z2⟩:=trod_role (x:=(d2,p2)) f2 w2
 obtain rfl:cs2=#[.slice a2 u2.keys.length c2,.int .i64 u2.thr]:=Array.toList_inj.1 hcs2
 obtain⟨l3,g3,b3,z3⟩:=trod_keys (x:=(d3,p3)) f3 w3
 obtain rfl:len3=l3.length:=by
  obtain⟨a9,c9,e9,-,-⟩:=g3.form
  simp only [Value.slice.injEq] at e9
  exact e9.2.1
 obtain⟨l4,g4,b4,z4⟩:=trod_keys (x:=(d4,p4)) f4 w4
 obtain rfl:len4=l4.length:=by
  obtain⟨a9,c9,e9,-,-⟩:=g4.form
  simp only [Value.slice.injEq] at e9
  exact e9.2.1
 have ht:=tabs_of_laid hL
 have hks:=ks_of_laid hL
 clear hA0 hval0
 have main:=KP g0 s0 z0 b0 g1 z1 b1 g2 z2 b2 g3 z3 b3 g4 z4 b4 ht hks
 refine main.mono fun e W' ⟨he,bel0⟩=>?_
 have bel:=bel0.below (Nat.le_refl _) Wz
 subst he
 exact⟨_,rfl,_,_,_,[],_,[],hW',trodAll_mk1 (shut_bool underlying4 _),(trodAll_cons_mk (Below.trod Y3 Wr (of_decide_eq_true Wr) k0 bel lt0) (trodAll_cons_mk (Below.trod Y3 Wr (of_decide_eq_true Wr) k1 bel lt1) (trodAll_cons_mk (Below.trod Y3 Wr (of_decide_eq_true Wr) k2 bel lt2) (trodAll_cons_mk (Below.trod Y3 Wr (of_decide_eq_true Wr) k3 bel lt3) (trodAll_cons_mk (Below.trod Y3 Wr (of_decide_eq_true Wr) k4 bel lt4) trodAll_mk0))))),rfl,bel.frame _,fun h=>by cases h⟩
theorem ku {a b:Bool}(h:a=true) (k:b=true):(a&&b)=true:=by rw [h,k];rfl
theorem yz {a b:Bool}(h:(a&&b)=true):a=true:=by cases a <;> simp_all
theorem zj {a b:Bool}(h:(a&&b)=true):b=true:=by cases b <;> simp_all
theorem Qo:((Rows.quorumBothRow.wf (OpenSpec.ofChange Rows.quorumBothSpec))&&((laidOutB Tryz.prog)&&((mapsRowed Tryz.prog)&&((Tryz.f3.params.all (Tryz.prog.readableRec ·))&&((namedTie Tryz.prog Rows.quorumBothRow.named Rows.quorumBothSpec.vars)&&(((Rows.quorumBothRow.stops == []))&&(((Tryz.prog.stops == []))&&(((Rows.quorumBothRow.knobs == []))&&((Tryz.prog.stopKnobs == []))))))))))=true:=Wr
theorem lump1:(((Rows.quorumBothRow.inPlace == Tryz.prog.inPlace 3))&&(((Rows.quorumBothRow.unfollowed == Tryz.prog.unfollowed 3))&&(((Rows.quorumBothRow.recurses == Tryz.prog.recurses 3))&&((Rows.quorumBothRow.named == Tryz.prog.varsNamed 3)))))=true:=Wr
theorem Zd:(((Rows.quorumBothRow.maps == (Tryz.f3.params.toList++Rows.quorumBothSpec.plain.varTypes Tryz.prog).any (Tryz.prog.mapsRec ·)))&&(((Rows.quorumBothRow.ifaces == (Tryz.f3.params.toList++Rows.quorumBothSpec.plain.varTypes Tryz.prog).any (Tryz.prog.ifacesRec ·)))&&(((Rows.quorumBothRow.mapsOut == Tryz.prog.mapsAmong Tryz.f3.resultTypes.toList))&&(((Rows.quorumBothRow.loops == (Tryz.f3.params.toList++Rows.quorumBothSpec.plain.varTypes Tryz.prog).any (Tryz.prog.loopsFrom ·)))&&(((Rows.quorumBothRow.wideKeys == (Tryz.f3.params.toList++Rows.quorumBothSpec.plain.varTypes Tryz.prog++Tryz.f3.resultTypes.toList).any (Tryz.prog.wideKeysFrom ·)))&&((Rows.quorumBothSpec.vars.all (Tryz.prog.varReadable ·))&&((Tryz.f3.resultTypes.all (fun t=>Tryz.prog.readableRec t&&decide (t<Tryz.prog.types.size)))&&(((Rows.quorumBothRow.ifacesOut == Tryz.f3.resultTypes.toList.any (Tryz.prog.ifacesRec ·)))&&(((Rows.quorumBothRow.loopsOut == Tryz.f3.resultTypes.toList.any (Tryz.prog.loopsFrom ·)))&&(((Rows.quorumBothRow.plainKeys == Tryz.prog.plainKeys))&&(Rows.quorumBothRow.shortTexts.isNone)))))))))))=true:=Wr
theorem lump3:((Tryz.prog.stopsHeard)&&((Tryz.prog.mayEnter)&&(((Rows.quorumBothRow.lifted == Tryz.prog.liftsFinal))&&((Tryz.prog.make == some Rows.quorumBothRow.make)))))=true:=Wr
theorem lump4:(((Rows.quorumBothRow.pinned == Rows.quorumBothRow.pinnedBy))&&(((Rows.quorumBothRow.veiled == (Tryz.f3.params.toList++Rows.quorumBothSpec.plain.varTypes Tryz.prog++Tryz.f3.resultTypes.toList).any (Tryz.prog.veiledRec ·)))&&(Rows.quorumBothRow.veiledFits Tryz.prog Tryz.f3.params.toList (Tryz.f3.params.toList++Rows.quorumBothSpec.plain.varTypes Tryz.prog++Tryz.f3.resultTypes.toList))))=true:=Wr
theorem joined:joinedFacts Tryz.prog 3 Tryz.f3 Rows.quorumBothSpec Rows.quorumBothRow=true:=by
 unfold joinedFacts
 exact (ku (ku (ku (ku (ku (ku (ku (ku (ku (ku (ku (ku (ku (ku (ku (ku (ku (ku (ku (ku (ku (ku (ku (ku (ku (ku (ku (ku (ku (ku (ku (yz Qo) (yz (zj Qo))) (yz (zj (zj Qo)))) (yz (zj (zj (zj Qo))))) (yz (zj (zj (zj (zj Qo)))))) (yz (zj (zj (zj (zj (zj Qo))))))) (yz (zj (zj (zj (zj (zj (zj Qo)))))))) (yz (zj (zj (zj (zj (zj (zj (zj Qo))))))))) (zj (zj (zj (zj (zj (zj (zj (zj Qo))))))))) (yz lump1)) (yz (zj lump1))) (yz (zj (zj lump1)))) (zj (zj (zj lump1)))) (yz Zd)) (yz (zj Zd))) (yz (zj (zj Zd)))) (yz (zj (zj (zj Zd))))) (yz (zj (zj (zj (zj Zd)))))) (yz (zj (zj (zj (zj (zj Zd))))))) (yz (zj (zj (zj (zj (zj (zj Zd)))))))) (yz (zj (zj (zj (zj (zj (zj (zj Zd))))))))) (yz (zj (zj (zj (zj (zj (zj (zj (zj Zd)))))))))) (yz (zj (zj (zj (zj (zj (zj (zj (zj (zj Zd))))))))))) (zj (zj (zj (zj (zj (zj (zj (zj (zj (zj Zd))))))))))) (yz lump3)) (yz (zj lump3))) (yz (zj (zj lump3)))) (zj (zj (zj lump3)))) Wr) (yz lump4)) (yz (zj lump4))) (zj (zj lump4)))
theorem worded:Rows.quorumBothRow.wfByText (OpenSpec.ofChange Rows.quorumBothSpec)=true:=Wr
theorem main_is : Tryz.prog.mainIs = some (true, "52662b244b4a5b8dfe05cf26fd23017f609ec661c2e2e4ef9c30f8a23e274dc0".toList) := by kernel_rfl
theorem looks:false=Tryz.prog.looks []:=Wr
theorem goes:false=Rows.quorumBothRow.goesBy Tryz.prog:=Wr
theorem named_f : Tryz.prog.funcNamed "pursuivant/pursuivantlaw18.QuorumBoth" = some 3 := by kernel_rfl
theorem wants:([28,31,31,32,32].all fun u=>!Tryz.prog.wantsStandIn u)=true:=Wr
theorem over:Rows.quorumBothRow.holds Tryz.pinned (OpenSpec.ofChange Rows.quorumBothSpec):=
 OpenClaim.holds_of_wide 3 Tryz.f3 rfl rfl rfl rfl rfl rfl rfl ⟨rfl,rfl,rfl,rfl,rfl⟩ rfl rfl rfl rfl rfl named_f func3 joined
  (of_decide_eq_true Wr) (by unfold Func.isWrapper;first | (rw [if_pos (by decide +kernel)];kernel_rfl) | (rw [if_neg (by decide +kernel)];exact⟨rfl,rfl⟩))
  (fun os started H enc _=>lifted os started H enc)
theorem card:Claim7.holds Tryz.pinned (.plain (OpenSpec.ofChange Rows.quorumBothSpec)) Rows.quorumBothCard:=
 Claim7.holds_tied_plain_at .later [] [.data, .data, .data, .data, .data, .pinned] true (true, "52662b244b4a5b8dfe05cf26fd23017f609ec661c2e2e4ef9c30f8a23e274dc0") false
  over (fun _ h=>by cases h) worded (fun _ h=>by cases h) quorumBoth_row_tie rfl ⟨rfl,rfl⟩ main_is rfl
  (fun f fn hf hfn=>by
   obtain rfl:f=3:=Option.some.inj (named_f.symm.trans hf) |>.symm
   obtain rfl:fn=Tryz.f3:=(Option.some.inj (func3.symm.trans hfn)).symm
   exact⟨looks,fun j t ht=>by
    rw [Tryz.params3] at ht
    have hm:t∈[28,31,31,32,32]:=by simpa using Array.mem_of_getElem? ht
    exact (show Tryz.prog.wantsStandIn t=false by simpa using List.all_eq_true.1 wants t hm)⟩)
  goes
end QBoth
theorem quorumBoth_holds:Rows.QuorumBothCardSaid:=QBoth.card
#print axioms quorumBoth_holds
end Go.Proofs.YtibnfbglanpoiaaGreatDoor
