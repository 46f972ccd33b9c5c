/- QuorumOrder: in whatever order keys stand, the same ids count; in the other order of a role the ids are told the other way round. No condition (package variables start as the text lays them). -/
import Derived.Test.YtibnfbglanpoiaaGreatDoorQbAM
import Derived.Test.YtibnfbglanpoiaaGreatDoorQbAN
import Derived.Test.YtibnfbglanpoiaaGreatDoorRows
import Derived.Test.YtibnfbglanpoiaaGreatDoorCards
import Derived.Test.YtibnfbglanpoiaaGreatDoorTie
import Derived.ProofKit
import Derived.LaidMore
import Derived.OpenShut
import Derived.ChangeOld
import Derived.Below
import Derived.Lay
import Derived.Stop.Joined
import Derived.Stop.LaidErr
import Derived.MakeChecks
import Derived.SizedLaws
import Derived.SevenTiedAt
set_option linter.all false
set_option maxHeartbeats 12800000
set_option maxRecDepth 10000
set_option linter.unusedVariables false
set_option linter.unusedSimpArgs false
set_option linter.unnecessarySimpa false
namespace Go.Proofs.YtibnfbglanpoiaaGreatDoor
open Go.Proofs.Tryz
open Go.ChangeShapes Go.WideShapes Go.ChangeAt Go.RowKit Go.WideMaps Go.WideElems
namespace QOrder
set_option linter.unusedVariables false
theorem own:ownKnob Tryz.prog.godebug=none:=by kernel_rfl
theorem zae:laidOutB Tryz.prog=true:=by kernel_rfl
theorem lay_fits (os:Os):(World.holding Tryz.prog os ⟨#[],#[],[]⟩).layFits Tryz.prog kP []=true:=by kernel_rfl
theorem lay_ifaces (os:Os):(World.holding Tryz.prog os ⟨#[],#[],[]⟩).layIfaces Tryz.prog kP (World.laidAll Tryz.prog os kP)=true:=by kernel_rfl
theorem door_met (os:Os) (args:Array Value):laidMetH Tryz.prog kP ((World.laidAll Tryz.prog os kP).forCall (fun _ _=>0) ⟨#[],args,[]⟩).memory:=by
 rw [MakeChecks.laidMetH_plain _ _ _ (by kernel_rfl)]
 exact laidMet_laidAll _ (lay_fits os) (lay_ifaces os)
set_option maxRecDepth 100000 in
theorem lifted (os:Os) (started:os.Started) (H:Type) (enc:TypeId × Value→H) :
  ReturnsInHanded {} Tryz.checked os 6 .any (fun w args=>(Rows.quorumOrderSpec.pre enc Tryz.prog Tryz.f6 [] false w args∧laidMetH Tryz.prog kP w)∧sizedMet enc Tryz.prog Tryz.f6 (OpenSpec.ofChange Rows.quorumOrderSpec) false w args)
   (Rows.quorumOrderSpec.post enc Tryz.prog Tryz.f6 false true false false):=by
 refine KD (C:=Tryz.checked) (X:=fun w _=>laidMetH Tryz.prog kP w) (fun _ _ _ hh h=>h.of_heap hh) own started (by kernel_rfl) func6
  (ChangeSpec.witness_shaped (enc:=enc) (C:=Tryz.checked) (os:=os) (X:=fun w _=>laidMetH Tryz.prog kP w) false (World.laidAll Tryz.prog os kP) #[.agg #[.int .i64 0,.int .i64 0,.string ⟨#[]⟩,.slice none 0 0,.slice none 0 0,.slice none 0 0],.agg #[.slice none 0 0,.int .i64 0],.slice none 0 0] 8 (World.laidAll_os _ _ _) (World.shaped_of_ZipB (by kernel_rfl) (by kernel_rfl)) (by kernel_rfl) (by kernel_rfl) (by kernel_rfl) (door_met os _)) ?_
 intro W base args ds gs before hval0 hW hsz0 hL hsh
 have hval:∀ (j:Nat) t v,Tryz.f6.params[j]? = some t→args[j]? = some v→Value.okWide Tryz.prog W .any base t v:=hval0
 have hW':=hW
 obtain⟨p,q,hA0,hV,rfl,hfz,hnd⟩:=hW
 have hA:DataW.TrodAll enc Tryz.prog W 0 (fun _=>true) true Tryz.f6.params.toList args.toList ds p:=hA0
 rw [Tryz.params6] at hA hval hsz0
 obtain⟨v0,vs0,d0,ds0,p0,q0,hargs,rfl,rfl,h0,r0⟩:=trodAll_cons hA
 obtain⟨v1,vs1,d1,ds1,p1,q1,rfl,rfl,rfl,h1,r1⟩:=trodAll_cons r0
 obtain⟨v2,vs2,d2,ds2,p2,q2,rfl,rfl,rfl,h2,r2⟩:=trodAll_cons r1
 obtain⟨rfl,rfl,rfl⟩:=trodAll_nil r2
 obtain rfl:args=#[v0,v1,v2]:=by cases args;simp_all
 obtain⟨rfl,rfl⟩:=trodVars_none hV
 have k0:=h0
 have lt0:∀ x ∈ p0,x.block < W.heap.size:=by obtain⟨m,hm⟩:=k0;exact DataW.trod_lt m _ _ _ hm
 have k1:=h1
 have lt1:∀ x ∈ p1,x.block < W.heap.size:=by obtain⟨m,hm⟩:=k1;exact DataW.trod_lt m _ _ _ hm
 have k2:=h2
 have lt2:∀ x ∈ p2,x.block < W.heap.size:=by obtain⟨m,hm⟩:=k2;exact DataW.trod_lt m _ _ _ hm
 obtain⟨cs0,rfl,_⟩:=okWide_struct underlying28 (hval 0 28 v0 rfl rfl)
 obtain⟨cs1,rfl,_⟩:=okWide_struct underlying31 (hval 1 31 v1 rfl rfl)
 obtain⟨a2,len2,cap2,rfl⟩:=okWide_slice underlying32 (hval 2 32 v2 rfl rfl)
 have hrb:=reachBytes_lt
 obtain⟨n0,f0⟩:=h0
 have w0:∀ k,k ∈ d0.weights Tryz.prog 28→k≤140737488355328:=fun k hk=>by
  have z:=List.all_eq_true.1 hsz0 _ (DataW.weights_mem_each (ts:=_) (j:=0) (t:=28) rfl rfl k hk)
  simp only [decide_eq_true_eq] at z
  skip
  omega
 have e0:(Value.agg cs0).cells=cs0:=by simp [Value.cells]
 rw [e0] at f0
 obtain⟨n1,f1⟩:=h1
 have w1:∀ k,k ∈ d1.weights Tryz.prog 31→k≤140737488355328:=fun k hk=>by
  have z:=List.all_eq_true.1 hsz0 _ (DataW.weights_mem_each (ts:=_) (j:=1) (t:=31) rfl rfl k hk)
  simp only [decide_eq_true_eq] at z
  skip
  omega
 have e1:(Value.agg cs1).cells=cs1:=by simp [Value.cells]
 rw [e1] at f1
 obtain⟨n2,f2⟩:=h2
 have w2:∀ k,k ∈ d2.weights Tryz.prog 32→k≤140737488355328:=fun k hk=>by
  have z:=List.all_eq_true.1 hsz0 _ (DataW.weights_mem_each (ts:=_) (j:=2) (t:=32) rfl rfl k hk)
  simp only [decide_eq_true_eq] at z
  skip
  omega
 obtain⟨en0,u0,vc0,a0,c0,l0,hcs0,g0,s0,z0,b0⟩:=trod_env (x:=(d0,p0)) f0 (by unfold BB;decide) w0
 obtain rfl:cs0=(bA vc0 a0 l0.length c0).toArray:=Array.toList_inj.1 hcs0
 obtain⟨u1,a1,c1,hcs1,g1,b1,z1⟩:=trod_role (x:=(d1,p1)) f1 w1
 obtain rfl:cs1=#[.slice a1 u1.keys.length c1,.int .i64 u1.thr]:=Array.toList_inj.1 hcs1
 obtain⟨l2,g2,b2,z2⟩:=trod_keys (x:=(d2,p2)) f2 w2
 obtain rfl:len2=l2.length:=by
  obtain⟨a9,c9,e9,-,-⟩:=g2.form
  simp only [Value.slice.injEq] at e9
  exact e9.2.1
 have ht:=zau hL
 have hks:=ks_of_laid hL
 clear hA0 hval0
 have main:=Y1 g0 s0 z0 b0 g1 z1 b1 g2 z2 b2 ht hks
 refine main.mono fun e W' ⟨he,bel0⟩=>?_
 have bel:=bel0.below (Nat.le_refl _) (by simp)
 subst he
 exact⟨_,rfl,_,_,_,[],_,[],hW',trodAll_mk1 (shut_bool underlying4 _),(trodAll_cons_mk (Below.trod zae (by kernel_rfl) (of_decide_eq_true (by kernel_rfl)) k0 bel lt0) (trodAll_cons_mk (Below.trod zae (by kernel_rfl) (of_decide_eq_true (by kernel_rfl)) k1 bel lt1) (trodAll_cons_mk (Below.trod zae (by kernel_rfl) (of_decide_eq_true (by kernel_rfl)) k2 bel lt2) trodAll_mk0))),rfl,bel.frame _,fun h=>by cases h⟩
theorem qH {a b:Bool}(h:a=true) (k:b=true):(a && b)=true:=by rw [h,k];rfl
theorem yg {a b:Bool}(h:(a && b)=true):a=true:=by cases a <;> simp_all
theorem zi {a b:Bool}(h:(a && b)=true):b=true:=by cases b <;> simp_all
theorem Zx:((Rows.quorumOrderRow.wf (OpenSpec.ofChange Rows.quorumOrderSpec)) && ((laidOutB Tryz.prog) && ((mapsRowed Tryz.prog) && ((Tryz.f6.params.all (Tryz.prog.readableRec ·)) && ((namedTie Tryz.prog Rows.quorumOrderRow.named Rows.quorumOrderSpec.vars) && (((Rows.quorumOrderRow.stops == [])) && (((Tryz.prog.stops == [])) && (((Rows.quorumOrderRow.knobs == [])) && ((Tryz.prog.stopKnobs == []))))))))))=true:=by kernel_rfl
theorem lump1:(((Rows.quorumOrderRow.inPlace == Tryz.prog.inPlace 6)) && (((Rows.quorumOrderRow.unfollowed == Tryz.prog.unfollowed 6)) && (((Rows.quorumOrderRow.recurses == Tryz.prog.recurses 6)) && ((Rows.quorumOrderRow.named == Tryz.prog.varsNamed 6)))))=true:=by kernel_rfl
theorem bh:(((Rows.quorumOrderRow.maps == (Tryz.f6.params.toList ++ Rows.quorumOrderSpec.plain.varTypes Tryz.prog).any (Tryz.prog.mapsRec ·))) && (((Rows.quorumOrderRow.ifaces == (Tryz.f6.params.toList ++ Rows.quorumOrderSpec.plain.varTypes Tryz.prog).any (Tryz.prog.ifacesRec ·))) && (((Rows.quorumOrderRow.mapsOut == Tryz.prog.mapsAmong Tryz.f6.resultTypes.toList)) && (((Rows.quorumOrderRow.loops == (Tryz.f6.params.toList ++ Rows.quorumOrderSpec.plain.varTypes Tryz.prog).any (Tryz.prog.loopsFrom ·))) && (((Rows.quorumOrderRow.wideKeys == (Tryz.f6.params.toList ++ Rows.quorumOrderSpec.plain.varTypes Tryz.prog ++ Tryz.f6.resultTypes.toList).any (Tryz.prog.wideKeysFrom ·))) && ((Rows.quorumOrderSpec.vars.all (Tryz.prog.varReadable ·)) && ((Tryz.f6.resultTypes.all (fun t=>Tryz.prog.readableRec t && decide (t < Tryz.prog.types.size))) && (((Rows.quorumOrderRow.ifacesOut == Tryz.f6.resultTypes.toList.any (Tryz.prog.ifacesRec ·))) && (((Rows.quorumOrderRow.loopsOut == Tryz.f6.resultTypes.toList.any (Tryz.prog.loopsFrom ·))) && (((Rows.quorumOrderRow.plainKeys == Tryz.prog.plainKeys)) && (Rows.quorumOrderRow.shortTexts.isNone)))))))))))=true:=by kernel_rfl
theorem lump3:((Tryz.prog.stopsHeard) && ((Tryz.prog.mayEnter) && (((Rows.quorumOrderRow.lifted == Tryz.prog.liftsFinal)) && ((Tryz.prog.make == some Rows.quorumOrderRow.make)))))=true:=by kernel_rfl
theorem lump4:(((Rows.quorumOrderRow.pinned == Rows.quorumOrderRow.pinnedBy)) && (((Rows.quorumOrderRow.veiled == (Tryz.f6.params.toList ++ Rows.quorumOrderSpec.plain.varTypes Tryz.prog ++ Tryz.f6.resultTypes.toList).any (Tryz.prog.veiledRec ·))) && (Rows.quorumOrderRow.veiledFits Tryz.prog Tryz.f6.params.toList (Tryz.f6.params.toList ++ Rows.quorumOrderSpec.plain.varTypes Tryz.prog ++ Tryz.f6.resultTypes.toList))))=true:=by kernel_rfl
set_option maxRecDepth 100000 in
theorem joined:joinedFacts Tryz.prog 6 Tryz.f6 Rows.quorumOrderSpec Rows.quorumOrderRow=true:=by
 unfold joinedFacts
 exact (qH (qH (qH (qH (qH (qH (qH (qH (qH (qH (qH (qH (qH (qH (qH (qH (qH (qH (qH (qH (qH (qH (qH (qH (qH (qH (qH (qH (qH (qH (qH (yg Zx) (yg (zi Zx))) (yg (zi (zi Zx)))) (yg (zi (zi (zi Zx))))) (yg (zi (zi (zi (zi Zx)))))) (yg (zi (zi (zi (zi (zi Zx))))))) (yg (zi (zi (zi (zi (zi (zi Zx)))))))) (yg (zi (zi (zi (zi (zi (zi (zi Zx))))))))) (zi (zi (zi (zi (zi (zi (zi (zi Zx))))))))) (yg lump1)) (yg (zi lump1))) (yg (zi (zi lump1)))) (zi (zi (zi lump1)))) (yg bh)) (yg (zi bh))) (yg (zi (zi bh)))) (yg (zi (zi (zi bh))))) (yg (zi (zi (zi (zi bh)))))) (yg (zi (zi (zi (zi (zi bh))))))) (yg (zi (zi (zi (zi (zi (zi bh)))))))) (yg (zi (zi (zi (zi (zi (zi (zi bh))))))))) (yg (zi (zi (zi (zi (zi (zi (zi (zi bh)))))))))) (yg (zi (zi (zi (zi (zi (zi (zi (zi (zi bh))))))))))) (zi (zi (zi (zi (zi (zi (zi (zi (zi (zi bh))))))))))) (yg lump3)) (yg (zi lump3))) (yg (zi (zi lump3)))) (zi (zi (zi lump3)))) (by kernel_rfl)) (yg lump4)) (yg (zi lump4))) (zi (zi lump4)))
theorem worded:Rows.quorumOrderRow.wfByText (OpenSpec.ofChange Rows.quorumOrderSpec)=true:=by kernel_rfl
theorem main_is : Tryz.prog.mainIs = some (true, "52662b244b4a5b8dfe05cf26fd23017f609ec661c2e2e4ef9c30f8a23e274dc0".toList) := by kernel_rfl
theorem looks:false=Tryz.prog.looks []:=by kernel_rfl
theorem goes:false=Rows.quorumOrderRow.goesBy Tryz.prog:=by kernel_rfl
theorem named_f : Tryz.prog.funcNamed "pursuivant/pursuivantlaw18.QuorumOrder" = some 6 := by kernel_rfl
theorem wants:([28,31,32].all fun u=>!Tryz.prog.wantsStandIn u)=true:=by kernel_rfl
theorem over:Rows.quorumOrderRow.holds Tryz.pinned (OpenSpec.ofChange Rows.quorumOrderSpec):=
 OpenClaim.holds_of_wide 6 Tryz.f6 rfl rfl rfl rfl rfl rfl rfl ⟨rfl,rfl,rfl,rfl,rfl⟩ rfl rfl rfl rfl rfl named_f func6 joined
  (of_decide_eq_true (by kernel_rfl)) (by unfold Func.isWrapper;first | (rw [if_pos (by decide +kernel)];kernel_rfl) | (rw [if_neg (by decide +kernel)];exact⟨rfl,rfl⟩))
  (fun os started H enc _=>lifted os started H enc)
set_option maxRecDepth 100000 in
theorem card:Claim7.holds Tryz.pinned (.plain (OpenSpec.ofChange Rows.quorumOrderSpec)) Rows.quorumOrderCard:=
 Claim7.holds_tied_plain_at .later [] [.data, .data, .data, .data, .data, .pinned] true (true, "52662b244b4a5b8dfe05cf26fd23017f609ec661c2e2e4ef9c30f8a23e274dc0") false
  over (fun _ h=>by cases h) worded (fun _ h=>by cases h) quorumOrder_row_tie rfl ⟨rfl,rfl⟩ main_is rfl
  (fun f fn hf hfn=>by
   obtain rfl:f=6:=Option.some.inj (named_f.symm.trans hf) |>.symm
   obtain rfl:fn=Tryz.f6:=(Option.some.inj (func6.symm.trans hfn)).symm
   exact⟨looks,fun j t ht=>by
    rw [Tryz.params6] at ht
    have hm:t ∈ [28,31,32]:=by simpa using Array.mem_of_getElem? ht
    exact (show Tryz.prog.wantsStandIn t=false by simpa using List.all_eq_true.1 wants t hm)⟩)
  goes
end QOrder
theorem quorumOrder_holds:Rows.QuorumOrderCardSaid:=QOrder.card
#print axioms quorumOrder_holds
end Go.Proofs.YtibnfbglanpoiaaGreatDoor
