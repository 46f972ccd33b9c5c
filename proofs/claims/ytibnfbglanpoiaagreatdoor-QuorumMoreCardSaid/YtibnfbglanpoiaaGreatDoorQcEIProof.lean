/- QuorumMore: a row more takes no id away; one of an id that is not the role's adds none. No condition (package variables start as the text lays them). -/
import Derived.Test.YtibnfbglanpoiaaGreatDoorQcAN
import Derived.Test.YtibnfbglanpoiaaGreatDoorQcAO
import Derived.Test.YtibnfbglanpoiaaGreatDoorRows
import Derived.Test.YtibnfbglanpoiaaGreatDoorCards
import Derived.Test.YtibnfbglanpoiaaGreatDoorTie
import Derived.ProofKit
import Derived.LaidMore
import Derived.OpenShut
import Derived.ChangeOld
import Derived.Below
import Derived.Lay
import Derived.Stop.Joined
import Derived.Stop.LaidErr
import Derived.MakeChecks
import Derived.SizedLaws
import Derived.SevenTiedAt
set_option linter.all false
set_option maxHeartbeats 12800000
set_option maxRecDepth 10000
set_option linter.unusedVariables false
set_option linter.unusedSimpArgs false
set_option linter.unnecessarySimpa false
namespace Go.Proofs.YtibnfbglanpoiaaGreatDoor
open Go.Proofs.Tryz
open Go.ChangeShapes Go.WideShapes Go.ChangeAt Go.RowKit Go.WideMaps Go.WideElems
namespace QMore
set_option linter.unusedVariables false
theorem own:ownKnob Tryz.prog.godebug=none:=by kernel_rfl
theorem QK:laidOutB Tryz.prog=true:=by kernel_rfl
theorem lay_fits (os:Os):(World.holding Tryz.prog os ⟨#[],#[],[]⟩).layFits Tryz.prog jf []=true:=by kernel_rfl
theorem lay_ifaces (os:Os):(World.holding Tryz.prog os ⟨#[],#[],[]⟩).layIfaces Tryz.prog jf (World.laidAll Tryz.prog os jf)=true:=by kernel_rfl
theorem door_met (os:Os) (args:Array Value):laidMetH Tryz.prog jf ((World.laidAll Tryz.prog os jf).forCall (fun _ _=>0) ⟨#[],args,[]⟩).memory:=by
 rw [MakeChecks.laidMetH_plain _ _ _ (by kernel_rfl)]
 exact laidMet_laidAll _ (lay_fits os) (lay_ifaces os)
set_option maxRecDepth 100000 in
theorem lifted (os:Os) (started:os.Started) (H:Type) (enc:TypeId × Value→H) :
  ReturnsInHanded {} Tryz.checked os 5 .any (fun w args=>(Rows.quorumMoreSpec.pre enc Tryz.prog Tryz.f5 [] false w args∧laidMetH Tryz.prog jf w)∧sizedMet enc Tryz.prog Tryz.f5 (OpenSpec.ofChange Rows.quorumMoreSpec) false w args)
   (Rows.quorumMoreSpec.post enc Tryz.prog Tryz.f5 false true false false):=by
 refine K6 (C:=Tryz.checked) (X:=fun w _=>laidMetH Tryz.prog jf w) (fun _ _ _ hh h=>h.of_heap hh) own started (by kernel_rfl) func5
  (ChangeSpec.witness_shaped (enc:=enc) (C:=Tryz.checked) (os:=os) (X:=fun w _=>laidMetH Tryz.prog jf w) false (World.laidAll Tryz.prog os jf) #[.agg #[.int .i64 0,.int .i64 0,.string ⟨#[]⟩,.slice none 0 0,.slice none 0 0,.slice none 0 0],.agg #[.string ⟨#[]⟩,.string ⟨#[]⟩],.agg #[.slice none 0 0,.int .i64 0],.slice none 0 0] 8 (World.laidAll_os _ _ _) (World.shaped_of_ZipB (by kernel_rfl) (by kernel_rfl)) (by kernel_rfl) (by kernel_rfl) (by kernel_rfl) (door_met os _)) ?_
 intro W base args ds gs before hval0 hW hsz0 hL hsh
 have hval:∀ (j:Nat) t v,Tryz.f5.params[j]? = some t→args[j]? = some v→Value.okWide Tryz.prog W .any base t v:=hval0
 have hW':=hW
 obtain⟨p,q,hA0,hV,rfl,hfz,hnd⟩:=hW
 have hA:DataW.TrodAll enc Tryz.prog W 0 (fun _=>true) true Tryz.f5.params.toList args.toList ds p:=hA0
 rw [Tryz.params5] at hA hval hsz0
 obtain⟨v0,vs0,d0,ds0,p0,q0,hargs,rfl,rfl,h0,r0⟩:=trodAll_cons hA
 obtain⟨v1,vs1,d1,ds1,p1,q1,rfl,rfl,rfl,h1,r1⟩:=trodAll_cons r0
 obtain⟨v2,vs2,d2,ds2,p2,q2,rfl,rfl,rfl,h2,r2⟩:=trodAll_cons r1
 obtain⟨v3,vs3,d3,ds3,p3,q3,rfl,rfl,rfl,h3,r3⟩:=trodAll_cons r2
 obtain⟨rfl,rfl,rfl⟩:=trodAll_nil r3
 obtain rfl:args=#[v0,v1,v2,v3]:=by cases args;simp_all
 obtain⟨rfl,rfl⟩:=trodVars_none hV
 have k0:=h0
 have lt0:∀ x ∈ p0,x.block < W.heap.size:=by obtain⟨m,hm⟩:=k0;exact DataW.trod_lt m _ _ _ hm
 have k1:=h1
 have lt1:∀ x ∈ p1,x.block < W.heap.size:=by obtain⟨m,hm⟩:=k1;exact DataW.trod_lt m _ _ _ hm
 have k2:=h2
 have lt2:∀ x ∈ p2,x.block < W.heap.size:=by obtain⟨m,hm⟩:=k2;exact DataW.trod_lt m _ _ _ hm
 have k3:=h3
 have lt3:∀ x ∈ p3,x.block < W.heap.size:=by obtain⟨m,hm⟩:=k3;exact DataW.trod_lt m _ _ _ hm
 obtain⟨cs0,rfl,_⟩:=okWide_struct underlying28 (hval 0 28 v0 rfl rfl)
 obtain⟨cs1,rfl,_⟩:=okWide_struct underlying40 (hval 1 40 v1 rfl rfl)
 obtain⟨cs2,rfl,_⟩:=okWide_struct underlying31 (hval 2 31 v2 rfl rfl)
 obtain⟨a3,len3,cap3,rfl⟩:=okWide_slice underlying32 (hval 3 32 v3 rfl rfl)
 have hrb:=reachBytes_lt
 obtain⟨n0,f0⟩:=h0
 have w0:∀ k,k ∈ d0.weights Tryz.prog 28→k≤reachBytes:=fun k hk=>by
  have z:=List.all_eq_true.1 hsz0 _ (DataW.weights_mem_each (ts:=_) (j:=0) (t:=28) rfl rfl k hk)
  simp only [decide_eq_true_eq] at z
  skip
  omega
 have e0:(Value.agg cs0).cells=cs0:=by simp [Value.cells]
 rw [e0] at f0
 obtain⟨n1,f1⟩:=h1
 have w1:∀ k,k ∈ d1.weights Tryz.prog 40→k≤140737488355328:=fun k hk=>by
  have z:=List.all_eq_true.1 hsz0 _ (DataW.weights_mem_each (ts:=_) (j:=1) (t:=40) rfl rfl k hk)
  simp only [decide_eq_true_eq] at z
  skip
  omega
 have e1:(Value.agg cs1).cells=cs1:=by simp [Value.cells]
 rw [e1] at f1
 obtain⟨n2,f2⟩:=h2
 have w2:∀ k,k ∈ d2.weights Tryz.prog 31→k≤140737488355328:=fun k hk=>by
  have z:=List.all_eq_true.1 hsz0 _ (DataW.weights_mem_each (ts:=_) (j:=2) (t:=31) rfl rfl k hk)
  simp only [decide_eq_true_eq] at z
  skip
  omega
 have e2:(Value.agg cs2).cells=cs2:=by simp [Value.cells]
 rw [e2] at f2
 obtain⟨n3,f3⟩:=h3
 have w3:∀ k,k ∈ d3.weights Tryz.prog 32→k≤140737488355328:=fun k hk=>by
  have z:=List.all_eq_true.1 hsz0 _ (DataW.weights_mem_each (ts:=_) (j:=3) (t:=32) rfl rfl k hk)
  simp only [decide_eq_true_eq] at z
  skip
  omega
 obtain⟨en0,u0,vc0,a0,c0,l0,hcs0,g0,s0,z0,b0,y0⟩:=trod_env (x:=(d0,p0)) f0 (show reachBytes≤BB by unfold BB;omega) w0
 obtain rfl:cs0=(vt vc0 a0 l0.length c0).toArray:=Array.toList_inj.1 hcs0
 obtain⟨u1,hcs1,z1⟩:=Qr (x:=(d1,p1)) f1 w1
 obtain rfl:cs1=u1.enc.toArray:=Array.toList_inj.1 hcs1
 obtain⟨u2,a2,c2,hcs2,g2,b2,z2⟩:=trod_role (x:=(d2,p2)) f2 w2
 obtain rfl:cs2=#[.slice a2 u2.keys.length c2,.int .i64 u2.thr]:=Array.toList_inj.1 hcs2
 obtain⟨l3,g3,b3,z3⟩:=trod_keys (x:=(d3,p3)) f3 w3
 obtain rfl:len3=l3.length:=by
  obtain⟨a9,c9,e9,-,-⟩:=g3.form
  simp only [Value.slice.injEq] at e9
  exact e9.2.1
 have ht:=tabs_of_laid hL
 have hks:=ks_of_laid hL
 clear hA0 hval0
 have main:=Q4 g0 s0 (fun x hx=>⟨Nat.le_trans (z0 x hx).1 (Nat.le_of_lt hrb),Nat.le_trans (z0 x hx).2 (Nat.le_of_lt hrb)⟩) (Nat.le_trans b0 (Nat.le_of_lt hrb)) y0 z1 g2 z2 b2 g3 z3 b3 ht hks
 refine main.mono fun e W' ⟨he,bel0⟩=>?_
 have bel:=bel0.below (Nat.le_refl _) (by simp)
 subst he
 exact⟨_,rfl,_,_,_,[],_,[],hW',trodAll_mk1 (shut_bool underlying4 _),(trodAll_cons_mk (Below.trod QK (by kernel_rfl) (of_decide_eq_true (by kernel_rfl)) k0 bel lt0) (trodAll_cons_mk (Below.trod QK (by kernel_rfl) (of_decide_eq_true (by kernel_rfl)) k1 bel lt1) (trodAll_cons_mk (Below.trod QK (by kernel_rfl) (of_decide_eq_true (by kernel_rfl)) k2 bel lt2) (trodAll_cons_mk (Below.trod QK (by kernel_rfl) (of_decide_eq_true (by kernel_rfl)) k3 bel lt3) trodAll_mk0)))),rfl,bel.frame _,fun h=>by cases h⟩
theorem qS {a b:Bool}(h:a=true) (k:b=true):(a && b)=true:=by rw [h,k];rfl
theorem yl {a b:Bool}(h:(a && b)=true):a=true:=by cases a <;> simp_all
theorem zi {a b:Bool}(h:(a && b)=true):b=true:=by cases b <;> simp_all
theorem YH:((Rows.quorumMoreRow.wf (OpenSpec.ofChange Rows.quorumMoreSpec)) && ((laidOutB Tryz.prog) && ((mapsRowed Tryz.prog) && ((Tryz.f5.params.all (Tryz.prog.readableRec ·)) && ((namedTie Tryz.prog Rows.quorumMoreRow.named Rows.quorumMoreSpec.vars) && (((Rows.quorumMoreRow.stops == [])) && (((Tryz.prog.stops == [])) && (((Rows.quorumMoreRow.knobs == [])) && ((Tryz.prog.stopKnobs == []))))))))))=true:=by kernel_rfl
theorem lump1:(((Rows.quorumMoreRow.inPlace == Tryz.prog.inPlace 5)) && (((Rows.quorumMoreRow.unfollowed == Tryz.prog.unfollowed 5)) && (((Rows.quorumMoreRow.recurses == Tryz.prog.recurses 5)) && ((Rows.quorumMoreRow.named == Tryz.prog.varsNamed 5)))))=true:=by kernel_rfl
theorem bI:(((Rows.quorumMoreRow.maps == (Tryz.f5.params.toList ++ Rows.quorumMoreSpec.plain.varTypes Tryz.prog).any (Tryz.prog.mapsRec ·))) && (((Rows.quorumMoreRow.ifaces == (Tryz.f5.params.toList ++ Rows.quorumMoreSpec.plain.varTypes Tryz.prog).any (Tryz.prog.ifacesRec ·))) && (((Rows.quorumMoreRow.mapsOut == Tryz.prog.mapsAmong Tryz.f5.resultTypes.toList)) && (((Rows.quorumMoreRow.loops == (Tryz.f5.params.toList ++ Rows.quorumMoreSpec.plain.varTypes Tryz.prog).any (Tryz.prog.loopsFrom ·))) && (((Rows.quorumMoreRow.wideKeys == (Tryz.f5.params.toList ++ Rows.quorumMoreSpec.plain.varTypes Tryz.prog ++ Tryz.f5.resultTypes.toList).any (Tryz.prog.wideKeysFrom ·))) && ((Rows.quorumMoreSpec.vars.all (Tryz.prog.varReadable ·)) && ((Tryz.f5.resultTypes.all (fun t=>Tryz.prog.readableRec t && decide (t < Tryz.prog.types.size))) && (((Rows.quorumMoreRow.ifacesOut == Tryz.f5.resultTypes.toList.any (Tryz.prog.ifacesRec ·))) && (((Rows.quorumMoreRow.loopsOut == Tryz.f5.resultTypes.toList.any (Tryz.prog.loopsFrom ·))) && (((Rows.quorumMoreRow.plainKeys == Tryz.prog.plainKeys)) && (Rows.quorumMoreRow.shortTexts.isNone)))))))))))=true:=by kernel_rfl
theorem lump3:((Tryz.prog.stopsHeard) && ((Tryz.prog.mayEnter) && (((Rows.quorumMoreRow.lifted == Tryz.prog.liftsFinal)) && ((Tryz.prog.make == some Rows.quorumMoreRow.make)))))=true:=by kernel_rfl
theorem lump4:(((Rows.quorumMoreRow.pinned == Rows.quorumMoreRow.pinnedBy)) && (((Rows.quorumMoreRow.veiled == (Tryz.f5.params.toList ++ Rows.quorumMoreSpec.plain.varTypes Tryz.prog ++ Tryz.f5.resultTypes.toList).any (Tryz.prog.veiledRec ·))) && (Rows.quorumMoreRow.veiledFits Tryz.prog Tryz.f5.params.toList (Tryz.f5.params.toList ++ Rows.quorumMoreSpec.plain.varTypes Tryz.prog ++ Tryz.f5.resultTypes.toList))))=true:=by kernel_rfl
set_option maxRecDepth 100000 in
theorem joined:joinedFacts Tryz.prog 5 Tryz.f5 Rows.quorumMoreSpec Rows.quorumMoreRow=true:=by
 unfold joinedFacts
 exact (qS (qS (qS (qS (qS (qS (qS (qS (qS (qS (qS (qS (qS (qS (qS (qS (qS (qS (qS (qS (qS (qS (qS (qS (qS (qS (qS (qS (qS (qS (qS (yl YH) (yl (zi YH))) (yl (zi (zi YH)))) (yl (zi (zi (zi YH))))) (yl (zi (zi (zi (zi YH)))))) (yl (zi (zi (zi (zi (zi YH))))))) (yl (zi (zi (zi (zi (zi (zi YH)))))))) (yl (zi (zi (zi (zi (zi (zi (zi YH))))))))) (zi (zi (zi (zi (zi (zi (zi (zi YH))))))))) (yl lump1)) (yl (zi lump1))) (yl (zi (zi lump1)))) (zi (zi (zi lump1)))) (yl bI)) (yl (zi bI))) (yl (zi (zi bI)))) (yl (zi (zi (zi bI))))) (yl (zi (zi (zi (zi bI)))))) (yl (zi (zi (zi (zi (zi bI))))))) (yl (zi (zi (zi (zi (zi (zi bI)))))))) (yl (zi (zi (zi (zi (zi (zi (zi bI))))))))) (yl (zi (zi (zi (zi (zi (zi (zi (zi bI)))))))))) (yl (zi (zi (zi (zi (zi (zi (zi (zi (zi bI))))))))))) (zi (zi (zi (zi (zi (zi (zi (zi (zi (zi bI))))))))))) (yl lump3)) (yl (zi lump3))) (yl (zi (zi lump3)))) (zi (zi (zi lump3)))) (by kernel_rfl)) (yl lump4)) (yl (zi lump4))) (zi (zi lump4)))
theorem worded:Rows.quorumMoreRow.wfByText (OpenSpec.ofChange Rows.quorumMoreSpec)=true:=by kernel_rfl
theorem main_is : Tryz.prog.mainIs = some (true, "52662b244b4a5b8dfe05cf26fd23017f609ec661c2e2e4ef9c30f8a23e274dc0".toList) := by kernel_rfl
theorem looks:false=Tryz.prog.looks []:=by kernel_rfl
theorem goes:false=Rows.quorumMoreRow.goesBy Tryz.prog:=by kernel_rfl
theorem named_f : Tryz.prog.funcNamed "pursuivant/pursuivantlaw18.QuorumMore" = some 5 := by kernel_rfl
theorem wants:([28,40,31,32].all fun u=>!Tryz.prog.wantsStandIn u)=true:=by kernel_rfl
theorem over:Rows.quorumMoreRow.holds Tryz.pinned (OpenSpec.ofChange Rows.quorumMoreSpec):=
 OpenClaim.holds_of_wide 5 Tryz.f5 rfl rfl rfl rfl rfl rfl rfl ⟨rfl,rfl,rfl,rfl,rfl⟩ rfl rfl rfl rfl rfl named_f func5 joined
  (of_decide_eq_true (by kernel_rfl)) (by unfold Func.isWrapper;first | (rw [if_pos (by decide +kernel)];kernel_rfl) | (rw [if_neg (by decide +kernel)];exact⟨rfl,rfl⟩))
  (fun os started H enc _=>lifted os started H enc)
set_option maxRecDepth 100000 in
theorem card:Claim7.holds Tryz.pinned (.plain (OpenSpec.ofChange Rows.quorumMoreSpec)) Rows.quorumMoreCard:=
 Claim7.holds_tied_plain_at .later [] [.data, .data, .data, .data, .data, .pinned] true (true, "52662b244b4a5b8dfe05cf26fd23017f609ec661c2e2e4ef9c30f8a23e274dc0") false
  over (fun _ h=>by cases h) worded (fun _ h=>by cases h) quorumMore_row_tie rfl ⟨rfl,rfl⟩ main_is rfl
  (fun f fn hf hfn=>by
   obtain rfl:f=5:=Option.some.inj (named_f.symm.trans hf) |>.symm
   obtain rfl:fn=Tryz.f5:=(Option.some.inj (func5.symm.trans hfn)).symm
   exact⟨looks,fun j t ht=>by
    rw [Tryz.params5] at ht
    have hm:t ∈ [28,40,31,32]:=by simpa using Array.mem_of_getElem? ht
    exact (show Tryz.prog.wantsStandIn t=false by simpa using List.all_eq_true.1 wants t hm)⟩)
  goes
end QMore
theorem quorumMore_holds:Rows.QuorumMoreCardSaid:=QMore.card
#print axioms quorumMore_holds
end Go.Proofs.YtibnfbglanpoiaaGreatDoor
