/- Parts of one proof, merged: XBX. -/
import Derived.Test.YtibnfbglanpoiaaGreatDoorQeAO
import Derived.Test.YtibnfbglanpoiaaGreatDoorQeAJ
set_option linter.all false
set_option maxHeartbeats 12800000
set_option maxRecDepth 100000
namespace Go.Proofs.YtibnfbglanpoiaaGreatDoor
open Go.RowKit
def tx0:List UInt8:=[123,34,107,101,121,116,121,112,101,34,58,34,108,97,109,112,111,114,116,45,109,101,114,107,108,101,34,44,34,107,101,121,118,97,108,34,58,123,34,98,105,116,115,34,58]
def tx1:List UInt8:=[44,34,104,101,105,103,104,116,34,58]
def tx2:List UInt8:=[44,34,112,117,98,108,105,99,34,58,34]
def tx3:List UInt8:=[34,125,44,34,115,99,104,101,109,101,34,58,34,115,104,97,50,53,54,34,125]
def K8 (b h:List UInt8) (root:List UInt8):List UInt8:=tx0++(b++(tx1++(h++(tx2++(kQ root++tx3)))))
theorem quote_low:∀ (l:List UInt8),(∀ b,b∈l→qf b=true)→l.flatMap yd=l
 | [],_=>rfl
 | b::l,h=>by
  have h1:∀ c:Fin 256,qf (UInt8.ofNat c.val)=true→yd (UInt8.ofNat c.val)=[UInt8.ofNat c.val]:=by decide +kernel
  have h2:=h1 ⟨b.toNat,UInt8.toNat_lt b⟩
  simp only [UInt8.ofNat_toNat] at h2
  rw [List.flatMap_cons,h2 (h b Wz),quote_low l (fun c hc=>h c (List.mem_cons_of_mem _ hc))]
  rfl
theorem sort_three {α:Type}(a b c:ByteArray×α) (h1:leK a c=true) (h2:leK c b=true) (hn:([a,b,c].map (fun p=>p.1)).Nodup):([a,b,c]:List (ByteArray×α)).mergeSort leK=[a,c,b]:=by
 refine jj ((List.mergeSort_perm _ _).trans (List.Perm.cons a (List.Perm.swap c b []))) (List.pairwise_mergeSort kF bg _) ?_ ((List.Perm.nodup_iff ((List.mergeSort_perm _ _).map _)).2 hn)
 simp only [List.pairwise_cons,List.mem_cons,List.not_mem_nil,or_false,forall_eq_or_imp,forall_eq,List.Pairwise.nil,false_imp_iff,implies_true,and_true]
 exact⟨⟨h1,kF _ _ _ h1 h2⟩,h2⟩
theorem sort_same {α:Type}(a b c:ByteArray×α) (h1:leK a b=true) (h2:leK b c=true):([a,b,c]:List (ByteArray×α)).mergeSort leK=[a,b,c]:=by
 refine List.mergeSort_of_pairwise ?_
 simp only [List.pairwise_cons,List.mem_cons,List.not_mem_nil,or_false,forall_eq_or_imp,forall_eq,List.Pairwise.nil,false_imp_iff,implies_true,and_true]
 exact⟨⟨h1,kF _ _ _ h1 h2⟩,h2⟩
theorem sort_intV {n:Nat}(z:Int):zy (n+1) (YU z:VS (V n))=(YU z:VS (V n)):=by
 show (⟨3,z,_,_,List.mergeSort _ _⟩:VS (V n))=_
 rw [show ((YU z:VS (V n)).m.map (fun p=>(p.1,zy n p.2)))=[] from rfl,List.mergeSort_nil]
 rfl
theorem YL {n:Nat}(s:ByteArray):zy (n+1) (qY s:VS (V n))=(qY s:VS (V n)):=by
 show (⟨4,0,_,_,List.mergeSort _ _⟩:VS (V n))=_
 rw [show ((qY s:VS (V n)).m.map (fun p=>(p.1,zy n p.2)))=[] from rfl,List.mergeSort_nil]
 rfl
theorem sort_valV (k:zY):zy 2 (j7 k)=j7 k:=by
 show (⟨6,0,_,_,List.mergeSort [(_,zy 1 _),(_,zy 1 _),(_,zy 1 _)] _⟩:VS (V 1))=_
 rw [sort_intV,sort_intV,YL,sort_same _ _ _ Wk Wk]
 rfl
theorem sort_keyV (k:zY):zy 3 (ka k)=(Zx [(⟨#[107,101,121,116,121,112,101]⟩,(qY ⟨#[108,97,109,112,111,114,116,45,109,101,114,107,108,101]⟩:VS (V 1))),(⟨#[107,101,121,118,97,108]⟩,j7 k),(⟨#[115,99,104,101,109,101]⟩,qY ⟨#[115,104,97,50,53,54]⟩)]:VS (V 2)):=by
 show (⟨6,0,_,_,List.mergeSort [(_,zy 2 _),(_,zy 2 _),(_,zy 2 _)] _⟩:VS (V 2))=_
 rw [YL,YL,sort_valV,sort_three _ _ _ Wk Wk (by simp only [List.map_cons,List.map_nil];decide)]
 rfl
theorem quote_hex (l:List UInt8):yG (qp l).data.toList=34::(kQ l++[34]):=by
 unfold yG
 rw [hexS_list,quote_low _ (JW l)]
theorem write_val (k:zY):zt 2 (j7 k)=123::((([34,98,105,116,115,34]++(58::Lib.itoa k.bits))++(44::(([34,104,101,105,103,104,116,34]++(58::Lib.itoa k.height))++(44::([34,112,117,98,108,105,99,34]++(58::yG (qp k.root).data.toList))))))++[125]):=rfl
theorem write_key (k:zY):zt 3 (zy 3 (ka k))=K8 (Lib.itoa k.bits) (Lib.itoa k.height) k.root:=by
 rw [sort_keyV]
 have e:∀ x:VS (V 1),zt 3 (Zx [(⟨#[107,101,121,116,121,112,101]⟩,(qY ⟨#[108,97,109,112,111,114,116,45,109,101,114,107,108,101]⟩:VS (V 1))),(⟨#[107,101,121,118,97,108]⟩,x),(⟨#[115,99,104,101,109,101]⟩,qY ⟨#[115,104,97,50,53,54]⟩)]:VS (V 2))=[123,34,107,101,121,116,121,112,101,34,58,34,108,97,109,112,111,114,116,45,109,101,114,107,108,101,34,44,34,107,101,121,118,97,108,34,58]++(zt 2 x++[44,34,115,99,104,101,109,101,34,58,34,115,104,97,50,53,54,34,125]):=fun x=>by
  show 123::((_++(44::((_++(58::zt 2 x))++(44::_))))++[125])=_
  simp only [List.append_assoc,List.cons_append]
  rfl
 refine (e (j7 k)).trans ?_
 rw [write_val,quote_hex]
 unfold K8 tx0 tx1 tx2 tx3
 simp only [List.append_assoc,List.cons_append,List.nil_append]
theorem J0 {k:zY}(hm:zI k=true) (hr:k.root.length=32):yh k=qp (zV (K8 (Lib.itoa k.bits) (Lib.itoa k.height) k.root)):=by
 have hc:=Z0 k hm
 have hl:=ZV 3 (zy 3 (ka k)) (by rw [kp];exact (kH.1 hc).2.2)
 rw [jW,vo] at hl
 have hb:=Q6 k hr
 have hq:zw 3 (ka k)=7:=rfl
 have hle:(zt 3 (zy 3 (ka k))).length≤262144:=Ws
 unfold yh
 rw [if_pos hm,bD hc hle,write_key]
theorem itoas:Lib.itoa 8=[56]∧Lib.itoa 1=[49]∧Lib.itoa 0=[48]:=by decide +kernel
theorem rootRt:xR=rt:=by unfold xR kU;rw [leafL0,leafL1,nodeRt]
def k0:zY:=⟨8,0,jl⟩
theorem two_sums:zV (K8 [56] [49] rt)≠zV (K8 [56] [48] jl):=by decide +kernel
theorem ids_differ:yh (k8 xR)≠yh k0:=by
 rw [J0 (k:=k8 xR) Wo (yP _ _),J0 (k:=k0) Wo Wo,rootRt]
 show qp (zV (K8 (Lib.itoa 8) (Lib.itoa 1) rt))≠qp (zV (K8 (Lib.itoa 8) (Lib.itoa 0) jl))
 rw [itoas.1,itoas.2.1,itoas.2.2]
 intro h
 have h1:=congrArg yJ h
 rw [bI,bI] at h1
 exact two_sums (Option.some.inj h1)
end Go.Proofs.YtibnfbglanpoiaaGreatDoor
