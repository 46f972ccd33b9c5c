/- Parts of one proof, merged: XUA XRA XWr XTb. -/
import Derived.Test.YtibnfbglanpoiaaGreatDoorQeI
import Derived.Laws.OwnMore
import Derived.Test.YtibnfbglanpoiaaGreatDoorQeM
import Derived.Test.YtibnfbglanpoiaaGreatDoorRows
import Derived.LaidMore
import Derived.Stop.LaidErr
import Derived.MakeChecks
import Derived.Lib.LaidTab
import Derived.Lib.LaidU8T
import Derived.PinnedBridge
set_option linter.all false
set_option maxHeartbeats 12800000
set_option maxRecDepth 10000
namespace Go.Proofs.YtibnfbglanpoiaaGreatDoor
open Go.Proofs.Tryz
open Go.RowKit
theorem QS {w:World}{b:Nat}{s:ByteArray}(hb:w.heap[b]? = some (.cells #[.string s] 9 (0,0))) {i:Nat}(hi:i<s.size) :
  Calls Tryz.prog 128 #[.int .i64 i,.pointer (some ⟨b,0,none⟩)] w fun e w'=>e = .returned (.int .i64 (Lib.indexByte qQ (s.data.toList[i]'(by simpa using hi))))∧w=w':=by
 have c0:=za (o:=0) (v:=.string s) hb rfl
 have hiI:(i:Int)<s.size:=Ws
 have HX:Hid (s.data.toList[i]'(by simpa using hi)=s[i]'hi):=qI rfl
 rw [HX.o]
 clear hb HX
 go_enter func128,ntmps128
 go_wp2_with (go_at_call 129;refine (libIndexByte _ _ _).mono ?_;rintro e w' ⟨rfl,rfl⟩)
 go_ret
 refine⟨?_,rfl⟩
 simp [qQ]
theorem str_some {T:ByteArray}(h:T≠⟨#[]⟩):T.toList.isEmpty=false∧(!T.toList.isEmpty)=true:=by
 have h1:=(ke h).1
 have e:(⟨#[]⟩:ByteArray).toList=[]:=by decide +kernel
 rw [e] at h1
 have h2:T.toList.isEmpty=false:=by
  cases h3:T.toList with
  | nil=>rw [h3] at h1;cases h1
  | cons a l=>rfl
 rw [h2]
 exact⟨rfl,rfl⟩
theorem Qc:∀ (j:Nat) b,(⟨#[48,49,50,51,52,53,54,55,56,57,97,98,99,100,101,102]⟩:ByteArray).data.toList[j]? = some b→b.toNat<128:=by
 intro j b h
 have hm:b∈([48,49,50,51,52,53,54,55,56,57,97,98,99,100,101,102]:List UInt8):=List.mem_of_getElem? h
 have ha:([48,49,50,51,52,53,54,55,56,57,97,98,99,100,101,102]:List UInt8).all (fun b=>decide (b.toNat<128))=true:=Wo
 simpa using List.all_eq_true.1 ha b hm
theorem hex_join (x y:Nat) (hx:x<16) (hy:y<16):Value.int .u8 (bits .or .i64 ((x:Int)*16) (y:Int)%256)=bv (UInt8.ofNat (x*16+y)):=by
 rw [bits_join .i64 32 Wo (fun n h0 h1=>by rw [IntKind.wrap_i64];omega) 4 _ _ Ws Ws Ws Ws Ws Ws]
 unfold bv
 congr 1
theorem unhex_no (s:ByteArray) (hs:s.size≤140737488355328) (h:s.size%2=1∨s.data.toList.all qf=false) (w:World) :
  CL w 96 #[.string s] (.tuple #[.slice none 0 0,.int .i64 10]):=by
 obtain⟨W1,Gd⟩:∃ W1,Hid (W1=w.alloc (.cells #[.string s] 9)):=⟨_,qI rfl⟩
 have Gi:Hid (zb [] w W1):=qI (kA1 Gd.o)
 have Gj:Hid (W1.heap[w.heap.size]? = some (.cells #[.string s] 9 (0,0))):=qI (by rw [Gd.o];exact zd rfl)
 have c0:=za (o:=0) (v:=.string s) Gj.o rfl
 have HH:=qI h
 have hsI:(s.size:Int)≤140737488355328:=Ws
 clear h
 by_cases ho:s.size%2=1
 ·have ft:((s.size:Int).tmod 2)=1:=by rw [Int.tmod_eq_emod_of_nonneg Ws];omega
  clear ho
  go_enter func96,ntmps96
  go_wp2_with fail
  rw [← Gd.o]
  go_ret2
  exact⟨rfl,Gi.o⟩
 ·have ft:((s.size:Int).tmod 2)=0:=by rw [Int.tmod_eq_emod_of_nonneg Ws];omega
  have hne:yc (Lib.trimS s.data.toList qQ)≠⟨#[]⟩:=fun e=>by
   have h1:Lib.trimS s.data.toList qQ=[]:=by rw [← xZ (Lib.trimS _ _),e]
   rw [trimS_nil] at h1
   have h2:s.data.toList.all (qQ.contains ·)=s.data.toList.all qf:=by congr 1;funext c;exact KO c
   rw [h2] at h1
   rcases HH.o with h | h
   ·exact ho h
   ·rw [h] at h1;cases h1
  have CT:=qI (libTrim s ⟨#[48,49,50,51,52,53,54,55,56,57,97,98,99,100,101,102]⟩ W1 Ws Wo Qc)
  rw [show (⟨#[48,49,50,51,52,53,54,55,56,57,97,98,99,100,101,102]⟩:ByteArray).data.toList=qQ from rfl] at CT
  obtain⟨g1,g2⟩:=str_some hne
  clear ho hne
  revert CT g1 g2
  generalize yc (Lib.trimS s.data.toList qQ)=T
  intro CT g1 g2
  go_enter func96,ntmps96
  go_wp2_with fail
  rw [← Gd.o]
  refine CT.o.mono ?_
  rintro e w2 ⟨rfl,hk2⟩
  go_wp2_with fail
  go_ret2
  exact⟨rfl,Gi.o.then hk2⟩
theorem unhex_yes (s:ByteArray) (hs:s.size≤140737488355328) (he:s.size%2=0) (ha:s.data.toList.all qf=true) (w:World) :
  Calls Tryz.prog 96 #[.string s] w fun e w'=>(∃ a c,e = .returned (.tuple #[.slice a (xw s.data.toList).length c,.int .i64 0])∧w'.ownsRow w.heap.size 5 1 (.slice a (xw s.data.toList).length c) (xw s.data.toList).length ((xw s.data.toList).map bv))∧zb [] w w':=by
 obtain⟨W1,Gd⟩:∃ W1,Hid (W1=w.alloc (.cells #[.string s] 9)):=⟨_,qI rfl⟩
 have Gi:Hid (zb [] w W1):=qI (kA1 Gd.o)
 have Gq:Hid (W1.heap.size=w.heap.size+1):=qI (by rw [Gd.o];simp)
 have Gj:Hid (W1.heap[w.heap.size]? = some (.cells #[.string s] 9 (0,0))):=qI (by rw [Gd.o];exact zd rfl)
 have c0:=za (o:=0) (v:=.string s) Gj.o rfl
 have HL:Hid (s.data.toList.length=s.size):=qI Wz
 have HA:Hid (∀ i (h:i<s.data.toList.length),qf s.data.toList[i]=true):=qI (fun i h=>List.all_eq_true.1 ha _ (List.getElem_mem h))
 have hsI:(s.size:Int)≤140737488355328:=Ws
 have ft:((s.size:Int).tmod 2)=0:=by rw [Int.tmod_eq_emod_of_nonneg Ws];omega
 have hnil:Lib.trimS s.data.toList qQ=[]:=by
  rw [trimS_nil,← ha]
  congr 1
  funext c
  exact KO c
 have CT:=qI (libTrim s ⟨#[48,49,50,51,52,53,54,55,56,57,97,98,99,100,101,102]⟩ W1 Ws Wo Qc)
 rw [show (⟨#[48,49,50,51,52,53,54,55,56,57,97,98,99,100,101,102]⟩:ByteArray).data.toList=qQ from rfl,hnil,show yc []=⟨#[]⟩ from rfl] at CT
 have HP:=qI (jX s.data.toList)
 have Gr:=qI (Zk s.data.toList)
 have HE:=qI he
 clear hnil ha he
 go_enter func96,ntmps96
 go_wp2_with fail
 rw [← Gd.o]
 refine CT.o.mono ?_
 rintro e w2 ⟨rfl,hk2⟩
 have Gf:=qI hk2
 clear hk2 c0
 go_wp2_with fail
 go_loopw [5,6] (fun out i wr=>∃ (k:Nat) (a:Option Addr) (c:Nat),i = .int .i64 (2*k:Nat)∧2*k≤s.size∧out = .slice a k c∧wr.ownsRow W1.heap.size 5 1 (.slice a k c) k (((xw s.data.toList).take k).map bv)∧zb [] W1 wr) (fun _ i _=>s.size-(intOf i).toNat)
 case atStart=>exact⟨0,none,0,rfl,Nat.zero_le _,rfl,World.ownsRow_nil _ _ _ _,Gf.o⟩
 case round=>
  obtain⟨k,a,c,rfl,hk,rfl,hrow,hkr⟩:=hrel
  have Gg:=qI hrow
  have Gk:=qI hkr
  clear hrow hkr
  have hb:=Gk.o.heap Gj.o Wz
  have HB:=qI hb
  have c0:=za (o:=0) (v:=.string s) hb rfl
  clear hb
  by_cases hlt:2*k<s.size
  ·have h2:2*k+1<s.size:=by have:=HE.o;omega
   have hl1:2*k<s.data.toList.length:=by rw [HL.o];omega
   have hl2:2*k+1<s.data.toList.length:=by rw [HL.o];omega
   obtain⟨i1,i2,i3⟩:=YX _ (HA.o _ hl1)
   obtain⟨j1,j2,j3⟩:=YX _ (HA.o _ hl2)
   obtain⟨p1,p2⟩:=Gr.o k hl2
   have CA:=qI (QS HB.o hlt)
   have CB:=qI (QS HB.o h2)
   rw [i1] at CA
   rw [j1] at CB
   have HN:Hid ((xw s.data.toList).take (k+1)=(xw s.data.toList).take k++[UInt8.ofNat (hv s.data.toList[2*k]*16+hv s.data.toList[2*k+1])]):=qI (by rw [List.take_succ_eq_append_getElem p1,p2])
   have hltI:(2:Int)*k<s.size:=Ws
   have Gs:Hid (2*k+1<s.size):=qI h2
   clear i1 i3 j1 j3 p1 p2
   revert CA CB HN i2 j2
   generalize hv s.data.toList[2*k]=x
   generalize hv s.data.toList[2*k+1]=y
   intro i2 j2 CA CB HN
   clear hl1 hl2
   have i2I:(x:Int)<16:=Ws
   have j2I:(y:Int)<16:=Ws
   have ek:((2*k:Nat):Int)=2*(k:Int):=Ws
   go_wp2_with fail
   rw [← ek]
   refine CA.o.mono ?_
   rintro e w3 ⟨rfl,rfl⟩
   have ek1:((2*k+1:Nat):Int)=2*(k:Int)+1:=Ws
   go_wp2_with fail
   rw [← ek1]
   refine CB.o.mono ?_
   rintro e w4 ⟨rfl,rfl⟩
   go_wp2_with (at_builtin;refine zk YK (v:=.slice a k c) (n:=k) (zo Gg.o ((zb.refl [] wr).alloc _) Wz) (jK wr _ _ _ rfl) (by simp [Value.oneCell']) (by simp only [maxLen];omega) Ws (by have:=Gk.o.size;simp;omega) rfl _ _ rfl rfl rfl ?_;intro v2 w5 hown hk5 _ hb5;obtain⟨a5,c5,rfl,-,-⟩:=(Slc.of_row hown).form;have Ga:=qI hown;have Gt:=qI hk5;clear hown hk5 hb5)
   case roundEnd=>
    refine⟨⟨k+1,_,_,congrArg (Value.int .i64) Ws,by have:=Gs.o;omega,rfl,?_,(Gk.o.alloc _).trans Gt.o (fun i hi=>.inr (Gg.o.lt i (Option.mem_toList.1 hi)).1)⟩,by simp [intOf];omega⟩
    have h9:=Ga.o
    rw [hex_join x y Ws Ws] at h9
    rw [HN.o,List.map_append]
    exact h9
  ·have HT:Hid ((xw s.data.toList).take k=xw s.data.toList∧k=(xw s.data.toList).length):=qI (by
    have h1:=HP.o
    have h2:=HL.o
    have h3:=HE.o
    exact⟨List.take_of_length_le Ws,Ws⟩)
   have hltI:(s.size:Int)≤2*k:=Ws
   have ek:((2*k:Nat):Int)=2*(k:Int):=Ws
   go_wp2_with fail
   go_ret2
   have h9:=Gg.o
   rw [HT.o.1,HT.o.2] at h9
   refine⟨⟨a,c,congrArg (fun m:Nat=>Ending.returned (Value.tuple #[.slice a m c,.int .i64 0])) HT.o.2,qD h9 (fun g hg=>by have:=(h9.lt g hg).1;have:=Gq.o;omega)⟩,Gi.o.then Gk.o⟩
theorem one_digit (k:Nat) (hk:k<10):(⟨#[48,49,50,51,52,53,54,55,56,57]⟩:ByteArray).extract k (k+1)=⟨#[UInt8.ofNat (48+k)]⟩:=by
 have:k=0∨k=1∨k=2∨k=3∨k=4∨k=5∨k=6∨k=7∨k=8∨k=9:=Ws
 rcases this with rfl | rfl | rfl | rfl | rfl | rfl | rfl | rfl | rfl | rfl <;> rfl
theorem YJ (u:Nat) (h:u≤9223372036854775808):(Lib.decDigits u).length≤21:=by
 by_cases h0:u=0
 ·subst h0
  rw [Lib.decDigits]
  simp
 ·have:=Lib.itoa_length_le (-(u:Int)) Ws Ws
  rw [Lib.itoa_neg u Ws] at this
  simp at this
  omega
theorem below_any (u:Nat):u≤9223372036854775808→∀ w:World,Calls Tryz.prog 122 #[.int .i64 (-(u:Int))] w fun e w'=>e = .returned (.string ⟨(Lib.decDigits u).toArray⟩)∧w=w':=by
 induction u using Nat.strongRecOn with
 | ind u ih=>
  intro hu w
  have hq:(-(u:Int)).tdiv 10 = -((u/10:Nat):Int):=by rw [Int.neg_tdiv];rfl
  have hr:(-(u:Int)).tmod 10 = -((u%10:Nat):Int):=by rw [Int.neg_tmod];rfl
  have hs:=qI (one_digit (u%10) (Nat.mod_lt _ Wo))
  have hl:=YJ u hu
  have hm:u%10<10:=Nat.mod_lt _ Wo
  by_cases h10:10≤u
  ·have hi:=qI (ih (u/10) Ws Ws)
   have hl2:=YJ (u/10) Ws
   have hd:Hid ((⟨(Lib.decDigits u).toArray⟩:ByteArray)=⟨(Lib.decDigits (u/10)).toArray⟩++⟨#[UInt8.ofNat (48+u%10)]⟩):=qI (by
    rw [Lib.decDigits,dif_neg Ws]
    apply ByteArray.ext
    simp)
   have hsz:¬ 9223372036854775807<(⟨(Lib.decDigits (u/10)).toArray⟩:ByteArray).size+1:=by simp [ByteArray.size];omega
   revert hd hi hsz
   generalize (⟨(Lib.decDigits (u/10)).toArray⟩:ByteArray)=t
   intro hi hd hsz
   clear ih hl hl2
   go_enter func122,ntmps122
   go_wp2_with (go_at_call 122;refine (hi.o _).mono ?_;rintro e w' ⟨rfl,rfl⟩)
   go_ret
   exact⟨by rw [hd.o,← hs.o];rfl,rfl⟩
  ·have hd:Hid ((⟨(Lib.decDigits u).toArray⟩:ByteArray)=⟨#[UInt8.ofNat (48+u%10)]⟩):=qI (by
    rw [Lib.decDigits,dif_pos Ws,Nat.mod_eq_of_lt Ws])
   have hn:¬ (-(u:Int))≤-10:=Ws
   clear ih hl
   go_enter func122,ntmps122
   go_wp2_with fail
   go_ret
   exact⟨by rw [hd.o,← hs.o];exact congrArg (fun b=>Ending.returned (Value.string b)) (by apply ByteArray.ext;simp),rfl⟩
theorem refDigits_any (n:Int) (h0:-9223372036854775808≤n) (h1:n≤9223372036854775807) (w:World):Calls Tryz.prog 89 #[.int .i64 n] w fun e w'=>e = .returned (.string ⟨(Lib.itoa n).toArray⟩)∧w=w':=by
 by_cases hn:n<0
 ·obtain⟨u,rfl⟩:∃ u:Nat,n = -(u:Int):=⟨n.natAbs,Ws⟩
  have hb:=qI (below_any u Ws w)
  have hd:Hid ((⟨(Lib.itoa (-(u:Int))).toArray⟩:ByteArray)=⟨#[45]⟩++⟨(Lib.decDigits u).toArray⟩):=qI (by
   rw [Lib.itoa_neg u Ws]
   apply ByteArray.ext
   simp)
  have hl:=YJ u Ws
  have hsz:¬ 9223372036854775807<1+(⟨(Lib.decDigits u).toArray⟩:ByteArray).size:=by simp [ByteArray.size];omega
  rw [hd.o]
  clear hl
  revert hb hsz
  generalize (⟨(Lib.decDigits u).toArray⟩:ByteArray)=t
  intro hb hsz
  clear hd
  go_enter func89,ntmps89
  go_wp2_with (go_at_call 122;refine hb.o.mono ?_;rintro e w' ⟨rfl,rfl⟩)
  go_ret
  exact⟨rfl,rfl⟩
 ·obtain⟨u,rfl⟩:=Int.eq_ofNat_of_zero_le (show 0≤n by omega)
  have hb:=qI (below_any u Ws w)
  rw [Lib.itoa_nonneg]
  generalize (⟨(Lib.decDigits u).toArray⟩:ByteArray)=t at hb ⊢
  have hw:IntKind.i64.wrap (-(u:Int)) = -(u:Int):=by rw [IntKind.wrap_i64];omega
  go_enter func89,ntmps89
  go_wp2_with (go_at_call 122;refine hb.o.mono ?_;rintro e w' ⟨rfl,rfl⟩)
  go_ret
  exact⟨rfl,rfl⟩
theorem refDigits_str (n:Int) (h0:-9223372036854775808≤n) (h1:n≤9223372036854775807) (w:World):Calls Tryz.prog 89 #[.int .i64 n] w fun e w'=>e = .returned (.string (yc (Lib.itoa n)))∧w=w':=refDigits_any n h0 h1 w
theorem one_hex (k:Nat) (hk:k<16):(⟨#[48,49,50,51,52,53,54,55,56,57,97,98,99,100,101,102]⟩:ByteArray).extract k (k+1)=⟨#[qy k]⟩:=by
 have:k=0∨k=1∨k=2∨k=3∨k=4∨k=5∨k=6∨k=7∨k=8∨k=9∨k=10∨k=11∨k=12∨k=13∨k=14∨k=15:=Ws
 rcases this with rfl | rfl | rfl | rfl | rfl | rfl | rfl | rfl | rfl | rfl | rfl | rfl | rfl | rfl | rfl | rfl <;> rfl
theorem refHex_any (z:Int) (h0:0≤z) (h1:z<16) (w:World):Calls Tryz.prog 123 #[.int .i64 z] w fun e w'=>e = .returned (.string ⟨#[qy z.toNat]⟩)∧w=w':=by
 obtain⟨k,rfl⟩:=Int.eq_ofNat_of_zero_le h0
 have hk:k<16:=Ws
 have hs:=qI (one_hex k hk)
 have hT:Hid ((k:Int).toNat=k):=qI Wz
 clear h0 h1
 go_enter func123,ntmps123
 go_wp2_with fail
 go_ret
 rw [hT.o,← hs.o]
 exact⟨rfl,rfl⟩
theorem quote_at (s:ByteArray) (k:Nat) (h:k<s.size):34::(s.data.toList.take (k+1)).flatMap yd=(34::(s.data.toList.take k).flatMap yd)++yd (s[k]'h):=by
 rw [List.take_succ_eq_append_getElem (by simpa using h),List.flatMap_append,List.cons_append]
 simp only [List.flatMap_cons,List.flatMap_nil,List.append_nil]
 rfl
theorem Qm (s:ByteArray) (hs:s.size≤1000000) (w:World) :
  CL w 90 #[.string s] (.string (yc (yG s.data.toList))):=by
 have HL:Hid (s.data.toList.length=s.size):=qI Wz
 have Gu:Hid ((w.alloc (.cells #[.int .u8 34] 5)).ownsRow w.heap.size 5 1 (.slice (some ⟨w.heap.size,0,none⟩) 1 1) 1 [.int .u8 34]):=qI (World.ownsRow_lit w #[.int .u8 34] 1 (Nat.le_refl _) Wo rfl)
 have Gv:Hid (zb [] w (w.alloc (.cells #[.int .u8 34] 5))):=qI ((zb.refl [] w).alloc _)
 go_enter func90,ntmps90
 go_wp2_with fail
 go_loopw [3,4] (fun o i wr=>∃ (k:Nat) (a:Option Addr) (c:Nat) (L:List UInt8),i = .int .i64 k∧k≤s.size∧L=34::(s.data.toList.take k).flatMap yd∧o = .slice a L.length c∧wr.ownsRow w.heap.size 5 1 (.slice a L.length c) L.length (L.map bv)∧zb [] w wr) (fun _ i _=>s.size-(intOf i).toNat)
 case atStart=>exact⟨0,_,_,[34],rfl,Nat.zero_le _,rfl,rfl,Gu.o,Gv.o⟩
 case round=>
  obtain⟨k,a,c,L,rfl,hk,hL,rfl,hr,hkw⟩:=hrel
  have HR:=qI hr
  have Ge:=qI hkw
  have hq:L.length≤6000001:=by
   have:=JO s.data.toList k
   rw [HL.o] at this
   rw [hL,List.length_cons]
   omega
  have Gp:=qI hL
  have Gl:=qI hr.lt
  clear hr hkw hL
  by_cases hlt:k<s.size
  ·have hltI:(k:Int)<s.size:=by omega
   have Gh:Hid (34::(s.data.toList.take (k+1)).flatMap yd=L++yd (s[k]'hlt)):=qI (by rw [Gp.o];exact quote_at s k hlt)
   have hx:((s[k]'hlt).toNat:Int)≤255:=by have:=(s[k]'hlt).toNat_lt;omega
   revert hx Gh
   generalize hsk:s[k]'hlt=x
   intro Gh hx
   by_cases h32:x.toNat<32
   ·obtain⟨z,hz⟩:∃ z:Int,z=(x.toNat:Int):=⟨_,rfl⟩
    have hz0:0≤z:=Ws
    have hz1:z<32:=Ws
    have hne:(z == 34)=false∧(z == 92)=false:=⟨(yF Ws).1,(yF Ws).1⟩
    obtain⟨g1,g2⟩:=hne
    have hsk2:((s[k]'hlt).toNat:Int)=z:=by rw [hsk];exact hz.symm
    have HQ:Hid (yd x=[92,117,48,48,qy (z/16).toNat,qy (z%16).toNat]):=qI (by
     unfold yd
     rw [if_pos h32,hz]
     have e1:((x.toNat:Int)/16).toNat=x.toNat/16:=Ws
     have e2:((x.toNat:Int)%16).toNat=x.toNat%16:=Ws
     rw [e1,e2])
    have hq0:0≤z/16:=Ws
    have hq1:z/16<16:=Ws
    have hr0:0≤z%16:=Ws
    have hr1:z%16<16:=Ws
    obtain⟨i0,hi,hz0',hz1',hz2'⟩:=info_parts YK.info
    have HI:=qI hi
    have HZ:=qI (And.intro hz0' (And.intro hz1' hz2'))
    clear hi hz0' hz1' hz2' hz hsk hx h32
    have Gm:Hid (((⟨#[92,117,48,48]⟩:ByteArray)++⟨#[qy (z/16).toNat]⟩++⟨#[qy (z%16).toNat]⟩).size=6∧((⟨#[92,117,48,48]⟩:ByteArray)++⟨#[qy (z/16).toNat]⟩++⟨#[qy (z%16).toNat]⟩).data.toList=yd x):=qI ⟨by simp [ByteArray.size_append];rfl,by rw [HQ.o];simp⟩
    go_wp2_with (first
     | (go_at_call 123;refine (refHex_any _ Ws Ws _).mono ?_;rintro e w' ⟨rfl,rfl⟩)
     | (at_builtin;refine Lib.wpList_append_own_string _ rfl _ _ 53 9 rfl w.heap.size 5 i0 underlying53 underlying9 HI.o HZ.o.1 HZ.o.2.1 HZ.o.2.2 (.slice a L.length c) L.length (L.map bv) rfl HR.o ((⟨#[92,117,48,48]⟩:ByteArray)++⟨#[qy (z/16).toNat]⟩++⟨#[qy (z%16).toNat]⟩) rfl (by rw [Gm.o.1];simp only [maxLen];omega) (by rw [Gm.o.1];omega) Ge.o.size ?_;intro v2 w2 hown2 hg2 _;have Gb:=qI hown2;have Gw:=qI hg2;clear hown2 hg2))
    case roundEnd=>
     have h9:=Gb.o
     rw [show Lib.strCells ((⟨#[92,117,48,48]⟩:ByteArray)++⟨#[qy (z/16).toNat]⟩++⟨#[qy (z%16).toNat]⟩)=(((⟨#[92,117,48,48]⟩:ByteArray)++⟨#[qy (z/16).toNat]⟩++⟨#[qy (z%16).toNat]⟩).data.toList).map bv from rfl,Gm.o.2,Gm.o.1] at h9
     obtain⟨a',c',rfl,-,-⟩:=(Slc.of_row h9).form
     have hl6:(L++yd x).length=L.length+6:=by rw [HQ.o];simp
     refine⟨⟨k+1,a',c',L++yd x,by go_num,Ws,Gh.o.symm,by rw [hl6],by rw [hl6,List.map_append];exact h9,?_⟩,by simp [intOf];omega⟩
     exact Ge.o.grown Gw.o (fun g hg=>.inr (Gl.o g hg).1)
   ·have h32I:¬ (x.toNat:Int)<32:=by omega
    by_cases hc:x=34∨x=92
    ·have HQ:Hid (yd x=[92,x]):=qI (by unfold yd;rw [if_neg h32,if_pos hc])
     have hg:((x.toNat:Int) == 34)=true∨(((x.toNat:Int) == 34)=false∧((x.toNat:Int) == 92)=true):=by
      rcases hc with rfl | rfl
      ·exact .inl rfl
      ·exact .inr ⟨rfl,rfl⟩
     have Gc:=qI (zT wr [.int .u8 92,bv x] 1 2 5 wr.heap.size rfl rfl Wo)
     have Ga:=qI (zo HR.o ((zb.refl [] wr).alloc (.cells #[.int .u8 92,bv x] 5)) Wz)
     have Gn:Hid (∀ (v':Value) (w':World),w'.ownsRow w.heap.size 5 1 v' (L.length+2) (L.map bv++[.int .u8 92,bv x])→∃ a' c',v' = .slice a' (L++yd x).length c'∧w'.ownsRow w.heap.size 5 1 (.slice a' (L++yd x).length c') (L++yd x).length ((L++yd x).map bv)):=qI (by
      intro v' w' h
      obtain⟨a',c',rfl,-,-⟩:=(Slc.of_row h).form
      rw [HQ.o]
      exact⟨a',c',Wz,by simpa [bv] using h⟩)
     clear hc h32
     unfold bv at Gc Ga
     rcases hg with g1 | ⟨g1,g2⟩
     all_goals
      go_wp2_with (at_builtin;refine zk YK Ga.o Gc.o (by intro u hu;simp at hu;rcases hu with rfl | rfl <;> rfl) (by simp only [maxLen];omega) Ws (by have:=Ge.o.size;simp;omega) rfl _ _ rfl rfl rfl ?_;intro v' w' hown hk2 _ hbk;have Gb:=qI hown;have Gf:=qI hk2;clear hown hk2 hbk)
      case roundEnd=>
       obtain⟨a',c',rfl,h9⟩:=Gn.o _ _ Gb.o
       refine⟨⟨k+1,a',c',_,by go_num,Ws,Gh.o.symm,rfl,h9,?_⟩,by simp [intOf];omega⟩
       exact ((Ge.o.alloc _).trans Gf.o (fun i hi=>.inr (Gl.o i (Option.mem_toList.1 hi)).1))
    ·have HQ:Hid (yd x=[x]):=qI (by unfold yd;rw [if_neg h32,if_neg hc])
     have hg1:((x.toNat:Int) == 34)=false:=(yF (fun e=>hc (.inl (UInt8.toNat_inj.1 (show x.toNat=34 by omega))))).1
     have hg2:((x.toNat:Int) == 92)=false:=(yF (fun e=>hc (.inr (UInt8.toNat_inj.1 (show x.toNat=92 by omega))))).1
     have Gc:=qI (zT wr [bv x] 1 1 5 wr.heap.size rfl rfl Wo)
     have Ga:=qI (zo HR.o ((zb.refl [] wr).alloc (.cells #[bv x] 5)) Wz)
     have Gn:Hid (∀ (v':Value) (w':World),w'.ownsRow w.heap.size 5 1 v' (L.length+1) (L.map bv++[bv x])→∃ a' c',v' = .slice a' (L++yd x).length c'∧w'.ownsRow w.heap.size 5 1 (.slice a' (L++yd x).length c') (L++yd x).length ((L++yd x).map bv)):=qI (by
      intro v' w' h
      obtain⟨a',c',rfl,-,-⟩:=(Slc.of_row h).form
      rw [HQ.o]
      exact⟨a',c',Wz,by simpa [bv] using h⟩)
     clear hc h32
     unfold bv at Gc Ga
     go_wp2_with (at_builtin;refine zk YK Ga.o Gc.o (by intro u hu;simp at hu;rcases hu with rfl | rfl <;> rfl) (by simp only [maxLen];omega) Ws (by have:=Ge.o.size;simp;omega) rfl _ _ rfl rfl rfl ?_;intro v' w' hown hk2 _ hbk;have Gb:=qI hown;have Gf:=qI hk2;clear hown hk2 hbk)
     case roundEnd=>
      obtain⟨a',c',rfl,h9⟩:=Gn.o _ _ Gb.o
      refine⟨⟨k+1,a',c',_,by go_num,Ws,Gh.o.symm,rfl,h9,?_⟩,by simp [intOf];omega⟩
      exact ((Ge.o.alloc _).trans Gf.o (fun i hi=>.inr (Gl.o i (Option.mem_toList.1 hi)).1))
  ·obtain rfl:k=s.size:=by omega
   have HE:Hid (L++[34]=yG s.data.toList):=qI (by rw [Gp.o,List.take_of_length_le (by rw [HL.o];exact Nat.le_refl _)];rfl)
   have Gc:=qI (zT wr [.int .u8 34] 1 1 5 wr.heap.size rfl rfl Wo)
   have Ga:=qI (zo HR.o ((zb.refl [] wr).alloc (.cells #[.int .u8 34] 5)) Wz)
   have Gx:Hid (∀ (v':Value) (w':World),w'.ownsRow w.heap.size 5 1 v' (L.length+1) (L.map bv++[.int .u8 34])→(convert 53 9 v').run Tryz.prog w' = .ok (.string (yc (yG s.data.toList))) w'):=qI (by
    intro v' w' h
    rw [← HE.o]
    refine zp.toStr ?_
    have h2:=Slc.of_row h
    unfold zp
    simpa [bv] using h2)
   go_wp2_with (at_builtin;refine zk YK Ga.o Gc.o (by intro u hu;simp at hu;subst hu;rfl) (by simp only [maxLen];omega) Ws (by have:=Ge.o.size;simp;omega) rfl _ _ rfl rfl rfl ?_;intro v' w' hown hk2 _ hbk;have Gf:=qI hk2;have hcv:=Gx.o _ _ hown;clear hown hk2 hbk)
   go_ret
   exact⟨rfl,(Ge.o.alloc _).trans Gf.o (fun i hi=>.inr (Gl.o i (Option.mem_toList.1 hi)).1)⟩
def jz : List (String × DataW Unit) := [("math/bits.deBruijn32tab", Rows.laid_math_bits_deBruijn32tab), ("math/bits.deBruijn64tab", Rows.laid_math_bits_deBruijn64tab), ("internal/strconv.uint64pow10", Rows.laid_internal_strconv_uint64pow10), ("unicode/utf8.acceptRanges", Rows.laid_unicode_utf8_acceptRanges), ("pursuivant/sha.constants", Rows.laid_pursuivant_sha_constants), ("unicode/utf8.first", Rows.laid_unicode_utf8_first)]
theorem gPow : Tryz.prog.globalNamed "internal/strconv.uint64pow10" = some 4 := by kernel_rfl
theorem gKs : Tryz.prog.globalNamed "pursuivant/sha.constants" = some 0 := by kernel_rfl
theorem first_eq:Rows.laid_unicode_utf8_first=Lib.firstData:=Pinned.utf8First_eq
theorem accept_eq:Rows.laid_unicode_utf8_acceptRanges=Lib.acceptData:=Wr
theorem pow_eq:(Rows.laid_internal_strconv_uint64pow10:DataW Unit)=Lib.tabData .u64 Lib.pow10Tab:=Wr
theorem ks_eq:(Rows.laid_pursuivant_sha_constants:DataW Unit)=Lib.tabData .u32 KS:=Wr
theorem tabs_of_laid {W:World}(hL:laidMetH Tryz.prog jz W):qC W:=by
 rw [MakeChecks.laidMetH_plain _ _ _ Wr] at hL
 have r1 : ("unicode/utf8.first", Lib.firstData) ∈ jz := by rw [← first_eq]; simp [jz]
 have r2 : ("unicode/utf8.acceptRanges", Lib.acceptData) ∈ jz := by rw [← accept_eq]; simp [jz]
 refine⟨utf8Tabs_of_readsT (U8Types.of260 { Tryz.shDecode with }) ⟨Wr,Wr,Wr,Wr,Wr,Wr,Wr⟩ (Lib.laidMet.reads hL r1) (Lib.laidMet.reads hL r2),?_⟩
 have h3:=hL.tail.tail
 rw [show (Rows.laid_internal_strconv_uint64pow10:DataW Unit)=Lib.tabData .u64 Lib.pow10Tab from pow_eq] at h3
 exact Lib.tabIs_of_head gPow Wr underlying272 underlying226 Wr Wr h3
theorem ksIs_of_laid {W : World} (hL : laidMetH Tryz.prog jz W) : Lib.TabIs Tryz.prog W "pursuivant/sha.constants" .u32 KS := by
 rw [MakeChecks.laidMetH_plain _ _ _ Wr] at hL
 have h3:=hL.tail.tail.tail.tail
 rw [show (Rows.laid_pursuivant_sha_constants:DataW Unit)=Lib.tabData .u32 KS from ks_eq] at h3
 exact Lib.tabIs_of_head gKs Wr underlying169 underlying134 Wr Wr h3
theorem ks_of_laid {W:World}(hL:laidMetH Tryz.prog jz W):xN W:=by
 have h:=ksIs_of_laid hL
 unfold Lib.TabIs World.var? at h
 rw [gKs] at h
 simp only [Option.bind_some] at h
 split at h
 ·rename_i cs t f hb
  have hc:=Option.some.inj h
  subst hc
  intro j v hv
  rw [Nat.zero_add]
  refine za hb ?_
  rw [List.getElem?_toArray]
  have e:yg KS 0=KS.map (fun z=>Value.int .u32 z):=by unfold yg;rw [List.replicate_zero,List.append_nil];rfl
  rw [e] at hv
  exact hv
 ·cases h
end Go.Proofs.YtibnfbglanpoiaaGreatDoor
