/- Parts of one proof, merged: XLib XJA XK3B XJB. -/
import Derived.Test.YtibnfbglanpoiaaGreatDoorQcA
import Derived.Outline
import Derived.WalkSpells
import Derived.Lib.AppendZeros
import Derived.Test.YtibnfbglanpoiaaGreatDoorQcC
import Derived.Test.YtibnfbglanpoiaaGreatDoorQcB
import Derived.Laws.BitsLemmas
import Derived.Test.YtibnfbglanpoiaaGreatDoorQcG
import Derived.Deep.DeepCutAuto
import Derived.Deep.CutBlock
import Derived.Deep.MidRow
set_option linter.all false
set_option maxHeartbeats 12800000
set_option maxRecDepth 10000
set_option linter.unusedVariables false
set_option linter.unusedSimpArgs false
set_option linter.unnecessarySimpa false
namespace Go.Proofs.YtibnfbglanpoiaaGreatDoor
open Go.Proofs.Tryz
open Go.RowKit
theorem ji:yR Tryz.prog 53 5 1 1 (.int .u8 0):=⟨underlying53,by kernel_rfl,rfl,by decide⟩
def xN (w w':World) (v:Value) (l:List UInt8):Prop:=zp w' v l∧∀ g,yq v=some g→w.heap.size≤g∧kind w' g=5 + 2
theorem qM {w w':World}{v:Value}{n:Nat}{l:List UInt8}(h:w'.ownsRow w.heap.size 5 1 v n (l.map bv)):xN w w' v l:=by
 have hn:l.length=n:=by have:=h.1;simpa using this
 subst hn
 exact⟨Slc.of_row h,fun g hg=>⟨(h.lt g (ye hg)).1,yd h (ye hg)⟩⟩
@[go_sem] theorem eqlNilBytes (w:World) (a:Option Addr) (n c:Nat):(binOp .eql 53 (.slice a n c) (.slice none 0 0)).run Tryz.prog w = .ok (.bool a.isNone) w:=Lib.run_eql_slice_nil w _ _ a n c 0 0 underlying53
theorem jx (v:Value) (l:List UInt8) (w:World) (h:zp w v l) (hl:l.length≤lim) :
  Calls Tryz.prog 36 #[v] w fun e w'=>∃ v',e = .returned v'∧xN w w' v' l∧zb [] w w':=by
 rcases h.2 with ⟨rfl,h0⟩ | h2
 ·have:l=[]:=List.eq_nil_of_length_eq_zero h0
  subst this
  go_enter func36,ntmps36
  go_wp2
  go_ret
  exact⟨_,rfl,⟨xn _ _,by simp [yq]⟩,zb.refl _ _⟩
 ·obtain⟨ad,cap,rfl⟩:∃ ad cap,v = .slice (some ad) l.length cap:=by
   rcases h2 with ⟨h0,a,c,rfl,_⟩ | ⟨g,o,c,rfl,_⟩
   ·exact⟨a,c,by rw [h0]⟩
   ·exact⟨_,_,rfl⟩
  have h1:=(zb.refl [] w).alloc (.cells #[] 5)
  have hown:=World.ownsRow_made (base:=w.heap.size) (size:=1) (e:=5) w #[] 0 (Nat.le_refl _) (by decide) rfl
  have hsrc:=h.kept0 h1
  go_enter func36,ntmps36
  go_wp2_with (at_builtin;refine zj ji hown hsrc (xu l) (by simp only [maxLen,lim] at *;omega) (by simp only [lim] at *;omega) (by simp) rfl _ _ rfl rfl rfl ?_;intro v' w1 hown1 hk1 _ hb1)
  go_ret
  exact⟨_,rfl,qM (by simpa using hown1),h1.trans hk1 (by simp [Value.ownBlock])⟩
theorem grow_any (n:Nat) (w:World) (hn:n≤lim) :
  Calls Tryz.prog 190 #[.slice none 0 0,.int .i64 n] w fun e w'=>∃ v',e = .returned v'∧w'.ownsRow w.heap.size 5 1 v' 0 []∧zb [] w w':=by
 obtain⟨i,hi,hz,hs,hb⟩:=info_parts ji.info
 by_cases h0:0 < n
 ·have hrun:=Lib.run_append_nil_zeros w 53 3 53 5 i (.int .u8 0) .i64 .i64 underlying53 underlying3 hi hz n h0 (by omega) (by simp only [lim] at hn;omega) (by simp only [lim] at hn;rw [hb];omega)
  have hge:=grownCap_ge w n 0 5
  have hmx:=grownCap_le_maxLen w n 0 5 (by simp only [lim,maxLen] at *;omega)
  have hsz:(Builtin.zeroCells (Value.int IntKind.u8 0).cells n ++ Builtin.zeroCells (Value.int IntKind.u8 0).cells (grownCap w n 0 5 - n)).size=grownCap w n 0 5 * 1:=by
   simp only [Array.size_append,size_zeroCells];simp [Value.cells];omega
  revert hrun hge hmx hsz
  generalize grownCap w n 0 5=cap
  generalize (Builtin.zeroCells (Value.int IntKind.u8 0).cells n ++ Builtin.zeroCells (Value.int IntKind.u8 0).cells (cap - n))=cs
  intro hrun hge hmx hsz
  have hmx':=qI hmx
  have hsz':=qI hsz
  have hn2:(n:Int)≤140737488351232:=by simp only [lim] at hn;omega
  have hr':=qI hrun
  clear hmx hsz hn hi hz hs hb hrun
  go_enter func190,ntmps190
  go_wp2_with (at_builtin;refine Lib.wpList_append_run _ rfl _ _ _ _ rfl _ _ rfl rfl _ _ hr'.o ?_)
  go_ret
  refine⟨_,rfl,⟨rfl,.inr ⟨w.heap.size,cap,cs,rfl,Nat.le_refl _,heap_alloc_new w.drew _,Nat.zero_le _,hmx'.o,hsz'.o,by simp⟩⟩,((zb.refl _ w).drew).alloc _⟩
 ·obtain rfl:n=0:=by omega
  go_enter func190,ntmps190
  go_wp2
  go_ret
  exact⟨_,rfl,World.ownsRow_nil _ _ _ _,zb.refl _ _⟩
theorem Q0 (g o cap:Nat) (vals:List Value) (ls:List (List UInt8)) (w:World) (hrow:Row w g o vals) (hall:zI (zp w) vals ls) (hsum:ls.flatten.length≤lim) (hk:vals.length≤lim) :
  Calls Tryz.prog 152 #[.slice (some ⟨g,o,none⟩) vals.length cap] w fun e w'=>∃ v',e = .returned v'∧xN w w' v' ls.flatten∧zb [] w w':=by
 have hk':vals.length≤140737488351232:=by simpa only [lim] using hk
 have hle:∀ j,(ls.take j).flatten.length≤140737488351232:=fun j=>by have:=jg ls j;simp only [lim] at hsum;omega
 have hlen:=hall.1
 have Hle:=qI hle
 have Hlen:=qI hlen
 have Hsum:=qI hsum
 clear hk hle hlen hsum
 go_enter func152,ntmps152
 go_wp2_with fail
 go_loop [3,11] (fun s i=>∃ k:Nat,k≤vals.length∧i = .int .i64 k∧s = .int .i64 (ls.take k).flatten.length) (fun _ i=>vals.length - (intOf i).toNat)
 case atStart=>exact⟨0,Nat.zero_le _,rfl,by simp⟩
 case round=>
  obtain⟨k,hk,rfl,rfl⟩:=hrel
  by_cases hlt:k < vals.length
  ·have hlt2:k < ls.length:=by rw [← Hlen.o];exact hlt
   have hc:=hrow.at hlt
   have hb:=hall.2 k vals[k] ls[k] (by simp [hlt]) (by simp [hlt2])
   have hb':=qI hb
   obtain⟨a1,c1,hv,-,-⟩:=hb.form
   rw [hv] at hc
   have hs:=qI (xQ ls k hlt2)
   have l1:=Hle.o k
   have l2:=Hle.o (k + 1)
   have l3:(ls.take k).flatten.length + ls[k].length≤140737488351232:=by rw [hs.o,List.length_append] at l2;exact l2
   clear hb hv l2
   revert l1 l3 hs
   generalize hn1:(ls.take k).flatten.length=n1
   generalize hn2:ls[k].length=n2 at hc ⊢
   intro hs l1 l3
   have Hn1:=qI hn1
   have Hn2:=qI hn2
   clear hn1 hn2
   go_wp2_with fail
   go_round
   case rel=>
    refine⟨k + 1,by omega,by go_num,?_⟩
    rw [hs.o,List.length_append,Hn1.o,Hn2.o]
    go_num
   case measure=>simp [intOf];omega
  ·obtain rfl:k=vals.length:=by omega
   have e1:ls.take vals.length=ls:=by rw [Hlen.o];exact List.take_length
   rw [e1]
   have l0:=Hle.o vals.length
   rw [e1] at l0
   clear e1
   revert l0
   generalize hN:ls.flatten.length=N
   intro l0
   have HN:=qI hN
   clear hN
   have hNl:N≤lim:=by simp only [lim];exact l0
   have hg:=grow_any N w hNl
   have Hg:=qI hg
   clear hg hNl
   go_wp2_with (go_at_call 190;refine Hg.o.mono ?_;rintro e w1 ⟨v1,rfl,hown1,hk1⟩)
   clear Hg
   go_loopw [6,27] (fun v i wr=>∃ k:Nat,k≤vals.length∧i = .int .i64 k∧wr.ownsRow w.heap.size 5 1 v (ls.take k).flatten.length ((ls.take k).flatten.map bv)∧zb [] w wr) (fun _ i _=>vals.length - (intOf i).toNat)
   case atStart=>exact⟨0,Nat.zero_le _,rfl,by simpa using hown1,hk1⟩
   case round=>
    obtain⟨k,hk,rfl,hown,hkr⟩:=hrel
    by_cases hlt:k < vals.length
    ·have hlt2:k < ls.length:=by rw [← Hlen.o];exact hlt
     have hc:=(hrow.kept hkr (by simp)).at hlt
     have hb:=(hall.2 k vals[k] ls[k] (by simp [hlt]) (by simp [hlt2])).kept0 hkr
     have hs:=qI (xQ ls k hlt2)
     have l1:=Hle.o (k + 1)
     rw [hs.o,List.length_append] at l1
     have l2:=qI l1
     clear l1
     have hbase:=hkr.size
     have Hown:=qI hown
     clear hown
     go_wp2_with (at_builtin;refine zj ji Hown.o hb (xu _) (by have:=l2.o;simp only [maxLen];omega) (by have:=l2.o;omega) hbase rfl _ _ rfl rfl rfl ?_;intro v' w2 hown2 hk2 _ hb2)
     go_roundw
     case rel=>
      refine⟨k + 1,by omega,by go_num,?_,hkr.trans hk2 ?_⟩
      ·rw [hs.o,List.length_append,List.map_append];exact hown2
      ·intro i hi
       exact .inr ((World.ownsRow.lt Hown.o i (Option.mem_toList.1 hi)).1)
     case measure=>simp [intOf];omega
    ·obtain rfl:k=vals.length:=by omega
     have e1:ls.take vals.length=ls:=by rw [Hlen.o];exact List.take_length
     rw [e1] at hown
     have Hown:=qI hown
     clear hown e1
     go_wp2
     go_ret
     exact⟨_,rfl,qM Hown.o,hkr⟩
theorem concat2 (g cap:Nat) (v1 v2:Value) (l1 l2:List UInt8) (w:World) (hrow:Row w g 0 [v1,v2]) (h1:zp w v1 l1) (h2:zp w v2 l2) (hsum:l1.length + l2.length≤lim) :
  Calls Tryz.prog 152 #[.slice (some ⟨g,0,none⟩) 2 cap] w fun e w'=>∃ v',e = .returned v'∧xN w w' v' (l1 ++ l2)∧zb [] w w':=by
 have:=Q0 g 0 cap [v1,v2] [l1,l2] w hrow ((zI.nil _).cons h2 |>.cons h1) (by simpa using hsum) (by simp [lim])
 simpa using this
theorem concat3 (g cap:Nat) (v1 v2 v3:Value) (l1 l2 l3:List UInt8) (w:World) (hrow:Row w g 0 [v1,v2,v3]) (h1:zp w v1 l1) (h2:zp w v2 l2) (h3:zp w v3 l3) (hsum:l1.length + l2.length + l3.length≤lim) :
  Calls Tryz.prog 152 #[.slice (some ⟨g,0,none⟩) 3 cap] w fun e w'=>∃ v',e = .returned v'∧xN w w' v' (l1 ++ (l2 ++ l3))∧zb [] w w':=by
 have:=Q0 g 0 cap [v1,v2,v3] [l1,l2,l3] w hrow ((zI.nil _).cons h3 |>.cons h2 |>.cons h1) (by simp;omega) (by simp [lim])
 simpa using this
theorem ZY (w:World) (xs:List Value) (t:Nat):Row (w.alloc (.cells xs.toArray t)) w.heap.size 0 xs:=by
 refine⟨?_,by simp⟩
 intro j u hu
 rw [Nat.zero_add,cell_of_row _ w.heap.size j xs.toArray t (0,0) (heap_alloc_new w _)]
 simpa using hu
def yj (up down:Int) (x:Int):Int:=bits .or .u32 (x * up % 4294967296) (x / down)
def xP (k up down:Int):Prop:=(k=2∧up=1073741824∧down=4)∨(k=6∧up=67108864∧down=64)∨(k=7∧up=33554432∧down=128)∨(k=11∧up=2097152∧down=2048)∨(k=13∧up=524288∧down=8192)∨(k=17∧up=32768∧down=131072)∨(k=18∧up=16384∧down=262144)∨(k=19∧up=8192∧down=524288)∨(k=22∧up=1024∧down=4194304)∨(k=25∧up=128∧down=33554432)
theorem rotl_any (w:World) (x:Int) (k:Int) (up down:Int) (h:xP k up down) :
  Calls Tryz.prog 209 #[.int .u32 x,.int .i64 (-k)] w fun e w'=>e = .returned (.int .u32 (yj up down x))∧zb [] w w':=by
 unfold xP at h
 have hw2:bits BinOp.and IntKind.u64 (IntKind.u64.wrap (-2)) 31=30:=by kernel_rfl
 have hw6:bits BinOp.and IntKind.u64 (IntKind.u64.wrap (-6)) 31=26:=by kernel_rfl
 have hw7:bits BinOp.and IntKind.u64 (IntKind.u64.wrap (-7)) 31=25:=by kernel_rfl
 have hw11:bits BinOp.and IntKind.u64 (IntKind.u64.wrap (-11)) 31=21:=by kernel_rfl
 have hw13:bits BinOp.and IntKind.u64 (IntKind.u64.wrap (-13)) 31=19:=by kernel_rfl
 have hw17:bits BinOp.and IntKind.u64 (IntKind.u64.wrap (-17)) 31=15:=by kernel_rfl
 have hw18:bits BinOp.and IntKind.u64 (IntKind.u64.wrap (-18)) 31=14:=by kernel_rfl
 have hw19:bits BinOp.and IntKind.u64 (IntKind.u64.wrap (-19)) 31=13:=by kernel_rfl
 have hw22:bits BinOp.and IntKind.u64 (IntKind.u64.wrap (-22)) 31=10:=by kernel_rfl
 have hw25:bits BinOp.and IntKind.u64 (IntKind.u64.wrap (-25)) 31=7:=by kernel_rfl
 rcases h with ⟨rfl,rfl,rfl⟩ | ⟨rfl,rfl,rfl⟩ | ⟨rfl,rfl,rfl⟩ | ⟨rfl,rfl,rfl⟩ | ⟨rfl,rfl,rfl⟩ | ⟨rfl,rfl,rfl⟩ | ⟨rfl,rfl,rfl⟩ | ⟨rfl,rfl,rfl⟩ | ⟨rfl,rfl,rfl⟩ | ⟨rfl,rfl,rfl⟩
 all_goals
  go_enter func209,ntmps209
  go_wp2_with fail
  go_ret
  exact⟨by simp [yj],zb.refl _ _⟩
theorem q8 (w:World) (x:Int) (k:Int) (up down:Int) (h:xP k up down) :
  Calls Tryz.prog 192 #[.int .u32 x,.int .i64 k] w fun e w'=>e = .returned (.int .u32 (yj up down x))∧zb [] w w':=by
 have CR:=qI (rotl_any w x k up down h)
 unfold xP at h
 rcases h with ⟨rfl,rfl,rfl⟩ | ⟨rfl,rfl,rfl⟩ | ⟨rfl,rfl,rfl⟩ | ⟨rfl,rfl,rfl⟩ | ⟨rfl,rfl,rfl⟩ | ⟨rfl,rfl,rfl⟩ | ⟨rfl,rfl,rfl⟩ | ⟨rfl,rfl,rfl⟩ | ⟨rfl,rfl,rfl⟩ | ⟨rfl,rfl,rfl⟩
 all_goals
  go_enter func192,ntmps192
  go_wp2_with fail
  refine CR.o.mono ?_
  rintro e w' ⟨rfl,hk⟩
  go_wp2_with fail
  go_ret
  exact⟨rfl,hk⟩
theorem j8 (n:Nat) (h:n < 256):bv (UInt8.ofNat n) = .int .u8 n:=by
 unfold bv
 congr 1
 have:(UInt8.ofNat n).toNat=n:=by simp [UInt8.toNat_ofNat'];omega
 rw [this]
def kp (c:Int):List Value:=
 if c < 128 then [.int .u8 c] else if c < 2048 then [.int .u8 (192 + c / 64),.int .u8 (128 + c % 64)]
 else if c < 65536 then [.int .u8 (224 + c / 4096),.int .u8 (128 + c / 64 % 64),.int .u8 (128 + c % 64)]
 else [.int .u8 (240 + c / 262144),.int .u8 (128 + c / 4096 % 64),.int .u8 (128 + c / 64 % 64),.int .u8 (128 + c % 64)]
theorem refBytes_int (c:Int) (h0:0≤c) (h11:c≤1114111) (w:World) :
  Calls Tryz.prog 177 #[.int .i64 c] w fun e w'=>e = .returned (.slice (some ⟨w.heap.size,0,none⟩) (kp c).length (kp c).length)∧w'=w.alloc (.cells (kp c).toArray 5):=by
 by_cases h1:c < 128
 ·have HZ:Hid (kp c=[.int .u8 c]):=qI (by unfold kp;rw [if_pos h1])
  go_enter func177,ntmps177
  go_wp2_with fail
  go_ret
  rw [HZ.o]
  exact⟨rfl,rfl⟩
 by_cases h2:c < 2048
 ·have HZ:Hid (kp c=[.int .u8 (192 + c / 64),.int .u8 (128 + c % 64)]):=qI (by unfold kp;rw [if_neg h1,if_pos h2])
  go_enter func177,ntmps177
  go_wp2_with fail
  go_ret
  rw [HZ.o]
  exact⟨rfl,rfl⟩
 by_cases h3:c < 65536
 ·have HZ:Hid (kp c=[.int .u8 (224 + c / 4096),.int .u8 (128 + c / 64 % 64),.int .u8 (128 + c % 64)]):=qI (by unfold kp;rw [if_neg h1,if_neg h2,if_pos h3])
  go_enter func177,ntmps177
  go_wp2_with fail
  go_ret
  rw [HZ.o]
  exact⟨rfl,rfl⟩
 ·have HZ:Hid (kp c=[.int .u8 (240 + c / 262144),.int .u8 (128 + c / 4096 % 64),.int .u8 (128 + c / 64 % 64),.int .u8 (128 + c % 64)]):=qI (by unfold kp;rw [if_neg h1,if_neg h2,if_neg h3])
  go_enter func177,ntmps177
  go_wp2_with fail
  go_ret
  rw [HZ.o]
  exact⟨rfl,rfl⟩
theorem bytesZ_rune (m:Nat) (hm:m < 55296∨(57344≤m∧m≤1114111)):kp m=(xG m).map bv:=by
 rw [kH m hm]
 unfold kp
 by_cases h1:m < 128
 ·rw [if_pos h1,if_pos (by omega)]
  simp only [List.map_cons,List.map_nil]
  rw [j8 _ (by omega)]
 rw [if_neg h1,if_neg (by omega)]
 by_cases h2:m < 2048
 ·rw [if_pos h2,if_pos (by omega)]
  simp only [List.map_cons,List.map_nil]
  rw [j8 _ (by omega),j8 _ (by omega)]
  rfl
 rw [if_neg h2,if_neg (by omega)]
 by_cases h3:m < 65536
 ·rw [if_pos h3,if_pos (by omega)]
  simp only [List.map_cons,List.map_nil]
  rw [j8 _ (by omega),j8 _ (by omega),j8 _ (by omega)]
  rfl
 ·rw [if_neg h3,if_neg (by omega)]
  simp only [List.map_cons,List.map_nil]
  rw [j8 _ (by omega),j8 _ (by omega),j8 _ (by omega),j8 _ (by omega)]
  rfl
theorem refBytes_any (m:Nat) (hm:m < 55296∨(57344≤m∧m≤1114111)) (w:World) :
  Calls Tryz.prog 177 #[.int .i64 m] w fun e w'=>(∃ a c,e = .returned (.slice a (xG m).length c)∧zp w' (.slice a (xG m).length c) (xG m))∧zb [] w w':=
 (refBytes_int m (by omega) (by omega) w).mono fun e w' ⟨h1,h2⟩=>by
  have e1:=bytesZ_rune m hm
  have e2:(kp m).length=(xG m).length:=by rw [e1,List.length_map]
  rw [e2] at h1
  rw [e1] at h2
  subst h2
  refine⟨⟨_,_,h1,?_⟩,(zb.refl _ _).alloc _⟩
  have h4:(xG m).length≤4:=(Qm m hm).2.2.1
  exact zV w ((xG m).map bv) 1 (xG m).length 5 w.heap.size rfl (by simp) (by simp only [maxLen];omega)
theorem bj:yR Tryz.prog 53 5 1 1 (.int .u8 0):=⟨underlying53,by kernel_rfl,rfl,by decide⟩
theorem jz {X:List Nat}{w w':World}(h:zb X w w') (hX:∀ k,k ∈ X→w.heap.size≤k):zb [] w w':=
 ⟨h.os,h.tape,h.output,h.size,fun k hk _=>h.block k hk (fun hx=>by have:=hX k hx;omega)⟩
def wv (x:Int):Value:=.int .u32 x
def zO (l:List Int) (m:Nat):List Value:=l.map wv ++ List.replicate m (wv 0)
def accW (b:List UInt8):Int:=b.foldl (fun w c=>bits .or .u32 (w * 256 % 4294967296) (c.toNat:Int)) 0
def s0W (x:Int):Int:=bits .xor .u32 (bits .xor .u32 (yj 33554432 128 x) (yj 16384 262144 x)) (x / 8)
def s1W (x:Int):Int:=bits .xor .u32 (bits .xor .u32 (yj 32768 131072 x) (yj 8192 524288 x)) (x / 1024)
def nextW (l:List Int):Int:=(l.getD (l.length - 16) 0 + s0W (l.getD (l.length - 15) 0) + l.getD (l.length - 7) 0 + s1W (l.getD (l.length - 2) 0)) % 4294967296
def yp (b:List UInt8):Nat→List Int
 | 0=>[]
 | t + 1=>yp b t ++ [if t < 16 then accW ((b.drop (4 * t)).take 4) else nextW (yp b t)]
theorem zS (b:List UInt8):∀ t,(yp b t).length=t
 | 0=>rfl
 | t + 1=>by
  show (yp b t ++ [_]).length=_
  rw [List.length_append,zS b t];rfl
theorem zao (l:List Int) (m:Nat):(zO l m).length=l.length + m:=by simp [zO]
theorem ZS (l:List Int) (m:Nat):zO (l ++ [0]) m=zO l (m + 1):=by
 unfold zO
 rw [List.map_append,List.append_assoc]
 rfl
theorem Zk (l:List Int) (m j:Nat) (h:j < l.length):(zO l m)[j]? = some (wv (l.getD j 0)):=by
 unfold zO
 rw [List.getElem?_append_left (by simpa using h),List.getElem?_map,List.getElem?_eq_getElem h]
 simp [h]
theorem words_set (l:List Int) (m:Nat) (x y:Int):(zO (l ++ [x]) m).set l.length (wv y)=zO (l ++ [y]) m:=by
 unfold zO
 rw [List.map_append,List.map_append,List.append_assoc,List.append_assoc]
 rw [List.set_append_right _ _ (by simp)]
 simp [wv]
theorem Z3 (l:List Int) (m:Nat) (x y:Int):(zO (l ++ [x]) m).toArray.setIfInBounds l.length (wv y)=(zO (l ++ [y]) m).toArray:=by
 rw [List.setIfInBounds_toArray,words_set]
theorem zat (j m:Nat) (h:j < m):(zO [] m)[j]? = some (wv 0):=by
 unfold zO
 simp only [List.map_nil,List.nil_append]
 rw [List.getElem?_replicate,if_pos h]
theorem zak (l:List Int) (m:Nat):∀ v,v ∈ zO l m→v.oneCell'=true:=by
 intro v hv
 unfold zO at hv
 rcases List.mem_append.1 hv with h | h
 ·obtain⟨x,-,rfl⟩:=List.mem_map.1 h;rfl
 ·obtain⟨-,rfl⟩:=List.mem_replicate.1 h;rfl
def yE (w:World) (b:Nat) (l:List Int) (m:Nat):Prop:=w.heap[b]? = some (.cells (zO l m).toArray 169 (0,0))
theorem yE.cell {w:World}{b:Nat}{l:List Int}{m j:Nat}(h:yE w b l m) (hj:j < l.length):w.cell? ⟨b,j,none⟩=some (.int .u32 (l.getD j 0)):=
 za h (by have:=Zk l m j hj;simpa [wv] using this)
theorem yE.free {w:World}{b:Nat}{l:List Int}{m j:Nat}(h:yE w b l m):w.frozen? ⟨b,j,none⟩=false:=zh h
theorem yE.kept {X:List Nat}{w w':World}{b:Nat}{l:List Int}{m:Nat}(h:yE w b l m) (k:zb X w w') (hb:b ∉ X):yE w' b l m:=k.heap h hb
theorem yE.store {w:World}{b:Nat}{l:List Int}{m:Nat}{x:Int}(h:yE w b (l ++ [x]) m) (y:Int):yE (w.setCell ⟨b,l.length,none⟩ (.int .u32 y)) b (l ++ [y]) m:=
 ze h (Z3 l m x y)
theorem sched_any (w:World) (a:Option Addr) (c:Nat) (l:List UInt8) (hl:l.length=64) (hb:zp w (.slice a 64 c) l) :
  Calls Tryz.prog 191 #[.slice a 64 c] w fun e w'=>e = .returned (.agg (zO (yp l 64) 0).toArray)∧zb [] w w':=by
 obtain⟨W0,Gc⟩:∃ W0,Hid (W0=(w.alloc (.cells (zO [] 64).toArray 169)).alloc (.cells (zO [] 64).toArray 169)):=⟨_,qI rfl⟩
 have Gm:Hid (zb [] w W0):=qI (by rw [Gc.o];exact ((zb.refl [] w).alloc _).alloc _)
 have Gq:Hid (yE W0 w.heap.size [] 64):=qI (by rw [Gc.o];exact ((zb.refl [] _).alloc _).heap (zd rfl) (by simp))
 have Gr:Hid (yE W0 (w.heap.size + 1) [] 64):=qI (by rw [Gc.o];exact zd (by simp))
 have HB:=qI hb
 have Gn:=qI hl
 clear hb hl
 go_enter func191,ntmps191
 go_upto_region 2 with fail
 change Code.wp _ _ _ _ ((w.alloc (.cells (zO [] 64).toArray 169)).alloc (.cells (zO [] 64).toArray 169))
 rw [← Gc.o]
 go_wp2_with fail
 go_loopw [4,6,7,8,9,10,11] (fun _ _ _ _ _ _ i wr=>∃ t:Nat,i = .int .i64 t∧t≤64∧zb [w.heap.size + 1] W0 wr∧yE wr (w.heap.size + 1) (yp l t) (64 - t)) (fun _ _ _ _ _ _ i _=>64 - (intOf i).toNat)
 case atStart=>exact⟨0,rfl,by decide,zb.refl _ _,Gr.o⟩
 case round=>
  obtain⟨t,rfl,ht,hkw,hwd⟩:=hrel
  have Gd:=qI hkw
  have Gs:=qI hwd
  by_cases hlt:t < 64
  rotate_left
  ·obtain rfl:t=64:=by omega
   clear hlt ht hkw
   obtain⟨CS,hCS⟩:∃ CS,CS=zO (yp l 64) 0:=⟨_,rfl⟩
   have hlen:CS.length=64:=by rw [hCS,zao,zS]
   have hra:wr.rangeAt (w.heap.size + 1) 0 CS:=fun j v hv=>by
    rw [Nat.zero_add]
    exact za (hwd:_=some (Obj.cells (zO (yp l 64) 0).toArray _ _)) (by rw [← hCS];simpa using hv)
   have hre:yE wr w.heap.size [] 64:=Gq.o.kept Gd.o (by simp)
   have hth:wr.there w.heap.size 0 CS.toArray.size:=fun j hj=>by
    rw [Nat.zero_add]
    have hj':j < 64:=by simpa [hlen] using hj
    have h9:=zat j 64 hj'
    exact⟨by rw [za (hre:_=some (Obj.cells (zO [] 64).toArray _ _)) (by simpa using h9)];rfl,zh hre⟩
   have hone:CS.toArray.all (·.oneCell')=true:=Array.all_eq_true_iff_forall_mem.2 (fun v hv=>by rw [hCS] at hv;exact zak _ _ v (by simpa using hv))
   have Gt:=qI hCS
   have Jg:=qI hre
   have Gu:=qI hlen
   have hi:((Tryz.prog).info? 169).map (·.size)=some CS.length:=by rw [hlen];kernel_rfl
   have hi2:((Tryz.prog).info? 169).map (·.size)=some CS.toArray.size:=by rw [List.size_toArray,hlen];kernel_rfl
   go_upto_region 16 with fail
   refine wp_region_list ?_
   change wpList _ _ _ [_,_] _ _
   refine wpList_load_mid (by rfl) 169 (.tmp 3) (by rfl) (w.heap.size + 1) 0 (by rfl) CS _ hra underlying169 rfl hi ?_
   refine wpList_store_mid (by rfl) 169 (.tmp 2) (.tmp 78) (by rfl) w.heap.size 0 CS.toArray (by rfl) (by rfl) hth hi2 hone ?_
   have hraF:(wr.setCells w.heap.size 0 CS.toArray.toList).rangeAt w.heap.size 0 CS:=World.rangeAt_setCells_same _ _ _ _ (by simpa using hth)
   have hkF:=z7 w.heap.size CS.toArray.toList 0 wr
   revert hraF hkF
   generalize wr.setCells w.heap.size 0 CS.toArray.toList=WF
   intro hraF hkF
   have hres:=run_loadVar_mid (P:=Tryz.prog) WF w.heap.size 0 169 CS _ hraF underlying169 rfl hi
   have hkW:zb [] w WF:=jz (((Gm.o.mono (Y:=[w.heap.size,w.heap.size + 1]) (by simp)).trans' (Gd.o.mono (by simp))).trans' (hkF.mono (by simp))) (by simp)
   clear hCS hlen hra hre hth hone hwd hi hi2 hraF hkF
   try simp only [zA,zN,zB,zC,zD]
   go_wp2_with fail
   exact bodyPost_ret (v:=.agg CS.toArray) (by simp [results,results191,hres,Sem.run_bind,asAddr]) rfl ⟨by rw [Gt.o],hkW⟩
  have hltI:(t:Int) < 64:=by omega
  have Gv:Hid (zb [] w wr):=qI (jz ((Gm.o.mono (Y:=[w.heap.size + 1]) (by simp)).trans' hkw) (by simp))
  by_cases h16:t < 16
  ·have h16I:(t:Int) < 16:=by omega
   obtain⟨a2,c2,hs,hby,hvb⟩:=(show zp wr (.slice a 64 c) l from HB.o.kept0 Gv.o).mid bj (4 * t) (4 * t + 4) (by omega) (by rw [Gn.o];omega)
   have hsc:∀ W,(Instr.slice 53 (.slice a 64 c) (some (.int .i64 (4 * (t:Int)))) (some (.int .i64 (4 * (t:Int) + 4))) none).run Tryz.prog W = .ok (.slice a2 4 c2) W:=fun W=>by
    have h9:=hs W
    rw [show 4 * t + 4 - 4 * t=4 by omega] at h9
    push_cast at h9
    exact h9
   rw [show 4 * t + 4 - 4 * t=4 by omega] at hby
   obtain⟨blk,hblk⟩:∃ blk,blk=(l.drop (4 * t)).take 4:=⟨_,rfl⟩
   rw [← hblk] at hby
   have hbl:blk.length=4:=by rw [hblk,List.length_take,List.length_drop,Gn.o];omega
   obtain⟨g2,o2,rfl,hrow⟩:∃ g2 o2,a2=some ⟨g2,o2,none⟩∧Row wr g2 o2 (blk.map bv):=by
    rcases hby.2 with ⟨-,h0⟩ | ⟨h0,-⟩ | ⟨g,o,cap,e,-,-,hr⟩
    ·omega
    ·omega
    ·simp only [Value.slice.injEq] at e
     exact⟨g,o,e.1,hr⟩
   have Gi:=qI hrow
   have Gb:=qI hbl
   have Gj:=qI hblk
   have Gk:=qI h16
   have Ga:=qI hlt
   have Gw:Hid (g2≠w.heap.size + 1):=qI (by
    have h9:=Slc.lt HB.o (hvb g2 (by rw [show 4 * t + 4 - 4 * t=4 by omega];rfl))
    omega)
   clear hs hby hvb hblk hbl hrow hkw hwd h16 hlt
   go_wp2_with fail
   obtain⟨WR,rfl⟩:∃ x,x=wr:=⟨_,rfl⟩
   go_loopw [6,24] (fun _ j wq=>∃ k:Nat,j = .int .i64 k∧k≤4∧zb [w.heap.size + 1] WR wq∧yE wq (w.heap.size + 1) (yp l t ++ [accW (blk.take k)]) (63 - t)) (fun _ j _=>4 - (intOf j).toNat)
   case atStart=>exact⟨0,rfl,by decide,zb.refl _ _,by
    have h9:=Gs.o
    unfold yE at h9 ⊢
    rw [show 64 - t=(63 - t) + 1 by have:=Ga.o;omega,← ZS] at h9
    exact h9⟩
   case round=>
    obtain⟨k,rfl,hk,hk2,hw2⟩:=hrel
    have Ge:=qI hk2
    have Gp:=qI hw2
    by_cases hk4:k < 4
    rotate_left
    ·obtain rfl:k=4:=by omega
     clear hk hk2 hw2 hk4
     go_wp2_with fail
     case roundEnd=>exact⟨⟨t + 1,by go_num,by have:=Ga.o;omega,Gd.o.trans' Ge.o,by
      have h9:=Gp.o
      rw [List.take_of_length_le (by rw [Gb.o];exact Nat.le_refl _),Gj.o] at h9
      show yE _ _ (yp l t ++ [if t < 16 then _ else _]) _
      rw [if_pos Gk.o,show 64 - (t + 1)=63 - t by omega]
      exact h9⟩,by have:=Ga.o;simp [intOf];omega⟩
    have hk4I:(k:Int) < 4:=by omega
    have hq:=Gi.o.cells k (bv (blk[k]'(by rw [Gb.o];exact hk4))) (by rw [List.getElem?_map,List.getElem?_eq_getElem (by rw [Gb.o];exact hk4)];rfl)
    obtain⟨cc,hcc⟩:∃ cc,cc=blk[k]'(by rw [Gb.o];exact hk4):=⟨_,rfl⟩
    rw [← hcc] at hq
    have q0:wr.cell? ⟨g2,o2 + k,none⟩=some (.int .u8 (cc.toNat:Int)):=hk2.cell hq (by simpa using Gw.o)
    obtain⟨A,hA⟩:∃ A,A=accW (blk.take k):=⟨_,rfl⟩
    have hct:w.heap.size + 1=w.heap.size + 1:=rfl
    have q1:wr.cell? ⟨w.heap.size + 1,t,none⟩=some (.int .u32 A):=by
     have h9:=hw2.cell (j:=t) (by rw [List.length_append,zS];simp)
     rw [h9,hA]
     simp [List.getD_eq_getElem?_getD,zS]
    have z1:wr.frozen? ⟨w.heap.size + 1,t,none⟩=false:=hw2.free
    have hc0:(0:Int)≤cc.toNat:=by omega
    have hc1:(cc.toNat:Int) < 256:=by have:=cc.toNat_lt;omega
    have hc2:(cc.toNat:Int) % 4294967296=cc.toNat:=by have:=cc.toNat_lt;omega
    have Gl:Hid (accW (blk.take (k + 1))=bits .or .u32 (A * 256 % 4294967296) (cc.toNat:Int)):=qI (by
     rw [List.take_succ_eq_append_getElem (by rw [Gb.o];exact hk4),hA,hcc]
     unfold accW
     rw [List.foldl_append];rfl)
    have Gf:=qI hk4
    clear hk hk2 hw2 hk4 hq hct hA hcc
    go_wp2_with fail
    case roundEnd=>exact⟨⟨k + 1,by go_num,by have:=Gf.o;omega,Ge.o.trans' ((zb.refl [w.heap.size + 1] wr).setCell (.inl (by simp)) _),by
     have h9:=Gp.o.store (bits .or .u32 (A * 256 % 4294967296) (cc.toNat:Int))
     rw [zS] at h9
     rw [Gl.o]
     exact h9⟩,by have:=Gf.o;simp [intOf];omega⟩
  obtain⟨q,rfl⟩:∃ q,t=q + 16:=⟨t - 16,by omega⟩
  have Ga:=qI hlt
  obtain⟨A,hA⟩:∃ A,A=(yp l (q + 16)).getD (q + 1) 0:=⟨_,rfl⟩
  obtain⟨B,hB⟩:∃ B,B=(yp l (q + 16)).getD (q + 14) 0:=⟨_,rfl⟩
  obtain⟨C,hC⟩:∃ C,C=(yp l (q + 16)).getD q 0:=⟨_,rfl⟩
  obtain⟨D,hD⟩:∃ D,D=(yp l (q + 16)).getD (q + 9) 0:=⟨_,rfl⟩
  have Gx:Hid (yp l (q + 16 + 1)=yp l (q + 16) ++ [(C + s0W A + D + s1W B) % 4294967296]):=qI (by
   show yp l (q + 16) ++ [if q + 16 < 16 then _ else _]=_
   rw [if_neg (by omega)]
   unfold nextW
   rw [zS,hA,hB,hC,hD,show q + 16 - 16=q by omega,show q + 16 - 15=q + 1 by omega,show q + 16 - 7=q + 9 by omega,show q + 16 - 2=q + 14 by omega])
  have cA:wr.cell? ⟨w.heap.size + 1,q + 1,none⟩=some (.int .u32 A):=by rw [hA];exact hwd.cell (by rw [zS];omega)
  have cB:wr.cell? ⟨w.heap.size + 1,q + 14,none⟩=some (.int .u32 B):=by rw [hB];exact hwd.cell (by rw [zS];omega)
  have Gy:Hid (wr.cell? ⟨w.heap.size + 1,q,none⟩=some (.int .u32 C)):=qI (by rw [hC];exact hwd.cell (by rw [zS];omega))
  have Gz:Hid (wr.cell? ⟨w.heap.size + 1,q + 9,none⟩=some (.int .u32 D)):=qI (by rw [hD];exact hwd.cell (by rw [zS];omega))
  have Ja:Hid (yE wr (w.heap.size + 1) (yp l (q + 16) ++ [0]) (63 - (q + 16))):=qI (by
   have h9:=hwd
   unfold yE at h9 ⊢
   rw [show 64 - (q + 16)=(63 - (q + 16)) + 1 by omega,← ZS] at h9
   exact h9)
  have hqI:(q:Int) + 16 < 64:=by omega
  have hq0:(0:Int)≤q:=by omega
  have hq64:(q:Int) < 64:=by omega
  have hw0:IntKind.i64.wrap (q:Int)=q:=by rw [IntKind.wrap_i64];omega
  have hw7:IntKind.i64.wrap ((q:Int) + 16 - 7)=q + 9:=by rw [IntKind.wrap_i64];omega
  have hq9:(0:Int)≤q + 9:=by omega
  have hq94:(q:Int) + 9 < 64:=by omega
  have hqn:((q:Int) + 9).toNat=q + 9:=by omega
  have hq16:(0:Int)≤q + 16:=by omega
  have hqn16:((q:Int) + 16).toNat=q + 16:=by omega
  have h16I:¬ (q:Int) + 16 < 16:=by omega
  clear hA hB hC hD hwd hkw ht hlt h16 hltI
  go_wp2_with fail
  have EA:=zx cA
  have EB:=zx cB
  clear cA cB
  refine yo wr (by kernel_rfl) (by kernel_rfl) (zb.refl _ _) ?_
  repeat go_big_quiet_step (fail)
  refine wpQuiet_nil ?_
  intro w2 hk2
  have Ge:=qI hk2
  clear EA EB hk2
  go_wp2_with fail
  refine (q8 _ A 7 33554432 128 (by unfold xP;decide)).mono ?_
  rintro e w3 ⟨rfl,hk3⟩
  have Jb:=qI (Ge.o.then hk3)
  clear hk3
  go_wp2_with fail
  refine (q8 _ A 18 16384 262144 (by unfold xP;decide)).mono ?_
  rintro e w4 ⟨rfl,hk4⟩
  have Gf:=qI (Jb.o.then hk4)
  clear hk4
  go_wp2_with fail
  refine (q8 _ B 17 32768 131072 (by unfold xP;decide)).mono ?_
  rintro e w5 ⟨rfl,hk5⟩
  have Jc:=qI (Gf.o.then hk5)
  clear hk5
  go_wp2_with fail
  refine (q8 _ B 19 8192 524288 (by unfold xP;decide)).mono ?_
  rintro e w6 ⟨rfl,hk6⟩
  have Gg:=qI (Jc.o.then hk6)
  clear hk6
  go_upto_region 14 with fail
  have c16:=Gg.o.cell Gy.o (by simp)
  have c7:=Gg.o.cell Gz.o (by simp)
  have Jd:=qI (Ja.o.kept Gg.o (by simp))
  refine zr (n:=16) (fun w':World=>zb [] w6 w') 15 (by kernel_rfl) (by kernel_rfl) ?_
  change zM _ _ _ _ _ _ _ _ _ w6.drew
  have hSS:(fun w':World=>zb [] w6 w') w6.drew:=(zb.refl _ w6).drew
  have Gh:Hid (zb [] w6 w6.drew):=qI (zb.refl _ w6).drew
  revert hSS Gh
  generalize w6.drew=WD
  intro hSS Gh
  refine zG ?_
  intro O R hO hR
  have hQp:∀ c a (d:Nat) v w,R (.panic c) (a.put (some d) v) w→R (.panic c) a w:=by subst hR;exact fun _ _ _ _ _ h=>h
  refine qT 0 ?_ hO rfl rfl (by kernel_rfl) hQp (fun w hSw=>?_) hSS ?_
  rotate_left
  ·go_simp;try with_reducible rfl
  try simp only [zA,zN,zB,zC,zD]
  refine qT 1 ?_ hO rfl rfl (by kernel_rfl) hQp (fun w hSw=>?_) hSS ?_
  rotate_left
  ·go_simp;try with_reducible rfl
  try simp only [zA,zN,zB,zC,zD]
  refine qT 2 ?_ hO rfl rfl (by kernel_rfl) hQp (fun w hSw=>?_) hSS ?_
  rotate_left
  ·go_simp;try with_reducible rfl
  try simp only [zA,zN,zB,zC,zD]
  refine qT 3 ?_ hO rfl rfl (by kernel_rfl) hQp (fun w hSw=>?_) hSS ?_
  rotate_left
  ·go_simp;try with_reducible rfl
  try simp only [zA,zN,zB,zC,zD]
  refine qT 4 ?_ hO rfl rfl (by kernel_rfl) hQp (fun w hSw=>?_) hSS ?_
  rotate_left
  ·have s0:=hSw.cell c16 (by simp);go_simp;try with_reducible rfl
  try simp only [zA,zN,zB,zC,zD]
  refine qT 5 ?_ hO rfl rfl (by kernel_rfl) hQp (fun w hSw=>?_) hSS ?_
  rotate_left
  ·go_simp;try with_reducible rfl
  try simp only [zA,zN,zB,zC,zD]
  refine qT 6 ?_ hO rfl rfl (by kernel_rfl) hQp (fun w hSw=>?_) hSS ?_
  rotate_left
  ·go_simp;try with_reducible rfl
  try simp only [zA,zN,zB,zC,zD]
  refine qT 7 ?_ hO rfl rfl (by kernel_rfl) hQp (fun w hSw=>?_) hSS ?_
  rotate_left
  ·go_simp;try with_reducible rfl
  try simp only [zA,zN,zB,zC,zD]
  refine qT 8 ?_ hO rfl rfl (by kernel_rfl) hQp (fun w hSw=>?_) hSS ?_
  rotate_left
  ·go_simp;try with_reducible rfl
  try simp only [zA,zN,zB,zC,zD]
  refine qT 9 ?_ hO rfl rfl (by kernel_rfl) hQp (fun w hSw=>?_) hSS ?_
  rotate_left
  ·go_simp;try with_reducible rfl
  try simp only [zA,zN,zB,zC,zD]
  refine qT 10 ?_ hO rfl rfl (by kernel_rfl) hQp (fun w hSw=>?_) hSS ?_
  rotate_left
  ·have s0:=hSw.cell c7 (by simp);go_simp;try with_reducible rfl
  try simp only [zA,zN,zB,zC,zD]
  refine qT 11 ?_ hO rfl rfl (by kernel_rfl) hQp (fun w hSw=>?_) hSS ?_
  rotate_left
  ·go_simp;try with_reducible rfl
  try simp only [zA,zN,zB,zC,zD]
  refine qT 12 ?_ hO rfl rfl (by kernel_rfl) hQp (fun w hSw=>?_) hSS ?_
  rotate_left
  ·go_simp;try with_reducible rfl
  try simp only [zA,zN,zB,zC,zD]
  refine qT 13 ?_ hO rfl rfl (by kernel_rfl) hQp (fun w hSw=>?_) hSS ?_
  rotate_left
  ·go_simp;try with_reducible rfl
  try simp only [zA,zN,zB,zC,zD]
  refine qT 14 ?_ hO rfl rfl (by kernel_rfl) hQp (fun w hSw=>?_) hSS ?_
  rotate_left
  ·go_simp;try with_reducible rfl
  try simp only [zA,zN,zB,zC,zD]
  have zc:=Jd.o.kept Gh.o (by simp)
  have zs:WD.cell? ⟨w.heap.size + 1,q + 16,none⟩=some (.int .u32 0):=by
   have h9:=zc.cell (j:=q + 16) (by rw [List.length_append,zS];simp)
   rw [h9]
   simp [List.getD_eq_getElem?_getD,zS]
  have zf:WD.frozen? ⟨w.heap.size + 1,q + 16,none⟩=false:=zc.free
  have Je:=qI zc
  refine qO 15 hO rfl (by kernel_rfl) (fun K hK=>?_)
  go_simp
  refine hK _ _ (.inl rfl) ?_
  clear hK K
  try simp only [zA,zN,zB,zC,zD]
  refine zE hO (by kernel_rfl) ?_ _
  subst hR
  try clear hQp hO O
  clear zs zf zc hSS c16 c7
  have hst:=Je.o.store ((C + s0W A + D + s1W B) % 4294967296)
  rw [zS] at hst
  have Jf:=qI hst
  clear hst
  simp only [IntKind.wrap_u32']
  go_wp2_with fail
  case roundEnd=>exact⟨⟨q + 16 + 1,by go_num,by have:=Ga.o;omega,(Gd.o.trans' ((Gg.o.then Gh.o).mono (Y:=[w.heap.size + 1]) (by simp))).trans' ((zb.refl [w.heap.size + 1] WD).setCell (.inl (by simp)) _),by
   rw [Gx.o,show 64 - (q + 16 + 1)=63 - (q + 16) by omega]
   exact Jf.o⟩,by have:=Ga.o;simp [intOf];omega⟩
end Go.Proofs.YtibnfbglanpoiaaGreatDoor
