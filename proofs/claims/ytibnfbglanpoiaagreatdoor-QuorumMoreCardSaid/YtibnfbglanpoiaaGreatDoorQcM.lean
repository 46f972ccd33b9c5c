/- Parts of one proof, merged: XSl XVC XKT XKE XSn XKH. -/
import Derived.Test.YtibnfbglanpoiaaGreatDoorQcL
import Derived.Lib.SmallJoins
import Derived.Test.YtibnfbglanpoiaaGreatDoorQcF
import Derived.Test.YtibnfbglanpoiaaGreatDoorQcG
import Derived.Test.YtibnfbglanpoiaaGreatDoorQcC
import Derived.BigQuiet
import Derived.Maps.OwnSet
import Derived.StringKeys
import Derived.Test.YtibnfbglanpoiaaGreatDoorQcD
set_option linter.all false
set_option maxHeartbeats 12800000
set_option maxRecDepth 10000
set_option linter.unusedVariables false
set_option linter.unusedSimpArgs false
set_option linter.unnecessarySimpa false
namespace Go.Proofs.YtibnfbglanpoiaaGreatDoor
open Go.Proofs.Tryz
open Go.RowKit
open Go.Lib (decodeL)
structure ql (w:World):Prop where
 utf:Lib.Utf8Tabs (Tryz.shDecode_ren.g 3) (Tryz.shDecode_ren.g 4) w
 pow : Lib.TabIs Tryz.prog w "internal/strconv.uint64pow10" .u64 Lib.pow10Tab
theorem ql.kept0 {w w':World}(h:ql w) (k:zb [] w w'):ql w':=by
 obtain⟨h1,h3⟩:=h
 refine⟨⟨fun c hc=>k.cell (h1.1 c hc) (by simp),fun i hi=>⟨k.cell (h1.2 i hi).1 (by simp),k.cell (h1.2 i hi).2 (by simp)⟩⟩,?_⟩
 ·have hs : (Tryz.prog.globalNamed "internal/strconv.uint64pow10").isSome = true := by kernel_rfl
  obtain⟨g,hg⟩:=Option.isSome_iff_exists.1 hs
  exact Go.Joins.tab_stays hg h3 (k.below (Nat.le_refl _) (by simp)) (Nat.le_refl _)
theorem of_below {P:Program}{f:FuncId}{args:Array Value}{w:World}{r:Ending}(h:Calls P f args w fun e w'=>e=r∧Below w.heap.size w w'):Calls P f args w fun e w'=>e=r∧zb [] w w':=
 h.mono fun _ _ ⟨h1,h2⟩=>⟨h1,zb.of_below h2⟩
theorem of_same {P:Program}{f:FuncId}{args:Array Value}{w:World}{r:Ending}(h:Calls P f args w fun e w'=>e=r∧w'=w):Calls P f args w fun e w'=>e=r∧w=w':=
 h.mono fun _ _ ⟨h1,h2⟩=>⟨h1,h2.symm⟩
theorem libValid {w:World}(ht:ql w) (s:ByteArray) (hs:s.size≤281474976710656):Calls Tryz.prog 214 #[.string s] w fun e w'=>e = .returned (.bool (zJ s))∧zb [] w w':=
 of_below (Any.utf8_ValidString Tryz.shValid s w (by omega) ht.utf)
theorem libIndexByte (s:ByteArray) (c:Int) (w:World):Calls Tryz.prog 129 #[.string s,.int .u8 c] w fun e w'=>e = .returned (.int .i64 (Lib.indexByte s.data.toList c.toNat.toUInt8))∧w=w':=
 of_same (Any.strings_IndexByte Tryz.shIndexByte s c w)
theorem JG (b:Bool) (w:World):Calls Tryz.prog 183 #[.bool b] w fun e w'=>e = .returned (.string (yc (Lib.formatBool b)))∧w=w':=
 of_same (Any.strconv_FormatBool Tryz.shFormatBool b w)
theorem kept_grow {w:World}(n:Nat) (os:Array Obj):zb [] w (Sort.grow (w.drewN n) os):=
 ⟨rfl,rfl,rfl,by simp [Sort.grow],fun k hk _=>by
  show (w.heap ++ os)[k]? = w.heap[k]?
  rw [Array.getElem?_append_left hk]⟩
theorem libItoa {w:World}(ht:ql w) (n:Int) (h0:-9223372036854775808≤n) (h1:n≤9223372036854775807):Calls Tryz.prog 184 #[.int .i64 n] w fun e w'=>e = .returned (.string (yc (Lib.itoa n)))∧zb [] w w':=
 (Any.strconv_Itoa Tryz.shItoa n h0 h1 w ht.pow).mono fun e w' ⟨h1,k,os,h2⟩=>⟨h1,by rw [h2];exact kept_grow k os⟩
theorem libTrim (s cs:ByteArray) (w:World) (hs:s.size≤281474976710656) (h1:cs.size≤100) (h2:∀ (j:Nat) b,cs.data.toList[j]? = some b→b.toNat < 128):Calls Tryz.prog 127 #[.string s,.string cs] w fun e w'=>e = .returned (.string (yc (Lib.trimS s.data.toList cs.data.toList)))∧zb [] w w':=
 of_below (Any.strings_Trim_laid Tryz.shTrim (by kernel_rfl) s cs w (by omega) (by omega) h2)
theorem QY {w:World}(ht:ql w) (s:ByteArray) (hs:s.size≤281474976710656):Calls Tryz.prog 202 #[.string s] w fun e w'=>e = .returned (.bool (zJ s))∧zb [] w w':=by
 have C:=qI (libValid ht s hs)
 clear ht
 go_enter func202,ntmps202
 go_wp2_with (go_at_call 214;refine C.o.mono ?_;rintro e w2 ⟨rfl,hk2⟩)
 go_ret
 exact⟨rfl,hk2⟩
theorem zp.at {w:World}{a:Option Addr}{c:Nat}{l:List UInt8}(h:zp w (.slice a l.length c) l) {k:Nat}(hk:k < l.length):∃ g o,a=some ⟨g,o,none⟩∧w.cell? ⟨g,o + k,none⟩=some (.int .u8 l[k].toNat):=by
 rcases h.2 with ⟨_,h0⟩ | ⟨h0,_⟩ | ⟨g,o,cap,hv,_,_,hrow⟩
 ·omega
 ·omega
 ·simp only [Value.slice.injEq] at hv
  exact⟨g,o,hv.1,hrow.cells k (bv l[k]) (by simp [hk])⟩
def kq (l:List UInt8):List UInt8:=l.flatMap (fun c=>[qg (c.toNat / 16),qg (c.toNat % 16)])
theorem J6 (l:List UInt8) (c:UInt8):kq (l ++ [c])=(kq l ++ [qg (c.toNat / 16)]) ++ [qg (c.toNat % 16)]:=by simp [kq]
theorem jw:∀ (l:List UInt8),(kq l).length=2 * l.length
 | []=>rfl
 | c :: l=>by
  have:=jw l
  simp only [kq,List.flatMap_cons,List.length_append,List.length_cons,List.length_nil] at *
  omega
theorem hexc:∀ (k:Nat) (h:k < 16),(⟨#[48,49,50,51,52,53,54,55,56,57,97,98,99,100,101,102]⟩:ByteArray)[k]'h=qg k:=by
 have h:∀ k:Fin 16,(⟨#[48,49,50,51,52,53,54,55,56,57,97,98,99,100,101,102]⟩:ByteArray)[k.val]'k.isLt=qg k.val:=by decide
 exact fun k hk=>h ⟨k,hk⟩
theorem QH {w:World}{a:Option Addr}{c:Nat}{l:List UInt8}(h:zp w (.slice a l.length c) l) (hl:l.length≤1000000) (h0:l≠[]) :
  Calls Tryz.prog 44 #[.slice a l.length c] w fun e w'=>e = .returned (.string (yc (kq l)))∧zb [] w w':=by
 have H:=qI h
 obtain⟨W0,Gd⟩:∃ W0,Hid (W0=w.alloc (.cells #[.pointer none,.slice none 0 0] 125)):=⟨_,qI rfl⟩
 have Gh:Hid (zb [] w W0):=qI (by rw [Gd.o];exact (zb.refl _ _).alloc _)
 have Gq:Hid (BW 125 W0 w.heap.size W0 []):=qI (BW.new (by rw [Gd.o];exact zd rfl))
 clear h
 go_enter func44,ntmps44
 go_wp2_with fail
 rw [← Gd.o]
 go_loopw [8] (fun i wr=>∃ k:Nat,i = .int .i64 k∧k≤l.length∧BW 125 W0 w.heap.size wr (kq (l.take k))) (fun i _=>l.length - (intOf i).toNat)
 case atStart=>exact⟨0,rfl,Nat.zero_le _,Gq.o⟩
 case round=>
  obtain⟨k,rfl,hk,hb⟩:=hrel
  have HB:=qI hb
  have Ga:Hid (zb [] w wr):=qI (Gh.o.trans hb.kept (by intro i hi;simp at hi;subst hi;exact .inr (Nat.le_refl _)))
  clear hb
  by_cases hlt:k < l.length
  ·have hltI:(k:Int) < l.length:=by omega
   obtain⟨g,o,rfl,q0⟩:=zp.at (H.o.kept0 Ga.o) hlt
   have hx:(l[k].toNat:Int)≤255:=by have:=l[k].toNat_lt;omega
   have Ge:Hid (kq (l.take (k + 1))=(kq (l.take k) ++ [qg (l[k].toNat / 16)]) ++ [qg (l[k].toNat % 16)]):=qI (by rw [List.take_succ_eq_append_getElem hlt,J6])
   revert q0 hx Ge
   generalize l[k]=x
   intro q0 hx Ge
   have hlen:(kq (l.take k)).length≤50000000:=by rw [jw,List.length_take];omega
   go_wp2_with fail
   refine (xI xJ HB.o (by omega) _).mono ?_
   rintro e w1 ⟨rfl,hb1,-⟩
   rw [hexc _ (by omega)] at hb1
   have Gi:=qI hb1
   clear hb1
   go_wp2_with fail
   refine (xI xJ Gi.o (by rw [List.length_append];simp only [List.length_cons,List.length_nil];omega) _).mono ?_
   rintro e w2 ⟨rfl,hb2,-⟩
   rw [hexc _ (by omega),← Ge.o] at hb2
   have Gc:=qI hb2
   clear hb2
   go_wp2_with fail
   case roundEnd=>exact⟨⟨k + 1,by go_num,by omega,Gc.o⟩,by simp [intOf];omega⟩
  ·obtain rfl:k=l.length:=by omega
   have Gi:Hid (BW 125 W0 w.heap.size wr (kq l)):=qI (by have:=HB.o;rw [List.take_length] at this;exact this)
   have H0:=qI h0
   clear h0
   have hlen:(kq l).length≤50000000:=by rw [jw];omega
   go_wp2_with (go_at_call 84;refine (bM Gi.o (by omega) (by intro e;have h1:=congrArg List.length e;rw [jw] at h1;simp only [List.length_nil] at h1;exact H0.o (List.eq_nil_of_length_eq_zero (by omega)))).mono ?_;rintro e w2 ⟨rfl,hk2,-⟩)
   go_ret
   exact⟨rfl,Gh.o.trans hk2 (by intro i hi;simp at hi;subst hi;exact .inr (Nat.le_refl _))⟩
theorem wbyte_34 {T:Nat}(hT:QE T) {W w:World}{b:Nat}{l:List UInt8}(h:BW T W b w l) (hl:l.length≤100000000) :
  Calls Tryz.prog 83 #[.pointer (some ⟨b,0,none⟩),.int .u8 34] w fun e w'=>e = .returned .nilIface∧BW T W b w' (l ++ [34])∧zU b w w':=xI hT h hl 34
theorem wbyte_92 {T:Nat}(hT:QE T) {W w:World}{b:Nat}{l:List UInt8}(h:BW T W b w l) (hl:l.length≤100000000) :
  Calls Tryz.prog 83 #[.pointer (some ⟨b,0,none⟩),.int .u8 92] w fun e w'=>e = .returned .nilIface∧BW T W b w' (l ++ [92])∧zU b w w':=xI hT h hl 92
theorem quoteB_len (c:UInt8):(zQ c).length≤6:=by
 unfold zQ
 split
 ·simp
 ·split <;> simp
theorem KD (s:List UInt8) (k:Nat):(((s.take k).flatMap zQ)).length≤6 * s.length:=by
 have h:∀ l:List UInt8,(l.flatMap zQ).length≤6 * l.length:=by
  intro l
  induction l with
  | nil=>simp
  | cons c l ih=>
   have:=quoteB_len c
   simp only [List.flatMap_cons,List.length_append,List.length_cons]
   omega
 have h1:=h (s.take k)
 rw [List.length_take] at h1
 omega
theorem utfQuote {w:World}(ht:ql w) (s:ByteArray) (hs:s.size≤1000000) (hv:zJ s=true) :
  Calls Tryz.prog 206 #[.string s] w fun e w'=>e = .returned (.tuple #[.string (yc (yr s.data.toList)),.int .i64 0])∧zb [] w w':=by
 have CV:=qI (QY ht s (by omega))
 rw [hv] at CV
 have HL:Hid (s.data.toList.length=s.size):=qI (by simp)
 clear ht hv
 go_enter func206,ntmps206
 go_wp2_with (go_at_call 202;refine CV.o.mono ?_;rintro e w1 ⟨rfl,hk1⟩;have Gf:=qI hk1;clear hk1)
 obtain⟨W0,Gd⟩:∃ W0,Hid (W0=w1.alloc (.cells #[.pointer none,.slice none 0 0] 125)):=⟨_,qI rfl⟩
 have Gh:Hid (zb [] w1 W0):=qI (by rw [Gd.o];exact (zb.refl _ _).alloc _)
 have Gq:Hid (BW 125 W0 w1.heap.size W0 []):=qI (BW.new (by rw [Gd.o];exact zd rfl))
 rw [← Gd.o]
 refine (wbyte_34 xJ Gq.o (by simp)).mono ?_
 rintro e w2 ⟨rfl,hb2,-⟩
 have Gc:=qI hb2
 clear hb2
 go_wp2_with fail
 go_loopw [13] (fun i wr=>∃ k:Nat,i = .int .i64 k∧k≤s.size∧BW 125 W0 w1.heap.size wr (34 :: (s.data.toList.take k).flatMap zQ)) (fun i _=>s.size - (intOf i).toNat)
 case atStart=>exact⟨0,rfl,Nat.zero_le _,Gc.o⟩
 case round=>
  obtain⟨k,rfl,hk,hb⟩:=hrel
  have HB:=qI hb
  have Ga:Hid (zb [] w1 wr):=qI (Gh.o.trans hb.kept (by intro i hi;simp at hi;subst hi;exact .inr (Nat.le_refl _)))
  clear hb
  have hq:(34 :: (s.data.toList.take k).flatMap zQ:List UInt8).length≤6000001:=by
   have:=KD s.data.toList k
   rw [HL.o] at this
   rw [List.length_cons]
   omega
  by_cases hlt:k < s.size
  ·have hltI:(k:Int) < s.size:=by omega
   have hlt':k < s.data.toList.length:=by rw [HL.o];exact hlt
   have Ge:Hid (34 :: (s.data.toList.take (k + 1)).flatMap zQ=(34 :: (s.data.toList.take k).flatMap zQ) ++ zQ (s[k]'hlt)):=qI (by
    rw [List.take_succ_eq_append_getElem hlt',List.flatMap_append,List.cons_append]
    simp only [List.flatMap_cons,List.flatMap_nil,List.append_nil]
    rfl)
   have hx:((s[k]'hlt).toNat:Int)≤255:=by have:=(s[k]'hlt).toNat_lt;omega
   clear hlt'
   revert hx Ge
   generalize 34 :: (s.data.toList.take k).flatMap zQ=L at *
   generalize hsk:s[k]'hlt=x
   intro Ge hx
   by_cases h32:x.toNat < 32
   ·have h32I:(x.toNat:Int) < 32:=by omega
    have HQ:Hid (zQ x=[92,117,48,48] ++ kq [x]):=qI (by unfold zQ;rw [if_pos h32];rfl)
    have CH:=qI (QH (w:=wr.alloc (.cells #[.int .u8 x.toNat] 5)) (a:=some ⟨wr.heap.size,0,none⟩) (c:=1) (l:=[x]) (jl wr (bv x) 5 _ rfl) (by simp) (by simp))
    clear h32
    go_wp2_with (go_at_call 44;refine CH.o.mono ?_;rintro e w3 ⟨rfl,hk3⟩;have Gj:=qI (((zb.refl [] wr).alloc (.cells #[.int .u8 x.toNat] 5)).then hk3);clear hk3)
    have Gu:Hid ((({ data:=#[92,117,48,48] }:ByteArray) ++ yc (kq [x])).data.toList=[92,117,48,48] ++ kq [x]):=qI (by
     rw [ByteArray.data_append,Array.toList_append,xR])
    refine (kZ xJ (HB.o.stay Gj.o) (by omega) _ (by rw [← ByteArray.size_data,← Array.length_toList,Gu.o,List.length_append,jw];simp)).mono ?_
    rintro e w4 ⟨rfl,hb4,-⟩
    rw [Gu.o,← HQ.o,← Ge.o] at hb4
    have Gr:=qI hb4
    clear hb4
    go_wp2_with fail
    case roundEnd=>exact⟨⟨k + 1,by go_num,by omega,Gr.o⟩,by simp [intOf];omega⟩
   ·have h32I:¬ (x.toNat:Int) < 32:=by omega
    by_cases hc:x=34∨x=92
    ·have HQ:Hid (zQ x=[92] ++ [x]):=qI (by unfold zQ;rw [if_neg h32,if_pos hc];rfl)
     have hg:((x.toNat:Int) == 34)=true∨(((x.toNat:Int) == 34)=false∧((x.toNat:Int) == 92)=true):=by
      rcases hc with rfl | rfl
      ·exact .inl rfl
      ·exact .inr ⟨rfl,rfl⟩
     clear hc h32
     rcases hg with g1 | ⟨g1,g2⟩
     all_goals
      go_wp2_with fail
      refine (wbyte_92 xJ HB.o (by omega)).mono ?_
      rintro e w3 ⟨rfl,hb3,-⟩
      have Gg:=qI hb3
      clear hb3
      go_wp2_with fail
      refine (xI xJ Gg.o (by rw [List.length_append];simp only [List.length_cons,List.length_nil];omega) x).mono ?_
      rintro e w4 ⟨rfl,hb4,-⟩
      have Gr:=qI hb4
      clear hb4
      go_wp2_with fail
      case roundEnd=>exact⟨⟨k + 1,by go_num,by omega,by rw [Ge.o,HQ.o,← List.append_assoc];exact Gr.o⟩,by simp [intOf];omega⟩
    ·have HQ:Hid (zQ x=[x]):=qI (by unfold zQ;rw [if_neg h32,if_neg hc])
     have hn:∀ v:UInt8,x≠v→((x.toNat:Int) == (v.toNat:Int))=false:=fun v hv=>(YW (fun e=>hv (UInt8.toNat_inj.1 e))).1
     have g1:((x.toNat:Int) == 34)=false:=hn 34 (fun e=>hc (.inl e))
     have g2:((x.toNat:Int) == 92)=false:=hn 92 (fun e=>hc (.inr e))
     clear hc h32 hn
     go_wp2_with fail
     refine (xI xJ HB.o (by omega) x).mono ?_
     rintro e w3 ⟨rfl,hb3,-⟩
     have Gg:=qI hb3
     clear hb3
     go_wp2_with fail
     case roundEnd=>exact⟨⟨k + 1,by go_num,by omega,by rw [Ge.o,HQ.o];exact Gg.o⟩,by simp [intOf];omega⟩
  ·obtain rfl:k=s.size:=by omega
   have HT:Hid ((34 :: (s.data.toList.take s.size).flatMap zQ) ++ [34]=yr s.data.toList):=qI (by
    rw [List.take_of_length_le (by rw [HL.o];exact Nat.le_refl _)]
    rfl)
   revert hq HB HT
   generalize 34 :: (s.data.toList.take s.size).flatMap zQ=L
   intro HB hq HT
   go_wp2_with (first
    | (go_at_call 83;refine (wbyte_34 xJ HB.o (by omega)).mono ?_;rintro e w3 ⟨rfl,hb3,-⟩;rw [HT.o] at hb3;have Gg:=qI hb3;clear hb3)
    | (go_at_call 84;refine (bM Gg.o (by rw [← HT.o,List.length_append];simp only [List.length_cons,List.length_nil];omega) (by unfold yr;exact List.cons_ne_nil _ _)).mono ?_;rintro e w4 ⟨rfl,hk4,-⟩))
   go_ret2
   exact⟨rfl,(Gf.o.then Gh.o).trans hk4 (by intro i hi;simp at hi;subst hi;exact .inr Gf.o.size)⟩
theorem Qt:∀ (l:List (List UInt8)) (x:List UInt8),qm (l ++ [x])=if l=[] then x else qm l ++ 44 :: x
 | [],x=>rfl
 | [a],x=>rfl
 | a :: b :: t,x=>by
  have ih:=Qt (b :: t) x
  rw [if_neg (by simp)] at ih
  rw [if_neg (by simp)]
  show a ++ (44 :: qm (b :: t ++ [x]))=(a ++ (44 :: qm (b :: t))) ++ 44 :: x
  rw [ih]
  simp
theorem leK_of_lt {α:Type}{a b:ByteArray × α}(h:ltB a.1 b.1=true):leK a b=true:=by
 unfold ltB at h;unfold leK
 rw [decide_eq_true_iff] at *
 exact List.le_of_lt h
theorem leK_of_not {α:Type}{a b:ByteArray × α}(h:ltB a.1 b.1=false):leK b a=true:=by
 unfold ltB at h;unfold leK
 rw [decide_eq_true_iff]
 rw [decide_eq_false_iff_not,List.not_lt] at h
 exact h
theorem put_sorted {α:Type}{l:List (ByteArray × α)}{p:ByteArray × α}{k:Nat}(hs:l.Pairwise (fun x y=>leK x y=true)) (hk:k≤l.length)
  (h1:∀ j (hj:j < l.length),k≤j→ltB p.1 l[j].1=true) (h2:k=0∨∃ h:k - 1 < l.length,ltB p.1 (l[k - 1]).1=false) :
  (l.take k ++ p :: l.drop k).Pairwise (fun x y=>leK x y=true):=by
 have hd:l.take k ++ l.drop k=l:=List.take_append_drop k l
 rw [← hd,List.pairwise_append] at hs
 obtain⟨s1,s2,s3⟩:=hs
 rw [List.pairwise_append,List.pairwise_cons]
 refine⟨s1,⟨?_,s2⟩,?_⟩
 ·intro y hy
  obtain⟨j,hj,rfl⟩:=List.getElem_of_mem hy
  rw [List.length_drop] at hj
  rw [List.getElem_drop]
  exact leK_of_lt (h1 (k + j) (by omega) (by omega))
 ·intro x hx y hy
  rcases List.mem_cons.1 hy with rfl | hy
  ·rcases h2 with rfl | ⟨h,h2⟩
   ·simp at hx
   ·have hlast:leK (l[k - 1]) y=true:=leK_of_not h2
    obtain⟨j,hj,rfl⟩:=List.getElem_of_mem hx
    rw [List.length_take] at hj
    rw [List.getElem_take]
    by_cases e:j=k - 1
    ·subst e;exact hlast
    ·refine qY _ _ _ ?_ hlast
     have:=(List.pairwise_iff_getElem.1 s1) j (k - 1) (by rw [List.length_take];omega) (by rw [List.length_take];omega) (by omega)
     simpa using this
  ·exact s3 x hx y hy
theorem put_perm {α:Type}(l:List (ByteArray × α)) (p:ByteArray × α) (k:Nat):(l.take k ++ p :: l.drop k).Perm (l ++ [p]):=by
 have h1:(l.take k ++ p :: l.drop k).Perm (p :: (l.take k ++ l.drop k)):=List.perm_middle
 rw [List.take_append_drop] at h1
 exact h1.trans (List.perm_append_singleton p l).symm
def yG (it:Nat→List UInt8) (k:Nat):List UInt8:=qm ((List.range k).map it)
theorem kL (it:Nat→List UInt8):yG it 0=[]:=rfl
theorem bY (it:Nat→List UInt8):yG it 1=it 0:=rfl
theorem vA (it:Nat→List UInt8) {k:Nat}(h:0 < k):yG it (k + 1)=(yG it k ++ [44]) ++ it k:=by
 unfold yG
 rw [List.range_succ,List.map_append,List.map_cons,List.map_nil,Qt,if_neg (by
  intro e
  have:=congrArg List.length e
  simp at this
  omega)]
 simp
theorem vJ (it:Nat→List UInt8) (k:Nat):(yG it (k + 1)).length=(yG it k).length + (if k=0 then 0 else 1) + (it k).length:=by
 rcases Nat.eq_zero_or_pos k with rfl | h
 ·rw [bY,kL];simp
 ·rw [vA it h,if_neg (by omega)]
  simp only [List.length_append,List.length_cons,List.length_nil]
theorem jj (it:Nat→List UInt8) {k n:Nat}(h:k≤n):(yG it k).length≤(yG it n).length:=by
 induction n with
 | zero => obtain rfl : k = 0 := by omega
           exact Nat.le_refl _
 | succ n ih=>
  by_cases e:k=n + 1
  ·subst e;exact Nat.le_refl _
  ·have:=ih (by omega)
   have:=vJ it n
   omega
theorem preC_all {α:Type}(f:α→List UInt8) (xs:List α):yG (fun k=>(xs.map f).getD k []) xs.length=qm (xs.map f):=by
 unfold yG
 congr 1
 refine List.ext_getElem (by simp) fun i h1 h2=>?_
 simp only [List.getElem_map,List.getElem_range]
 simp only [List.length_map,List.length_range] at h1
 simp [h1]
def JY (b:Nat) (W:World):Prop:=∃ Wt,ql Wt∧zb [] Wt W∧Wt.heap.size≤b
theorem JY.at {b:Nat}{W w:World}(h:JY b W) (k:zb [b] W w):ql w:=by
 obtain⟨Wt,h1,h2,h3⟩:=h
 exact h1.kept0 (h2.trans k (fun i hi=>by simp at hi;subst hi;exact .inr h3))
theorem wbyte_44 {T:Nat}(hT:QE T) {W w:World}{b:Nat}{l:List UInt8}(h:BW T W b w l) (hl:l.length≤100000000) :
  Calls Tryz.prog 83 #[.pointer (some ⟨b,0,none⟩),.int .u8 44] w fun e w'=>e = .returned .nilIface∧BW T W b w' (l ++ [44])∧zU b w w':=xI hT h hl 44
theorem wbyte_58 {T:Nat}(hT:QE T) {W w:World}{b:Nat}{l:List UInt8}(h:BW T W b w l) (hl:l.length≤100000000) :
  Calls Tryz.prog 83 #[.pointer (some ⟨b,0,none⟩),.int .u8 58] w fun e w'=>e = .returned .nilIface∧BW T W b w' (l ++ [58])∧zU b w w':=xI hT h hl 58
theorem Kw {W w:World}{b:Nat}{l:List UInt8}(h:BW 200 W b w l) (ht:JY b W) (hl:l.length≤90000000) (s:ByteArray) (hs:s.size≤1000000) (hv:zJ s=true) :
  Calls Tryz.prog 185 #[.pointer (some ⟨b,0,none⟩),.string s] w fun e w'=>e = .returned (.tuple #[])∧BW 200 W b w' (l ++ yr s.data.toList)∧zU b w w':=by
 have CQ:=qI (utfQuote (ht.at h.kept) s hs hv)
 have HB:=qI h
 have HL:Hid ((yc (yr s.data.toList)).size≤100000000):=qI (by
  have:=YY s.data.toList
  rw [xA]
  have e:s.data.toList.length=s.size:=by simp
  omega)
 clear h ht hv
 go_enter func185,ntmps185
 go_wp2_with (first
  | (go_at_call 206;refine CQ.o.mono ?_;rintro e w1 ⟨rfl,hk1⟩;have Gf:=qI hk1;clear hk1)
  | (go_at_call 182;refine (kZ yX (HB.o.stay Gf.o) (by omega) (yc (yr s.data.toList)) HL.o).mono ?_;rintro e w2 ⟨rfl,hb2,hk2⟩;rw [xR] at hb2;have Gc:=qI hb2;have Gb:=qI hk2;clear hb2 hk2))
 go_end0
 exact⟨rfl,Gc.o,(zU.of0 Gf.o).trans Gb.o⟩
theorem between1_any {W w:World}{b b2 b3 n:Nat}{l:List UInt8}{J:World→Prop}{it:Nat→List UInt8}{o c:UInt8}
  (HJ:∀ w1 w2,J w1→zU b w1 w2→J w2)
  (HC:∀ k w1 l1,k < n→J w1→BW 200 W b w1 l1→l1.length + (it k).length≤50000000→Calls Tryz.prog 187 #[.int .i64 k,.pointer (some ⟨b2,0,none⟩),.pointer (some ⟨b3,0,none⟩)] w1 fun r w2=>r = .returned (.tuple #[])∧BW 200 W b w2 (l1 ++ it k)∧zU b w1 w2)
  (hJ:J w) (hb:BW 200 W b w l) (hn:n≤20000) (hl:l.length + (yG it n).length≤49999998) :
  Calls Tryz.prog 186 #[.pointer (some ⟨b,0,none⟩),.int .u8 o.toNat,.int .i64 n,.func (.func 187) #[] #[.pointer (some ⟨b2,0,none⟩),.pointer (some ⟨b3,0,none⟩)],.int .u8 c.toNat] w
   fun r w'=>r = .returned (.tuple #[])∧BW 200 W b w' (l ++ (o :: (yG it n ++ [c])))∧zU b w w':=by
 have HB:=qI hb
 have Gl:=qI hJ
 have Gm:=qI HC
 have Gn:=qI HJ
 clear hb hJ HC HJ
 go_enter func186,ntmps186
 go_wp2_with (go_at_call 83;refine (xI yX HB.o (by omega) o).mono ?_;rintro e w1 ⟨rfl,hb1,hk1⟩;have Gi:=qI hb1;have Gf:=qI hk1;clear hb1 hk1)
 go_loopw [17] (fun i wr=>∃ k:Nat,i = .int .i64 k∧k≤n∧BW 200 W b wr (l ++ [o] ++ yG it k)∧zU b w wr) (fun i _=>n - (intOf i).toNat)
 case atStart=>exact⟨0,rfl,Nat.zero_le _,by rw [kL,List.append_nil];exact Gi.o,Gf.o⟩
 case round=>
  obtain⟨k,rfl,hk,hb,hkw⟩:=hrel
  have Gk:=qI hb
  have Ga:=qI hkw
  have hle:=jj it hk
  have hlen:(l ++ [o] ++ yG it k).length=l.length + 1 + (yG it k).length:=by simp only [List.length_append,List.length_cons,List.length_nil]
  clear hb hkw
  by_cases hlt:k < n
  ·have hltI:(k:Int) < n:=by omega
   have hst:=vJ it k
   have hle2:=jj it (show k + 1≤n from hlt)
   by_cases h0:k=0
   ·subst h0
    have CI:=qI (Gm.o _ _ _ hlt (Gn.o _ _ Gl.o Ga.o) Gk.o (by simp only [if_true] at hst;omega))
    have HE:Hid (l ++ [o] ++ yG it 0 ++ it 0=l ++ [o] ++ yG it (0 + 1)):=qI (by rw [kL,bY,List.append_nil])
    clear hst hlen hle hle2
    rw [show (((0:Nat):Nat):Int)=0 from rfl] at *
    go_wp2_with (go_at_call 187;refine CI.o.mono ?_;rintro e w2 ⟨rfl,hb2,hk2⟩;rw [HE.o] at hb2;have Gc:=qI hb2;have Gb:=qI hk2;clear hb2 hk2)
    case roundEnd=>exact⟨⟨0 + 1,by go_num,by omega,Gc.o,Ga.o.trans Gb.o⟩,by simp [intOf];omega⟩
   ·have h0I:(0:Int) < k:=by omega
    rw [if_neg h0] at hst
    have HE:Hid (l ++ [o] ++ yG it k ++ [44] ++ it k=l ++ [o] ++ yG it (k + 1)):=qI (by rw [vA it (by omega)];simp)
    go_wp2_with (first
     | (go_at_call 83;refine (wbyte_44 yX Gk.o (by omega)).mono ?_;rintro e w2 ⟨rfl,hb2,hk2⟩;have Gc:=qI hb2;have Gb:=qI hk2;clear hb2 hk2)
     | (go_at_call 187;refine (Gm.o _ _ _ hlt (Gn.o _ _ Gl.o (Ga.o.trans Gb.o)) Gc.o (by rw [List.length_append,hlen];simp only [List.length_cons,List.length_nil];omega)).mono ?_;rintro e w3 ⟨rfl,hb3,hk3⟩;rw [HE.o] at hb3;have Gg:=qI hb3;have Gj:=qI hk3;clear hb3 hk3))
    case roundEnd=>exact⟨⟨k + 1,by go_num,by omega,Gg.o,(Ga.o.trans Gb.o).trans Gj.o⟩,by simp [intOf];omega⟩
  ·obtain rfl:k=n:=by omega
   have HE:Hid (l ++ [o] ++ yG it k ++ [c]=l ++ (o :: (yG it k ++ [c]))):=qI (by simp)
   go_wp2_with (go_at_call 83;refine (xI yX Gk.o (by omega) c).mono ?_;rintro e w2 ⟨rfl,hb2,hk2⟩;rw [HE.o] at hb2;have Gc:=qI hb2;have Gb:=qI hk2;clear hb2 hk2)
   go_end0
   exact⟨rfl,Gc.o,Ga.o.trans Gb.o⟩
theorem between2_any {W w:World}{b b2 b3 n:Nat}{l:List UInt8}{J:World→Prop}{it:Nat→List UInt8}{o c:UInt8}
  (HJ:∀ w1 w2,J w1→zU b w1 w2→J w2)
  (HC:∀ k w1 l1,k < n→J w1→BW 200 W b w1 l1→l1.length + (it k).length≤50000000→Calls Tryz.prog 188 #[.int .i64 k,.pointer (some ⟨b2,0,none⟩),.pointer (some ⟨b3,0,none⟩)] w1 fun r w2=>r = .returned (.tuple #[])∧BW 200 W b w2 (l1 ++ it k)∧zU b w1 w2)
  (hJ:J w) (hb:BW 200 W b w l) (hn:n≤20000) (hl:l.length + (yG it n).length≤49999998) :
  Calls Tryz.prog 186 #[.pointer (some ⟨b,0,none⟩),.int .u8 o.toNat,.int .i64 n,.func (.func 188) #[] #[.pointer (some ⟨b2,0,none⟩),.pointer (some ⟨b3,0,none⟩)],.int .u8 c.toNat] w
   fun r w'=>r = .returned (.tuple #[])∧BW 200 W b w' (l ++ (o :: (yG it n ++ [c])))∧zU b w w':=by
 have HB:=qI hb
 have Gl:=qI hJ
 have Gm:=qI HC
 have Gn:=qI HJ
 clear hb hJ HC HJ
 go_enter func186,ntmps186
 go_wp2_with (go_at_call 83;refine (xI yX HB.o (by omega) o).mono ?_;rintro e w1 ⟨rfl,hb1,hk1⟩;have Gi:=qI hb1;have Gf:=qI hk1;clear hb1 hk1)
 go_loopw [17] (fun i wr=>∃ k:Nat,i = .int .i64 k∧k≤n∧BW 200 W b wr (l ++ [o] ++ yG it k)∧zU b w wr) (fun i _=>n - (intOf i).toNat)
 case atStart=>exact⟨0,rfl,Nat.zero_le _,by rw [kL,List.append_nil];exact Gi.o,Gf.o⟩
 case round=>
  obtain⟨k,rfl,hk,hb,hkw⟩:=hrel
  have Gk:=qI hb
  have Ga:=qI hkw
  have hle:=jj it hk
  have hlen:(l ++ [o] ++ yG it k).length=l.length + 1 + (yG it k).length:=by simp only [List.length_append,List.length_cons,List.length_nil]
  clear hb hkw
  by_cases hlt:k < n
  ·have hltI:(k:Int) < n:=by omega
   have hst:=vJ it k
   have hle2:=jj it (show k + 1≤n from hlt)
   by_cases h0:k=0
   ·subst h0
    have CI:=qI (Gm.o _ _ _ hlt (Gn.o _ _ Gl.o Ga.o) Gk.o (by simp only [if_true] at hst;omega))
    have HE:Hid (l ++ [o] ++ yG it 0 ++ it 0=l ++ [o] ++ yG it (0 + 1)):=qI (by rw [kL,bY,List.append_nil])
    clear hst hlen hle hle2
    rw [show (((0:Nat):Nat):Int)=0 from rfl] at *
    go_wp2_with (go_at_call 188;refine CI.o.mono ?_;rintro e w2 ⟨rfl,hb2,hk2⟩;rw [HE.o] at hb2;have Gc:=qI hb2;have Gb:=qI hk2;clear hb2 hk2)
    case roundEnd=>exact⟨⟨0 + 1,by go_num,by omega,Gc.o,Ga.o.trans Gb.o⟩,by simp [intOf];omega⟩
   ·have h0I:(0:Int) < k:=by omega
    rw [if_neg h0] at hst
    have HE:Hid (l ++ [o] ++ yG it k ++ [44] ++ it k=l ++ [o] ++ yG it (k + 1)):=qI (by rw [vA it (by omega)];simp)
    go_wp2_with (first
     | (go_at_call 83;refine (wbyte_44 yX Gk.o (by omega)).mono ?_;rintro e w2 ⟨rfl,hb2,hk2⟩;have Gc:=qI hb2;have Gb:=qI hk2;clear hb2 hk2)
     | (go_at_call 188;refine (Gm.o _ _ _ hlt (Gn.o _ _ Gl.o (Ga.o.trans Gb.o)) Gc.o (by rw [List.length_append,hlen];simp only [List.length_cons,List.length_nil];omega)).mono ?_;rintro e w3 ⟨rfl,hb3,hk3⟩;rw [HE.o] at hb3;have Gg:=qI hb3;have Gj:=qI hk3;clear hb3 hk3))
    case roundEnd=>exact⟨⟨k + 1,by go_num,by omega,Gg.o,(Ga.o.trans Gb.o).trans Gj.o⟩,by simp [intOf];omega⟩
  ·obtain rfl:k=n:=by omega
   have HE:Hid (l ++ [o] ++ yG it k ++ [c]=l ++ (o :: (yG it k ++ [c]))):=qI (by simp)
   go_wp2_with (go_at_call 83;refine (xI yX Gk.o (by omega) c).mono ?_;rintro e w2 ⟨rfl,hb2,hk2⟩;rw [HE.o] at hb2;have Gc:=qI hb2;have Gb:=qI hk2;clear hb2 hk2)
   go_end0
   exact⟨rfl,Gc.o,Ga.o.trans Gb.o⟩
def ve {α:Type}(v:VS α) (m:Int) (s:ByteArray) (l k:Nat):Prop:=
 (v.kind=1∧m=0∧s=⟨#[]⟩∧l=0∧k=0)∨(v.kind=2∧(v.num=0∨v.num=1)∧m=v.num∧s=⟨#[]⟩∧l=0∧k=0) ∨
 (v.kind=3∧(-9007199254740991≤v.num∧v.num≤9007199254740991)∧m=v.num∧s=⟨#[]⟩∧l=0∧k=0)∨(v.kind=4∧zJ v.s=true∧m=0∧s=v.s∧l=0∧k=0) ∨
 (v.kind=5∧m=0∧s=⟨#[]⟩∧l=v.l.length∧k=0)∨(v.kind=6∧m=0∧s=⟨#[]⟩∧l=0∧k=v.m.length)
theorem qw {α:Type}(l:List α):l.isEmpty=decide (l.length=0):=by cases l <;> simp
theorem bare_own {α:Type}{v:VS α}{m:Int}{s:ByteArray}{l k:Nat}(h:ve v m s l k) :
  zv v=(decide (v.num=m) && decide (v.s=s) && decide (v.l.length=l) && decide (v.m.length=k) && (if v.kind=6 then yY v.m else true)):=by
 unfold zv vO
 simp only [qw]
 rcases h with ⟨h1,rfl,rfl,rfl,rfl⟩ | ⟨h1,h2,rfl,rfl,rfl,rfl⟩ | ⟨h1,h2,rfl,rfl,rfl,rfl⟩ | ⟨h1,h2,rfl,rfl,rfl,rfl⟩ | ⟨h1,rfl,rfl,rfl,rfl⟩ | ⟨h1,rfl,rfl,rfl,rfl⟩
 ·rw [h1];simp
 ·rw [h1];simp [h2]
 ·rw [h1];simp [h2]
 ·rw [h1];simp [h2,Bool.and_assoc]
 ·rw [h1];simp
 ·rw [h1]
  simp only [if_neg (show ¬ ((6:Int)=1) by decide),if_neg (show ¬ ((6:Int)=2) by decide),if_neg (show ¬ ((6:Int)=3) by decide),if_neg (show ¬ ((6:Int)=4) by decide),if_neg (show ¬ ((6:Int)=5) by decide),if_pos]
  cases yY v.m <;> cases decide (v.num=0) <;> cases decide (v.s=⟨#[]⟩) <;> cases decide (v.l.length=0) <;> simp
def qr {α:Type}(r:α→Bool):List ByteArray→List (ByteArray × α)→Bool
 | _,[]=>true
 | seen,p :: t=>zJ p.1 && r p.2 && !(seen.any (fun k=>decide (k=p.1))) && qr r (seen ++ [p.1]) t
theorem Ke {α:Type}(r:α→Bool):∀ (m:List (ByteArray × α)) (seen:List ByteArray),seen.Nodup →
  (qr r seen m=true↔(∀ p,p ∈ m→zJ p.1=true∧r p.2=true)∧(seen ++ m.map (fun p=>p.1)).Nodup)
 | [],seen,hs=>by simp [qr,hs]
 | p :: t,seen,hs=>by
  unfold qr
  rw [Bool.and_eq_true,Bool.and_eq_true,Bool.and_eq_true]
  by_cases hk:p.1 ∈ seen
  ·have h1:(seen.any (fun k=>decide (k=p.1)))=true:=List.any_eq_true.2 ⟨p.1,hk,by simp⟩
   rw [h1]
   constructor
   ·rintro ⟨⟨_,h⟩,_⟩;simp at h
   ·rintro ⟨_,h⟩
    exact absurd hk (fun q=>by
     have:=(List.nodup_append.1 h).2.2 p.1 q p.1 (by simp)
     exact this rfl)
  ·have h1:(seen.any (fun k=>decide (k=p.1)))=false:=by
    rw [List.any_eq_false]
    intro x hx e
    exact hk (by rw [decide_eq_true_iff] at e;rw [← e];exact hx)
   have hs':(seen ++ [p.1]).Nodup:=by
    refine List.nodup_append.2 ⟨hs,by simp,?_⟩
    intro a ha b hb e
    simp at hb
    exact hk (by rw [← hb,← e];exact ha)
   rw [h1,Ke r t (seen ++ [p.1]) hs']
   simp only [List.map_cons,List.append_assoc,List.cons_append,List.nil_append,Bool.not_false,and_true,List.mem_cons,forall_eq_or_imp]
   constructor
   ·rintro ⟨h2,h3,h4⟩;exact⟨⟨h2,h3⟩,h4⟩
   ·rintro ⟨⟨h2,h3⟩,h4⟩;exact⟨h2,h3,h4⟩
theorem pairsOk_all {α:Type}(r:α→Bool) (m:List (ByteArray × α)):qr r [] m=(yY m && m.all (fun p=>r p.2)):=by
 rw [Bool.eq_iff_iff,Ke r m [] List.nodup_nil,Bool.and_eq_true]
 unfold yY
 rw [Bool.and_eq_true,List.all_eq_true,List.all_eq_true,decide_eq_true_iff,List.nil_append]
 constructor
 ·rintro ⟨h1,h2⟩;exact⟨⟨fun p hp=>(h1 p hp).1,h2⟩,fun p hp=>(h1 p hp).2⟩
 ·rintro ⟨⟨h1,h2⟩,h3⟩;exact⟨fun p hp=>⟨h1 p hp,h3 p hp⟩,h2⟩
theorem right_bare {n:Nat}{v:VS (V n)}{m:Int}{s:ByteArray}{l k:Nat}(h:ve v m s l k) :
  zo (n + 1) v=(decide (v.num=m) && decide (v.s=s) && decide (v.l.length=l) && decide (v.m.length=k) && v.l.all (zo n) && qr (zo n) [] v.m):=by
 have e:zo (n + 1) v=(zv v && v.kids.all (zo n)):=rfl
 have ek:v.kids.all (zo n)=(v.l.all (zo n) && v.m.all (fun p=>zo n p.2)):=by
  unfold VS.kids
  rw [List.all_append,List.all_map]
  rfl
 rw [e,bare_own h,ek,pairsOk_all]
 by_cases h6:v.kind=6
 ·rw [if_pos h6]
  cases yY v.m <;> cases v.l.all (zo n) <;> cases v.m.all (fun p=>zo n p.2) <;> simp
 ·rw [if_neg h6]
  have hk:k=0:=by
   rcases h with h | h | h | h | h | h
   ·exact h.2.2.2.2
   ·exact h.2.2.2.2.2
   ·exact h.2.2.2.2.2
   ·exact h.2.2.2.2.2
   ·exact h.2.2.2.2
   ·exact absurd h.1 h6
  subst hk
  by_cases hm:v.m.length=0
  ·have:=List.eq_nil_of_length_eq_zero hm
   rw [this]
   cases v.l.all (zo n) <;> simp [yY]
  ·simp [hm]
open Go.Maps (Keyed)
theorem keyStr:Keyed Tryz.prog 9:=Maps.string_keyed underlying9
theorem sameStr (x y:List UInt8):(Lit.string x).sameKey (.string y)=decide (x=y):=by
 by_cases h:x=y <;> simp [Lit.sameKey,h]
theorem keyOfStr (s:ByteArray) (hs:s.size≤281474976710656):keyOf Tryz.prog 9 (.string s)=some (.string s.data.toList):=Go.WideMaps.keyOf_string_mk (P:=Tryz.prog) underlying9 (by simp only [maxLen];omega)
def qF (w:World) (b:Nat) (seen:List ByteArray):Prop:=
 ∃ n M,jF Tryz.prog w 9 b n M∧n≤seen.length∧∀ s:ByteArray,M (.string s.data.toList)=if seen.any (fun k=>decide (k=s))=true then some (Value.bool true) else none
theorem seen_new {w:World}{b:Nat}(hb:w.heap.size=b):qF (w.alloc (.map #[] 0)) b []:=by
 subst hb
 exact⟨0,_,mapAt_made _ w _,Nat.le_refl _,fun s=>by simp⟩
theorem qF.kept {w w':World}{b:Nat}{seen:List ByteArray}{X:List Nat}(h:qF w b seen) (k:zb X w w') (hb:b ∉ X):qF w' b seen:=by
 obtain⟨n,M,h1,h2,h3⟩:=h
 exact⟨n,M,h1.kept k hb,h2,h3⟩
theorem qF.kept0 {w w':World}{b:Nat}{seen:List ByteArray}(h:qF w b seen) (k:zb [] w w'):qF w' b seen:=h.kept k (by simp)
theorem qF.look {w:World}{b:Nat}{seen:List ByteArray}(h:qF w b seen) (s:ByteArray) (hs:s.size≤281474976710656) :
  (Instr.lookup 95 (.map (some b)) (.string s) false).run Tryz.prog w = .ok (.bool (seen.any (fun k=>decide (k=s)))) w:=by
 obtain⟨n,M,h1,h2,h3⟩:=h
 have h4:=(h1.lookup keyStr underlying95 (z:=.bool false) (zeroValue4 w) (keyOfStr s hs)).2
 rw [h4,h3 s]
 cases seen.any (fun k=>decide (k=s)) <;> rfl
theorem qF.put {w:World}{b:Nat}{seen:List ByteArray}(h:qF w b seen) (s:ByteArray) (hs:s.size≤281474976710656) (hl:seen.length≤100000000) :
  ∃ w',(Instr.mapUpdate 95 (.map (some b)) (.string s) (.bool true)).run Tryz.prog w = .ok () w'∧qF w' b (seen ++ [s])∧zb [b] w w':=by
 obtain⟨n,M,h1,h2,h3⟩:=h
 obtain⟨w',hr,h4,h5,_⟩:=h1.update keyStr underlying95 (by simp only [maxLen];omega) (keyOfStr s hs) (.bool true)
 refine⟨w',hr,⟨n + 1,_,h4,by rw [List.length_append];simp;omega,fun t=>?_⟩,h5⟩
 show (if (Lit.string t.data.toList).sameKey (.string s.data.toList)=true then some (Value.bool true) else M (.string t.data.toList))=_
 rw [sameStr,List.any_append]
 by_cases e:t=s
 ·subst e
  rw [if_pos (by simp),if_pos (by simp)]
 ·have h7:t.data.toList≠s.data.toList:=fun q=>e (ba_eq q)
  have h8:[s].any (fun k=>decide (k=t))=false:=by simp [Ne.symm e]
  rw [if_neg (by simpa using h7),h3 t,h8,Bool.or_false]
def vW:List ByteArray→List ByteArray→Bool
 | _,[]=>true
 | seen,k :: t=>!(seen.any (fun x=>decide (x=k))) && zJ k && vW (seen ++ [k]) t
theorem zav:∀ (l seen:List ByteArray),seen.Nodup→(vW seen l=true↔(∀ k,k ∈ l→zJ k=true)∧(seen ++ l).Nodup)
 | [],seen,hs=>by simp [vW,hs]
 | k :: t,seen,hs=>by
  unfold vW
  rw [Bool.and_eq_true,Bool.and_eq_true]
  by_cases hk:k ∈ seen
  ·have h1:(seen.any (fun x=>decide (x=k)))=true:=List.any_eq_true.2 ⟨k,hk,by simp⟩
   rw [h1]
   constructor
   ·rintro ⟨⟨h,_⟩,_⟩;simp at h
   ·rintro ⟨_,h⟩
    exact absurd rfl ((List.nodup_append.1 h).2.2 k hk k (by simp))
  ·have h1:(seen.any (fun x=>decide (x=k)))=false:=by
    rw [List.any_eq_false]
    intro x hx e
    rw [decide_eq_true_iff] at e
    exact hk (e ▸ hx)
   have hs':(seen ++ [k]).Nodup:=by
    refine List.nodup_append.2 ⟨hs,by simp,?_⟩
    intro a ha b hb e
    simp at hb
    exact hk (by rw [← hb,← e];exact ha)
   rw [h1,zav t (seen ++ [k]) hs']
   simp only [List.append_assoc,List.cons_append,List.nil_append,Bool.not_false,true_and,List.mem_cons,forall_eq_or_imp]
   constructor
   ·rintro ⟨h2,h3,h4⟩;exact⟨⟨h2,h3⟩,h4⟩
   ·rintro ⟨⟨h2,h3⟩,h4⟩;exact⟨h2,h3,h4⟩
theorem keysGo_all {α:Type}(m:List (ByteArray × α)):vW [] (m.map (fun p=>p.1))=yY m:=by
 rw [Bool.eq_iff_iff,zav _ [] List.nodup_nil]
 unfold yY
 rw [Bool.and_eq_true,List.all_eq_true,decide_eq_true_iff,List.nil_append]
 constructor
 ·rintro ⟨h1,h2⟩;exact⟨fun p hp=>h1 p.1 (List.mem_map.2 ⟨p,hp,rfl⟩),h2⟩
 ·rintro ⟨h1,h2⟩;exact⟨fun k hk=>by obtain⟨p,hp,rfl⟩:=List.mem_map.1 hk;exact h1 p hp,h2⟩
theorem keys_any {n:Nat}{v:VS (V n)}{S:Nat→Prop}{w:World}{cs:List Value}{vl:Value}{b:Option Addr}{e:Nat}{lcs:List (List Value)}{mcs:List (ByteArray × List Value)}
  (h:yF (Rep n S w) S w cs v vl (.slice b v.m.length e) lcs mcs) (hm:v.m.length≤20000) (hk:∀ p,p ∈ v.m→p.1.size≤400000) (ht:ql w) :
  Calls Tryz.prog 203 #[.slice b v.m.length e] w fun e w'=>e = .returned (.bool (yY v.m))∧zb [] w w':=by
 have H:=qI h
 have Gs:=qI hk
 have HT:=qI ht
 have Gt:=qI (keysGo_all v.m)
 obtain⟨W0,Gd⟩:∃ W0,Hid (W0=w.alloc (.map #[] 0)):=⟨_,qI rfl⟩
 have Gh:Hid (zb [] w W0):=qI (by rw [Gd.o];exact (zb.refl _ _).alloc _)
 have Gv:Hid (qF W0 w.heap.size []):=qI (by rw [Gd.o];exact seen_new rfl)
 clear h hk ht
 have hmm:=@run_makeMap Tryz.prog
 go_enter func203,ntmps203
 go_wp2_with fail
 clear hmm
 rw [← Gd.o]
 go_loopw [9] (fun i wr=>∃ k:Nat,i = .int .i64 k∧k≤v.m.length∧qF wr w.heap.size ((v.m.take k).map (fun p=>p.1))∧vW ((v.m.take k).map (fun p=>p.1)) ((v.m.drop k).map (fun p=>p.1))=vW [] (v.m.map (fun p=>p.1))∧zb [] w wr) (fun i _=>v.m.length - (intOf i).toNat)
 case atStart=>exact⟨0,rfl,Nat.zero_le _,Gv.o,rfl,Gh.o⟩
 case round=>
  obtain⟨k,rfl,hk,hs,hg,hkr⟩:=hrel
  have HS:=qI hs
  have HG:=qI hg
  have Ga:=qI hkr
  clear hs hg hkr
  by_cases hlt:k < v.m.length
  ·have hltI:(k:Int) < v.m.length:=by omega
   obtain⟨g,o,cap,kd,nm,st,a1,b1,he,q0,q1,q2,q3,q4,q5,hr⟩:=H.o.at_m Ga.o k hlt
   simp only [Value.slice.injEq] at he
   obtain⟨rfl,-,rfl⟩:=he
   obtain⟨p1,i1,d1,p2,i2,d2,rfl,rfl⟩:=hr.sl
   have hks:v.m[k].1.size≤400000:=Gs.o _ (List.getElem_mem hlt)
   have Gp:Hid ((v.m.take (k + 1)).map (fun p=>p.1)=(v.m.take k).map (fun p=>p.1) ++ [v.m[k].1]):=qI (xw _ _ _ hlt)
   have HD:Hid (vW ((v.m.take k).map (fun p=>p.1)) ((v.m.drop k).map (fun p=>p.1))=(!(((v.m.take k).map (fun p=>p.1)).any (fun x=>decide (x=v.m[k].1))) && zJ v.m[k].1 && vW ((v.m.take k).map (fun p=>p.1) ++ [v.m[k].1]) ((v.m.drop (k + 1)).map (fun p=>p.1)))):=qI (by
    conv=>lhs;rw [List.drop_eq_getElem_cons hlt]
    rfl)
   have hsl:((v.m.take k).map (fun p=>p.1)).length≤20000:=by rw [List.length_map,List.length_take];omega
   clear hr
   revert q0 hks Gp HD
   generalize v.m[k].1=key
   intro q0 hks Gp HD
   have HA:=qI ((zb.refl [] wr).alloc (.cells #[.string key,.int .i64 kd,.int .i64 nm,.string st,.slice p1 i1 d1,.slice p2 i2 d2] 132))
   have hlook:=(HS.o.kept0 HA.o).look key (by omega)
   have Gw:=qI (pbox_at (w:=wr) rfl key kd nm st (.slice p1 i1 d1) (.slice p2 i2 d2) 132)
   have CV:=qI (QY (HT.o.kept0 (Ga.o.then HA.o)) key (by omega))
   revert hlook HD CV
   generalize ((v.m.take k).map (fun p=>p.1)).any (fun x=>decide (x=key))=r
   generalize zJ key=ok
   intro HD hlook CV
   cases r with
   | true=>
    go_wp2_with fail
    go_ret
    rw [← Gt.o,← HG.o,HD.o]
    exact⟨by simp,Ga.o.then HA.o⟩
   | false=>
    cases ok with
    | false=>
     go_wp2_with (go_at_call 202;refine CV.o.mono ?_;rintro e w2 ⟨rfl,hk2⟩)
     go_ret
     rw [← Gt.o,← HG.o,HD.o]
     exact⟨by simp,(Ga.o.then HA.o).then hk2⟩
    | true=>
     go_wp2_with (go_at_call 202;refine CV.o.mono ?_;rintro e w2 ⟨rfl,hk2⟩;have Gb:=qI (HA.o.then hk2);obtain⟨y0,-,-,-,-,-⟩:=Gw.o.kept0 hk2;obtain⟨w3,hput,hs3,hk3⟩:=(HS.o.kept0 Gb.o).put key (by omega) (by omega);have Gx:=qI hs3;have Gj:=qI hk3;clear hk2 hs3 hk3)
     case roundEnd=>
      refine⟨⟨k + 1,by go_num,by omega,?_,?_,?_⟩,by simp [intOf];omega⟩
      ·rw [Gp.o];exact Gx.o
      ·rw [← HG.o,HD.o,Gp.o];simp
      ·exact (Ga.o.then Gb.o).trans Gj.o (fun i hi=>by simp at hi;subst hi;exact .inr (Nat.le_refl _))
  ·obtain rfl:k=v.m.length:=by omega
   go_wp2_with fail
   go_ret
   rw [← Gt.o,← HG.o,List.drop_length]
   exact⟨rfl,Ga.o⟩
end Go.Proofs.YtibnfbglanpoiaaGreatDoor
