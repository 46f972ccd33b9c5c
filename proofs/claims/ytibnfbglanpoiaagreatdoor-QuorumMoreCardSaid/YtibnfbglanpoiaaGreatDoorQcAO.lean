/- Parts of one proof, merged: XJT XGU XED XTb XHb. -/
import Derived.Test.YtibnfbglanpoiaaGreatDoorQcAN
import Derived.Deep.Slices
import Derived.OpenShut
import Derived.Test.YtibnfbglanpoiaaGreatDoorQcR
import Derived.Test.YtibnfbglanpoiaaGreatDoorQcO
import Derived.Test.YtibnfbglanpoiaaGreatDoorQcAA
import Derived.Test.YtibnfbglanpoiaaGreatDoorQcY
import Derived.Test.YtibnfbglanpoiaaGreatDoorQcM
import Derived.Test.YtibnfbglanpoiaaGreatDoorQcJ
import Derived.Test.YtibnfbglanpoiaaGreatDoorRows
import Derived.LaidMore
import Derived.Stop.LaidErr
import Derived.MakeChecks
import Derived.Lib.LaidTab
import Derived.Lib.LaidU8T
import Derived.PinnedBridge
import Derived.Handed
set_option linter.all false
set_option maxHeartbeats 12800000
set_option maxRecDepth 10000
set_option linter.unusedVariables false
set_option linter.unusedSimpArgs false
set_option linter.unnecessarySimpa false
namespace Go.Proofs.YtibnfbglanpoiaaGreatDoor
open Go.Proofs.Tryz
open Go.RowKit
def strOfV:Value→ByteArray
 | .string s=>s
 | _=>⟨#[]⟩
section
variable {H : Type} {enc : TypeId × Value → H} {w : World} {held : Bool}
theorem trod_textsV {fuel:Nat}{v:Value}{x:DataW H × List MemPlace}(h:DataW.trod enc Tryz.prog w 0 (fun _=>true) held fuel 29 [v]=some x) {B:Nat}(hw:∀ k,k ∈ x.1.weights Tryz.prog 29→k≤B):∃ l:List ByteArray,xg w v l∧l.length≤B∧∀ s,s ∈ l→s.size≤B:=by
 obtain⟨n,xs,h1,h2,h3⟩:=vM underlying29 vR (by decide) h hw (by rw [show Tryz.prog.bytesOf 9=16 by kernel_rfl];decide)
 have hlen:xs.length=n:=by simpa using h1.1
 have hx:∀ i (hi:i < xs.length),∃ s:ByteArray,xs[i] = .string s∧s.size≤B:=by
  intro i hi
  rcases h3 with h0 | ⟨m,_,h3⟩
  ·omega
  obtain⟨y,hy,hwy⟩:=h3 i (by omega)
  rw [zas hi] at hy
  obtain⟨s,hs,fs,-⟩:=DataW.trod_string underlying9 hy
  have hs':xs[i] = .string s:=by simpa using hs
  have h9:=hwy s.data.toList.length (by rw [fs];show _ ∈ DataW.weights Tryz.prog 9 (.lit (.string s.data.toList));simp [DataW.weights])
  exact⟨s,hs',by simpa using h9⟩
 have e:(xs.map strOfV).map Value.string=xs:=by
  apply List.ext_getElem (by simp)
  intro i hi hi'
  obtain⟨s,hs,-⟩:=hx i hi'
  simp only [List.getElem_map]
  rw [hs]
  rfl
 refine⟨xs.map strOfV,?_,by simpa [hlen] using h2,fun s hs=>?_⟩
 ·unfold xg
  rw [e,List.length_map,hlen]
  exact h1
 ·obtain⟨u,hu,rfl⟩:=List.mem_map.1 hs
  obtain⟨i,hi,rfl⟩:=List.getElem_of_mem hu
  obtain⟨s,hs2,hb⟩:=hx i hi
  rw [hs2]
  exact hb
theorem jo {α:Type}{l:List α}(h:l.length=2):∃ a b,l=[a,b]:=by
 rcases l with _ | ⟨a,_ | ⟨b,_ | ⟨c,l⟩⟩⟩ <;> simp at h
 exact⟨a,b,rfl⟩
theorem trod_role {fuel:Nat}{cs:List Value}{x:DataW H × List MemPlace}(h:DataW.trod enc Tryz.prog w 0 (fun _=>true) held fuel 31 cs=some x) {B:Nat}(hw:∀ k,k ∈ x.1.weights Tryz.prog 31→k≤B):∃ (r:kf) (a:Option Addr) (c:Nat),cs=[.slice a r.keys.length c,.int .i64 r.thr]∧xg w (.slice a r.keys.length c) r.keys∧r.keys.length≤B∧∀ s,s ∈ r.keys→s.size≤B:=by
 obtain⟨xs,n,hfu,hxe,hl,hlen,hf⟩:=DataW.trod_struct underlying31 h
 rw [show Tryz.prog.cellsOf 31=2 by kernel_rfl] at hl
 obtain⟨c0,c1,rfl⟩:=jo hl
 obtain⟨y0,y1,rfl⟩:=jo hlen
 have h0:DataW.trod enc Tryz.prog w 0 (fun _=>true) held n 29 (([c0,c1].drop 0).take (Tryz.prog.cellsOf 29))=some y0:=hf 0 _ rfl
 have h1:DataW.trod enc Tryz.prog w 0 (fun _=>true) held n 3 (([c0,c1].drop 1).take (Tryz.prog.cellsOf 3))=some y1:=hf 1 _ rfl
 rw [show Tryz.prog.cellsOf 29=1 by kernel_rfl] at h0
 rw [YX] at h1
 obtain⟨l,ht,hb,hs⟩:=trod_textsV (v:=c0) (x:=y0) h0 (fun k hk=>hw k (by rw [hxe];exact xv (j:=0) (y:=y0) underlying31 rfl rfl hk))
 obtain⟨i,e1,_,w1⟩:=DataW.trod_int underlying3 (x:=y1) h1
 simp at e1
 subst e1
 obtain⟨a,c,rfl,-,-⟩:=ht.form
 exact⟨⟨l,i⟩,a,c,rfl,ht,hb,hs⟩
end
section
variable {H : Type} {enc : TypeId × Value → H} {w : World} {held : Bool}
theorem trod_key {fuel:Nat}{cs:List Value}{x:DataW H × List MemPlace}(h:DataW.trod enc Tryz.prog w 0 (fun _=>true) held fuel 47 cs=some x):∃ k:zP,cs=kT k∧(kx k.bits∧k.root.length=32):=by
 obtain⟨xs,n,hfu,hxe,hl,hlen,hf⟩:=DataW.trod_struct underlying47 h
 rw [show Tryz.prog.cellsOf 47=34 by kernel_rfl] at hl
 rcases cs with _ | ⟨c0,_ | ⟨c1,l⟩⟩
 ·cases hl
 ·cases hl
 have hll:l.length=32:=by simpa using hl
 rcases xs with _ | ⟨y0,_ | ⟨y1,_ | ⟨y2,ys⟩⟩⟩
 ·cases hlen
 ·cases hlen
 ·cases hlen
 have h0:DataW.trod enc Tryz.prog w 0 (fun _=>true) held n 3 (((c0 :: c1 :: l).drop 0).take (Tryz.prog.cellsOf 3))=some y0:=hf 0 _ rfl
 have h1:DataW.trod enc Tryz.prog w 0 (fun _=>true) held n 3 (((c0 :: c1 :: l).drop 1).take (Tryz.prog.cellsOf 3))=some y1:=hf 1 _ rfl
 have h2:DataW.trod enc Tryz.prog w 0 (fun _=>true) held n 45 (((c0 :: c1 :: l).drop 2).take (Tryz.prog.cellsOf 45))=some y2:=hf 2 _ rfl
 rw [YX] at h0 h1
 rw [show Tryz.prog.cellsOf 45=32 by kernel_rfl,show (c0 :: c1 :: l).drop 2=l from rfl,List.take_of_length_le (by omega)] at h2
 obtain⟨b,e0,_,w0⟩:=DataW.trod_int underlying3 (x:=y0) h0
 obtain⟨g,e1,_,w1⟩:=DataW.trod_int underlying3 (x:=y1) h1
 obtain rfl:c0 = .int .i64 b:=by simpa using e0
 obtain rfl:c1 = .int .i64 g:=by simpa using e1
 obtain⟨zs,m,_,_,_,hzs,hi⟩:=DataW.trod_array underlying45 h2
 rw [show Tryz.prog.cellsOf 5=1 by kernel_rfl] at hi
 have e:(l.map Zi).map bv=l:=by
  apply List.ext_getElem (by simp)
  intro i q1 q2
  have q3:=hi i (by omega)
  rw [zas q2,List.getElem?_eq_getElem (by omega)] at q3
  obtain⟨z,e2,_,w2⟩:=DataW.trod_int underlying5 q3
  have e3:l[i] = .int .u8 z:=by simpa using e2
  simp only [List.getElem_map]
  rw [e3]
  exact byteOfV_wf w2
 refine⟨⟨b,g,l.map Zi⟩,?_,?_,?_⟩
 ·show _=Value.int .i64 b :: .int .i64 g :: (l.map Zi).map bv
  rw [e]
 ·unfold Lit.wf at w0
  simp only [Bool.and_eq_true,decide_eq_true_eq] at w0
  exact⟨w0.1,w0.2⟩
 ·show (l.map Zi).length=32
  rw [List.length_map,hll]
end
theorem Y5 {α:Type}{size:Nat}{cell:α→List Value}{Q:α→Prop}:∀ (n:Nat) (xs:List Value),xs.length=n * size→(∀ i,i < n→∃ a,(xs.drop (i * size)).take size=cell a∧Q a)→∃ l:List α,l.length=n∧l.flatMap cell=xs∧∀ a,a ∈ l→Q a
 | 0,xs,hl,_=>⟨[],rfl,by rw [Nat.zero_mul] at hl;rw [List.eq_nil_of_length_eq_zero hl];rfl,fun _ h=>(nomatch h)⟩
 | n + 1,xs,hl,h=>by
  obtain⟨a,h1,h2⟩:=h 0 (by omega)
  rw [Nat.zero_mul,List.drop_zero] at h1
  obtain⟨l,h3,h4,h5⟩:=Y5 (size:=size) (cell:=cell) (Q:=Q) n (xs.drop size) (by rw [List.length_drop,hl,Nat.add_mul];omega) (fun i hi=>by
   obtain⟨b,h6,h7⟩:=h (i + 1) (by omega)
   refine⟨b,?_,h7⟩
   rw [List.drop_drop,← h6]
   congr 2
   rw [Nat.add_mul]
   omega)
  refine⟨a :: l,by simp [h3],?_,fun b hb=>?_⟩
  ·rw [List.flatMap_cons,h4,← h1,List.take_append_drop]
  ·rcases List.mem_cons.1 hb with rfl | hb
   ·exact h2
   ·exact h5 b hb
section
variable {H : Type} {enc : TypeId × Value → H} {w : World} {held : Bool}
theorem Qr {fuel:Nat}{cs:List Value}{x:DataW H × List MemPlace}(h:DataW.trod enc Tryz.prog w 0 (fun _=>true) held fuel 40 cs=some x) {B:Nat}(hw:∀ k,k ∈ x.1.weights Tryz.prog 40→k≤B):∃ r:yh,cs=r.enc∧(r.id.size≤B∧r.sig.size≤B):=by
 obtain⟨xs,n,hfu,hxe,hl,hlen,hf⟩:=DataW.trod_struct underlying40 h
 rw [show Tryz.prog.cellsOf 40=2 by kernel_rfl] at hl
 obtain⟨c0,c1,rfl⟩:=jo hl
 obtain⟨y0,y1,rfl⟩:=jo hlen
 have h0:DataW.trod enc Tryz.prog w 0 (fun _=>true) held n 9 (([c0,c1].drop 0).take (Tryz.prog.cellsOf 9))=some y0:=hf 0 _ rfl
 have h1:DataW.trod enc Tryz.prog w 0 (fun _=>true) held n 9 (([c0,c1].drop 1).take (Tryz.prog.cellsOf 9))=some y1:=hf 1 _ rfl
 rw [vR] at h0 h1
 obtain⟨s,e0,f0,-⟩:=DataW.trod_string underlying9 h0
 obtain⟨t,e1,f1,-⟩:=DataW.trod_string underlying9 h1
 obtain rfl:c0 = .string s:=by simpa using e0
 obtain rfl:c1 = .string t:=by simpa using e1
 have q0:=hw s.data.toList.length (by rw [hxe];exact xv (j:=0) (y:=y0) underlying40 rfl rfl (by rw [f0];show _ ∈ DataW.weights Tryz.prog 9 (.lit (.string s.data.toList));simp [DataW.weights]))
 have q1:=hw t.data.toList.length (by rw [hxe];exact xv (j:=1) (y:=y1) underlying40 rfl rfl (by rw [f1];show _ ∈ DataW.weights Tryz.prog 9 (.lit (.string t.data.toList));simp [DataW.weights]))
 exact⟨⟨s,t⟩,rfl,by simpa using q0,by simpa using q1⟩
theorem trod_sigs {fuel:Nat}{v:Value}{x:DataW H × List MemPlace}(h:DataW.trod enc Tryz.prog w 0 (fun _=>true) held fuel 26 [v]=some x) {B:Nat}(hw:∀ k,k ∈ x.1.weights Tryz.prog 26→k≤B):∃ l:List yh,xZ w v l∧l.length≤B∧∀ r,r ∈ l→r.id.size≤B∧r.sig.size≤B:=by
 obtain⟨n,xs,h1,h2,h3⟩:=vM underlying26 (show Tryz.prog.cellsOf 40=2 by kernel_rfl) (by decide) h hw (by rw [show Tryz.prog.bytesOf 40=32 by kernel_rfl];decide)
 obtain⟨l,hl,hx,hq⟩:=Y5 (cell:=yh.enc) (Q:=fun r=>r.id.size≤B∧r.sig.size≤B) n xs h1.1 (fun i hi=>by
  rcases h3 with h0 | ⟨m,_,h3⟩
  ·omega
  obtain⟨y,hy,hwy⟩:=h3 i hi
  exact Qr hy hwy)
 refine⟨l,?_,by omega,hq⟩
 unfold xZ xV
 rw [hl,hx]
 exact h1
theorem trod_keyrow {fuel:Nat}{cs:List Value}{x:DataW H × List MemPlace}(h:DataW.trod enc Tryz.prog w 0 (fun _=>true) held fuel 49 cs=some x):∃ r:xT,cs=r.enc∧r.fine:=by
 obtain⟨xs,n,hfu,hxe,hl,hlen,hf⟩:=DataW.trod_struct underlying49 h
 rw [show Tryz.prog.cellsOf 49=35 by kernel_rfl] at hl
 rcases cs with _ | ⟨c0,l⟩
 ·cases hl
 have hll:l.length=34:=by simpa using hl
 obtain⟨y0,y1,rfl⟩:=jo hlen
 have h0:DataW.trod enc Tryz.prog w 0 (fun _=>true) held n 9 (((c0 :: l).drop 0).take (Tryz.prog.cellsOf 9))=some y0:=hf 0 _ rfl
 have h1:DataW.trod enc Tryz.prog w 0 (fun _=>true) held n 47 (((c0 :: l).drop 1).take (Tryz.prog.cellsOf 47))=some y1:=hf 1 _ rfl
 rw [vR] at h0
 rw [show Tryz.prog.cellsOf 47=34 by kernel_rfl,show (c0 :: l).drop 1=l from rfl,List.take_of_length_le (by omega)] at h1
 obtain⟨s,e0,-,-⟩:=DataW.trod_string underlying9 h0
 obtain rfl:c0 = .string s:=by simpa using e0
 obtain⟨k,rfl,hk⟩:=trod_key h1
 exact⟨⟨s,k⟩,rfl,hk.2,hk.1⟩
theorem trod_keys {fuel:Nat}{v:Value}{x:DataW H × List MemPlace}(h:DataW.trod enc Tryz.prog w 0 (fun _=>true) held fuel 32 [v]=some x) {B:Nat}(hw:∀ k,k ∈ x.1.weights Tryz.prog 32→k≤B):∃ l:List xT,Slc w 35 v l.length (vY l)∧l.length≤B∧∀ r,r ∈ l→r.fine:=by
 obtain⟨n,xs,h1,h2,h3⟩:=vM underlying32 (show Tryz.prog.cellsOf 49=35 by kernel_rfl) (by decide) h hw (by rw [show Tryz.prog.bytesOf 49=64 by kernel_rfl];decide)
 obtain⟨l,hl,hx,hq⟩:=Y5 (cell:=xT.enc) (Q:=xT.fine) n xs h1.1 (fun i hi=>by
  rcases h3 with h0 | ⟨m,_,h3⟩
  ·omega
  obtain⟨y,hy,hwy⟩:=h3 i hi
  exact trod_keyrow hy)
 refine⟨l,?_,by omega,hq⟩
 unfold vY
 rw [hl,hx]
 exact h1
theorem trod_room {P:Program}{t e:TypeId}(ht:P.underlying t=some (.slice e)) {fuel:Nat}{v:Value}{x:DataW H × List MemPlace}{B:Nat}(h:DataW.trod enc P w 0 (fun _=>true) held fuel t [v]=some x) (hw:∀ k,k ∈ x.1.weights P t→k≤B):∃ a len cap,v = .slice a len cap∧len * P.bytesOf e≤B:=by
 rcases DataW.trod_slice ht h with ⟨hcs,_⟩ | ⟨a,len,cap,elems,rest,m,hfuel,hcs,hxe,_,hl,hm,hel,hx,_⟩
 ·obtain rfl:v = .slice none 0 0:=by simpa using hcs
  exact⟨none,0,0,rfl,by omega⟩
 ·obtain rfl:v = .slice (some a) len cap:=by simpa using hcs
  refine⟨some a,len,cap,rfl,?_⟩
  rw [hxe] at hw
  have hwe:(DataW.slice (elems.map (·.1)) (rest.map (·.1)):DataW H).weights P t=((elems.map (·.1)).length + (rest.map (·.1)).length) * P.bytesOf e :: (DataW.weightsAll P e (elems.map (·.1)) ++ DataW.weightsAll P e (rest.map (·.1))):=by
   rw [DataW.weights,ht]
  simp only at hw
  rw [hwe] at hw
  have h1:=hw _ (List.mem_cons_self ..)
  rw [List.length_map,List.length_map,hel] at h1
  exact Nat.le_trans (Nat.mul_le_mul_right _ (Nat.le_add_right _ _)) h1
theorem six_cells {α:Type}{l:List α}(h:l.length=6):∃ a b c d e f,l=[a,b,c,d,e,f]:=by
 rcases l with _ | ⟨a,_ | ⟨b,_ | ⟨c,_ | ⟨d,_ | ⟨e,_ | ⟨f,_ | ⟨g,l⟩⟩⟩⟩⟩⟩⟩ <;> simp at h
 exact⟨a,b,c,d,e,f,rfl⟩
theorem trod_env {fuel:Nat}{cs:List Value}{x:DataW H × List MemPlace}(h:DataW.trod enc Tryz.prog w 0 (fun _=>true) held fuel 28 cs=some x) {B:Nat}(hB:B≤BB) (hw:∀ k,k ∈ x.1.weights Tryz.prog 28→k≤B) :
  ∃ (n:Nat) (v:V n) (vcs:List Value) (a:Option Addr) (c:Nat) (l:List yh),cs=vt vcs a l.length c∧vu n BB (fun g=>g < w.heap.size) w vcs v∧xZ w (.slice a l.length c) l∧(∀ r,r ∈ l→r.id.size≤B∧r.sig.size≤B)∧l.length≤B∧l.length * 32≤B:=by
 obtain⟨xs,n,hfu,hxe,hl,hlen,hf⟩:=DataW.trod_struct underlying28 h
 rw [show Tryz.prog.cellsOf 28=6 by kernel_rfl] at hl
 obtain⟨c0,c1,c2,c3,c4,c5,rfl⟩:=six_cells hl
 obtain⟨y0,y1,rfl⟩:=jo hlen
 have h0:DataW.trod enc Tryz.prog w 0 (fun _=>true) held n 25 (([c0,c1,c2,c3,c4,c5].drop 0).take (Tryz.prog.cellsOf 25))=some y0:=hf 0 _ rfl
 have h1:DataW.trod enc Tryz.prog w 0 (fun _=>true) held n 26 (([c0,c1,c2,c3,c4,c5].drop 5).take (Tryz.prog.cellsOf 26))=some y1:=hf 1 _ rfl
 rw [show Tryz.prog.cellsOf 25=5 by kernel_rfl] at h0
 rw [show Tryz.prog.cellsOf 26=1 by kernel_rfl] at h1
 obtain⟨v,hv⟩:=trod_value n h0 (B:=BB) (fun k hk=>Nat.le_trans (hw k (by rw [hxe];exact xv (j:=0) (y:=y0) underlying28 rfl rfl hk)) hB)
 obtain⟨l,hs,hn,hz⟩:=trod_sigs (v:=c5) h1 (fun k hk=>hw k (by rw [hxe];exact xv (j:=1) (y:=y1) underlying28 rfl rfl hk))
 obtain⟨a',len,cap,e9,hroom⟩:=trod_room (v:=c5) underlying26 h1 (fun k hk=>hw k (by rw [hxe];exact xv (j:=1) (y:=y1) underlying28 rfl rfl hk))
 rw [show Tryz.prog.bytesOf 40=32 by kernel_rfl] at hroom
 obtain⟨a,c,rfl,-,-⟩:=hs.form
 obtain rfl:l.length=len:=by simp only [Value.slice.injEq] at e9;exact e9.2.1
 exact⟨n,v,_,a,c,l,rfl,hv,hs,hz,hn,hroom⟩
end
def jf : List (String × DataW Unit) := [("math/bits.deBruijn32tab", Rows.laid_math_bits_deBruijn32tab), ("math/bits.deBruijn64tab", Rows.laid_math_bits_deBruijn64tab), ("internal/strconv.uint64pow10", Rows.laid_internal_strconv_uint64pow10), ("unicode/utf8.acceptRanges", Rows.laid_unicode_utf8_acceptRanges), ("pursuivant/sha.constants", Rows.laid_pursuivant_sha_constants), ("unicode/utf8.first", Rows.laid_unicode_utf8_first)]
theorem gPow : Tryz.prog.globalNamed "internal/strconv.uint64pow10" = some 4 := by kernel_rfl
theorem gKs : Tryz.prog.globalNamed "pursuivant/sha.constants" = some 0 := by kernel_rfl
theorem first_eq:Rows.laid_unicode_utf8_first=Lib.firstData:=Pinned.utf8First_eq
theorem accept_eq:Rows.laid_unicode_utf8_acceptRanges=Lib.acceptData:=by kernel_rfl
theorem pow_eq:(Rows.laid_internal_strconv_uint64pow10:DataW Unit)=Lib.tabData .u64 Lib.pow10Tab:=by kernel_rfl
theorem ks_eq:(Rows.laid_pursuivant_sha_constants:DataW Unit)=Lib.tabData .u32 KS:=by kernel_rfl
theorem tabs_of_laid {W:World}(hL:laidMetH Tryz.prog jf W):ql W:=by
 rw [MakeChecks.laidMetH_plain _ _ _ (by kernel_rfl)] at hL
 have r1 : ("unicode/utf8.first", Lib.firstData) ∈ jf := by rw [← first_eq]; simp [jf]
 have r2 : ("unicode/utf8.acceptRanges", Lib.acceptData) ∈ jf := by rw [← accept_eq]; simp [jf]
 refine⟨utf8Tabs_of_readsT (U8Types.of260 { Tryz.shDecode with }) ⟨by kernel_rfl,by kernel_rfl,by kernel_rfl,by kernel_rfl,by kernel_rfl,by kernel_rfl,by kernel_rfl⟩ (Lib.laidMet.reads hL r1) (Lib.laidMet.reads hL r2),?_⟩
 have h3:=hL.tail.tail
 rw [show (Rows.laid_internal_strconv_uint64pow10:DataW Unit)=Lib.tabData .u64 Lib.pow10Tab from pow_eq] at h3
 exact Lib.tabIs_of_head gPow (by kernel_rfl) underlying272 underlying226 (by kernel_rfl) (by kernel_rfl) h3
theorem ksIs_of_laid {W : World} (hL : laidMetH Tryz.prog jf W) : Lib.TabIs Tryz.prog W "pursuivant/sha.constants" .u32 KS := by
 rw [MakeChecks.laidMetH_plain _ _ _ (by kernel_rfl)] at hL
 have h3:=hL.tail.tail.tail.tail
 rw [show (Rows.laid_pursuivant_sha_constants:DataW Unit)=Lib.tabData .u32 KS from ks_eq] at h3
 exact Lib.tabIs_of_head gKs (by kernel_rfl) underlying169 underlying134 (by kernel_rfl) (by kernel_rfl) h3
theorem ks_of_laid {W:World}(hL:laidMetH Tryz.prog jf W):xz W:=by
 have h:=ksIs_of_laid hL
 unfold Lib.TabIs World.var? at h
 rw [gKs] at h
 simp only [Option.bind_some] at h
 split at h
 ·rename_i cs t f hb
  have hc:=Option.some.inj h
  subst hc
  intro j v hv
  rw [Nat.zero_add]
  refine za hb ?_
  rw [List.getElem?_toArray]
  have e:zO KS 0=KS.map (fun z=>Value.int .u32 z):=by unfold zO;rw [List.replicate_zero,List.append_nil];rfl
  rw [e] at hv
  exact hv
 ·cases h
section
variable {H : Type} {enc : TypeId × Value → H}
theorem K6 {a:Assume}{C:Checked}{os:Os}{f:FuncId}{fn:Func}{s:ChangeSpec}{conds:List PathCond}{apart fresh handsOn again:Bool}{X:World→Array Value→Prop}
  (hX:∀ (w w':World) (args:Array Value),w.heap=w'.heap→X w args→X w' args)
  (own:ownKnob C.prog.godebug=none) (started:os.Started) (noInit:C.prog.inits.idxOf? f=none) (hfn:C.prog.funcs[f]? = some fn)
  (witness:∃ (w:World) (tape:Tape) (i:Input),w.os=os∧(w.forCall tape i).Shaped C.prog∧i.vars=[]∧Input.okWide C.prog (w.forCall tape i) .any w.heap.size f i ∧
   ((s.pre enc C.prog fn conds apart (w.forCall tape i).memory i.args∧X (w.forCall tape i).memory i.args)∧sizedMet enc C.prog fn (OpenSpec.ofChange s) apart (w.forCall tape i).memory i.args)∧a.holds C.prog (lone (Frame.enter C.prog f i.args .normal) [] (w.forCall tape i)))
  (contract:∀ (W:World) (base:Nat) (args:Array Value) (ds gs:List (DataW H)) (before:List MemPlace),
   (∀ (j:Nat) t v,fn.params[j]? = some t→args[j]? = some v→Value.okWide C.prog W .any base t v) →
   DataW.Whole enc C.prog fn.params.toList s.vars apart W args.toList ds gs before →
   (DataW.weightsEach C.prog (fn.params.toList ++ s.plain.varTypes C.prog) (ds ++ gs)).all (· ≤ reachBytes)=true→X W args →
   W.ShapedOpen C.prog →
   Calls C.prog f args W fun e W'=>∃ v,e = .returned v∧s.post enc C.prog fn apart fresh handsOn again W args v W') :
  ReturnsInHanded a C os f .any (fun w args=>(s.pre enc C.prog fn conds apart w args∧X w args)∧sizedMet enc C.prog fn (OpenSpec.ofChange s) apart w args) (s.post enc C.prog fn apart fresh handsOn again):=by
 refine returnsInHanded_of_calls own started noInit witness ?_
 intro w tape i _ hsh _ hok hpre _
 obtain⟨_,_,_,fn',hfn',_,_,_,_,hval⟩:=hok
 obtain rfl:fn'=fn:=Option.some.inj (hfn'.symm.trans hfn)
 obtain⟨⟨⟨ds,gs,before,hw,-⟩,hx⟩,hz⟩:=hpre
 refine (contract (w.forCall tape i) w.heap.size i.args ds gs before hval (DataW.Whole.of_heap (by rfl) hw) (hz.weights hw) (hX _ _ _ (by rfl) hx) hsh).mono fun e W' h9=>?_
 obtain⟨v,rfl,hp⟩:=h9
 exact ChangeSpec.post_blind hp
end
end Go.Proofs.YtibnfbglanpoiaaGreatDoor
