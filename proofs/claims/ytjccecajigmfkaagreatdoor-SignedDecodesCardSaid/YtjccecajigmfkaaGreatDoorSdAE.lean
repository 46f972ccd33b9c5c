/- Parts of one proof, merged: XBM XBR. -/
import Derived.Test.YtjccecajigmfkaaGreatDoorSdAD
set_option linter.all false
set_option maxHeartbeats 12800000
set_option maxRecDepth 10000
namespace Go.Proofs.YtjccecajigmfkaaGreatDoor
open Go.Proofs.Tryz
open Go.RowKit
open Go.Maps (Keyed)
variable {k:yY}{la:Value}{n:Nat}{sa:Value}{size:Nat}{v:Value}{w:World}{xs:List Value}
theorem zbK {g:Nat}{t:Value}(h:qc w g sa la k t)(l:k.root.length=32) : zG w 18 #[.pointer (some ⟨g,0,none⟩)] (.agg (yV k)):=by
 obtain⟨n,d⟩:=XE (w.alloc (.cells (yV jJ) 51));have m:Hid (zb [] w n):=qI (kA1 d.o);have u:Hid (yS n w.heap.size jJ):=qI (by rw [d.o];exact zd rfl);have p:=qI (h.k0 m.o).key;have e:=qI l;have r:Hid (jJ.root.length=32):=qI Wk;clear h l;go_enter func18,ntmps18;go_upto_region 1 with fail;refine yZ d.o ?_;go_wp2_with first
  | (refine wpList_loadK Wk (.tmp 8) Wk (g:=g) (of:=2) p.o e.o Wk ?_)
  | (refine Y4 Wk (.tmp 2) (.tmp 9) Wk (g:=w.heap.size) (k:=k) (k0:=jJ) u.o r.o e.o Wk Wk ?_;intro x j a;have q:=qI j;have s:=qI a;clear j a;simp only [Act.put])
 have b:=q.o.var e.o;refine bodyPost_ret (v:=.agg (yV k)) (by simp only [results,results18];simp [b,Sem.run_bind,asAddr,Act.put]) rfl ?_;exact⟨rfl,m.o.trans s.o (by intro i f;simp at f;subst f;exact .inr (XA))⟩
theorem zbB (w:World)(g:Nat)(b:Option Addr)(a cm:Nat)(hm:a≤1048576) : Calls prog 92 #[.pointer (some ⟨g,0,none⟩),.slice b a cm] w fun e w'=>e = .returned (.int .i64 0)∧w=w':=by
 have d:(a:Int)≤1048576:=Ws;have hd:decide ((1048576:Int)<(a:Int))=false:=XO Ws;clear hm;go_enter func92,ntmps92;go_wp2;go_ret;exact⟨rfl,rfl⟩
theorem used_any {g j:Nat}{M:Lit→Option Value}(h:qc w g sa la k (.map (some j)))(d:k.root.length=32)(hm:jg prog w 3 j n M)(i:Nat)(p:i≤1000)(m:∀ v,M (.int .i64 i)=some v→∃ s,v = .string s) : Calls prog 93 #[.pointer (some ⟨g,0,none⟩),.int .i64 i] w fun e w'=>e = .returned (.bool (M (.int .i64 i)).isSome)∧w=w':=by
 have f:(Lit.int .i64 i).wf=true:=by have l:IntKind.i64.min = -9223372036854775808:=rfl;have h2:IntKind.i64.max=9223372036854775807:=rfl;simp only [Lit.wf,l,h2,XR,Xa];omega
 have a:=(hm.at.lookup keyInt underlying77 (z:=.string ⟨#[]⟩) (zeroValue9 w) (Maps.keyOf_int_mk underlying3 f)).1;have cm:=h.cm d;clear h hm f d;generalize M (.int .i64 i)=o at a m ⊢;generalize o.isSome=b at a ⊢;generalize o.getD (.string ⟨#[]⟩)=v at a;go_enter func93,ntmps93;go_wp2;go_ret;exact⟨rfl,rfl⟩
attribute [local go_sem] Oper.semAt_some
structure Sgn (w:World)(sg:Nat)(sa la:Option Addr)(sc lc mb n:Nat)(M:Lit→Option Value):Prop where
 box:qc w sg (.slice sa 1 sc) (.slice la 2 lc) (k8 rootQ) (.map (some mb))
 seed:zm w (.slice sa 1 sc) [113]
 leaves:Slc w 32 (.slice la 2 lc) 2 ((leavesQ 2).map bv)
 used:jg prog w 3 mb n M
theorem slc_nomap (h:Slc w size v n xs)(j:xs≠[]){g:Nat}(b:yt v=some g):kind w g≠1:=by
 rcases h.2 with ⟨rfl,_⟩ | ⟨rfl,a,cap,rfl,_⟩ | ⟨e,o,cap,rfl,_,_,i⟩;·simp [yt] at b
 ·simp [yt] at b
 ·have k:=(vu b).2;obtain rfl:e=g:=by simpa [Value.ownBlock] using k
  obtain⟨x,l,rfl⟩:=List.exists_cons_of_ne_nil j;have f:=i.cells 0 x rfl;intro m;cases d:w.heap[e]? with
  | none=>simp [World.cell?,d] at f
  | some ob=>cases ob <;> simp [World.cell?,kind,d] at f m
theorem za2 (h:Slc w size v n xs){g t:Nat}{b:Array Value}{f:Nat×Nat}(k:w.heap[g]? = some (.cells b t f))(j:b.size<n*size):yt v≠some g:=by
 intro d;have e:b.size<xs.length:=by rw [h.1];exact j
 rcases h.2 with ⟨rfl,_⟩ | ⟨rfl,a,cap,rfl,_⟩ | ⟨l,o,cap,rfl,_,_,i⟩;·simp [yt] at d
 ·simp [yt] at d
 ·obtain rfl:l=g:=by simpa [Value.ownBlock] using (vu d).2
  have m:=i.cells b.size xs[b.size] (by simp [e]);simp [World.cell?,k] at m
end Go.Proofs.YtjccecajigmfkaaGreatDoor
