/- Parts of one proof, merged: XBM XBR. -/
import Derived.Test.YtjccecajigmfkaaGreatDoorSgAD
set_option linter.all false
set_option maxHeartbeats 12800000
set_option maxRecDepth 10000
namespace Go.Proofs.YtjccecajigmfkaaGreatDoor
open Go.Proofs.Tryz
open Go.RowKit
open Go.Maps (Keyed)
variable {k:yX}{la:Value}{n:Nat}{sa:Value}{size:Nat}{v:Value}{w:World}{xs:List Value}
theorem zaF {g:Nat}{q:Value}(h:xZ w g sa la k q)(l:k.root.length=32) : zJ w 18 #[.pointer (some ⟨g,0,none⟩)] (.agg (yU k)):=by
 obtain⟨m,d⟩:=XE (w.alloc (.cells (yU jx) 51));have f:Hid (zb [] w m):=qI (kA1 d.o);have u:Hid (yR m w.heap.size jx):=qI (by rw [d.o];exact ze rfl);have t:=qI (h.k0 f.o).key;have e:=qI l;have p:Hid (jx.root.length=32):=qI Wk;clear h l;go_enter func18,ntmps18;go_upto_region 1 with fail;refine xg d.o ?_;go_wp2_with first
  | (refine wpList_loadK Wk (.tmp 8) Wk (g:=g) (of:=2) t.o e.o Wk ?_)
  | (refine Yz Wk (.tmp 2) (.tmp 9) Wk (g:=w.heap.size) (k:=k) (k0:=jx) u.o p.o e.o Wk Wk ?_;intro x n b;have r:=qI n;have s:=qI b;clear n b;simp only [Act.put])
 have a:=r.o.var e.o;refine bodyPost_ret (v:=.agg (yU k)) (by simp only [results,results18];simp [a,Sem.run_bind,asAddr,Act.put]) rfl ?_;exact⟨rfl,f.o.trans s.o (by intro i j;simp at j;subst j;exact .inr (XA))⟩
theorem zbE (w:World)(g:Nat)(d:Option Addr)(a cm:Nat)(hm:a≤1048576) : Calls prog 92 #[.pointer (some ⟨g,0,none⟩),.slice d a cm] w fun e w'=>e = .returned (.int .i64 0)∧w=w':=by
 have b:(a:Int)≤1048576:=Ws;have hd:decide ((1048576:Int)<(a:Int))=false:=decide_eq_false Ws;clear hm;go_enter func92,ntmps92;go_wp2;go_ret;exact⟨rfl,rfl⟩
theorem used_any {g j:Nat}{M:Lit→Option Value}(h:xZ w g sa la k (.map (some j)))(d:k.root.length=32)(hm:kO prog w 3 j n M)(i:Nat)(p:i≤1000)(l:∀ v,M (.int .i64 i)=some v→∃ s,v = .string s) : Calls prog 93 #[.pointer (some ⟨g,0,none⟩),.int .i64 i] w fun e w'=>e = .returned (.bool (M (.int .i64 i)).isSome)∧w=w':=by
 have f:(Lit.int .i64 i).wf=true:=by have m:IntKind.i64.min = -9223372036854775808:=rfl;have h2:IntKind.i64.max=9223372036854775807:=rfl;simp only [Lit.wf,m,h2,Bool.and_eq_true,decide_eq_true_eq];omega
 have a:=(hm.at.lookup keyInt underlying77 (z:=.string ⟨#[]⟩) (zeroValue9 w) (Maps.keyOf_int_mk underlying3 f)).1;have cm:=h.cm d;clear h hm f d;generalize M (.int .i64 i)=o at a l ⊢;generalize o.isSome=b at a ⊢;generalize o.getD (.string ⟨#[]⟩)=v at a;go_enter func93,ntmps93;go_wp2;go_ret;exact⟨rfl,rfl⟩
attribute [local go_sem] Oper.semAt_some
structure Sgn (w:World)(sg:Nat)(sa la:Option Addr)(sc lc mb n:Nat)(M:Lit→Option Value):Prop where
 box:xZ w sg (.slice sa 1 sc) (.slice la 2 lc) (k8 rootQ) (.map (some mb))
 seed:zp w (.slice sa 1 sc) [113]
 leaves:Slc w 32 (.slice la 2 lc) 2 ((leavesQ 2).map bv)
 used:kO prog w 3 mb n M
theorem slc_nomap (h:Slc w size v n xs)(k:xs≠[]){g:Nat}(b:yx v=some g):kind w g≠1:=by
 rcases h.2 with ⟨rfl,_⟩ | ⟨rfl,a,cap,rfl,_⟩ | ⟨e,o,cap,rfl,_,_,i⟩;·simp [yx] at b
 ·simp [yx] at b
 ·have j:=(vj b).2;obtain rfl:e=g:=by simpa [Value.ownBlock] using j
  obtain⟨x,l,rfl⟩:=List.exists_cons_of_ne_nil k;have d:=i.cells 0 x rfl;intro m;cases f:w.heap[e]? with
  | none=>simp [World.cell?,f] at d
  | some ob=>cases ob <;> simp [World.cell?,kind,f] at d m
theorem zax (h:Slc w size v n xs){g t:Nat}{b:Array Value}{f:Nat×Nat}(k:w.heap[g]? = some (.cells b t f))(j:b.size<n*size):yx v≠some g:=by
 intro e;have d:b.size<xs.length:=by rw [h.1];exact j
 rcases h.2 with ⟨rfl,_⟩ | ⟨rfl,a,cap,rfl,_⟩ | ⟨l,o,cap,rfl,_,_,i⟩;·simp [yx] at e
 ·simp [yx] at e
 ·obtain rfl:l=g:=by simpa [Value.ownBlock] using (vj e).2
  have m:=i.cells b.size xs[b.size] (by simp [d]);simp [World.cell?,k] at m
end Go.Proofs.YtjccecajigmfkaaGreatDoor
