/- Parts of one proof, merged: XBS XBT. -/
import Derived.Test.YtjccecajigmfkaaGreatDoorSgAE
set_option linter.all false
set_option maxHeartbeats 12800000
set_option maxRecDepth 10000
namespace Go.Proofs.YtjccecajigmfkaaGreatDoor
open Go.Proofs.Tryz
open Go.RowKit
attribute [local go_sem] Oper.semAt_some
attribute [local go_sem] Oper.semAt_some
variable {v:Value}{w:World}
theorem tySigs:xG prog 26 38 2 32 (.agg #[.string ByteArray.empty,.string ByteArray.empty]):=⟨underlying26,Wr,rfl,Wo⟩
theorem rows_one (l:List yh):∀ u∈jH l,u.oneCell'=true:=by
 intro u a;unfold jH at a;obtain⟨x,-,b⟩:=List.mem_flatMap.1 a;simp only [yh.enc,List.mem_cons,List.not_mem_nil,or_false] at b;rcases b with rfl | rfl <;> rfl
@[go_sem] theorem eqlNilRows (w:World)(a:Option Addr)(n c:Nat):(binOp .eql 26 (.slice a n c) (.slice none 0 0)).run prog w = .ok (.bool a.isNone) w:=Lib.run_eql_slice_nil w _ _ a n c 0 0 underlying26
theorem cloneRows_any {l:List yh}(h:xT w v l)(p:l.length≤1000000) : Calls prog 50 #[v] w fun e w'=>(∃ a c,e = .returned (.slice a l.length c)∧w'.ownsRow w.heap.size 38 2 (.slice a l.length c) l.length (jH l))∧zb [] w w':=by
 rcases h.2 with ⟨rfl,j⟩ | h2;·have:l=[]:=List.eq_nil_of_length_eq_zero j;subst this;go_enter func50,ntmps50;go_wp2;go_ret;exact⟨⟨_,_,rfl,World.ownsRow_nil _ _ _ _⟩,Wd⟩
 ·obtain⟨k,cap,rfl⟩:∃ k cap,v = .slice (some k) l.length cap:=by
   rcases h2 with ⟨j,a,c,rfl,_⟩ | ⟨g,o,c,rfl,_⟩;·exact⟨a,c,by rw [j]⟩
   ·exact⟨_,_,rfl⟩
  have m:=(zb.refl [] w).alloc (.cells #[] 38);have f:=Ki (size:=2) (base:=w.heap.size) (t:=38) w rfl (XA);have d:=Slc.k0 h m;go_enter func50,ntmps50;go_wp2_with (at_builtin;refine zG tySigs f d (rows_one l) (by simp only [maxLen];omega) Ws Wz rfl _ _ rfl rfl rfl ?_;intro u s b i _ n);rw [Nat.zero_add,List.nil_append] at b;obtain⟨q,r,rfl,-,-⟩:=(Slc.of_row b).form;go_ret;exact⟨⟨_,_,rfl,b⟩,m.trans i (by simp [Value.ownBlock])⟩
def JE (w:World)(g:Nat)(a b c d e f:Value):World:=(((((w.setCell ⟨g,0,none⟩ a).setCell ⟨g,1,none⟩ b).setCell ⟨g,2,none⟩ c).setCell ⟨g,3,none⟩ d).setCell ⟨g,4,none⟩ e).setCell ⟨g,5,none⟩ f
theorem Zg (w:World)(g:Nat)(a b c d e f:Value):zb [g] w (JE w g a b c d e f):=((((((zb.refl [g] w).setCell (.inl Wz) _).setCell (.inl Wz) _).setCell (.inl Wz) _).setCell (.inl Wz) _).setCell (.inl Wz) _).setCell (.inl Wz) _
theorem Ks {g:Nat}{c0 c1 c2 c3 c4 c5:Value}{t:Nat}{z:Nat×Nat}(h:w.heap[g]? = some (.cells #[c0,c1,c2,c3,c4,c5] t z))(a b c d e f:Value):(JE w g a b c d e f).heap[g]? = some (.cells #[a,b,c,d,e,f] t z):=by
 unfold JE;have l:=zd (i:=0) (v:=a) (d:=#[a,c1,c2,c3,c4,c5]) h rfl;have h2:=zd (i:=1) (v:=b) (d:=#[a,b,c2,c3,c4,c5]) l rfl;have h3:=zd (i:=2) (v:=c) (d:=#[a,b,c,c3,c4,c5]) h2 rfl;have k:=zd (i:=3) (v:=d) (d:=#[a,b,c,d,c4,c5]) h3 rfl;have j:=zd (i:=4) (v:=e) (d:=#[a,b,c,d,e,c5]) k rfl;exact zd (i:=5) (v:=f) (d:=#[a,b,c,d,e,f]) j rfl
abbrev jG (w:World)(g:Nat)(k m:Int)(s:ByteArray)(a b c:Value):Prop:=w.heap[g]? = some (.cells #[.int .i64 k,.int .i64 m,.string s,a,b,c] 28 (0,0))
theorem zaY (l:List yh)(r:yh):jH (l++[r])=jH l++r.enc:=by simp [jH]
theorem Slc.mapped {f:World}{size n d:Nat}{xs:List Value}(h:Slc w size v n xs)(l:0<size)(hm:kind w d=1)(k:zb [d] w f):Slc f size v n xs:=Slc.kept h k (fun g j b=>by
 rw [List.mem_singleton] at b;subst b;obtain⟨a,c,rfl,-,-⟩:=h.form;refine slc_nomap h (fun e=>?_) j hm;have i:=h.1;rw [e] at i;have h2:=(vj j).1;have:0<n*size:=Nat.mul_pos h2 l;simp at i;omega)
end Go.Proofs.YtjccecajigmfkaaGreatDoor
