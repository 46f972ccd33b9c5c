/- Parts of one proof, merged: XUB XUC XUD. -/
import Derived.Test.YtjccecajigmfkaaGreatDoorSgJ
import Derived.Test.YtjccecajigmfkaaGreatDoorSgM
set_option linter.all false
set_option maxHeartbeats 12800000
set_option maxRecDepth 10000
namespace Go.Proofs.YtjccecajigmfkaaGreatDoor
open Go.Proofs.Tryz
open Go.RowKit
variable {a b d:UInt8}{l:List UInt8}{m n:Nat}{r s:List UInt8}{w:World}
def ve (l:List UInt8):Int:=match jf l with | none=>-1 | some n=>n
theorem four_short (h:l.length<6):jf l=none:=by
 match l,h with
 | [],_=>rfl
 | [_],_=>rfl
 | [_,_],_=>rfl
 | [_,_,_],_=>rfl
 | [_,_,_,_],_=>rfl
 | [_,_,_,_,_],_=>rfl
 | _::_::_::_::_::_::_,h=>simp only [List.length_cons] at h;omega
theorem six_of (h:6≤l.length):∃ x y a b c d r,l=x::y::a::b::c::d::r:=by
 match l,h with
 | x::y::a::b::c::d::r,_=>exact⟨x,y,a,b,c,d,r,rfl⟩
theorem pair_no (a b:Int)(l:-1≤a∧a≤1114111)(f:-1≤b∧b≤1114111)(h:a<55296∨56320≤a∨b<56320∨57344≤b)(w:World) : Calls prog 270 #[.int .i32 a,.int .i32 b] w fun e w'=>e = .returned (.int .i32 (-1))∧w=w':=by
 obtain⟨d,j⟩:=l;obtain⟨i,k⟩:=f;by_cases n:a<55296;·go_enter func270,ntmps270;go_wp2;go_ret;exact⟨rfl,rfl⟩
 by_cases h2:56320≤a;·go_enter func270,ntmps270;go_wp2;go_ret;exact⟨rfl,rfl⟩
 by_cases h3:b<56320;·go_enter func270,ntmps270;go_wp2;go_ret;exact⟨rfl,rfl⟩
 ·have m:57344≤b:=by omega
  go_enter func270,ntmps270;go_wp2;go_ret;exact⟨rfl,rfl⟩
theorem pair_yes (a b:Int)(h:55296≤a)(h2:a<56320)(h3:56320≤b)(f:b<57344)(w:World) : Calls prog 270 #[.int .i32 a,.int .i32 b] w fun e w'=>e = .returned (.int .i32 (65536+(a-55296)*1024+(b-56320)))∧w=w':=by
 have d:Hid (65536+(a-55296)*1024+(b-56320)=65536+(a-55296)*1024+b-56320):=qI Ws;go_enter func270,ntmps270;go_wp2;go_ret;rw [d.o];exact⟨rfl,rfl⟩
theorem jX (h:jf l=none):ve l = -1:=by unfold ve;rw [h]
theorem QL (h:jf l=some n):ve l=n:=by unfold ve;rw [h]
theorem four_not {x y c:UInt8}(h:¬ (x=92∧y=117)):jf (x::y::a::b::c::d::r)=none:=if_neg h
theorem four_is {c:UInt8}:jf (92::117::a::b::c::d::r)=hex4 a b c d:=by
 show (if (92:UInt8)=92∧(117:UInt8)=117 then hex4 a b c d else none)=_;exact if_pos ⟨rfl,rfl⟩
theorem rune_join (x y:Nat)(a:x<256)(b:y<256):bits .or .i32 ((x:Int)*256) (y:Int)=((x*256+y:Nat):Int):=by
 rw [bits_join .i32 17 Wo (fun n d e=>by rw [IntKind.wrap_i32];omega) 8 _ _ Ws Ws Ws Ws Ws Ws];omega
theorem map_len (f:Int→Int):∀ (n:Nat) (l:List UInt8),(Lib.mapGoD f n l).length≤4*n
 | 0,_=>XA
 | n+1,l=>by
  unfold Lib.mapGoD;by_cases h:l=[];·rw [if_pos h];simp
  ·rw [if_neg h,List.length_append];have ih:=map_len f n (l.drop (Lib.decodeL l).2);have a:(if 0≤f (Lib.decodeL l).1 then Lib.encodeRune (f (Lib.decodeL l).1) else []).length≤4:=by
    split;·unfold Lib.encodeRune;rw [List.length_map];exact (Lib.encodeRuneZ_length _).2
    ·simp
   omega
theorem lower_four (a b c d:UInt8):(Lib.toLowerD [a,b,c,d]).length≤1000000:=by
 have h:=map_len Lib.toLowerU 4 [a,b,c,d];unfold Lib.toLowerD Lib.mapD;exact Nat.le_trans h Wo
theorem four_any (z:xH w)(s:ByteArray)(hs:s.size≤262144) : zJ w 269 #[.string s] (.int .i32 (ve s.data.toList)):=by
 have O:Hid (s.data.toList.length=s.size):=qI Wz;by_cases h6:s.size<6
 ·have H:(s.size:Int)<6:=by omega
  have h:=qI (jX (four_short (by rw [O.o];exact h6)));clear z h6;go_enter func269,ntmps269;go_wp2;go_ret;rw [h.o];exact⟨rfl,Wd⟩
 obtain⟨x,y,a,b,c,d,r,p⟩:=six_of (l:=s.data.toList) (by rw [O.o];omega);have H:(6:Int)≤s.size:=Ws;have hx:s[0]'(Ws)=x:=by show s.data.toList[0]'_=x;simp only [p];rfl
 have hy:s[1]'(Ws)=y:=by show s.data.toList[1]'_=y;simp only [p];rfl
 have R:Hid (s.extract 2 6=zx [a,b,c,d]):=qI (zak (by
  rw [Kp s 2 6 Ws,p,zK];rfl))
 have Gp:=qI p;rw [p];by_cases m:x=92;rotate_left;·have h:=qI (jX (four_not (x:=x) (y:=y) (a:=a) (b:=b) (c:=c) (d:=d) (r:=r) (fun q=>m q.1)));have G:x.toNat≠92:=fun q=>m (UInt8.toNat_inj.1 q);obtain⟨X,f2⟩:=zR (a:=(x.toNat:Int)) (b:=92) Ws;clear z p m G hy;go_enter func269,ntmps269;go_wp2;go_ret;rw [h.o];exact⟨rfl,Wd⟩
 subst m;by_cases i:y=117;rotate_left;·have h:=qI (jX (four_not (x:=92) (y:=y) (a:=a) (b:=b) (c:=c) (d:=d) (r:=r) (fun q=>i q.2)));have G:y.toNat≠117:=fun q=>i (UInt8.toNat_inj.1 q);obtain⟨X,f2⟩:=zR (a:=(y.toNat:Int)) (b:=117) Ws;clear z p i G;go_enter func269,ntmps269;go_wp2;go_ret;rw [h.o];exact⟨rfl,Wd⟩
 subst i;have D:=qI (libToLower z (zx [a,b,c,d]) (by rw [yd];simp));rw [zK] at D;rcases four_low a b c d with ⟨n,B,h2,h3,J,Q⟩ | ⟨B,h2⟩
 ·have h:Hid (ve (92::117::a::b::c::d::r)=n):=qI (QL (four_is.trans B));rw [h3] at D;have v:Hid (∀ A,_):=qI (fun A=>unhex_yes (zx [xY a,xY b,xY c,xY d]) (by rw [yd];simp) (by rw [yd];simp) (by rw [zK];exact J) A);rw [zK] at v;have W:Hid (xh [xY a,xY b,xY c,xY d]=[UInt8.ofNat (hv (xY a)*16+hv (xY b)),UInt8.ofNat (hv (xY c)*16+hv (xY d))]):=qI rfl;simp only [List.all_cons,List.all_nil,Bool.and_true,Bool.and_eq_true] at J;obtain⟨U,P,M,N⟩:=J;have Y:=(xv _ U).2.1;have q2:=(xv _ P).2.1;have q3:=(xv _ M).2.1;have q4:=(xv _ N).2.1;have L:Hid ((UInt8.ofNat (hv (xY a)*16+hv (xY b))).toNat*256+(UInt8.ofNat (hv (xY c)*16+hv (xY d))).toNat=n):=qI (by
   rw [UInt8.toNat_ofNat',UInt8.toNat_ofNat',Nat.mod_eq_of_lt Ws,Nat.mod_eq_of_lt Ws,Q])
  clear B h2 h3 Q U P M N Y q2 q3 q4 p z;rw [W.o] at v;revert v L;generalize UInt8.ofNat (hv (xY a)*16+hv (xY b))=b0;generalize UInt8.ofNat (hv (xY c)*16+hv (xY d))=b1;intro v L;go_enter func269,ntmps269;go_wp2_with fail;rw [R.o];refine D.o.mono ?_;rintro e w1 ⟨rfl,f⟩;have I:=qI f;clear f;go_wp2_with fail;refine (v.o _).mono ?_;rintro e w2 ⟨⟨a5,c5,rfl,t⟩,j⟩;have Z:=qI (I.o.then j);have u:zp w2 (.slice a5 [b0,b1].length c5) [b0,b1]:=Slc.of_row t;obtain⟨g,o,rfl,F⟩:=zp.at u (k:=0) Wz;obtain⟨g',o',C,E⟩:=zp.at u (k:=1) Wz;simp only [Option.some.injEq,Addr.mk.injEq,and_true] at C;obtain⟨rfl,rfl⟩:=C;clear u t j;have F:w2.cell? ⟨g,o,none⟩=some (.int .u8 b0.toNat):=F;have E:w2.cell? ⟨g,o+1,none⟩=some (.int .u8 b1.toNat):=E;have E0:=zv F;have E1:=zv E;have r0:(b0.toNat:Int)≤255:=XC b0.toNat_lt;have r1:(b1.toNat:Int)≤255:=XC b1.toNat_lt;rw [show ([b0,b1]:List UInt8).length=2 from rfl];go_wp2_with fail;refine yg w2 Wr Wr Wd ?_;clear F E;repeat go_big_quiet_step (fail)
  refine wpQuiet_nil ?_;intro w3 K;clear E0 E1;go_wp2;go_ret;rw [h.o,← L.o,← rune_join _ _ b0.toNat_lt b1.toNat_lt];exact⟨rfl,Z.o.then K⟩
 ·have h:Hid (ve (92::117::a::b::c::d::r) = -1):=qI (jX (four_is.trans B));have v:Hid (∀ A,_):=qI (fun A=>unhex_no (zx (Lib.toLowerD [a,b,c,d])) (by rw [yd];exact Nat.le_trans (lower_four a b c d) Wo) (.inr (by rw [zK];exact h2)) A);clear B h2 p z;go_enter func269,ntmps269;go_wp2_with fail;rw [R.o];refine D.o.mono ?_;rintro e w1 ⟨rfl,f⟩;have I:=qI f;clear f;go_wp2_with fail;refine (v.o _).mono ?_;rintro e w2 ⟨rfl,j⟩;go_wp2;go_ret;rw [h.o];exact⟨rfl,I.o.then j⟩
def Q4 (s:List UInt8)(e:Ending):Prop:=
 match bo s with
 | none=>e = .returned (.tuple #[.int .i32 0,.int .i64 0])
 | some (b,n)=>∃ m:Nat,YU m∧yo m=b∧e = .returned (.tuple #[.int .i32 m,.int .i64 n])
theorem Qa (h:bo s=none):Q4 s (.returned (.tuple #[.int .i32 0,.int .i64 0])):=by unfold Q4;rw [h]
theorem YR {b:List UInt8}(h:bo s=some (b,n))(a:YU m)(h2:yo m=b):Q4 s (.returned (.tuple #[.int .i32 m,.int .i64 n])):=by unfold Q4;rw [h];exact⟨m,a,h2,rfl⟩
theorem fourZ_lt (l:List UInt8):-1≤ve l∧ve l<65536:=by
 unfold ve;cases h:jf l with
 | none=>simp
 | some n=>have:=(jP h).1;simp;omega
theorem valid_rune_of (m:Nat)(h:YU m):Lib.validRune (m:Int)=true:=by
 unfold YU at h;unfold Lib.validRune;simp;omega
theorem zaV (m:Nat)(a:55296≤m)(h2:m≤57343):Lib.validRune (m:Int)=false:=by
 unfold Lib.validRune;simp;omega
theorem two_of (h:2≤l.length):∃ x y r,l=x::y::r:=by
 match l,h with
 | x::y::r,_=>exact⟨x,y,r,rfl⟩
theorem esc_short (h:l.length<2):bo l=none:=by
 match l,h with
 | [],_=>rfl
 | [_],_=>rfl
 | _::_::_,h=>simp only [List.length_cons] at h;omega
theorem escape_any (p:xH w)(s:ByteArray)(hs:s.size≤262144) : Calls prog 260 #[.string s] w fun e w'=>Q4 s.data.toList e∧zb [] w w':=by
 have K:Hid (s.data.toList.length=s.size):=qI Wz;by_cases h2:s.size<2
 ·have Q:(s.size:Int)<2:=by omega
  have f:=qI (Qa (esc_short (by rw [K.o];exact h2)));clear p h2;go_enter func260,ntmps260;go_wp2;go_ret2;exact⟨f.o,Wd⟩
 obtain⟨x,y,r,i⟩:=two_of (l:=s.data.toList) (by rw [K.o];omega);have Q:(2:Int)≤s.size:=Ws;have hy:s[1]'(Ws)=y:=by show s.data.toList[1]'_=y;simp only [i];rfl
 have m:Hid (∀ w',_):=qI (fun w'=>ku ⟨#[34,92,47,98,102,110,114,116]⟩ (y.toNat:Int) w');rw [show ((y.toNat:Int)).toNat.toUInt8=y by simp,show (⟨#[34,92,47,98,102,110,114,116]⟩:ByteArray).data.toList=Kj from rfl] at m;have n:=qI (four_any p s hs);rw [i] at n ⊢;rcases esc_found y with ⟨k,e,N,D,h3,Y,E⟩ | ⟨D,E⟩
 ·have f:Hid (Q4 (x::y::r) (.returned (.tuple #[.int .i32 e.toNat,.int .i64 2]))):=qI (YR (E x r) (.inl Ws) (zaS e Y));have ab:(k:Int)<8:=Ws;have he:(⟨#[34,92,47,8,12,10,13,9]⟩:ByteArray)[k]'N=e:=by have h6:escapedL[k]'(by exact N)=e:=(List.getElem_eq_iff (by exact N)).2 h3;exact h6
  have aa:(e.toNat:Int)<128:=Ws;rw [D] at m;clear p i D h3 E Y n;go_enter func260,ntmps260;go_wp2_with (go_at_call 104;refine (m.o _).mono ?_;rintro J L ⟨rfl,rfl⟩);go_ret2;exact⟨f.o,Wd⟩
 ·rw [D] at m;have a:=E x r;clear E D;cases h6:jf (x::y::r) with
  | none=>
   rw [h6] at a;have f:=qI (Qa a);rw [jX h6] at n;clear p i a h6;go_enter func260,ntmps260;go_wp2_with (first
    | (go_at_call 104;refine (m.o _).mono ?_;rintro J L ⟨rfl,rfl⟩)
    | (go_at_call 269;refine n.o.mono ?_;rintro P w2 ⟨rfl,b⟩))
   go_ret2;exact⟨f.o,b⟩
  | some z=>
   rw [h6] at a;simp only at a;rw [QL h6] at n;have O:=(jP h6).1;have ad:6≤s.size:=by have:=(jP h6).2;rw [← i,K.o] at this;exact this
   have u:(z:Int)<65536:=Ws;by_cases F:z<55296∨57343<z
   ·rw [if_pos F] at a;have hm:YU z:=by unfold YU;omega
    have f:=qI (YR a hm rfl);have A:Hid (∀ w',_):=qI (fun w'=>Kh (z:Int) w');rw [valid_rune_of z hm] at A;clear p i a h6 F hm O u;go_enter func260,ntmps260;go_wp2_with (first
     | (go_at_call 104;refine (m.o _).mono ?_;rintro J L ⟨rfl,rfl⟩)
     | (go_at_call 269;refine n.o.mono ?_;rintro P w2 ⟨rfl,b⟩)
     | (go_at_call 255;refine (A.o _).mono ?_;rintro U w3 ⟨rfl,rfl⟩))
    go_ret2;exact⟨f.o,b⟩
   ·rw [if_neg F] at a;have A:Hid (∀ w',_):=qI (fun w'=>Kh (z:Int) w');rw [zaV z Ws Ws] at A;have d:Hid (∀ w',zb [] w w'→_):=qI (fun w' (k:zb [] w w')=>four_any (p.k0 k) (s.extract 6 s.size) (by
     have B:(s.extract 6 s.size).data.toList.length=(s.extract 6 s.size).size:=Wz;rw [YG,List.length_drop,K.o] at B;omega))
    rw [YG,i] at d;have I:55296≤z∧z≤57343:=Ws;have W:(6:Int)≤s.size:=Ws;have R:=fourZ_lt ((x::y::r).drop 6);have M:Hid ((∃ t:Nat,jf ((x::y::r).drop 6)=some t∧ve ((x::y::r).drop 6)=t)∨(jf ((x::y::r).drop 6)=none∧ve ((x::y::r).drop 6) = -1)):=qI (by
     cases X:jf ((x::y::r).drop 6) with
     | none=>exact .inr ⟨rfl,jX X⟩
     | some t=>exact .inl ⟨t,rfl,QL X⟩)
    by_cases B:z≤56319∧56320≤ve ((x::y::r).drop 6)∧ve ((x::y::r).drop 6)≤57343
    ·obtain⟨a1,a2,a3⟩:=B;obtain⟨t,v,G⟩:∃ t:Nat,jf ((x::y::r).drop 6)=some t∧ve ((x::y::r).drop 6)=t:=by
      rcases M.o with h | h;·exact h
      ·rw [h.2] at a2;omega
     rw [if_neg Ws,v] at a;simp only at a;rw [G] at a2 a3 d;rw [if_pos Ws] at a;have f:=qI (YR a (by unfold YU;omega) rfl);have j:Hid (∀ w',_):=qI (fun w'=>pair_yes (z:Int) (t:Int) Ws Ws Ws Ws w');have HE:Hid (65536+((z:Int)-55296)*1024+((t:Int)-56320)=((65536+(z-55296)*1024+(t-56320):Nat):Int)):=qI Ws;rw [HE.o] at j;clear p i a h6 F R M v G a1 a2 a3 I O u;revert j f;generalize 65536+(z-55296)*1024+(t-56320)=Z;intro f j;go_enter func260,ntmps260;go_wp2_with fail;refine (m.o _).mono ?_;rintro J L ⟨rfl,rfl⟩;go_wp2_with fail;refine n.o.mono ?_;rintro P w2 ⟨rfl,b⟩;have C:=qI b;clear b;go_wp2_with fail;refine (A.o _).mono ?_;rintro U w3 ⟨rfl,rfl⟩;go_wp2_with fail;refine (d.o _ C.o).mono ?_;rintro e4 w4 ⟨rfl,q⟩;go_wp2_with fail;refine (j.o _).mono ?_;rintro e5 w5 ⟨rfl,rfl⟩;go_wp2;go_ret2;exact⟨f.o,C.o.then q⟩
    ·have H:bo (x::y::r)=none:=by
      rw [a];split;·rfl
      rcases M.o with ⟨t,v,G⟩ | ⟨v,G⟩;·rw [v];simp only;rw [G] at B;exact if_neg Ws
      ·rw [v]
     have f:=qI (Qa H);have j:Hid (∀ w',_):=qI (fun w'=>pair_no (z:Int) (ve ((x::y::r).drop 6)) Ws Ws Ws w');clear p i a h6 F R M I H B O u;revert j d;generalize ve ((x::y::r).drop 6)=Z;intro d j;go_enter func260,ntmps260;go_wp2_with fail;refine (m.o _).mono ?_;rintro J L ⟨rfl,rfl⟩;go_wp2_with fail;refine n.o.mono ?_;rintro P w2 ⟨rfl,b⟩;have C:=qI b;clear b;go_wp2_with fail;refine (A.o _).mono ?_;rintro U w3 ⟨rfl,rfl⟩;go_wp2_with fail;refine (d.o _ C.o).mono ?_;rintro e4 w4 ⟨rfl,q⟩;go_wp2_with fail;refine (j.o _).mono ?_;rintro e5 w5 ⟨rfl,rfl⟩;go_wp2;go_ret2;exact⟨f.o,C.o.then q⟩
def Qg (s:List UInt8)(e:Ending):Prop:=
 match Zj s with
 | .inl x=>e = .returned (.tuple #[.int .i32 0,.int .i64 0,.int .i64 x])
 | .inr (b,n)=>∃ m:Nat,YU m∧yo m=b∧e = .returned (.tuple #[.int .i32 m,.int .i64 n,.int .i64 0])
theorem bq {x:Int}(h:Zj s = .inl x):Qg s (.returned (.tuple #[.int .i32 0,.int .i64 0,.int .i64 x])):=by unfold Qg;rw [h]
theorem zbQ {b:List UInt8}(h:Zj s = .inr (b,n))(a:YU m)(h2:yo m=b):Qg s (.returned (.tuple #[.int .i32 m,.int .i64 n,.int .i64 0])):=by unfold Qg;rw [h];exact⟨m,a,h2,rfl⟩
theorem partL_cons (c:UInt8)(r:List UInt8):Zj (c::r)=if c.toNat<32 then .inl 31 else if c=92 then (match bo (c::r) with | none=>.inl 31 | some x=>.inr x) else if (Lib.decodeL (c::r)).1=65533∧(Lib.decodeL (c::r)).2=1 then .inl 30 else .inr ((c::r).take (Lib.decodeL (c::r)).2,(Lib.decodeL (c::r)).2):=rfl
theorem part_any (l:xH w)(s:ByteArray)(G:s.size≤262144) : Calls prog 250 #[.string s] w fun e w'=>Qg s.data.toList e∧zb [] w w':=by
 have H:Hid (s.data.toList.length=s.size):=qI Wz;cases i:s.data.toList with
 | nil=>have v:=qI (bq (s:=[]) (x:=31) rfl);obtain rfl:s=⟨#[]⟩:=zak i;clear l i;go_enter func250,ntmps250;go_wp2;go_ret3;exact⟨v.o,Wd⟩
 | cons c r=>
  have C:1≤s.size:=by have:=H.o;rw [i] at this;simp only [List.length_cons] at this;omega
  have K:(1:Int)≤s.size:=Ws;have hc:s[0]'(Ws)=c:=by show s.data.toList[0]'_=c;simp only [i];rfl
  obtain⟨P,N⟩:=vd (T:=s) (fun e=>by rw [e] at C;exact absurd C Wo);have A:=qI (partL_cons c r);have L:(c.toNat:Int)≤255:=XC c.toNat_lt;by_cases d:c.toNat<32;·have v:=qI (bq (s:=c::r) (x:=31) (by rw [A.o,if_pos d]));have B:(c.toNat:Int)<32:=Ws;clear l i d;go_enter func250,ntmps250;go_wp2;go_ret3;exact⟨v.o,Wd⟩
  have B:(32:Int)≤c.toNat:=Ws;by_cases h:c=92
  ·subst h;have z:=qI (escape_any l s G);rw [i] at z;unfold Q4 at z;cases u:bo (92::r) with
   | none=>have v:=qI (bq (s:=92::r) (x:=31) (by rw [A.o,if_neg d,if_pos rfl,u]));rw [u] at z;clear l i u d;go_enter func250,ntmps250;go_wp2_with (go_at_call 260;refine z.o.mono ?_;rintro e w2 ⟨rfl,f⟩);go_ret3;exact⟨v.o,f⟩
   | some x=>obtain⟨b,n⟩:=x;have y:Hid (Zj (92::r) = .inr (b,n)):=qI (by rw [A.o,if_neg d,if_pos rfl,u]);have I:=(K5 u).2.2.1;obtain⟨F,M⟩:=zR (a:=(n:Int)) (b:=0) Ws;rw [u] at z;clear l i u d I;go_enter func250,ntmps250;go_wp2_with (go_at_call 260;refine z.o.mono ?_;rintro e w2 ⟨⟨m,E,m2,rfl⟩,f⟩;have p:=qI (And.intro E m2);clear E m2);go_ret3;exact⟨zbQ y.o p.o.1 p.o.2,f⟩
  have j:c.toNat≠92:=fun q=>h (UInt8.toNat_inj.1 q);obtain⟨F,M⟩:=zR (a:=(c.toNat:Int)) (b:=92) Ws;have k:=qI (utfNext l s Ws);rw [i] at k;by_cases t:(Lib.decodeL (c::r)).1=65533∧(Lib.decodeL (c::r)).2=1;·have v:=qI (bq (s:=c::r) (x:=30) (by rw [A.o,if_neg d,if_neg h,if_pos t]));rw [show kj (c::r)=(-1,0) by unfold kj;exact if_pos (.inr t)] at k;clear l i d h j t;go_enter func250,ntmps250;go_wp2_with (go_at_call 261;refine k.o.mono ?_;rintro e w2 ⟨rfl,f⟩);go_ret3;exact⟨v.o,f⟩
  ·have D:=vE Wz t;have y:Hid (Zj (c::r) = .inr ((c::r).take (Lib.decodeL (c::r)).2,(Lib.decodeL (c::r)).2)):=qI (by rw [A.o,if_neg d,if_neg h,if_neg t]);have p:Hid (YU (Lib.decodeL (c::r)).1∧yo (Lib.decodeL (c::r)).1=(c::r).take (Lib.decodeL (c::r)).2):=qI ⟨D.valid,D.rune⟩;rw [show kj (c::r)=(((Lib.decodeL (c::r)).1:Int),(Lib.decodeL (c::r)).2) by unfold kj;exact if_neg (by rintro (q | q);cases q;exact t q)] at k;have hp:=D.pos;have hv:(Lib.decodeL (c::r)).1≤1114111:=XC D.valid;clear l i d h j t D;revert k y p hp hv;generalize (c::r).take (Lib.decodeL (c::r)).2=b;generalize Lib.decodeL (c::r)=q;obtain⟨m,n⟩:=q;intro k y p hp hv;simp only at k y p hp hv;obtain⟨f3,O⟩:=zR (a:=(n:Int)) (b:=0) Ws;have J:(m:Int)≤1114111:=Ws;clear hv hp;go_enter func250,ntmps250;go_wp2_with (go_at_call 261;refine k.o.mono ?_;rintro e w2 ⟨rfl,f⟩);go_ret3;exact⟨zbQ y.o p.o.1 p.o.2,f⟩
theorem utfUnquote (I:xH w)(s:ByteArray)(hs:s.size≤262144) : Calls prog 221 #[.string s] w fun e w'=>YV s.data.toList e∧zb [] w w':=by
 have A:Hid (s.data.toList.length=s.size):=qI Wz;have R:Hid (∀ (t:ByteArray) w',_):=qI (fun t w'=>kt t ⟨#[34]⟩ w');have HQ:Hid (∀ t:ByteArray,(⟨#[34]⟩:ByteArray).data.toList.isPrefixOf t.data.toList=decide (t.data.toList.head? = some 34)):=qI (fun t=>bA 34 t.data.toList 0);have l:Hid (∀ w',_):=qI (R.o s);rw [HQ.o] at l;by_cases p:s.data.toList.head? = some 34;rotate_left
 ·have HU:Hid (kH s.data.toList = .inl 31):=qI (by
   unfold kH;cases h:s.data.toList with
   | nil=>rfl
   | cons c r=>rw [h] at p;exact if_neg (fun e=>p (by rw [e];rfl)))
  have z:=qI (zbN HU.o (XB));rw [decide_eq_false p] at l;clear I p;go_enter func221,ntmps221;go_wp2_with (go_at_call 218;refine (l.o _).mono ?_;rintro e w2 ⟨rfl,rfl⟩);go_ret3;exact⟨z.o,Wd⟩
 obtain⟨B,L⟩:=XE (w.alloc (.cells #[.pointer none,.slice none 0 0] 141));have H:Hid (zb [] w B):=qI (kA1 L.o);have HT:Hid (qA w.heap.size B):=qI ⟨w,I,H.o,XA⟩;have Gh:Hid (B.heap[w.heap.size]? = some (.cells #[.pointer none,.slice none 0 0] 141 (0,0))):=qI (by rw [L.o];exact ze rfl);have Gj:Hid (ZY s.data.toList 1 []):=qI (by
  cases h:s.data.toList with
  | nil=>rw [h] at p;cases p
  | cons c r=>rw [h] at p;simp only [List.head?_cons,Option.some.injEq] at p;exact ZY.start p)
 rw [decide_eq_true p] at l;clear I p;go_enter func221,ntmps221;go_wp2_with (go_at_call 218;refine (l.o _).mono ?_;rintro e w2 ⟨rfl,rfl⟩);rw [← L.o];go_loopw [6] (fun i wr=>∃ (k:Nat) (acc:List UInt8),i = .int .i64 k∧ZY s.data.toList k acc∧BW 141 B w.heap.size wr acc∧(acc=[]→wr=B)) (fun i _=>s.size-(intOf i).toNat);case atStart=>exact⟨1,[],rfl,Gj.o,BW.new Gh.o,fun _=>rfl⟩
 case round=>
  obtain⟨k,acc,rfl,q,C,u⟩:=hrel;have Gk:=qI u;clear u;have P:=qI q;have G:=qI C;have hk:k≤s.size:=by have:=q.1.1;rw [A.o] at this;exact this
  have U:acc.length≤k:=q.1.2;have ad:(k:Int)≤s.size:=Ws;have N:Hid ((s.extract k s.size).data.toList=s.data.toList.drop k):=qI (YG s k);have j:Hid (∀ w',_):=qI (R.o (s.extract k s.size));rw [HQ.o,N.o] at j;clear q C;by_cases f:(s.data.toList.drop k).head? = some 34
  ·rw [decide_eq_true f] at j;obtain⟨u1,Q⟩:=P.o.done f;rw [A.o] at Q;have z:=qI (unqAns_ok u1 (k:=k+1) (by rw [A.o];exact Q) rfl Ws);have Y:Hid (((k+1:Nat):Int)=(k:Int)+1):=qI Ws;clear u1 Q f;go_wp2_with (go_at_call 218;refine (j.o _).mono ?_;rintro e w2 ⟨rfl,rfl⟩);by_cases E:acc=[];·subst E;have hW:=Gk.o rfl;have D:=Gh.o;rw [← hW] at D;refine (bstring_new D).mono ?_;rintro e J ⟨rfl,d⟩;go_wp2;go_ret3;rw [← Y.o];refine⟨z.o,H.o.then ?_⟩;rw [← hW];exact d
   ·refine (bD G.o Ws E).mono ?_;rintro e J ⟨rfl,d,-⟩;go_wp2;go_ret3;rw [← Y.o];exact⟨z.o,H.o.trans d (fun i K=>by simp at K;exact .inr Ws)⟩
  ·rw [decide_eq_false f] at j;have v:=qI (part_any (w:=wr) (HT.o.at G.o.kept) (s.extract k s.size) (by
    have h9:(s.extract k s.size).data.toList.length=(s.extract k s.size).size:=Wz;rw [N.o,List.length_drop,A.o] at h9;omega))
   rw [N.o] at v;unfold Qg at v;cases hp:Zj (s.data.toList.drop k) with
   | inl x=>
    rw [hp] at v;have O:=P.o.bad f hp;have hx:=unq_err O;obtain⟨f1,f2⟩:=zR (a:=x) (b:=0) Ws;have z:=qI (zbN O (k:=k) (by rw [A.o];exact hk));clear hp O hx f;go_wp2_with (first
     | (go_at_call 218;refine (j.o _).mono ?_;rintro e w2 ⟨rfl,rfl⟩)
     | (go_at_call 250;refine v.o.mono ?_;rintro e J ⟨rfl,d⟩))
    go_ret3;exact⟨z.o,(H.o.trans G.o.kept (fun i K=>by simp at K;exact .inr Ws)).then d⟩
   | inr y=>obtain⟨b,n⟩:=y;rw [hp] at v;have Gl:=qI (P.o.next f hp);obtain⟨Z,p2,pb,p3,-⟩:=part_ok hp;rw [List.length_drop,A.o] at p2;have aa:(1:Int)≤n:=Ws;have ab:(k:Int)+n≤262144:=Ws;have HP:Hid (1≤n∧k+n≤s.size):=qI ⟨Z,Ws⟩;have Gm:Hid (acc++b=[]→False):=qI (fun e=>pb (List.append_eq_nil_iff.1 e).2);clear hp f Z p2 p3 pb;go_wp2_with fail;refine (j.o _).mono ?_;rintro e w2 ⟨rfl,rfl⟩;go_wp2_with fail;refine v.o.mono ?_;rintro e J ⟨⟨m,W,m2,rfl⟩,d⟩;have X:=qI (wrune_any xJ (G.o.stay d) Ws m W);rw [m2] at X;clear W m2 d;go_wp2_with fail;refine X.o.mono ?_;rintro e w4 ⟨⟨kk,rfl⟩,F,M⟩;have Gn:=qI F;clear F M;go_wp2;case roundEnd=>exact⟨⟨k+n,acc++b,by go_num,Gl.o,Gn.o,fun e=>(Gm.o e).elim⟩,by have:=HP.o;simp [intOf];omega⟩
end Go.Proofs.YtjccecajigmfkaaGreatDoor
