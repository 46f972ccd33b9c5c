/- Parts of one proof, merged: XRC XRD XQB XQC. -/
import Derived.Test.YtjccecajigmfkaaGreatDoorSdL
set_option linter.all false
set_option maxHeartbeats 12800000
set_option maxRecDepth 100000
namespace Go.Proofs.YtjccecajigmfkaaGreatDoor
open Go.Proofs.Tryz
open Go.RowKit
variable {n:Nat}{s:List UInt8}
def YE (s:List UInt8)(e:Ending)(w':World):Prop:=
 match jl s with
 | none=>e = .returned (.tuple #[.slice none 0 0,.int .i64 0])
 | some (b,n)=>∃ a c,e = .returned (.tuple #[.slice a b.length c,.int .i64 n])∧zm w' (.slice a b.length c) b
theorem jS {w:World}(h:jl s=none):YE s (.returned (.tuple #[.slice none 0 0,.int .i64 0])) w:=by unfold YE;rw [h]
theorem ZQ {b:List UInt8}{w:World}{a:Option Addr}{c m:Nat}(h:jl s=some (b,n))(hm:m=b.length)(d:zm w (.slice a b.length c) b):YE s (.returned (.tuple #[.slice a m c,.int .i64 n])) w:=by
 unfold YE;rw [h,hm];exact⟨a,c,rfl,d⟩
theorem esc_other {x y:UInt8}{r:List UInt8}(b:y≠34)(h2:y≠92)(h3:y≠47)(e:y≠98)(d:y≠102)(h6:y≠110)(a:y≠114)(f:y≠116) : jl (x::y::r)=(match qh (x::y::r) with | none=>none | some z=>if z<55296∨57343<z then some (yi z,6) else if 56319<z then none else match qh ((x::y::r).drop 6) with | none=>none | some t=>if 56320≤t∧t≤57343 then some (yi (65536+(z-55296)*1024+(t-56320)),12) else none):=by
 conv=>lhs;unfold jl
 simp only;rw [XJ b,XJ h2,XJ h3,XJ e,XJ d,XJ h6,XJ a,XJ f];cases qh (x::y::r) with
 | none=>rfl
 | some z=>
  cases qh ((x::y::r).drop 6) with
  | none=>rfl
  | some t=>rfl
theorem one_byte (w:World)(x:UInt8):zm (w.alloc (.cells #[.int .u8 x.toNat] 5)) (.slice (some ⟨w.heap.size,0,none⟩) 1 1) [x]:=bR w (bv x) 5 _ rfl
section
variable {w : World}
theorem zcs (s:ByteArray)(hs:s.size≤262144) : Calls prog 228 #[.string s] w fun e w'=>YE s.data.toList e w'∧zb [] w w':=by
 have X:Hid (s.data.toList.length=s.size):=qI Wz;by_cases h2:s.size<2
 ·have aa:(s.size:Int)<2:=by omega
  have f:=qI (fun w'=>jS (w:=w') (esc_short (l:=s.data.toList) (by rw [X.o];exact h2)));clear h2;go_enter func228,ntmps228;go_wp2;go_ret2;exact⟨f.o _,Wd⟩
 obtain⟨x,y,r,I⟩:=two_of (l:=s.data.toList) (by rw [X.o];omega);have aa:(2:Int)≤s.size:=Ws;have hy:s[1]'(Ws)=y:=by show s.data.toList[1]'_=y;simp only [I];rfl
 have E:=qI (fun w'=>zay s hs w');rw [I] at E ⊢;by_cases q:y=34∨y=92∨y=47∨y=98∨y=102∨y=110∨y=114∨y=116
 ·have HB:=qI (fun e=>one_byte w e);have J:Hid (∀ o,zb [] w (w.alloc o)):=qI (fun o=>(zb.refl [] w).alloc o);have f:Hid (∀ e,jl (x::y::r)=some ([e],2)→YE (x::y::r) (.returned (.tuple #[.slice (some ⟨w.heap.size,0,none⟩) 1 1,.int .i64 2])) (w.alloc (.cells #[.int .u8 e.toNat] 5))):=qI (fun e h=>ZQ (b:=[e]) (n:=2) h rfl (HB.o e));clear I E;rcases q with rfl | rfl | rfl | rfl | rfl | rfl | rfl | rfl
  ·go_enter func228,ntmps228;go_wp2;go_ret2;exact⟨f.o 34 rfl,J.o _⟩
  ·go_enter func228,ntmps228;go_wp2;go_ret2;exact⟨f.o 92 rfl,J.o _⟩
  ·go_enter func228,ntmps228;go_wp2;go_ret2;exact⟨f.o 47 rfl,J.o _⟩
  ·go_enter func228,ntmps228;go_wp2;go_ret2;exact⟨f.o 8 rfl,J.o _⟩
  ·go_enter func228,ntmps228;go_wp2;go_ret2;exact⟨f.o 12 rfl,J.o _⟩
  ·go_enter func228,ntmps228;go_wp2;go_ret2;exact⟨f.o 10 rfl,J.o _⟩
  ·go_enter func228,ntmps228;go_wp2;go_ret2;exact⟨f.o 13 rfl,J.o _⟩
  ·go_enter func228,ntmps228;go_wp2;go_ret2;exact⟨f.o 9 rfl,J.o _⟩
 have i:∀ k:Nat,k<256→y≠UInt8.ofNat k→((y.toNat:Int) == (k:Int))=false:=fun k hk h=>(zq (fun e=>h (by
  have:y.toNat=k:=Ws;rw [← this];simp))).1
 have q1:y≠34:=fun e=>q (.inl e);have q2:y≠92:=fun e=>q (.inr (.inl e));have q3:y≠47:=fun e=>q (.inr (.inr (.inl e)));have q4:y≠98:=fun e=>q (.inr (.inr (.inr (.inl e))));have Y:y≠102:=fun e=>q (.inr (.inr (.inr (.inr (.inl e)))));have q6:y≠110:=fun e=>q (.inr (.inr (.inr (.inr (.inr (.inl e))))));have q7:y≠114:=fun e=>q (.inr (.inr (.inr (.inr (.inr (.inr (.inl e)))))));have Z:y≠116:=fun e=>q (.inr (.inr (.inr (.inr (.inr (.inr (.inr e)))))));have d:=esc_other (x:=x) (r:=r) q1 q2 q3 q4 Y q6 q7 Z;have p:=i 34 Wo q1;have D:=i 92 Wo q2;have B:=i 47 Wo q3;have f4:=i 98 Wo q4;have C:=i 102 Wo Y;have u:=i 110 Wo q6;have v:=i 114 Wo q7;have A:=i 116 Wo Z;clear q1 q2 q3 q4 Y q6 q7 Z q i;have F:Hid _:=qI (And.intro p (And.intro D (And.intro B (And.intro f4 (And.intro C (And.intro u (And.intro v A)))))));clear p D B f4 C u v A;cases h6:qh (x::y::r) with
 | none=>rw [h6] at d;have f:=qI (fun w'=>jS (w:=w') d);rw [xZ h6] at E;clear I d h6;obtain⟨p,D,B,f4,C,u,v,A⟩:=F.o;go_enter func228,ntmps228;go_wp2_with fail;refine (E.o _).mono ?_;rintro e w1 ⟨rfl,rfl⟩;go_wp2;go_ret2;exact⟨f.o _,Wd⟩
 | some z=>
  rw [h6] at d;simp only at d;rw [vf h6] at E;have hz:=(qS h6).1;have ad:6≤s.size:=by have:=(qS h6).2;rw [← I,X.o] at this;exact this
  have U:decide ((z:Int)<0)=false:=XO Ws;have L:=qI (fun w'=>may_any (z:Int) w');by_cases R:z<55296∨57343<z;·rw [XK R] at d;have CB:=qI (fun w'=>YD z Ws w');rw [Zq.2 ⟨z,rfl,Ws⟩] at L;have f:=qI (fun w' a c=>ZQ (w:=w') (a:=a) (c:=c) d rfl);clear I d h6 R hz;obtain⟨p,D,B,f4,C,u,v,A⟩:=F.o;go_enter func228,ntmps228;go_wp2_with fail;refine (E.o _).mono ?_;rintro e w1 ⟨rfl,rfl⟩;go_wp2_with fail;refine (L.o _).mono ?_;rintro e w2 ⟨rfl,rfl⟩;go_wp2_with fail;refine (CB.o _).mono ?_;rintro e w3 ⟨⟨a3,c3,rfl,K⟩,N⟩;go_wp2;go_ret2;exact⟨f.o _ _ _ K,N⟩
  ·rw [XJ R] at d;have Q:QU (z:Int)=false:=by
    cases e:QU (z:Int) with
    | false=>rfl
    | true=>obtain⟨m,h1,h2⟩:=Zq.1 e;omega
   rw [Q] at L;have ab:(6:Int)≤s.size:=Ws;have P:55296≤z∧z≤57343:=Ws;clear Q;by_cases W:56319<z;·rw [XK W] at d;have f:=qI (fun w'=>jS (w:=w') d);have O:(56319:Int)<z:=Ws;clear I d h6 R hz W P;obtain⟨p,D,B,f4,C,u,v,A⟩:=F.o;go_enter func228,ntmps228;go_wp2_with fail;refine (E.o _).mono ?_;rintro e w1 ⟨rfl,rfl⟩;go_wp2_with fail;refine (L.o _).mono ?_;rintro e w2 ⟨rfl,rfl⟩;go_wp2;go_ret2;exact⟨f.o _,Wd⟩
   rw [XJ W] at d;have O:decide ((56319:Int)<z)=false:=XO Ws;have Gp:Hid ((55296:Int)≤z∧(z:Int)≤56319):=qI Ws;have j:=qI (fun w'=>zay (s.extract 6 s.size) (by
     have H:(s.extract 6 s.size).data.toList.length=(s.extract 6 s.size).size:=Wz;rw [qx,XW,X.o] at H;omega) w')
   rw [qx,I] at j;clear I h6 R hz W P;cases H:qh ((x::y::r).drop 6) with
   | none=>rw [H] at d;have f:=qI (fun w'=>jS (w:=w') d);rw [xZ H] at j;clear d H;obtain⟨p,D,B,f4,C,u,v,A⟩:=F.o;go_enter func228,ntmps228;go_wp2_with fail;refine (E.o _).mono ?_;rintro e w1 ⟨rfl,rfl⟩;go_wp2_with fail;refine (L.o _).mono ?_;rintro e w2 ⟨rfl,rfl⟩;go_wp2_with fail;refine (j.o _).mono ?_;rintro e w3 ⟨rfl,rfl⟩;go_wp2;go_ret2;exact⟨f.o _,Wd⟩
   | some t=>
    rw [H] at d;simp only at d;rw [vf H] at j;have ht:=(qS H).1;clear H;by_cases G:56320≤t∧t≤57343;rotate_left
    ·rw [XJ G] at d;have f:=qI (fun w'=>jS (w:=w') d);have hc:decide ((t:Int)<56320)=true∨(decide ((t:Int)<56320)=false∧decide ((57343:Int)<t)=true):=by
      by_cases q:(t:Int)<56320;·exact .inl (XT q)
      ·exact .inr ⟨XO q,XT Ws⟩
     have HC:=qI hc;clear d ht G hc;obtain⟨p,D,B,f4,C,u,v,A⟩:=F.o;go_enter func228,ntmps228;go_wp2_with fail;refine (E.o _).mono ?_;rintro e w1 ⟨rfl,rfl⟩;go_wp2_with fail;refine (L.o _).mono ?_;rintro e w2 ⟨rfl,rfl⟩;go_wp2_with fail;refine (j.o _).mono ?_;rintro e w3 ⟨rfl,rfl⟩;clear p D B f4 C u v A U O;rcases HC.o with g1 | ⟨g1,g2⟩
     all_goals
      go_wp2;go_ret2;exact⟨f.o _,Wd⟩
    ·rw [XK G] at d;have Gi:Hid ((56320:Int)≤t∧(t:Int)≤57343):=qI Ws;obtain⟨M,hM⟩:∃ M:Nat,M=65536+(z - 55296)*1024+(t - 56320):=⟨_,rfl⟩;rw [← hM] at d;have CB:=qI (fun w'=>YD M (XC Gp.o) w');have f:=qI (fun w' a c=>ZQ (w:=w') (a:=a) (c:=c) d rfl);have HE:Hid (wrap64 (wrap64 (wrap64 (65536+wrap64 (1024*wrap64 ((z:Int)-55296)))+(t:Int))-56320)=(M:Int)):=qI (by have h1:=Gp.o;have h2:=Gi.o;unfold wrap64;omega);clear hM;clear d ht G;obtain⟨p,D,B,f4,C,u,v,A⟩:=F.o;go_enter func228,ntmps228;go_wp2_with fail;refine (E.o _).mono ?_;rintro e w1 ⟨rfl,rfl⟩;go_wp2_with fail;refine (L.o _).mono ?_;rintro e w2 ⟨rfl,rfl⟩;go_wp2_with fail;refine (j.o _).mono ?_;rintro e w3 ⟨rfl,rfl⟩;clear p D B f4 C u v A U O;have g1:decide ((t:Int)<56320)=false:=XO (XC Gi.o);have g2:decide ((57343:Int)<t)=false:=XO (XC Gi.o);go_wp2_with fail;rw [HE.o];refine (CB.o _).mono ?_;rintro e w4 ⟨⟨a3,c3,rfl,K⟩,N⟩;go_wp2;go_ret2;exact⟨f.o _ _ _ K,N⟩
end
def Qx (s:List UInt8)(e:Ending):Prop:=
 match xJ s with
 | .inl x=>∃ n:Nat,n≤s.length∧(0<x∧x≤1000)∧e = .returned (.tuple #[.string ⟨#[]⟩,.int .i64 n,.int .i64 x])
 | .inr (t,r)=>∃ n:Nat,n≤s.length∧s.drop n=r∧e = .returned (.tuple #[.string (zw t),.int .i64 n,.int .i64 0])
theorem Zv {x:Int}(h:xJ s = .inl x)(a:0<x∧x≤1000)(b:n≤s.length):Qx s (.returned (.tuple #[.string ⟨#[]⟩,.int .i64 n,.int .i64 x])):=by
 unfold Qx;rw [h];exact⟨n,b,a,rfl⟩
theorem runq_ok {t r:List UInt8}(h:xJ s = .inr (t,r))(a:n≤s.length)(hd:s.drop n=r):Qx s (.returned (.tuple #[.string (zw t),.int .i64 n,.int .i64 0])):=by
 unfold Qx;rw [h];exact⟨n,a,hd,rfl⟩
theorem J5 (x:ByteArray):x.data.toList.length=x.size:=Wz
section
variable {f k v : Nat} {c : UInt8} {r acc : List UInt8}
theorem unq_ctl (h:c.toNat<32):yQ (f+1) (c::r) acc = .inl 31:=by
 rw [yQ];rw [XJ (fun e=>by rw [e] at h;revert h;decide),XK h]
theorem unq_bad (h:jl (92::r)=none):yQ (f+1) (92::r) acc = .inl 31:=by
 rw [yQ];rw [XJ Wo,XJ Wo,XK rfl,h]
theorem unq_raw (a:c≠34)(h2:¬ c.toNat<32)(h3:c≠92)(b:(Lib.decodeL (c::r)).1=65533∧(Lib.decodeL (c::r)).2=1):yQ (f+1) (c::r) acc = .inl 30:=by
 rw [yQ];rw [XJ a,XJ h2,XJ h3,XK b]
end
theorem zcj {w:World}(s:ByteArray)(hs:s.size≤262144) : Calls prog 180 #[.string s] w fun e w'=>Qx s.data.toList e∧zb [] w w':=by
 have y:Hid (s.data.toList.length=s.size):=qI Wz;cases J:s.data.toList with
 | nil=>have u:=qI (Zv (s:=[]) (x:=31) (n:=0) rfl Wo (XB));obtain rfl:s=⟨#[]⟩:=Q6 J;clear J;go_enter func180,ntmps180;go_wp2;go_ret3;exact⟨u.o,Wd⟩
 | cons c0 r0=>
 have Q:1≤s.size:=by have:=y.o;rw [J] at this;simp only [XP] at this;omega
 have a1:(1:Int)≤s.size:=Ws;have aq:s[0]'(Ws)=c0:=by show s.data.toList[0]'_=c0;simp only [J];rfl
 have g0:((s.size:Int) == 0)=false:=(zq Ws).1;by_cases d:c0=34;rotate_left;·have u:=qI (Zv (s:=c0::r0) (x:=31) (n:=0) (XJ d) Wo (XB));have f1:((c0.toNat:Int) != 34)=true:=(zq (fun e=>d (UInt8.toNat_inj.1 (show c0.toNat=34 by omega)))).2;clear J d;go_enter func180,ntmps180;go_wp2;go_ret3;exact⟨u.o,Wd⟩
 subst d;have HU:Hid (xJ s.data.toList=yQ (r0.length+1) (s.data.toList.drop 1) []):=qI (by
  rw [J];show (if (34:UInt8)=34 then yQ (r0.length+1) r0 [] else .inl 31)=_;rw [XK rfl];rfl)
 have Gu:Hid ((s.data.toList.drop 1).length<r0.length+1):=qI (by rw [J];simp);rw [← J];have a5:(s.size:Int)≤262144:=Ws;clear J;go_enter func180,ntmps180;go_wp2_with fail;clear aq g0 Q;go_loopw [5,6] (fun o i wr=>∃ (k f:Nat) (acc:List UInt8) (a:Option Addr) (c:Nat),i = .int .i64 (k:Int)∧o = .slice a acc.length c∧1≤k∧k≤s.size∧Hid (acc.length≤k)∧wr.ownsRow w.heap.size 5 1 (.slice a acc.length c) acc.length (acc.map bv)∧Hid (yQ f (s.data.toList.drop k) acc=xJ s.data.toList)∧Hid ((s.data.toList.drop k).length<f)∧zb [] w wr) (fun _ i _=>s.size-(intOf i).toNat);case atStart=>exact⟨1,_,[],none,0,rfl,rfl,Ws,Ws,qI (XB),World.ownsRow_nil _ _ _ _,qI HU.o.symm,Gu,Wd⟩
 case round=>
  obtain⟨k,f,acc,a,c,rfl,rfl,m,K,Gd,L,O,Gh,ai⟩:=hrel;have Ge:=qI L;have U:=qI ai;have a8:(1:Int)≤k:=Ws;clear L ai;by_cases G:k<s.size;rotate_left
  ·obtain rfl:k=s.size:=by omega
   have u:=qI (Zv (s:=s.data.toList) (x:=31) (n:=s.size) (by
    have h2:=Gh.o;rw [← O.o];rw [List.drop_eq_nil_of_le (by rw [y.o];exact XA)] at h2 ⊢;obtain⟨H,rfl⟩:∃ H,f=H+1:=⟨f - 1,by simp only [Xo] at h2;omega⟩;rfl) Wo (by rw [y.o];exact XA))
   have az:¬ ((s.size:Int)<s.size):=Ws;clear G K m;go_wp2;go_ret3;exact⟨u.o,U.o⟩
  have ay:(k:Int)<s.size:=Ws;have Gq:=qI G;have ag:k<s.data.toList.length:=by rw [y.o];exact G
  obtain⟨z,P⟩:∃ z,s.data.toList[k]=z:=⟨_,rfl⟩;have a3:s[k]'G=z:=P;have am:s.data.toList.drop k=z::s.data.toList.drop (k+1):=by rw [X0 ag,P]
  obtain⟨H,rfl⟩:∃ H,f=H+1:=⟨f - 1,by have:=Gh.o;omega⟩;have M:=qI am;have Gj:Hid (1≤k∧k≤s.size):=qI ⟨m,K⟩;have ax:acc.length≤262144:=XC Gd.o;have B:=z.toNat_lt;clear P ag am;by_cases d:z=34;·have u:=qI (runq_ok (s:=s.data.toList) (t:=acc) (r:=s.data.toList.drop (k+1)) (n:=k+1) (by rw [← O.o,M.o,d];exact zaX _ _ _) (by rw [y.o];omega) rfl);have al:((k+1:Nat):Int)=(k:Int)+1:=Ws;have kc:(convert 32 9 (.slice a acc.length c)).run prog wr = .ok (.string (zw acc)) wr:=zm.toStr (Slc.of_row Ge.o);subst d;rw [al] at u;clear K m B al;revert kc u;generalize zw acc=T;intro u kc;go_wp2;go_ret3;exact⟨u.o,U.o⟩
  have f1:((z.toNat:Int) == 34)=false:=(zq (fun e=>d (UInt8.toNat_inj.1 (show z.toNat=34 by omega)))).1;by_cases E:z.toNat<32;·have u:=qI (Zv (s:=s.data.toList) (x:=31) (n:=k) (by rw [← O.o,M.o];exact unq_ctl E) Wo (by rw [y.o];omega));have af:(z.toNat:Int)<32:=Ws;clear K m B d;go_wp2;go_ret3;exact⟨u.o,U.o⟩
  have af:¬ (z.toNat:Int)<32:=Ws;by_cases l:z=92
  ·have f2:((z.toNat:Int) == 92)=true:=(yq (by rw [l];rfl)).1;have R:(s.extract k s.size).size≤262144:=by have A:(s.extract k s.size).data.toList.length=(s.extract k s.size).size:=Wz;rw [qx,XW,y.o] at A;omega
   have W:=qI (zcs (w:=wr) (s.extract k s.size) R);rw [qx] at W;unfold YE at W;cases I:jl (s.data.toList.drop k) with
   | none=>have u:=qI (Zv (s:=s.data.toList) (x:=31) (n:=k) (by rw [← O.o];rw [M.o,l] at I ⊢;exact unq_bad I) Wo (by rw [y.o];omega));rw [I] at W;clear K m B d l R I;go_wp2_with fail;refine W.o.mono ?_;rintro e w2 ⟨rfl,j⟩;go_wp2;go_ret3;exact⟨u.o,U.o.then j⟩
   | some x=>
    obtain⟨b,n⟩:=x;obtain⟨-,aw,ar,aj⟩:=QC I;have Gk:Hid (yQ H (s.data.toList.drop (k+n)) (acc++b)=xJ s.data.toList):=qI (by
     rw [← O.o,← uD];rw [M.o,l] at I ⊢;exact (unq_esc I).symm)
    have C:Hid (b.length≤n∧1≤n∧k+n≤s.size):=qI (by rw [XW,y.o] at aj;omega);obtain⟨g1,g2⟩:=zq (a:=(n:Int)) (b:=0) Ws;have au:(k:Int)+n≤262144:=XC C.o;have ao:b.length≤262144:=XC C.o;have Gx:=qI ao;rw [I] at W;clear K m B d l R I aw ar aj;go_wp2_with fail;refine W.o.mono ?_;rintro e w2 ⟨⟨a2,c2,rfl,hb⟩,j⟩;have HB:=qI hb;have Gb:=qI (U.o.then j);have Ga:=qI (zk Ge.o j Wz);clear hb j;go_wp2_with (at_builtin;refine zz za9 Ga.o HB.o (qr _) (by simp only [maxLen];omega) Ws Gb.o.size rfl _ _ rfl rfl rfl ?_;intro v' w' p ah _ av;have Gc:=qI p;have Gl:=qI ah;clear p ah av);case roundEnd=>have A:=Gc.o;rw [← Xc] at A;obtain⟨a7,c7,rfl,-,-⟩:=(Slc.of_row A).form;exact⟨⟨k+n,H,acc++b,a7,c7,congrArg (Value.int .i64) (XC Gj.o),by rw [XM],by have:=Gj.o;omega,C.o.2.2,qI (by rw [XM];have Q:=Gd.o;have h2:=C.o.1;omega),by rw [XM];exact A,Gk,qI (by have Q:=Gh.o;have h2:=C.o;have h3:=y.o;have h4:=Gq.o;rw [XW] at Q ⊢;omega),Gb.o.trans Gl.o (fun i Y=>.inr (Ga.o.lt i (XD Y)).1)⟩,by have:=C.o;simp [intOf];omega⟩
  have f2:((z.toNat:Int) == 92)=false:=(zq (fun e=>l (UInt8.toNat_inj.1 (show z.toNat=92 by omega)))).1;have Z:=qI (fun w'=>zaw (s.extract k s.size) (by
    have A:(s.extract k s.size).data.toList.length=(s.extract k s.size).size:=Wz;rw [qx,XW,y.o] at A;omega) w')
  rw [qx] at Z;by_cases h:(Lib.decodeL (s.data.toList.drop k)).1=65533∧(Lib.decodeL (s.data.toList.drop k)).2=1;·have u:=qI (Zv (s:=s.data.toList) (x:=30) (n:=k) (by rw [← O.o];rw [M.o] at h ⊢;exact unq_raw d E l h) Wo (by rw [y.o];omega));rw [show qG (s.data.toList.drop k)=(-1,0) from XK (.inr h)] at Z;clear K m B d l E h;go_wp2_with fail;refine (Z.o _).mono ?_;rintro e w2 ⟨rfl,j⟩;go_wp2;go_ret3;exact⟨u.o,U.o.then j⟩
  have N:s.data.toList.drop k≠[]:=by rw [M.o];exact List.cons_ne_nil _ _
  have D:=vo N h;obtain⟨v,n,hd⟩:∃ v n,Lib.decodeL (s.data.toList.drop k)=(v,n):=⟨_,_,rfl⟩;have ad:qG (s.data.toList.drop k)=((v:Int),n):=by unfold qG;rw [XJ (fun q=>q.elim N h),hd]
  rw [hd] at D h;rw [ad] at Z;have ap:=D.pos;have aa:=D.le;rw [XW,y.o] at aa;have C:Hid (1≤n∧k+n≤s.size):=qI Ws;have Gk:Hid (yQ H (s.data.toList.drop (k+n)) (acc++(s.data.toList.drop k).take n)=xJ s.data.toList):=qI (by
   rw [← O.o,← uD];rw [M.o] at hd ⊢;exact (JT d E l hd h).symm)
  have Gr:Hid ((s.extract k (k+n)).data.toList=(s.data.toList.drop k).take n):=qI (by
   rw [ZI s k (k+n) Ws,List.take_drop])
  have Gs:Hid ((s.extract k (k+n)).size=n):=qI (by
   have A:=J5 (s.extract k (k+n));rw [Gr.o,Xe,XW,y.o] at A;have:=C.o;omega)
  obtain⟨g1,g2⟩:=zq (a:=(n:Int)) (b:=0) Ws;have au:(k:Int)+n≤s.size:=Ws;have a0:(k:Int)+n≤262144:=Ws;have a4:=Gs.o;obtain⟨i0,Y,ak,ae,an⟩:=info_parts za9.info;have HI:=qI Y;have Gm:=qI (And.intro ak (And.intro ae an));have a6:k+n≤262144:=Ws;have Gy:Hid (((k:Int)+(n:Int)).toNat=k+n):=qI Ws;clear K m B d l E h D N hd ad ap aa Y ak ae an;go_wp2_with fail;refine (Z.o _).mono ?_;rintro e w2 ⟨rfl,j⟩;have Gb:=qI (U.o.then j);have Ga:=qI (zk Ge.o j Wz);clear j;go_wp2_with (at_builtin;refine Lib.wpList_append_own_string _ rfl _ _ 32 9 rfl w.heap.size 5 i0 underlying32 underlying9 HI.o Gm.o.1 Gm.o.2.1 Gm.o.2.2 (.slice a acc.length c) acc.length (acc.map bv) rfl Ga.o (s.extract k (k+n)) rfl (by simp only [maxLen];omega) Ws Gb.o.size ?_;intro v' w' p ab _;have Gc:=qI p;have Gl:=qI (Wd.grown (X:=(Value.slice a acc.length c).ownBlock.toList) ab (fun k e=>.inl (by simp [e])));clear p ab);case roundEnd=>
   have A:=Gc.o;have e9:Lib.strCells (s.extract k (k+n))=((s.data.toList.drop k).take n).map bv:=by unfold Lib.strCells;rw [Gr.o];rfl
   rw [e9,← Xc,Gs.o] at A;obtain⟨a7,c7,rfl,-,-⟩:=(Slc.of_row A).form;have F:(acc++(s.data.toList.drop k).take n).length=acc.length+n:=by rw [XM,Xe,XW,y.o];have:=C.o;omega
   exact⟨⟨k+n,H,acc++(s.data.toList.drop k).take n,a7,c7,congrArg (Value.int .i64) Ws,by rw [F],by have:=Gj.o;omega,C.o.2,qI (by rw [F];have Q:=Gd.o;omega),by rw [F];exact A,Gk,qI (by have Q:=Gh.o;have h2:=C.o;have h3:=y.o;have h4:=Gq.o;rw [XW] at Q ⊢;omega),Gb.o.trans Gl.o (fun i Y=>.inr (Ga.o.lt i (XD Y)).1)⟩,by have:=C.o;simp [intOf];omega⟩
section
variable {w : World} {p B : Nat} {S : ByteArray} {x : PX}
theorem word_test {S W:ByteArray}{i:Nat}{r:List UInt8}(a:S.data.toList.drop i=r)(h:W.size≤r.length)(f:i≤S.size):(S.extract i (i+W.size)=W)↔W.data.toList.isPrefixOf r=true:=by
 have j:=xf a f;have b:(S.extract i (i+W.size)).data.toList=r.take W.size:=by rw [ZI S i (i+W.size) Ws,← a,List.take_drop]
 have d:W.data.toList.length=W.size:=J5 W;rw [List.isPrefixOf_iff_prefix,List.prefix_iff_eq_take,d];constructor;·intro e;rw [← b,e]
 ·intro e;exact Q6 (by rw [b];exact e.symm)
theorem word_long {W:ByteArray}{r:List UInt8}(h:r.length<W.size):W.data.toList.isPrefixOf r=false:=by
 cases e:W.data.toList.isPrefixOf r with
 | false=>rfl
 | true=>have:=Qe e;rw [J5] at this;omega
theorem yT (h:QS w p S B x)(hS:S.size≤262144)(W:ByteArray)(hW:W.size≤1000) : Calls prog 129 #[.pointer (some ⟨p,0,none⟩),.string W] w fun r w'=>r = .returned (.bool (kh W.data.toList x))∧QS w' p S B (Zy W.data.toList x)∧zb [p] w w':=by
 cases x with
 | inl e0=>
  obtain⟨i,c,n,s,hc,h2,h3⟩:=h.open_bad;obtain⟨c0,c1,c2,c3,u⟩:=n.cells;obtain⟨-,f⟩:=zq (a:=e0) (b:=0) Ws;have U:=zt c2;have H:=qI h;clear h n u;go_enter func129,ntmps129;go_wp2_with fail;refine zI w Wr Wr Wd ?_;clear c0 c1 c2 c3;repeat go_big_quiet_step (fail)
  refine wpQuiet_nil ?_;intro w2 d;clear U;go_wp2;go_ret;exact⟨rfl,H.o.k0 d,d.mono Wz⟩
 | inr q=>
  obtain⟨r,c⟩:=q;obtain⟨i,n,s,hc,t⟩:=h.open_ok;obtain⟨c0,c1,c2,c3,u⟩:=n.cells;have C:=zt c0;have A:=zt c1;have z:=zt c2;have H:=qI h;have O:=qI n;have N:=qI t;have D:=xf t s;have HL:=qI D;have HC:=qI hc;have Q:wrap64 ((S.size:Int)-(i:Int))=(r.length:Int):=by unfold wrap64;omega
  have I:=qI (fun j:kh W.data.toList (.inr (r,c))=false=>vi j);by_cases m:r.length<W.size
  ·have l:Hid (kh W.data.toList (.inr (r,c))=false):=qI (word_long m);have E:(r.length:Int)<W.size:=Ws;clear h n u t s hc D m;go_enter func129,ntmps129;go_wp2_with fail;refine zI w Wr Wr Wd ?_;clear c0 c1 c2 c3;repeat go_big_quiet_step (fail)
   refine wpQuiet_nil ?_;intro w2 d;clear C A z;go_wp2;go_ret;rw [l.o,I.o l.o];exact⟨rfl,H.o.k0 d,d.mono Wz⟩
  have G:decide ((S.size:Int)-i<W.size)=false:=XO Ws;have J:¬ ((S.size:Int)-i<W.size):=Ws;have y:=word_test (W:=W) t Ws s;have aa:(i:Int)+W.size≤S.size:=Ws;have M:(S.size:Int)≤262144:=Ws;have R:Hid (i+W.size≤S.size):=qI Ws;clear h n u s hc D m t;cases j:W.data.toList.isPrefixOf r with
  | false=>
   have l:Hid (kh W.data.toList (.inr (r,c))=false):=qI j;obtain⟨L,Y⟩:=k7 (fun e=>by rw [y.1 e] at j;cases j);clear y j;go_enter func129,ntmps129;go_wp2_with fail;refine zI w Wr Wr Wd ?_;clear c0 c1 c2 c3;repeat go_big_quiet_step (fail)
   refine wpQuiet_nil ?_;intro w2 d;clear C A z;go_wp2;go_ret;rw [l.o,I.o l.o];exact⟨rfl,H.o.k0 d,d.mono Wz⟩
  | true=>
   have l:Hid (kh W.data.toList (.inr (r,c))=true):=qI j;obtain⟨L,Y⟩:=jv (y.2 j);clear y j;have Z:Hid (S.data.toList.drop (i+W.size)=r.drop W.data.toList.length):=qI (by rw [J5,← N.o,uD]);go_enter func129,ntmps129;go_wp2_with fail;refine zI w Wr Wr Wd ?_;clear c0 c1 c2 c3;repeat go_big_quiet_step (fail)
   refine wpQuiet_nil ?_;intro w2 d;have P:=qI d;have k:=d.heap O.o Wz;have X:Hid (QAt w2 p S i c 0):=qI k;have d1:=za (o:=1) (v:=.int .i64 i) k rfl;have d2:=zh (o:=1) k;clear C A z d k;go_wp2;go_ret;rw [l.o,vt l.o];have K:=X.o.set1 (i+W.size);refine⟨rfl,?_,(P.o.mono Wz).trans' (yc _ _ _ _)⟩;have F:=QS.good K R.o HC.o;rw [Z.o] at F;exact F
end
section
variable {w : World} {p B : Nat} {S : ByteArray} {x : PX}
theorem qlitX_bad {r:List UInt8}{c:Nat}{e:Int}(h:xJ r = .inl e):Zb (.inr (r,c)) = .inl e∧bo (.inr (r,c))=[]:=by
 constructor;·show (match xJ r with | .inl e=>(Sum.inl e:PX) | .inr (_,r')=>.inr (r',c))=_;rw [h]
 ·show (match xJ r with | .inl _=>[] | .inr (t,_)=>t)=_;rw [h]
theorem qlitX_ok {r t a:List UInt8}{c:Nat}(h:xJ r = .inr (t,a)):Zb (.inr (r,c)) = .inr (a,c)∧bo (.inr (r,c))=t:=by
 constructor;·show (match xJ r with | .inl e=>(Sum.inl e:PX) | .inr (_,a)=>.inr (a,c))=_;rw [h]
 ·show (match xJ r with | .inl _=>[] | .inr (t,_)=>t)=_;rw [h]
theorem K2 (h:QS w p S B x)(hS:S.size≤262144) : Calls prog 130 #[.pointer (some ⟨p,0,none⟩)] w fun r w'=>r = .returned (.string (zw (bo x)))∧QS w' p S B (Zb x)∧zb [p] w w':=by
 cases x with
 | inl e0=>obtain⟨i,c,u,hi,hc,h2,h3⟩:=h.open_bad;obtain⟨c0,c1,c2,c3,v⟩:=u.cells;obtain⟨-,f⟩:=zq (a:=e0) (b:=0) Ws;have H:=qI h;clear h u v;go_enter func130,ntmps130;go_wp2;go_ret;exact⟨rfl,H.o,Wd⟩
 | inr q=>
  obtain⟨r,c⟩:=q;obtain⟨i,u,hi,hc,G⟩:=h.open_ok;obtain⟨c0,c1,c2,c3,v⟩:=u.cells;have H1:=qI u;have HR:=qI G;have hl:=xf G hi;have C:=qI hl;have HC:=qI hc;have ad:(i:Int)≤S.size:=Ws;have ab:(S.size:Int)≤262144:=Ws;have z:(S.extract i S.size).size≤262144:=by have F:=J5 (S.extract i S.size);rw [qx,XW,J5] at F;omega
  have Y:=qI (fun w'=>zcj (w:=w') (S.extract i S.size) z);rw [qx,G] at Y;unfold Qx at Y;clear h u v G hi hc hl z;go_enter func130,ntmps130;go_wp2_with fail;clear c0 c1 c2 c3;refine zu (n:=17) (fun w':World=>QAt w' p S i c 0∧zb [] w w') 17 Wr Wr ?_;change zT _ _ _ _ _ _ _ _ _ w.drew;have d:(fun w':World=>QAt w' p S i c 0∧zb [] w w') w.drew:=⟨(zb.refl [] w).drew.heap H1.o Wz,(zb.refl [] w).drew⟩;revert d;generalize w.drew=WD;intro d;refine zF ?_;intro O R l L;have j:jA R:=by subst L;exact fun _ _ _ _ _ h=>h
  refine qT 0 ?_ l rfl rfl Wr j (fun w k=>?_) d ?_;rotate_left;·exact zg
  try simp only [XI]
  refine qT 1 ?_ l rfl rfl Wr j (fun w k=>?_) d ?_;rotate_left;·exact zg
  try simp only [XI]
  refine qT 2 ?_ l rfl rfl Wr j (fun w k=>?_) d ?_;rotate_left;·exact zg
  try simp only [XI]
  refine qT 3 ?_ l rfl rfl Wr j (fun w k=>?_) d ?_;rotate_left;·obtain⟨I,P,J,U,N⟩:=k.1.cells;exact zg
  try simp only [XI]
  refine qT 4 ?_ l rfl rfl Wr j (fun w k=>?_) d ?_;rotate_left;·exact zg
  try simp only [XI]
  refine qT 5 ?_ l rfl rfl Wr j (fun w k=>?_) d ?_;rotate_left;·exact zg
  try simp only [XI]
  refine qT 6 ?_ l rfl rfl Wr j (fun w k=>?_) d ?_;rotate_left;·exact zg
  try simp only [XI]
  refine qT 7 ?_ l rfl rfl Wr j (fun w k=>?_) d ?_;rotate_left;·obtain⟨I,P,J,U,N⟩:=k.1.cells;exact zg
  try simp only [XI]
  refine qT 8 ?_ l rfl rfl Wr j (fun w k=>?_) d ?_;rotate_left;·exact zg
  try simp only [XI]
  refine qO 9 l rfl Wr (fun K D=>?_);go_simp;refine Calls.mono (Y.o _) ?_;cases E:xJ r with
  | inl e0=>
   rintro e w2 ⟨⟨n,Q,hx,rfl⟩,s⟩;have m:(fun w':World=>QAt w' p S i c 0∧zb [] w w') w2:=⟨s.heap d.1 Wz,d.2.then s⟩;refine D _ _ (.inr m) ?_;clear D K;try simp only [XI]
   clear d s;have d:=m;clear m;refine qT 10 ?_ l rfl rfl Wr j (fun w k=>?_) d ?_;rotate_left;·exact zg
   try simp only [XI]
   refine qT 11 ?_ l rfl rfl Wr j (fun w k=>?_) d ?_;rotate_left;·exact zg
   try simp only [XI]
   refine qT 12 ?_ l rfl rfl Wr j (fun w k=>?_) d ?_;rotate_left;·exact zg
   try simp only [XI]
   refine qT 13 ?_ l rfl rfl Wr j (fun w k=>?_) d ?_;rotate_left;·exact zg
   try simp only [XI]
   refine qT 14 ?_ l rfl rfl Wr j (fun w k=>?_) d ?_;rotate_left;·exact zg
   try simp only [XI]
   refine qT 15 ?_ l rfl rfl Wr j (fun w k=>?_) d ?_;rotate_left;·exact zg
   try simp only [XI]
   refine qT 16 ?_ l rfl rfl Wr j (fun w k=>?_) d ?_;rotate_left;·exact zg
   try simp only [XI]
   refine zE l Wr ?_ _;subst L;try clear j l O
   have X:=qI d.1;have M:=qI d.2;obtain⟨I,P,J,U,N⟩:=d.1.cells;obtain⟨g1,g2⟩:=zq (a:=e0) (b:=0) Ws;have W:(i:Int)+n≤S.size:=XC C.o;have CF:=qI (xH (w:=w2) (x:=.inr (r,c)) (by rw [← HR.o];exact QS.good (B:=B) X.o (XC C.o) HC.o) (i+n) e0 (XC C.o) hx.1 hx.2);rw [show ((i+n:Nat):Int)=(i:Int)+n by omega] at CF;have A:=qI (qlitX_bad (c:=c) E);clear d hx Q E N;go_wp2_with fail;refine CF.o.mono ?_;rintro e w3 ⟨rfl,aa,Z⟩;go_wp2;go_ret;rw [A.o.1,A.o.2];exact⟨rfl,aa,(M.o.mono Wz).trans' Z⟩
  | inr y=>
   obtain⟨t,r'⟩:=y;rintro e w2 ⟨⟨n,Q,hd,rfl⟩,s⟩;have m:(fun w':World=>QAt w' p S i c 0∧zb [] w w') w2:=⟨s.heap d.1 Wz,d.2.then s⟩;refine D _ _ (.inr m) ?_;clear D K;try simp only [XI]
   clear d s;have d:=m;clear m;refine qT 10 ?_ l rfl rfl Wr j (fun w k=>?_) d ?_;rotate_left;·exact zg
   try simp only [XI]
   refine qT 11 ?_ l rfl rfl Wr j (fun w k=>?_) d ?_;rotate_left;·exact zg
   try simp only [XI]
   refine qT 12 ?_ l rfl rfl Wr j (fun w k=>?_) d ?_;rotate_left;·exact zg
   try simp only [XI]
   refine qT 13 ?_ l rfl rfl Wr j (fun w k=>?_) d ?_;rotate_left;·exact zg
   try simp only [XI]
   refine qT 14 ?_ l rfl rfl Wr j (fun w k=>?_) d ?_;rotate_left;·exact zg
   try simp only [XI]
   refine qT 15 ?_ l rfl rfl Wr j (fun w k=>?_) d ?_;rotate_left;·exact zg
   try simp only [XI]
   refine qT 16 ?_ l rfl rfl Wr j (fun w k=>?_) d ?_;rotate_left;·exact zg
   try simp only [XI]
   refine zE l Wr ?_ _;subst L;try clear j l O
   have X:=qI d.1;have M:=qI d.2;obtain⟨I,P,J,U,v⟩:=d.1.cells;have f1:=v 1;have W:(i:Int)+n≤S.size:=XC C.o;have A:=qI (qlitX_ok (c:=c) E);have HD:=qI hd;have HN:Hid (i+n≤S.size):=qI (XC C.o);clear d hd Q E v;go_wp2;go_ret;rw [A.o.1,A.o.2];have F:=QS.good (B:=B) (X.o.set1 (i+n)) HN.o HC.o;rw [← uD,HR.o,HD.o] at F;exact⟨rfl,F,(M.o.mono Wz).trans' (yc _ _ _ _)⟩
end
end Go.Proofs.YtjccecajigmfkaaGreatDoor
