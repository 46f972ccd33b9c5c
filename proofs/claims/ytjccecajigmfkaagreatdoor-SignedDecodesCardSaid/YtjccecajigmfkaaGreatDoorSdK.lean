/- Parts of one proof, merged: XPB. -/
import Derived.Test.YtjccecajigmfkaaGreatDoorSdI
set_option linter.all false
set_option maxHeartbeats 12800000
set_option maxRecDepth 10000
namespace Go.Proofs.YtjccecajigmfkaaGreatDoor
open Go.Proofs.Tryz
open Go.RowKit
variable {b i:Nat}{r:List UInt8}
theorem qD.step {W w:World}(h:qD b W)(k:zb [b] W w):qD b w:=by
 obtain⟨e,d,h2,h3⟩:=h;exact⟨e,d,h2.trans k (fun i a=>by simp at a;subst a;exact .inr h3),h3⟩
theorem qD.here {w:World}(h:qD b w):xS w:=h.at Wd
theorem rest_str {S:ByteArray}(h:S.data.toList.drop i=r):S.extract i S.size=zw r:=Q6 (by rw [qx,h,zJ])
theorem xf {S:ByteArray}(h:S.data.toList.drop i=r)(a:i≤S.size):i+r.length=S.size:=by
 rw [← h,XW];have:S.data.toList.length=S.size:=Wz;omega
section
variable {w : World} {p B : Nat} {S : ByteArray} {x : PX}
theorem qC (h:PS w p S B x)(k:Nat)(e:Int)(t:k≤S.size)(n:0<e)(m:e≤1000) : Calls prog 76 #[.pointer (some ⟨p,0,none⟩),.int .i64 k,.int .i64 e] w fun r w'=>r = .returned (.bool false)∧PS w' p S B (bh e x)∧zb [p] w w':=by
 cases x with
 | inl e0=>obtain⟨i,c,d,l,hc,h2,h3⟩:=h.open_bad;obtain⟨c0,c1,c2,c3,j⟩:=d.cells;obtain⟨f,-⟩:=zq (a:=e0) (b:=0) Ws;have H:=qI h;clear h d j;go_enter func76,ntmps76;go_wp2;go_ret;exact⟨rfl,H.o,Wd⟩
 | inr q=>obtain⟨r,c⟩:=q;obtain⟨i,d,l,hc,s⟩:=h.open_ok;obtain⟨c0,c1,c2,c3,j⟩:=d.cells;have u:=j 1;have v:=j 3;have H:=qI d;clear h d j s;go_enter func76,ntmps76;go_wp2;go_ret;exact⟨rfl,PS.bad ((H.o.set1 k).set3 e) t hc n m,(yc _ _ _ _).trans' (yc _ _ _ _)⟩
theorem jz (h:PS w p S B x)(u:S.size≤262144) : Calls prog 75 #[.pointer (some ⟨p,0,none⟩)] w fun r w'=>r = .returned (.string (zw (jX x)))∧zb [] w w':=by
 cases x with
 | inl j=>obtain⟨i,c,d,m,hc,h2,h3⟩:=h.open_bad;obtain⟨c0,c1,c2,c3,e⟩:=d.cells;obtain⟨-,f⟩:=zq (a:=j) (b:=0) Ws;clear h d e;go_enter func75,ntmps75;go_wp2;go_ret;exact⟨rfl,Wd⟩
 | inr q=>
  obtain⟨r,c⟩:=q;obtain⟨i,d,m,hc,l⟩:=h.open_ok;obtain⟨c0,c1,c2,c3,e⟩:=d.cells;have t:Hid (S.extract i S.size=zw r):=qI (rest_str l);have s:(i:Int)≤S.size:=Ws;have j:=zt c0;have n:=zt c1;clear h d e l hc;go_enter func75,ntmps75;go_wp2_with fail;refine zI w Wr Wr Wd ?_;clear c0 c1 c2 c3;repeat go_big_quiet_step (fail)
  refine wpQuiet_nil ?_;intro w2 k;clear j n;go_wp2;go_ret;rw [t.o];exact⟨rfl,k⟩
theorem skip_place {i:Nat}(b:i≤S.size):∃ k,i≤k∧k≤S.size∧S.data.toList.drop k=zo (S.data.toList.drop i)∧k=i+((S.data.toList.drop i).length-(zo (S.data.toList.drop i)).length)∧(zo (S.data.toList.drop i)).length≤(S.data.toList.drop i).length:=by
 obtain⟨k,a,h2,h3,e,d⟩:=drop_skip S.data.toList i;exact⟨k,a,by have:=h2 (by simpa using b);simpa using this,h3,e,d⟩
theorem blanks_low:∀ (j:Nat) b,(⟨#[32,9,10,13]⟩:ByteArray).data.toList[j]? = some b→b.toNat<128:=by
 intro j b h
 match j,h with
 | 0,h=>injection h with h;subst h;decide
 | 1,h=>injection h with h;subst h;decide
 | 2,h=>injection h with h;subst h;decide
 | 3,h=>injection h with h;subst h;decide
theorem libTrimBlanks (s:List UInt8)(w:World):Calls prog 172 #[.string (zw s),.string ⟨#[32,9,10,13]⟩] w fun e w'=>e = .returned (.string (zw (zo s)))∧zb [] w w':=
 (zaC (zw s) ⟨#[32,9,10,13]⟩ w Wo blanks_low).mono fun e w' ⟨h1,h2⟩=>⟨by rw [h1,zJ];exact congrArg (fun l=>Ending.returned (Value.string (zw l))) (trim_blanks s),h2⟩
theorem kr (h:PS w p S B x)(hS:S.size≤262144) : Calls prog 123 #[.pointer (some ⟨p,0,none⟩)] w fun r w'=>r = .returned (.tuple #[])∧PS w' p S B (xg x)∧zb [p] w w':=by
 obtain⟨i,c,e,J,F,hc,D⟩:=h;have H:Hid (∀ w',PAt w' p S i c e→Calls prog 75 #[.pointer (some ⟨p,0,none⟩)] w' fun r w'=>r = .returned (.string (zw (jX x)))∧_):=qI (fun w' E=>jz (w:=w') ⟨i,c,e,E,F,hc,D⟩ hS);have HX:=qI D;obtain⟨k,y,m,l⟩:∃ k:Nat,k=i+((jX x).length - (zo (jX x)).length)∧k≤S.size∧(∀ w',PAt w' p S k c e→PS w' p S B (xg x)):=by
  cases x with
  | inl e0=>exact⟨i,by simp [jX,zo],F,fun w' E=>⟨i,c,e,E,F,hc,D⟩⟩
  | inr q=>obtain⟨r,c'⟩:=q;obtain⟨he,hr,I⟩:=D;subst he;subst hr;obtain⟨k,k1,P,k3,k4,k5⟩:=skip_place (S:=S) F;exact⟨k,k4,P,fun w' E=>⟨k,c,0,E,P,hc,rfl,k3,I⟩⟩
 have HP:=qI l;have A:=qQ (jX x);have Ga:Hid ((zw (jX x)).size=(jX x).length∧(zw (zo (jX x))).size=(zo (jX x)).length):=qI ⟨zZ _,zZ _⟩;have L:=qI (libTrimBlanks (jX x));have z:(jX x).length≤262144:=by
  cases x with
  | inl e0=>simp [jX]
  | inr q=>obtain⟨r,c'⟩:=q;have:=xf D.2.1 F;show r.length≤_;omega
 have C:=Ga.o;clear D l HX;revert H L C A z y;generalize zw (zo (jX x))=T2;generalize zw (jX x)=T1;generalize (zo (jX x)).length=n2;generalize (jX x).length=n1;intro H y A L z C;obtain⟨g1,g2⟩:=C;have N:(T1.size:Int)=n1:=Ws;have M:(T2.size:Int)=n2:=Ws;have Gb:Hid ((k:Int)=(i:Int)+((T1.size:Int)-(T2.size:Int))):=qI Ws;have b1:(T2.size:Int)≤T1.size:=Ws;have b2:(T1.size:Int)≤262144:=Ws;have b3:(i:Int)≤262144:=Ws;clear g1 g2 N M y A z Ga;obtain⟨c0,c1,c2,c3,G⟩:=J.cells;have H1:=qI J;clear G c0 c2 c3 c1;go_enter func123,ntmps123;refine zu (n:=16) (fun w':World=>PAt w' p S i c e∧zb [] w w') 15 Wr Wr ?_;change zT _ _ _ _ _ _ _ _ _ w.drew;have a:(fun w':World=>PAt w' p S i c e∧zb [] w w') w.drew:=⟨(zb.refl [] w).drew.heap H1.o Wz,(zb.refl [] w).drew⟩;clear J;revert a;generalize w.drew=WD;intro a;refine zF ?_;intro O R f X;have b:jA R:=by subst X;exact fun _ _ _ _ _ h=>h
 refine qT 0 ?_ f rfl rfl Wr b (fun w d=>?_) a ?_;rotate_left;·exact zg
 try simp only [XI]
 refine qT 1 ?_ f rfl rfl Wr b (fun w d=>?_) a ?_;rotate_left;·exact zg
 try simp only [XI]
 refine qT 2 ?_ f rfl rfl Wr b (fun w d=>?_) a ?_;rotate_left;·exact zg
 try simp only [XI]
 refine qT 3 ?_ f rfl rfl Wr b (fun w d=>?_) a ?_;rotate_left;·obtain⟨U,Y,W,Z,s4⟩:=d.1.cells;exact zg
 try simp only [XI]
 refine qT 4 ?_ f rfl rfl Wr b (fun w d=>?_) a ?_;rotate_left;·exact zg
 try simp only [XI]
 refine qT 7 ?_ f rfl rfl Wr b (fun w d=>?_) a ?_;rotate_left;·exact zg
 try simp only [XI]
 refine qO 5 f rfl Wr (fun K j=>?_);go_simp;refine Calls.mono (H.o _ a.1) ?_;rintro r w2 ⟨rfl,m⟩;have t:(fun w':World=>PAt w' p S i c e∧zb [] w w') w2:=⟨m.heap a.1 Wz,a.2.then m⟩;refine j _ _ (.inr t) ?_;clear j K;try simp only [XI]
 clear a m;have a:=t;clear t;refine qT 6 ?_ f rfl rfl Wr b (fun w d=>?_) a ?_;rotate_left;·exact zg
 try simp only [XI]
 refine qO 8 f rfl Wr (fun K j=>?_);go_simp;refine Calls.mono (H.o _ a.1) ?_;rintro r w3 ⟨rfl,l⟩;have s:(fun w':World=>PAt w' p S i c e∧zb [] w w') w3:=⟨l.heap a.1 Wz,a.2.then l⟩;refine j _ _ (.inr s) ?_;clear j K;try simp only [XI]
 clear a l;have a:=s;clear s;refine qO 9 f rfl Wr (fun K j=>?_);go_simp;refine Calls.mono (L.o _) ?_;rintro r w4 ⟨rfl,v⟩;have u:(fun w':World=>PAt w' p S i c e∧zb [] w w') w4:=⟨v.heap a.1 Wz,a.2.then v⟩;refine j _ _ (.inr u) ?_;clear j K;try simp only [XI]
 clear a v;have a:=u;clear u;have Q:=qI a;refine qT 10 ?_ f rfl rfl Wr b (fun w d=>?_) a ?_;rotate_left;·exact zg
 try simp only [XI]
 refine qT 11 ?_ f rfl rfl Wr b (fun w d=>?_) a ?_;rotate_left;·exact zg
 try simp only [XI]
 refine qT 12 ?_ f rfl rfl Wr b (fun w d=>?_) a ?_;rotate_left;·exact zg
 try simp only [XI]
 refine qO 13 f rfl Wr (fun K j=>?_);go_simp;refine j _ _ (.inr a) ?_;clear j K;try simp only [XI]
 refine qT 14 ?_ f rfl rfl Wr b (fun w d=>?_) a ?_;rotate_left;·exact zg
 try simp only [XI]
 obtain⟨U,Y,W,Z,G⟩:=a.1.cells;have f1:=G 1;clear G;refine qO 15 f rfl Wr (fun K j=>?_);go_simp;refine j _ _ (.inl rfl) ?_;clear j K;try simp only [XI]
 refine zE f Wr ?_ _;subst X;try clear b f O
 clear U Y W Z f1 a;go_wp2_with fail;go_end0;rw [show IntKind.i64.wrap ((i:Int)+IntKind.i64.wrap ((T1.size:Int)-(T2.size:Int)))=(k:Int) by rw [IntKind.wrap_i64,IntKind.wrap_i64];have:=Gb.o;omega];exact⟨rfl,HP.o _ (Q.o.1.set1 k),Q.o.2.mono Wz |>.trans' (yc _ _ _ _)⟩
end
end Go.Proofs.YtjccecajigmfkaaGreatDoor
