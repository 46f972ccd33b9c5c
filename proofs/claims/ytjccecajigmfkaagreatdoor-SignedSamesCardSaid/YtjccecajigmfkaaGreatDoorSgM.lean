/- Parts of one proof, merged: XKT XPB. -/
import Derived.Test.YtjccecajigmfkaaGreatDoorSgI
set_option linter.all false
set_option maxHeartbeats 12800000
set_option maxRecDepth 10000
namespace Go.Proofs.YtjccecajigmfkaaGreatDoor
open Go.Proofs.Tryz
open Go.RowKit
variable {J:World→Prop}{T:Nat}{W:World}{b b2 b3 i:Nat}{it:Nat→List UInt8}{l:List UInt8}{n:Nat}{r:List UInt8}
def qA (b:Nat)(W:World):Prop:=∃ Wt,xH Wt∧zb [] Wt W∧Wt.heap.size≤b
theorem qA.at {w:World}(h:qA b W)(k:zb [b] W w):xH w:=by
 obtain⟨e,d,h2,h3⟩:=h;exact d.k0 (h2.trans k (fun i a=>by simp at a;subst a;exact .inr h3))
theorem wbyte_44 (a:JV T){w:World}(h:BW T W b w l)(d:l.length≤100000000) : Calls prog 99 #[.pointer (some ⟨b,0,none⟩),.int .u8 44] w fun e w'=>e = .returned .nilIface∧BW T W b w' (l++[44])∧ye b w w':=qd a h d 44
theorem wbyte_58 (a:JV T){w:World}(h:BW T W b w l)(d:l.length≤100000000) : Calls prog 99 #[.pointer (some ⟨b,0,none⟩),.int .u8 58] w fun e w'=>e = .returned .nilIface∧BW T W b w' (l++[58])∧ye b w w':=qd a h d 58
theorem zaL {w:World}(h:BW 189 W b w l)(i:qA b W)(r:l.length≤90000000)(s:ByteArray)(k:s.size≤1000000)(hv:zw s=true) : Calls prog 194 #[.pointer (some ⟨b,0,none⟩),.string s] w fun e w'=>e = .returned (.tuple #[])∧BW 189 W b w' (l++yH s.data.toList)∧ye b w w':=by
 have q:=qI (utfQuote (i.at h.kept) s k hv);have j:=qI h;have n:Hid ((zx (yH s.data.toList)).size≤100000000):=qI (by
  have:=JT s.data.toList;rw [yd];have e:s.data.toList.length=s.size:=Wz;omega)
 clear h i hv;go_enter func194,ntmps194;go_wp2_with (first
  | (go_at_call 238;refine q.o.mh ?_;rintro e t rfl f)
  | (go_at_call 191;refine (vg xx (j.o.stay f.o) Ws (zx (yH s.data.toList)) n.o).mono ?_;rintro e w2 ⟨rfl,a,d⟩;rw [zK] at a;have m:=qI a;have p:=qI d;clear a d))
 go_end0;exact⟨rfl,m.o,(ye.of0 f.o).trans p.o⟩
theorem between1_any {w:World}{o c:UInt8}(D:∀ w1 w2,J w1→ye b w1 w2→J w2)(E:∀ k w1 l1,k<n→J w1→BW 189 W b w1 l1→l1.length+(it k).length≤50000000→Calls prog 196 #[.int .i64 k,.pointer (some ⟨b2,0,none⟩),.pointer (some ⟨b3,0,none⟩)] w1 fun r w2=>r = .returned (.tuple #[])∧BW 189 W b w2 (l1++it k)∧ye b w1 w2)(I:J w)(u:BW 189 W b w l)(Y:n≤20000)(hl:l.length+(qD it n).length≤49999998) : Calls prog 195 #[.pointer (some ⟨b,0,none⟩),.int .u8 o.toNat,.int .i64 n,.func (.func 196) #[] #[.pointer (some ⟨b2,0,none⟩),.pointer (some ⟨b3,0,none⟩)],.int .u8 c.toNat] w fun r w'=>r = .returned (.tuple #[])∧BW 189 W b w' (l++(o::(qD it n++[c])))∧ye b w w':=by
 have U:=qI u;have G:=qI I;have H:=qI E;have K:=qI D;clear u I E D;go_enter func195,ntmps195;go_wp2_with (go_at_call 99;refine (qd xx U.o Ws o).mono ?_;rintro e w1 ⟨rfl,s,q⟩;have X:=qI s;have Q:=qI q;clear s q);go_loopw [17] (fun i wr=>∃ k:Nat,i = .int .i64 k∧k≤n∧BW 189 W b wr (l++[o]++qD it k)∧ye b w wr) (fun i _=>n-(intOf i).toNat);case atStart=>exact⟨0,rfl,XB,by rw [Za,List.append_nil];exact X.o,Q.o⟩
 case round=>
  obtain⟨k,rfl,R,u,x⟩:=hrel;have C:=qI u;have t:=qI x;have B:=Ku it R;have f:(l++[o]++qD it k).length=l.length+1+(qD it k).length:=by simp only [List.length_append,List.length_cons,List.length_nil]
  clear u x;by_cases j:k<n
  ·have F:(k:Int)<n:=by omega
   have h:=Q8 it k;have v:=Ku it (show k+1≤n from j);by_cases L:k=0;·subst L;have N:=qI (H.o _ _ _ j (K.o _ _ G.o t.o) C.o (by simp only [if_true] at h;omega));have y:Hid (l++[o]++qD it 0++it 0=l++[o]++qD it (0+1)):=qI (by rw [Za,zbP,List.append_nil]);clear h f B v;rw [show (((0:Nat):Nat):Int)=0 from rfl] at *;go_wp2_with (go_at_call 196;refine N.o.mono ?_;rintro e w2 ⟨rfl,a,d⟩;rw [y.o] at a;have A:=qI a;have p:=qI d;clear a d);case roundEnd=>exact⟨⟨0+1,by go_num,Ws,A.o,t.o.trans p.o⟩,by simp [intOf];omega⟩
   ·have M:(0:Int)<k:=by omega
    rw [if_neg L] at h;have y:Hid (l++[o]++qD it k++[44]++it k=l++[o]++qD it (k+1)):=qI (by rw [JO it Ws];simp);go_wp2_with (first
     | (go_at_call 99;refine (wbyte_44 xx C.o Ws).mono ?_;rintro e w2 ⟨rfl,a,d⟩;have A:=qI a;have p:=qI d;clear a d)
     | (go_at_call 196;refine (H.o _ _ _ j (K.o _ _ G.o (t.o.trans p.o)) A.o (by rw [List.length_append,f];simp only [List.length_cons,List.length_nil];omega)).mono ?_;rintro e Z ⟨rfl,m,z⟩;rw [y.o] at m;have O:=qI m;have P:=qI z;clear m z))
    case roundEnd=>exact⟨⟨k+1,by go_num,Ws,O.o,(t.o.trans p.o).trans P.o⟩,by simp [intOf];omega⟩
  ·obtain rfl:k=n:=by omega
   have y:Hid (l++[o]++qD it k++[c]=l++(o::(qD it k++[c]))):=qI Wz;go_wp2_with (go_at_call 99;refine (qd xx C.o Ws c).mono ?_;rintro e w2 ⟨rfl,a,d⟩;rw [y.o] at a;have A:=qI a;have p:=qI d;clear a d);go_end0;exact⟨rfl,A.o,t.o.trans p.o⟩
theorem between2_any {w:World}{o c:UInt8}(D:∀ w1 w2,J w1→ye b w1 w2→J w2)(E:∀ k w1 l1,k<n→J w1→BW 189 W b w1 l1→l1.length+(it k).length≤50000000→Calls prog 197 #[.int .i64 k,.pointer (some ⟨b2,0,none⟩),.pointer (some ⟨b3,0,none⟩)] w1 fun r w2=>r = .returned (.tuple #[])∧BW 189 W b w2 (l1++it k)∧ye b w1 w2)(I:J w)(u:BW 189 W b w l)(Y:n≤20000)(hl:l.length+(qD it n).length≤49999998) : Calls prog 195 #[.pointer (some ⟨b,0,none⟩),.int .u8 o.toNat,.int .i64 n,.func (.func 197) #[] #[.pointer (some ⟨b2,0,none⟩),.pointer (some ⟨b3,0,none⟩)],.int .u8 c.toNat] w fun r w'=>r = .returned (.tuple #[])∧BW 189 W b w' (l++(o::(qD it n++[c])))∧ye b w w':=by
 have U:=qI u;have G:=qI I;have H:=qI E;have K:=qI D;clear u I E D;go_enter func195,ntmps195;go_wp2_with (go_at_call 99;refine (qd xx U.o Ws o).mono ?_;rintro e w1 ⟨rfl,s,q⟩;have X:=qI s;have Q:=qI q;clear s q);go_loopw [17] (fun i wr=>∃ k:Nat,i = .int .i64 k∧k≤n∧BW 189 W b wr (l++[o]++qD it k)∧ye b w wr) (fun i _=>n-(intOf i).toNat);case atStart=>exact⟨0,rfl,XB,by rw [Za,List.append_nil];exact X.o,Q.o⟩
 case round=>
  obtain⟨k,rfl,R,u,x⟩:=hrel;have C:=qI u;have t:=qI x;have B:=Ku it R;have f:(l++[o]++qD it k).length=l.length+1+(qD it k).length:=by simp only [List.length_append,List.length_cons,List.length_nil]
  clear u x;by_cases j:k<n
  ·have F:(k:Int)<n:=by omega
   have h:=Q8 it k;have v:=Ku it (show k+1≤n from j);by_cases L:k=0;·subst L;have N:=qI (H.o _ _ _ j (K.o _ _ G.o t.o) C.o (by simp only [if_true] at h;omega));have y:Hid (l++[o]++qD it 0++it 0=l++[o]++qD it (0+1)):=qI (by rw [Za,zbP,List.append_nil]);clear h f B v;rw [show (((0:Nat):Nat):Int)=0 from rfl] at *;go_wp2_with (go_at_call 197;refine N.o.mono ?_;rintro e w2 ⟨rfl,a,d⟩;rw [y.o] at a;have A:=qI a;have p:=qI d;clear a d);case roundEnd=>exact⟨⟨0+1,by go_num,Ws,A.o,t.o.trans p.o⟩,by simp [intOf];omega⟩
   ·have M:(0:Int)<k:=by omega
    rw [if_neg L] at h;have y:Hid (l++[o]++qD it k++[44]++it k=l++[o]++qD it (k+1)):=qI (by rw [JO it Ws];simp);go_wp2_with (first
     | (go_at_call 99;refine (wbyte_44 xx C.o Ws).mono ?_;rintro e w2 ⟨rfl,a,d⟩;have A:=qI a;have p:=qI d;clear a d)
     | (go_at_call 197;refine (H.o _ _ _ j (K.o _ _ G.o (t.o.trans p.o)) A.o (by rw [List.length_append,f];simp only [List.length_cons,List.length_nil];omega)).mono ?_;rintro e Z ⟨rfl,m,z⟩;rw [y.o] at m;have O:=qI m;have P:=qI z;clear m z))
    case roundEnd=>exact⟨⟨k+1,by go_num,Ws,O.o,(t.o.trans p.o).trans P.o⟩,by simp [intOf];omega⟩
  ·obtain rfl:k=n:=by omega
   have y:Hid (l++[o]++qD it k++[c]=l++(o::(qD it k++[c]))):=qI Wz;go_wp2_with (go_at_call 99;refine (qd xx C.o Ws c).mono ?_;rintro e w2 ⟨rfl,a,d⟩;rw [y.o] at a;have A:=qI a;have p:=qI d;clear a d);go_end0;exact⟨rfl,A.o,t.o.trans p.o⟩
theorem qA.step {w:World}(h:qA b W)(k:zb [b] W w):qA b w:=by
 obtain⟨d,e,h2,h3⟩:=h;exact⟨d,e,h2.trans k (fun i a=>by simp at a;subst a;exact .inr h3),h3⟩
theorem qA.here {w:World}(h:qA b w):xH w:=h.at Wd
theorem rest_str {S:ByteArray}(h:S.data.toList.drop i=r):S.extract i S.size=zx r:=zak (by rw [YG,h,zK])
theorem yO {S:ByteArray}(h:S.data.toList.drop i=r)(a:i≤S.size):i+r.length=S.size:=by
 rw [← h,List.length_drop];have:S.data.toList.length=S.size:=Wz;omega
section
variable {w : World} {p B : Nat} {S : ByteArray} {x : PX}
theorem yJ (h:PS w p S B x)(k:Nat)(e:Int)(m:k≤S.size)(t:0<e)(l:e≤1000) : Calls prog 76 #[.pointer (some ⟨p,0,none⟩),.int .i64 k,.int .i64 e] w fun r w'=>r = .returned (.bool false)∧PS w' p S B (zbk e x)∧zb [p] w w':=by
 cases x with
 | inl e0=>obtain⟨i,c,d,n,hc,h2,h3⟩:=h.open_bad;obtain⟨c0,c1,c2,c3,j⟩:=d.cells;obtain⟨f,-⟩:=zR (a:=e0) (b:=0) Ws;have H:=qI h;clear h d j;go_enter func76,ntmps76;go_wp2;go_ret;exact⟨rfl,H.o,Wd⟩
 | inr q=>obtain⟨r,c⟩:=q;obtain⟨i,d,n,hc,s⟩:=h.open_ok;obtain⟨c0,c1,c2,c3,j⟩:=d.cells;have u:=j 1;have f3:=j 3;have H:=qI d;clear h d j s;go_enter func76,ntmps76;go_wp2;go_ret;exact⟨rfl,PS.bad ((H.o.set1 k).set3 e) m hc t l,(zW _ _ _ _).trans' (zW _ _ _ _)⟩
theorem ji (h:PS w p S B x)(u:S.size≤262144) : Calls prog 75 #[.pointer (some ⟨p,0,none⟩)] w fun r w'=>r = .returned (.string (zx (jI x)))∧zb [] w w':=by
 cases x with
 | inl e=>obtain⟨i,c,d,n,hc,h2,h3⟩:=h.open_bad;obtain⟨c0,c1,c2,c3,k⟩:=d.cells;obtain⟨-,f⟩:=zR (a:=e) (b:=0) Ws;clear h d k;go_enter func75,ntmps75;go_wp2;go_ret;exact⟨rfl,Wd⟩
 | inr q=>
  obtain⟨r,c⟩:=q;obtain⟨i,d,n,hc,l⟩:=h.open_ok;obtain⟨c0,c1,c2,c3,k⟩:=d.cells;have t:Hid (S.extract i S.size=zx r):=qI (rest_str l);have s:(i:Int)≤S.size:=Ws;have e:=zv c0;have m:=zv c1;clear h d k l hc;go_enter func75,ntmps75;go_wp2_with fail;refine yg w Wr Wr Wd ?_;clear c0 c1 c2 c3;repeat go_big_quiet_step (fail)
  refine wpQuiet_nil ?_;intro w2 j;clear e m;go_wp2;go_ret;rw [t.o];exact⟨rfl,j⟩
theorem skip_place {i:Nat}(b:i≤S.size):∃ k,i≤k∧k≤S.size∧S.data.toList.drop k=zu (S.data.toList.drop i)∧k=i+((S.data.toList.drop i).length-(zu (S.data.toList.drop i)).length)∧(zu (S.data.toList.drop i)).length≤(S.data.toList.drop i).length:=by
 obtain⟨k,d,h2,h3,e,a⟩:=drop_skip S.data.toList i;exact⟨k,d,by have:=h2 (by simpa using b);simpa using this,h3,e,a⟩
theorem blanks_low:∀ (j:Nat) b,(⟨#[32,9,10,13]⟩:ByteArray).data.toList[j]? = some b→b.toNat<128:=by
 intro j b h
 match j,h with
 | 0,h=>injection h with h;subst h;decide
 | 1,h=>injection h with h;subst h;decide
 | 2,h=>injection h with h;subst h;decide
 | 3,h=>injection h with h;subst h;decide
theorem libTrimBlanks (s:List UInt8)(w:World):Calls prog 172 #[.string (zx s),.string ⟨#[32,9,10,13]⟩] w fun e w'=>e = .returned (.string (zx (zu s)))∧zb [] w w':=
 (JX (zx s) ⟨#[32,9,10,13]⟩ w Wo blanks_low).mono fun e w' ⟨h1,h2⟩=>⟨by rw [h1,zK];exact congrArg (fun l=>Ending.returned (Value.string (zx l))) (trim_blanks s),h2⟩
theorem qv (h:PS w p S B x)(hS:S.size≤262144) : Calls prog 123 #[.pointer (some ⟨p,0,none⟩)] w fun r w'=>r = .returned (.tuple #[])∧PS w' p S B (kL x)∧zb [p] w w':=by
 obtain⟨i,c,e,M,E,hc,D⟩:=h;have G:Hid (∀ w',PAt w' p S i c e→Calls prog 75 #[.pointer (some ⟨p,0,none⟩)] w' fun r w'=>r = .returned (.string (zx (jI x)))∧_):=qI (fun w' F=>ji (w:=w') ⟨i,c,e,F,E,hc,D⟩ hS);have HX:=qI D;obtain⟨k,u,m,l⟩:∃ k:Nat,k=i+((jI x).length - (zu (jI x)).length)∧k≤S.size∧(∀ w',PAt w' p S k c e→PS w' p S B (kL x)):=by
  cases x with
  | inl e0=>exact⟨i,by simp [jI,zu],E,fun w' F=>⟨i,c,e,F,E,hc,D⟩⟩
  | inr q=>obtain⟨r,c'⟩:=q;obtain⟨he,hr,J⟩:=D;subst he;subst hr;obtain⟨k,k1,P,k3,k4,k5⟩:=skip_place (S:=S) E;exact⟨k,k4,P,fun w' F=>⟨k,c,0,F,P,hc,rfl,k3,J⟩⟩
 have HP:=qI l;have t:=kC (jI x);have Q:Hid ((zx (jI x)).size=(jI x).length∧(zx (zu (jI x))).size=(zu (jI x)).length):=qI ⟨yd _,yd _⟩;have I:=qI (libTrimBlanks (jI x));have C:(jI x).length≤262144:=by
  cases x with
  | inl e0=>simp [jI]
  | inr q=>obtain⟨r,c'⟩:=q;have:=yO D.2.1 E;show r.length≤_;omega
 have A:=Q.o;clear D l HX;revert G I A t C u;generalize zx (zu (jI x))=T2;generalize zx (jI x)=T1;generalize (zu (jI x)).length=n2;generalize (jI x).length=n1;intro G u t I C A;obtain⟨g1,g2⟩:=A;have L:(T1.size:Int)=n1:=Ws;have N:(T2.size:Int)=n2:=Ws;have Gm:Hid ((k:Int)=(i:Int)+((T1.size:Int)-(T2.size:Int))):=qI Ws;have b1:(T2.size:Int)≤T1.size:=Ws;have b2:(T1.size:Int)≤262144:=Ws;have b3:(i:Int)≤262144:=Ws;clear g1 g2 L N u t C Q;obtain⟨c0,c1,c2,c3,H⟩:=M.cells;have H1:=qI M;clear H c0 c2 c3 c1;go_enter func123,ntmps123;refine zt (n:=16) (fun w':World=>PAt w' p S i c e∧zb [] w w') 15 Wr Wr ?_;change zS _ _ _ _ _ _ _ _ _ w.drew;have a:(fun w':World=>PAt w' p S i c e∧zb [] w w') w.drew:=⟨(zb.refl [] w).drew.heap H1.o Wz,(zb.refl [] w).drew⟩;clear M;revert a;generalize w.drew=WD;intro a;refine zF ?_;intro O R f X;have b:kI R:=by subst X;exact fun _ _ _ _ _ h=>h
 refine qT 0 ?_ f rfl rfl Wr b (fun w d=>?_) a ?_;rotate_left;·exact zg
 try simp only [XI]
 refine qT 1 ?_ f rfl rfl Wr b (fun w d=>?_) a ?_;rotate_left;·exact zg
 try simp only [XI]
 refine qT 2 ?_ f rfl rfl Wr b (fun w d=>?_) a ?_;rotate_left;·exact zg
 try simp only [XI]
 refine qT 3 ?_ f rfl rfl Wr b (fun w d=>?_) a ?_;rotate_left;·obtain⟨W,Y,U,s3,s4⟩:=d.1.cells;exact zg
 try simp only [XI]
 refine qT 4 ?_ f rfl rfl Wr b (fun w d=>?_) a ?_;rotate_left;·exact zg
 try simp only [XI]
 refine qT 7 ?_ f rfl rfl Wr b (fun w d=>?_) a ?_;rotate_left;·exact zg
 try simp only [XI]
 refine qO 5 f rfl Wr (fun K j=>?_);go_simp;refine Calls.mono (G.o _ a.1) ?_;rintro r w2 ⟨rfl,m⟩;have s:(fun w':World=>PAt w' p S i c e∧zb [] w w') w2:=⟨m.heap a.1 Wz,a.2.then m⟩;refine j _ _ (.inr s) ?_;clear j K;try simp only [XI]
 clear a m;have a:=s;clear s;refine qT 6 ?_ f rfl rfl Wr b (fun w d=>?_) a ?_;rotate_left;·exact zg
 try simp only [XI]
 refine qO 8 f rfl Wr (fun K j=>?_);go_simp;refine Calls.mono (G.o _ a.1) ?_;rintro r w3 ⟨rfl,l⟩;have y:(fun w':World=>PAt w' p S i c e∧zb [] w w') w3:=⟨l.heap a.1 Wz,a.2.then l⟩;refine j _ _ (.inr y) ?_;clear j K;try simp only [XI]
 clear a l;have a:=y;clear y;refine qO 9 f rfl Wr (fun K j=>?_);go_simp;refine Calls.mono (I.o _) ?_;rintro r w4 ⟨rfl,v⟩;have z:(fun w':World=>PAt w' p S i c e∧zb [] w w') w4:=⟨v.heap a.1 Wz,a.2.then v⟩;refine j _ _ (.inr z) ?_;clear j K;try simp only [XI]
 clear a v;have a:=z;clear z;have Z:=qI a;refine qT 10 ?_ f rfl rfl Wr b (fun w d=>?_) a ?_;rotate_left;·exact zg
 try simp only [XI]
 refine qT 11 ?_ f rfl rfl Wr b (fun w d=>?_) a ?_;rotate_left;·exact zg
 try simp only [XI]
 refine qT 12 ?_ f rfl rfl Wr b (fun w d=>?_) a ?_;rotate_left;·exact zg
 try simp only [XI]
 refine qO 13 f rfl Wr (fun K j=>?_);go_simp;refine j _ _ (.inr a) ?_;clear j K;try simp only [XI]
 refine qT 14 ?_ f rfl rfl Wr b (fun w d=>?_) a ?_;rotate_left;·exact zg
 try simp only [XI]
 obtain⟨W,Y,U,s3,H⟩:=a.1.cells;have f1:=H 1;clear H;refine qO 15 f rfl Wr (fun K j=>?_);go_simp;refine j _ _ (.inl rfl) ?_;clear j K;try simp only [XI]
 refine zz f Wr ?_ _;subst X;try clear b f O
 clear W Y U s3 f1 a;go_wp2_with fail;go_end0;rw [show IntKind.i64.wrap ((i:Int)+IntKind.i64.wrap ((T1.size:Int)-(T2.size:Int)))=(k:Int) by rw [IntKind.wrap_i64,IntKind.wrap_i64];have:=Gm.o;omega];exact⟨rfl,HP.o _ (Z.o.1.set1 k),Z.o.2.mono Wz |>.trans' (zW _ _ _ _)⟩
end
end Go.Proofs.YtjccecajigmfkaaGreatDoor
