/- What stands between boundary lines, by the document's ans -/
import Derived.Test.YtignjjnflcpiiaaGreatDoorV25
import Derived.Test.YtignjjnflcpiiaaGreatDoorV30
set_option maxHeartbeats 8000000
set_option maxRecDepth 100000 set_option linter.all false
namespace Go.Proofs.YtignjjnflcpiiaaGreatDoor
open Go Go.RowKit Proofs.Tryz Lib
def Jk(x b:Bs):Bs:=if hasPrefix x (45::45::b)then trimS (x.drop (2+b.length)) [32,9]else[110,111,110,101]
def cH(x b:Bs):(match J9 x b with|none=>Jk x b=[110,111,110,101]|some t=>Jk x b=t):=by
 unfold J9 Jk;cases h:hasPrefix x (45::45::b)with
 |false=>simp
 |true=>
  simp only[DK];have:trimPrefix x (45::45::b)=x.drop (2+b.length):=by
   unfold trimPrefix;rw[h,AN rfl];congr 1;simp only[AK];omega
  rw[this]
variable {acc out xs:List Bs}{begun:Bool}{b x:Bs}{B e size:Nat}
def jd(h:Jk x b≠[]/\Jk x b≠[45,45]):Jd b (x::xs) begun acc out=Jd b xs begun (acc++[x]) out:=by
 have H:=cH x b;conv=>lhs;unfold Jd
 cases o:J9 x b with
 |none=>rfl
 |some t=>
  rw[o]at H;simp only at H|-;rw[H]at h;rw[AL h.2,AL h.1]
def jf(h:Jk x b=[45,45]):Jd b (x::xs) begun acc out=some (if begun then out++[join acc [13,10]]else out):=by
 have H:=cH x b;conv=>lhs;unfold Jd
 cases o:J9 x b with
 |none=>rw[o]at H;simp only at H;rw[H]at h;simp at h
 |some t=>
  rw[o]at H;simp only at H|-;rw[H]at h;rw[AN h]
def jg(h:Jk x b=[]):Jd b (x::xs) begun acc out=Jd b xs true [] (if begun then out++[join acc [13,10]]else out):=by
 have H:=cH x b;conv=>lhs;unfold Jd
 cases o:J9 x b with
 |none=>rw[o]at H;simp only at H;rw[H]at h;simp at h
 |some t=>
  rw[o]at H;simp only at H|-;rw[H]at h;subst h;rfl
def jh(B n:Nat)(r:Option (List Bs))(e:Ending)(w':World):Prop:=(∃o v,r=some o/\o.length<=n+2/\(∀x∈o,x.length<=n)/\e=.returned (.tuple #[v,true])/\Do w' B v o)\/(r=none/\e=.returned (.tuple #[.slice none 0 0,false]))
def jj(x:Bs)(l:List Bs):Dp (x::l)=x++[13,10]++Dp l:=by simp[Dp]
theorem pG:∀(n:Nat)(x:Bs),x.length<=n->Dp (split x [13,10])=x++[13,10]
 |n,x,h=>by
  rw[iG];cases H:Ao [13,10] x with
  |none=>simp[Dp]
  |some y=>
   obtain⟨a,r⟩:=y;have e:=F7 H;have b:r.length<x.length:=uw
   match n,h with
   |0,h=>omega
   |n+1,h=>
    have ih:=pG n r aa;show Dp (a::split r [13,10])=_;have E:Dp (a::split r [13,10])=a++[13,10]++Dp (split r [13,10]):=by simp[Dp]
    rw[E,ih,e];simp
def pH(l:List Bs):∀x∈l,x.length+2<=(Dp l).length:=by
 induction l with
 |nil=>intro x h;cases h
 |cons y l ih=>
  intro x h;have e:Dp (y::l)=y++[13,10]++Dp l:=by simp[Dp]
  rw[e];rcases CG.1 h with rfl|h
  ·simp<;>omega
  have:=ih x h;simp<;>omega
def pI(B:Nat)(v:Value)(l:List Bs)(p:Bs)(w:World)(h:Do w B v l)(q:l.length<=1000000000)(i:(join l p).length<=140737488355328):Calls prog 155 #[v,p] w fun e W=>e=.returned (join l p)/\Below w.heap.size w W:=by
 obtain⟨a,C,c,k⟩:=A1.rd ae By h;cases l with
 |nil=>
  subst c;refine(Vg a C p w).mono ?_;rintro e W⟨rfl,rfl⟩;exact⟨rfl,AG _ _⟩
 |cons x l=>
  obtain⟨b,m,t,n⟩:=k ah;subst m;rcases h.2 with⟨H,_⟩|⟨g,r,s,H,_,_,u,_⟩
  ·rw[c]at H;cases H
  rw[c]at H;injection H with z A E;subst E;subst c;refine Tb b 0 C (x::l) p w (fun j y f=>?_) t aa aa i;rw[EQ];have o:=(CB.1 f).1;have:=n j aa;rw[this];have d:=L8 (cs:=Bl) By (x::l) j o 0 ae;rw[IE,BI]at d;obtain⟨_,e⟩:=CB.1 f;first|(rw[d];done)|(rw[d,<-e];rfl)
def A1.other{α:Type}{cs:α->List Value}{w w':World}{v:Value}{r:Option Nat}{xs:List α}(h:A1 e size cs w B v xs)(a:w.grownBy w' r)(b:∀g,v.ownBlock=some g->r≠some g):A1 e size cs w' B v xs:=A1.J1 h fun g H=>a.block g (A1.Dj h g H) (fun e=>b g H e.symm)
def jk(s b:Bs)(w:World)(hs:s.length<=1000000)(hb:b.length<=1000000)(z:Cj w):Calls prog 207 #[s,b] w fun e w'=>jh w.heap.size s.length (Eb s b) e w'/\Below w.heap.size w w':=by
 have U:=Yg s [13,10] w aa ae z;have a7:(split s [13,10]).length<=s.length+1:=fe
 have V:=AE (yU s b);have F:=AE (by rw[DR,pG _ s (AF _)];simp[Dp]:(Dp []).length+(Dp ((split s [13,10]).drop 0)).length<=s.length+2);generalize split s [13,10]=L at U a7 V F;go_enter func207,ntmps207;go_wp2_with fail;with_reducible refine U.mono ?_
 rintro e w1⟨rfl,rfl⟩;clear U;have Y:=A0.new w (Ds L) 9;have Z:=(AG w.heap.size w).alloc (AF _) (.cells (Ds L) 9);generalize w.alloc (.cells (Ds L) 9)=w1 at Y Z|-;go_wp2_with fail;go_loopw[6,7,8,15] (fun ov lv bv iv wr=>∃(k:Nat)(acc out:List Bs)(begun:Bool),bv=begun/\iv=k/\k<=L.length/\Do wr (w.heap.size+1) ov out/\Do wr (w.heap.size+1) lv acc/\Hid (∀g,lv.ownBlock=some g->ov.ownBlock≠some g)/\out.length<=k/\acc.length<=k/\Hid ((Dp acc).length+(Dp (L.drop k)).length<=s.length+2)/\Hid (∀x∈out,x.length<=s.length)/\A0 wr w.heap.size (Ds L) 9/\Hid (Jd b (L.drop k) begun acc out=Eb s b)/\Below w.heap.size w wr) (fun _ _ _ iv _=>L.length-(intOf iv).toNat)
 case atStart=>exact⟨0,[],[],false,rfl,rfl,aa,A1.nil _ _ _ _ _,A1.nil _ _ _ _ _,AE (fun g h=>ee),ah,ah,F,AE (fun x hx=>by cases hx),Y,AE (by rw[DR];exact V.o),Z⟩
 clear Y Z V F;obtain⟨k,acc,out,begun,rfl,rfl,hk,n,i,E,b2,b3,F,X,H,A,B⟩:=hrel;by_cases a2:k<L.length
 ·have hc:wr.cell? ⟨w.heap.size,k,none⟩=some (L[k]):=by rw[H.cell];simp[Ds,a2]
  have l:=AH a2;have a8:L[k].length<=s.length:=by
   have h:=F.o;have:=pH (L.drop k) L[k] (by rw[l];exact CN ..);omega
  have C:=AE (show(Dp (acc++[L[k]])).length+(Dp (L.drop (k+1))).length<=s.length+2 from by
   have h:=F.o;rw[l]at h;rw[jj]at h;rw[Zz];simp only[AJ,AK,BG]at h|-;omega)
  have Q:=AE (show(Dp []).length+(Dp (L.drop (k+1))).length<=s.length+2 from by
   have h:=C.o;simp only[Dp,List.flatMap_nil,BG]at h|-;omega)
  have J:=AE (show(join acc [13,10]).length<=s.length from by
   by_cases h:acc=[]
   ·subst h;simp[join_nil]
   have h1:=CI List.length (iI h);have h2:=F.o;have h3:2<=(Dp (L.drop k)).length:=by
    have:=pH (L.drop k) L[k] (by rw[l];exact CN ..);omega
   simp at h1;omega)
  have o:=AE (fun(h:Jk L[k] b≠[]/\Jk L[k] b≠[45,45])=>(jd (b:=b) (x:=L[k]) (xs:=L.drop (k+1)) (begun:=begun) (acc:=acc) (out:=out) h).symm.trans (l▸A.o));have q:=AE (fun(h:Jk L[k] b=[45,45])=>(jf (b:=b) (x:=L[k]) (xs:=L.drop (k+1)) (begun:=begun) (acc:=acc) (out:=out) h).symm.trans (l▸A.o));have r:=AE (fun(h:Jk L[k] b=[])=>(jg (b:=b) (x:=L[k]) (xs:=L.drop (k+1)) (begun:=begun) (acc:=acc) (out:=out) h).symm.trans (l▸A.o));clear A F l;generalize L[k]=x at hc a8 C o q r;have R:=AE (ca:Jk x b=if hasPrefix x (45::45::b)then trimS (x.drop (2+b.length)) [32,9]else[110,111,110,101]);have P:=fun W=>L6 x (45::45::b) W
  generalize D:hasPrefix x (45::45::b)=p at P R;have S:=AE D;clear D;go_upto_if 22 with(with_reducible refine(P _).mono ?_;rintro e w2⟨rfl,rfl⟩);go_cut[11] (fun t wx=>t=(Jk x b)/\wx=wr)
  case first=>
   cases p with
   |true=>
    have b4:2+b.length<=x.length:=by
     have D:=S.o;have:=(DG.1 (by unfold hasPrefix at D;exact D)).length_le;simp at this;omega
    have a0:=AE (uk:Jk x b=trimS (x.drop (2+b.length)) [32,9]);clear R P S;have hT:=fun W=>Wl (x.drop (2+b.length)) W ag
    have z1:wrap64 (2+(b.length:Int))=2+(b.length:Int):=da
    have z2:(2+(b.length:Int)).toNat=2+b.length:=aa
    go_wp2_with fail;with_reducible refine(hT _).mono ?_
    rintro e T⟨rfl,rfl⟩;go_wp2;go_meet;exact⟨by rw[a0.o],rfl⟩
   |false=>
    have a0:=AE (uk:Jk x b=[110,111,110,101]);clear R P S;go_wp2;go_meet;exact⟨by rw[a0.o],rfl⟩
  case rest=>
  obtain⟨rfl,a3⟩:=hcut;obtain rfl:=a3.symm;clear a3 R P S;generalize Jk x b=m at o q r;by_cases h0:m=[]
  ·have N:=AE (r.o h0);have e0:m.isEmpty=true:=by rw[h0];rfl
   subst h0;clear o q r C;cases begun with
   |true=>
    have G:=fun W(h:Do W (w.heap.size+1) u7 acc)=>pI (w.heap.size+1) u7 acc [13,10] W h aa (by have:=J.o;omega)
    go_wp2_with fail;with_reducible refine(G _ i).mono ?_
    rintro e T⟨rfl,c⟩;have n:=A1.next n c;have H:=H.next c H.lt;have u:=B.trans (c.mono B.size);have I:=J.o;generalize join acc [13,10]=j at N I;have a1:=AE (show∀y∈out++[j],y.length<=s.length from fun y a=>by
     rcases BY.1 a with a|a
     ·exact X.o y a
     simp at a;subst a;exact I)
    clear i E J G c;go_wp2_with(at_builtin;refine Mt rfl _ _ rfl (w.heap.size+1) _ out j T.heap.size 1 rfl (A1.alloc n _) rfl (Il _ _ _) aa (by have:=u.size;have:=H.lt;simp;omega) ?_;intro v' w4 K d f v);have H:=(H.alloc (.cells #[j] 9)).grown d (fun g z=>by have:=A1.Ha n g z;omega);have M:=(u.alloc u.size (.cells #[j] 9)).trans (f.mono aa);clear d f v;go_wp2;go_roundw
    case rel=>exact⟨k+1,[],out++[j],true,rfl,aj,aa,K,A1.nil _ _ _ _ _,AE (fun g h=>ee),ag,ah,Q,a1,H,N,M⟩
    simp[intOf];omega
   |false=>
    go_wp2;go_roundw
    case rel=>exact⟨k+1,[],out,true,rfl,aj,aa,n,A1.nil _ _ _ _ _,AE (fun g h=>ee),aa,ah,Q,X,H,N,B⟩
    simp[intOf];omega
  by_cases O:m=[45,45]
  ·have N:=AE (q.o O);subst O;clear o q r C Q h0;cases begun with
   |true=>
    have a4:=AE (show Eb s b=some (out++[join acc [13,10]])from N.o.symm);clear N;have G:=fun W(h:Do W (w.heap.size+1) u7 acc)=>pI (w.heap.size+1) u7 acc [13,10] W h aa (by have:=J.o;omega)
    go_wp2_with fail;with_reducible refine(G _ i).mono ?_
    rintro e T⟨rfl,c⟩;have n:=A1.next n c;have u:=B.trans (c.mono B.size);have I:=J.o;generalize join acc [13,10]=j at a4 I;have a1:=AE (show∀y∈out++[j],y.length<=s.length from fun y a=>by
     rcases BY.1 a with a|a
     ·exact X.o y a
     simp at a;subst a;exact I)
    have a9:=(H.next c H.lt).lt;clear i E J G c;go_wp2_with(at_builtin;refine Mt rfl _ _ rfl (w.heap.size+1) _ out j T.heap.size 1 rfl (A1.alloc n _) rfl (Il _ _ _) aa ag ?_;intro v' w4 K d f v);have M:=(u.alloc u.size (.cells #[j] 9)).trans (f.mono aa);clear d f v;go_wp2;go_ret2;exact⟨Or.inl ⟨_,_,a4.o,ag,a1.o,rfl,K.mono aa⟩,M⟩
   |false=>
    have N:=AE (show Eb s b=some out from N.o.symm);go_wp2;go_ret2;exact⟨Or.inl ⟨_,_,N.o,aa,X.o,rfl,n.mono aa⟩,B⟩
  have N:=AE (o.o ⟨h0,O⟩);have e0:m.isEmpty=false:=ed
  have b5:(m==[45,45])=false:=by rw[AI];exact O
  have a9:=H.lt;clear o q r Q h0 O J;go_wp2_with(at_builtin;refine Mt rfl _ _ rfl (w.heap.size+1) _ acc x wr.heap.size 1 rfl (A1.alloc i _) rfl (Il _ _ _) aa ag ?_;intro v' w4 K d f v);have H:=(H.alloc (.cells #[x] 9)).grown d (fun g z=>by have:=A1.Ha i g z;omega);have M:=(B.alloc B.size (.cells #[x] 9)).trans (f.mono aa);have a5:=A1.alloc n (.cells #[x] 9);have b0:=A1.other a5 d (fun g h e=>E.o g e h);have a6:=fun g h=>A1.Dj n g h
  have b1:=AE (show∀g,v'.ownBlock=some g->_≠some g from fun g h e=>by
   rcases v with ho|ho
   ·exact E.o g (ho▸h) e
   rw[ho]at h;injection h with h;have:=a6 g e;simp at h;omega)
  clear d f v E a6 a5 n i;go_wp2;go_roundw
  case rel=>exact⟨k+1,acc++[x],out,begun,rfl,aj,aa,b0,K,b1,aa,ag,C,X,H,N,M⟩
  simp[intOf];omega
 obtain rfl:k=L.length:=aa
 have N:=AE (by rw[<-A.o,AS];rfl:Eb s b=none);go_wp2;go_ret2;exact⟨Or.inr ⟨N.o,rfl⟩,B⟩
def jl(s:Bs)(i:Nat)(n:Int)(h:n=i)(w:World)(H:s.length<=1000000000)(a:i<=s.length):Calls prog 124 #[s,n] w fun e W=>∃v,e=.returned (.tuple #[v,.int .i64 ((Dt s i).1:Int)])/\Iy W w.heap.size v (Dt s i).2/\Below w.heap.size w W:=by
 subst h;exact YK s i w H a
def pJ(s:Bs):Ko s s.length=[]:=S5 (by
 have:=Pa s [60] s.length (AF _);exact BP aa)
def cJ(s p:Bs)(i:Nat)(a:i<=s.length):(Di s p i+p.length<s.length/\Cm s p i=Di s p i+p.length)\/(s.length<=Di s p i+p.length/\Cm s p i=s.length):=by
 unfold Di Cm;rcases Od (s.drop i) p with h|⟨b,H⟩
 ·rw[AN h,AN h];exact Or.inr ⟨aa,rfl⟩
 rw[AL aa,AL aa];simp at H;omega
def az(c:UInt8):Bool:=(Em.take 52).contains c
def jm:((List.range 256).all fun n=>(decide (97<=((Bx n.toUInt8).toNat:Int))&&decide (((Bx n.toUInt8).toNat:Int)<=122))==az n.toUInt8&&(Ml (Bx n.toUInt8)==Ml n.toUInt8))=true:=af
def jq(c:UInt8):(decide (97<=((Bx c).toNat:Int))&&decide (((Bx c).toNat:Int)<=122))=az c/\Ml (Bx c)=Ml c:=by
 have:=AW.1 jm c.toNat (BT.2 c.toNat_lt);rw[show c.toNat.toUInt8=c by simp]at this;rw[BR]at this;exact⟨BL.1 this.1,BL.1 this.2⟩
def Xp(s:Bs)(w:World)(hs:s.length<=1000000000):Calls prog 69 #[s] w fun e w'=>∃v,e=.returned v/\Iy w' w.heap.size v (Bf s)/\Below w.heap.size w w':=by
 have HL:=AE (ca:[]++Ko s 0=Bf s);go_enter func69,ntmps69;go_wp2_with fail;go_loopw[3,4] (fun v x wr=>∃(i:Nat)(o:List Av),x=i/\i<=s.length/\o.length<=i/\Iy wr w.heap.size v o/\Hid (o++Ko s i=Bf s)/\Below w.heap.size w wr) (fun _ x _=>s.length-(intOf x).toNat)
 case atStart=>exact⟨0,[],rfl,DE _,AF _,A1.nil _ _ _ _ _,HL,AG _ _⟩
 clear HL;obtain⟨i,o,rfl,hi,c8,n,P,B⟩:=hrel;have hF:=aI s [60] i wr aa aa ae;have b:=cJ s [60] i hi;have c4:=Wm s [60] i hi;have S:=AE (fun c l h=>Wb (s:=s) (l:=l) (c:=c) hi h);have R:=AE (S5 (s:=s) (i:=i));have a5:=Rs s [60] i;generalize Cm s [60] i=a at b S R a5;generalize Di s [60] i=f at hF b c4;simp only[AK,BG]at b;rcases b with⟨h1,p⟩|⟨h1,p⟩
 ·obtain rfl:a=f+1:=by omega
  clear p R a5;have T:=AH h1;have b8:=S.o _ _ T;have hl:=Qn T;have d:=hl.1.le;have H:=AE (by rw[<-P.o,b8,AP]:(o++(Fs s (f+1) s[f+1]).2)++Ko s (Fs s (f+1) s[f+1]).1=Bf s);clear b8 S P hl;have j:=(Qn T).2;have c9:wrap64 ((f:Int)+1)=(f:Int)+1:=da
  have d0:wrap64 ((f:Int)+1+1)=(f:Int)+1+1:=da
  have U:=fun W=>Ix [s[f+1]] W ah
  have Z:=AE (jq s[f+1]);have V:=AE (fun(h:hasPrefix (s.drop (f+1)) [33,45,45]=true)=>mW (s:=s) (a:=f+1) (c:=s[f+1]) h);have X:=AE (fun(h:hasPrefix (s.drop (f+1)) [33,45,45]=false)(p:s[f+1]=47\/s[f+1]=33\/s[f+1]=63)=>mX (s:=s) (a:=f+1) (c:=s[f+1]) h p);have Y:=AE (fun(h:hasPrefix (s.drop (f+1)) [33,45,45]=false)(p:¬(s[f+1]=47\/s[f+1]=33\/s[f+1]=63))(h3:(Em.take 52).contains s[f+1]=true)=>mY (s:=s) (a:=f+1) (c:=s[f+1]) h p h3);have a0:=AE (fun(h:hasPrefix (s.drop (f+1)) [33,45,45]=false)(p:¬(s[f+1]=47\/s[f+1]=33\/s[f+1]=63))(h3:(Em.take 52).contains s[f+1]=false)=>mZ (s:=s) (a:=f+1) (c:=s[f+1]) h p h3);have D:=AE (nA s[f+1]);have hP:=fun W=>L6 (s.drop (f+1)) [33,45,45] W
  clear T;go_upto_region 6 with(go_at_call 123;with_reducible refine hF.mono ?_;rintro e w1⟨rfl,hw⟩;obtain rfl:=hw.symm);have b9:=AE (ca:A2 [s[f+1]]=[Bx s[f+1]]);rw[b9.o]at U;have H1:=AE (by rw[AH h1];rfl:(s.drop (f+1)).take 1=[s[f+1]]);generalize c5:Bx s[f+1]=k at U Z;have d1:(k.toNat:Int)<256:=by have:=k.toNat_lt;omega
  have d2:(f:Int)+1+1<=(s.length:Int):=aa
  clear b9 c5 hF;go_cut[5] (fun t E=>t=.int .u8 (k.toNat:Int)/\Below wr.heap.size wr E)
  case first=>
   go_wp2_with fail
   (try rw[H1.o])
   refine(U _).mono ?_;rintro e w2⟨rfl,G⟩;go_wp2;go_meet;exact⟨rfl,G⟩
  case rest=>
  obtain⟨rfl,G⟩:=hcut;obtain⟨w2,rfl⟩:∃x:World,x=wc:=⟨_,rfl⟩;have n:=A1.next n G;have r:=B.trans (G.mono B.size);clear G B U H1;generalize c0:hasPrefix (s.drop (f+1)) [33,45,45]=cm at hP V X Y a0;have a6:=AE c0;clear c0;cases cm with
  |true=>
   have N:=V.o rfl;have c1:f+1+3<=s.length:=by
    have h:=a6.o;have:=(DG.1 (by unfold hasPrefix at h;exact h)).length_le;rw[BD]at this;simp at this;omega
   rw[N]at H j d;simp only[BU]at H d j;have hF:=fun W=>aT s [45,45,62] (f+1+3) ((f:Int)+1+3) aa W aa aa ae
   have b:=cJ s [45,45,62] (f+1+3) c1;have u:=Wm s [45,45,62] (f+1+3) c1;clear N V X Y a0 D Z a6;generalize Cm s [45,45,62] (f+1+3)=C at H j d b;generalize Di s [45,45,62] (f+1+3)=F at hF b u;have c6:wrap64 ((F:Int)+3)=(F:Int)+3:=da
   have y:=AE u;clear u;simp only[AK,BG]at b;go_wp2_with fail;with_reducible refine(hP _).mono ?_
   rintro e w3⟨rfl,rfl⟩;go_wp2_with fail;with_reducible refine(hF _).mono ?_
   rintro e w3⟨rfl,rfl⟩;rcases b with⟨g1,g⟩|⟨g1,g⟩
   ·have m:=AE g;clear g;have a1:¬(s.length:Int)<=(F:Int)+3:=by omega
    go_wp2;go_roundw
    case rel=>exact⟨F+3,o,aj,lo,lo,n,by rw[<-m.o];exact H,r⟩
    simp[intOf];have:=m.o;have:=y.o;omega
   have a1:(s.length:Int)<=(F:Int)+3:=aa
   have A:=AE (show Bf s=o from by rw[<-H.o,g,S5 (by
    have:=Pa s [60] s.length (AF _);rw[show Cm s [60] s.length=s.length by omega,AS]),BU])
   clear g H;go_wp2;go_ret;exact⟨_,rfl,by rw[A.o];exact n,r⟩
  |false=>
   have a7:=AE (X.o rfl);have a8:=AE (Y.o rfl);have a9:=AE (a0.o rfl);clear X Y a0;have I:=AE (nB k);have q:=Z.o;have b0:=AE q.2;have J:=AE q.1;clear q Z V a6;go_upto_region 9 with(go_at_call 17;with_reducible refine(hP _).mono ?_;rintro e w3⟨rfl,rfl⟩);clear hP;go_cut[33] (fun t E=>t=.bool (Ml k)/\E=w2)
   case first=>
    cases q1:((k.toNat:Int)==47)with
    |true=>
     have Q:=AE q1;go_wp2;go_meet;exact⟨by rw[I.o,Q.o];rfl,rfl⟩
    |false=>
     have Q:=AE q1;cases q2:((k.toNat:Int)==33)with
     |true=>
      have Q2:=AE q2;go_wp2;go_meet;exact⟨by rw[I.o,Q.o,Q2.o];rfl,rfl⟩
     |false=>
      have Q2:=AE q2;cases q3:((k.toNat:Int)==63)with
      |true=>
       have Q3:=AE q3;go_wp2;go_meet;exact⟨by rw[I.o,Q.o,Q2.o,Q3.o];rfl,rfl⟩
      |false=>
       have Q3:=AE q3;go_wp2;go_meet;exact⟨by rw[I.o,Q.o,Q2.o,Q3.o];rfl,rfl⟩
   case rest=>
   obtain⟨rfl,K⟩:=hcut;obtain rfl:=K.symm;clear K I;rw[b0.o];cases M:Ml s[f+1]with
   |true=>
    have N:=a7.o (D.o.1 M);rw[N]at H j d;simp only[BU]at H d j;have hF:=fun W=>aT s [62] (f+1) ((f:Int)+1) aa W aa aa ae
    have b:=cJ s [62] (f+1) aa;have u:=Wm s [62] (f+1) aa;clear N a7 a8 a9 D M J b0;generalize Cm s [62] (f+1)=C at H j d b;generalize Di s [62] (f+1)=F at hF b u;have c6:wrap64 ((F:Int)+1)=(F:Int)+1:=da
    have y:=AE u;clear u;simp only[AK,BG]at b;go_wp2_with fail;with_reducible refine(hF _).mono ?_
    rintro e w3⟨rfl,rfl⟩;rcases b with⟨g1,g⟩|⟨g1,g⟩
    ·have m:=AE g;clear g;have a1:¬(s.length:Int)<=(F:Int)+1:=by omega
     go_wp2;go_roundw
     case rel=>exact⟨F+1,o,aj,lo,lo,n,by rw[<-m.o];exact H,r⟩
     simp[intOf];have:=m.o;have:=y.o;omega
    have a1:(s.length:Int)<=(F:Int)+1:=aa
    have A:=AE (by rw[<-H.o,g,pJ,BU]:Bf s=o);clear g H;go_wp2;go_ret;exact⟨_,rfl,by rw[A.o];exact n,r⟩
   |false=>
    have b1:¬(s[f+1]=47\/s[f+1]=33\/s[f+1]=63):=fun h=>by rw[D.o.2 h]at M;cases M
    have b2:=AE (a8.o b1);have b3:=AE (a9.o b1);clear M b1 D a7 a8 a9 b0;go_upto_region 11 with fail;go_cut[48] (fun t E=>t=.bool (az s[f+1])/\E=w2)
    case first=>
     by_cases r1:97<=(k.toNat:Int)
     ·have V1:=AE (BH r1);by_cases r2:(k.toNat:Int)<=122
      ·have V2:=AE (BH r2);go_wp2;go_meet;exact⟨by rw[<-J.o,V1.o,V2.o];rfl,rfl⟩
      have V2:=AE (AY r2);go_wp2;go_meet;exact⟨by rw[<-J.o,V1.o,V2.o];rfl,rfl⟩
     have V1:=AE (AY r1);go_wp2;go_meet;exact⟨by rw[<-J.o,V1.o];rfl,rfl⟩
    case rest=>
    obtain⟨rfl,K⟩:=hcut;obtain rfl:=K.symm;clear K J;cases q:az s[f+1]with
    |true=>
     have N:=b2.o q;rw[N]at H j d;have hT:=fun W=>jl s (f+1) ((f:Int)+1) aa W hs aa
     have c7:=r.size;clear N b2 b3 q;generalize(Dt s (f+1)).1=C at H j d hT;generalize(Dt s (f+1)).2=L at H j d hT;go_upto_region 14 with(go_at_call 124;with_reducible refine(hT _).mono ?_;rintro e w3⟨v3,rfl,c2,b4⟩);have a2:=A1.next n b4;have B3:=r.trans (b4.mono c7);obtain⟨ta,a3,rfl,a4⟩:=A1.rd ae G3 c2;clear c2 b4 hT n;by_cases g1:(s.length:Int)<=(C:Int)
     ·have c3:C=s.length:=by omega
      have A:=AE (by rw[<-H.o,c3,pJ,BU]:Bf s=o++L);clear c3;go_wp2_with(at_builtin;refine bT (α:=Av) (cs:=I4) (size:=3) (z:=.agg #[.int .i64 0,.int .i64 0,.string ByteArray.empty]) G3 Wt Wu rfl ae underlying93 rfl _ _ rfl w.heap.size _ o L ta L.length a3 rfl a2 rfl ⟨ta,a3,rfl,a4⟩ aa mi (by have:=B3.size;omega) ?_;intro v4 w4 b5 b6 O b7);have B4:=B3.trans O;clear b6 b7 O a4 a2;go_ret;exact⟨_,rfl,by rw[A.o];exact b5,B4⟩
     have g:=AE (aa:C<s.length);go_wp2_with(at_builtin;refine bT (α:=Av) (cs:=I4) (size:=3) (z:=.agg #[.int .i64 0,.int .i64 0,.string ByteArray.empty]) G3 Wt Wu rfl ae underlying93 rfl _ _ rfl w.heap.size _ o L ta L.length a3 rfl a2 rfl ⟨ta,a3,rfl,a4⟩ aa mi (by have:=B3.size;omega) ?_;intro v4 w4 b5 b6 O b7);have B4:=B3.trans O;clear b6 b7 O a4 a2;go_roundw
     case rel=>exact⟨C,o++L,rfl,aa,ag,b5,H,B4⟩
     simp[intOf];have:=g.o;omega
    |false=>
     have N:=b3.o q;rw[N]at H j d;simp only[BU]at H d j;have a1:¬(s.length:Int)<=(f:Int)+1:=aa
     clear N b2 b3 q;go_wp2;go_roundw
     case rel=>exact⟨f+1,o,aj,aa,aa,n,H,r⟩
     simp[intOf];omega
 obtain rfl:a=s.length:=aa
 have A:=AE (by rw[<-P.o,R.o (by rw[AS]),BU]:Bf s=o);clear R S P a5;have d3:(s.length:Int)<=(f:Int)+1:=aa
 go_wp2_with fail;with_reducible refine hF.mono ?_
 rintro e w1⟨rfl,rfl⟩;go_wp2;go_ret;exact⟨_,rfl,by rw[A.o];exact n,B⟩
def cK:Option Bs->Value
 |none=>.tuple #[.string ⟨#[]⟩,.int .i64 1]
 |some l=>.tuple #[l,.int .i64 0]
def jr(s:Bs)(v:List Bs)(m:Nat)(n:(Bf s).length=v.length)(H:m<(Bf s).length)(f:m<v.length):Ll s (((Bf s).zip v).drop m)=R0 ((Bf s)[m],v[m]) (Ll s (((Bf s).zip v).drop (m+1)))/\(Bf s)[m].1+(Bf s)[m].2.1<=(Ll s (((Bf s).zip v).drop (m+1))).length/\1<=(Bf s)[m].1:=by
 have h:O6 ((Bf s).zip v)=Bf s:=nE aa;have d:O6 (((Bf s).zip v).drop (m+1))=(Bf s).drop (m+1):=by
  unfold O6 at h|-;rw[List.map_drop,h]
 have a:=(Cg.at m H (I3 s).1).2;have e:=a.le;have p:∀x∈((Bf s).zip v).drop (m+1),1<=x.1.1:=fun x c=>by
  have b:x.1∈O6 ((Bf s).zip v):=List.mem_map_of_mem (JL c);rw[h]at b;exact Xb s _ b
 refine⟨?_,(bL _ _ (by rw[d];exact a) e p).2.2,Xb s _ (AQ H)⟩;rw[AH (show m<((Bf s).zip v).length by simp;omega),ID];rfl
def js(s:Bs)(V:List Bs)(vv:Value)(w:World)(hs:s.length<=1000000000)(hv:F9 1 Bl w vv V)(c3:V.length<=1000000)(a0:∀x∈V,x.length<=1000000):Calls prog 74 #[s,vv] w fun e w'=>e=.returned (cK (I7 s V))/\Below w.heap.size w w':=by
 obtain⟨va,c4,rfl,a1⟩:=hv.opens By;have b3:=AE a1;have b4:=AE a0;have D:=fun W=>Xp s W hs
 have T:=AE (jr s V);have E:=AE (ZL s V);have f:=AE (show(Bf s).length≠V.length->I7 s V=none from fun h=>by unfold I7;rw[AL h]);clear a1 a0 hv;generalize Bf s=L at D T E f;go_enter func74,ntmps74;go_upto_region 2 with(go_at_call 69;with_reducible refine(D _).mono ?_;rintro e w1⟨v,rfl,a2,j⟩);obtain⟨la,c5,rfl,a3⟩:=(A1.rd ae G3 a2).opens G3;have HC:=AE a3;have a4:=j.size;clear a3 a2 D;by_cases n:L.length=V.length
 case neg=>
  have N:=AE (f.o n);have a5:((L.length:Int)!=(V.length:Int))=true:=gi
  clear n E f T;go_wp2;go_ret2;exact⟨ay,j⟩
 have F:=AE (E.o n);have a5:((L.length:Int)!=(V.length:Int))=false:=by rw[GS];omega
 have b5:wrap64 ((L.length:Int)-1)=(L.length:Int)-1:=da
 have o:=AE n;clear f E n;go_wp2_with fail;go_loopw[0,7] (fun x y wr=>∃(k:Nat)(i:Int)(t:Bs),x=t/\y=i/\i+1=k/\k<=L.length/\Hid (t=Ll s ((L.zip V).drop k))/\t.length<=1000000000+(1000000-k)*6000002/\Below w1.heap.size w1 wr) (fun _ y _=>(intOf y+1).toNat)
 case atStart=>exact⟨L.length,_,s,rfl,rfl,aa,aa,AE (by rw[BP ag];rfl),aa,AG _ _⟩
 obtain⟨k,i,t,rfl,rfl,b6,hk,r,c6,B⟩:=hrel;clear b5 a5;cases k with
 |zero=>
  obtain rfl:i=-1:=aa
  have N:=AE (by rw[F.o,r.o];rfl:I7 s V=some t);clear F r T;go_wp2;go_ret2;exact⟨ay,j.trans (B.mono a4)⟩
 |succ m=>
  obtain rfl:i=(m:Int):=aa
  clear b6;have a6:m<L.length:=aa
  have I:m<V.length:=by have:=o.o;omega
  obtain⟨g,rfl,J,u⟩:=HC.o m a6;obtain⟨G,rfl,a7,e2⟩:=b3.o m I;have M:=(B.cell (p:=⟨g,m*3,none⟩) J).trans (u 0 ae);have O:=(B.cell (p:=⟨g,m*3+1,none⟩) J).trans (u 1 ae);have P:=(B.cell (p:=⟨g,m*3+2,none⟩) J).trans (u 2 ae);have R:=(B.cell (p:=⟨G,m,none⟩) (BN a7 a4)).trans ((j.cell (p:=⟨G,m,none⟩) a7).trans (by have:=e2 0 ae;simpa using this));have z:=T.o m o.o a6 I;rw[<-r.o]at z;have b7:=b4.o _ (AQ I);clear u e2 r T F;generalize L[m]=x at M O P z;generalize V[m]=v at R b7 z;obtain⟨x1,X,b⟩:=x;obtain⟨h1,S,U⟩:=z;obtain⟨y,rfl⟩:∃y,x1=y+1:=⟨x1-1,by simp only at U;omega⟩;simp only at S U;have b8:y<t.length:=aa
  have a8:=AE (by unfold Na;rw[AM];simp[b8]:Na t (y+1,X,b)=t[y]);have H:=AE (by rw[h1];unfold R0;rw[<-a8.o]:Ll s ((L.zip V).drop m)=t.take (y+1)++(Kw t[y] v++t.drop (y+1+X)));have l:=nC t[y] v;have c:=AE (ca:Kw t[y] v=if Fk t[y]then F3 v else 34::(F3 v++[34]));have hE:=fun W=>UT v W aa
  have a9:=A0.new wr #[.int .i64 ((y:Int)+1),X,b] 96;have A:=B.alloc B.size (.cells #[.int .i64 ((y:Int)+1),X,b] 96);have k0:wr.cell? ⟨g,m*3,none⟩=some (.int .i64 (((y+1:Nat)):Int)):=M;have k1:wr.cell? ⟨g,m*3+1,none⟩=some X:=O;have k2:wr.cell? ⟨g,m*3+2,none⟩=some b:=P;have b0:wr.cell? ⟨G,m,none⟩=some v:=R;have Y:G<wr.heap.size:=by have:=B.size;omega
  have K:=(((AG wr.heap.size wr).alloc (AF _) (.cells #[.int .i64 ((y:Int)+1),X,b] 96)).cell (p:=⟨G,m,none⟩) Y).trans b0;have KD:=AE K;have HR:=AE Y;clear h1 a8 U M O P R b0 K Y;go_upto_region 8 with fail;have K:=KD.o;clear k0 k1 k2 KD;generalize World.alloc _ _=W at a9 A K|-;have kc:=a9.cell;go_upto_region 9 with(go_at_call 126;with_reducible refine(hE _).mono ?_;rintro e w3⟨rfl,hw⟩;obtain rfl:=hw.symm;clear hw);clear K hE;have d:=AE (show Fk t[y]=(!((t[y].toNat:Int)!=34)||!((t[y].toNat:Int)!=39))from by
   unfold Fk;rw[F2,F2];simp only[bne,Bool.not_not];rfl)
  have b9:(t[y].toNat:Int)<256:=by have:=t[y].toNat_lt;omega
  go_upto_region 10 with fail;generalize t[y]=q at d c b9 H l|-;go_cut[44] (fun x wx=>x=.bool (!Fk q)/\wx=W)
  case first=>
   cases q1:((q.toNat:Int)!=34)with
   |false=>
    have Q:=AE q1;go_wp2;go_meet;exact⟨by rw[d.o,Q.o];rfl,rfl⟩
   |true=>
    have Q:=AE q1;cases q2:((q.toNat:Int)!=39)with
    |false=>
     have Q2:=AE q2;go_wp2;go_meet;exact⟨by rw[d.o,Q.o,Q2.o];rfl,rfl⟩
    |true=>
     have Q2:=AE q2;go_wp2;go_meet;exact⟨by rw[d.o,Q.o,Q2.o];rfl,rfl⟩
  case rest=>
  obtain⟨rfl,b1⟩:=hcut;obtain rfl:=b1.symm;clear b1 d;have b2:=bA v;cases C:Fk q with
  |true=>
   rw[EK];have HZ:=AE (by rw[c.o,C];rfl:Kw q v=F3 v);rw[HZ.o]at H l;clear C c;generalize F3 v=Z at H l b2|-;have c0:y+1+X<=t.length:=S;have c1:(y:Int)+1<=(t.length:Int):=aa
   have c2:(y:Int)+1+(X:Int)<=(t.length:Int):=aa
   go_upto_region 12 with fail;go_quiet(fail);have a:=CO (AG W.heap.size W) nq;generalize W.drewN nq=W2 at a|-;have B5:=A.trans (a.mono A.size);clear a kc;go_wp2;go_roundw
   case rel=>exact⟨m,(m:Int)-1,_,rfl,aj,aa,aa,AE ix,by have:=o.o;simp;omega,B5⟩
   simp[intOf]
  |false=>
   rw[EN];have HZ:=AE (by rw[c.o,C];rfl:Kw q v=34::(F3 v++[34]));rw[HZ.o]at H l;clear C c;generalize F3 v=Z at H l b2|-;have c0:y+1+X<=t.length:=S;have c1:(y:Int)+1<=(t.length:Int):=aa
   have c2:(y:Int)+1+(X:Int)<=(t.length:Int):=aa
   go_upto_region 12 with fail;go_quiet(fail);have a:=CO (AG W.heap.size W) nq;generalize W.drewN nq=W2 at a|-;have B5:=A.trans (a.mono A.size);clear a kc;go_wp2;go_roundw
   case rel=>exact⟨m,(m:Int)-1,_,rfl,aj,aa,aa,AE lu,by have:=o.o;simp;omega,B5⟩
   simp[intOf]
end Go.Proofs.YtignjjnflcpiiaaGreatDoor
