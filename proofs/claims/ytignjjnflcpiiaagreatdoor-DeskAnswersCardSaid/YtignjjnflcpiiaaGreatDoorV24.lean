/- page's attribute: behind an attribute of a tag. Condition -/
import Derived.Test.YtignjjnflcpiiaaGreatDoorV10
import Derived.Test.YtignjjnflcpiiaaGreatDoorV19
import Derived.Test.YtignjjnflcpiiaaGreatDoorV23
set_option maxHeartbeats 8000000
set_option maxRecDepth 100000 set_option linter.all false
namespace Go.Proofs.YtignjjnflcpiiaaGreatDoor
open Go Go.RowKit Proofs.Tryz Lib
def Oo(s:Bs)(a:Nat):Bool×Nat×List Av:=let k:=indexAny (s.drop (a+1)) [32,9,13,10,47,61,62]
 if k<0 then(false,s.length,[])
 else
  let d:=a+(1+k.toNat)+C7 (s.drop (a+(1+k.toNat))) Gy
  if(s.drop d).head?=some 61 then E9 s (A2 ((s.drop a).take (1+k.toNat))) (d+1+C7 (s.drop (d+1)) Gy)
  else(decide (d<s.length),d,[])
variable {i a n b d j B:Nat}{s:Bs}{c:UInt8}
def XG(H:a=i+C7 (s.drop i) [32,9,13,10,47])(h:s.length<=a):C5 s i=(false,a,[]):=by
 unfold C5;simp only[<-H];rw[BP h]
def XH(H:a=i+C7 (s.drop i) [32,9,13,10,47])(h:a<s.length)(b:s[a]=62):C5 s i=(false,a+1,[]):=by
 unfold C5;simp only[<-H];rw[AH h];simp only;rw[AN b]
def XI(H:a=i+C7 (s.drop i) [32,9,13,10,47])(h:a<s.length)(b:s[a]≠62):C5 s i=Oo s a:=by
 unfold C5 Oo;simp only[<-H];rw[AH h];simp only;rw[AL b]
def XJ{k:Int}(H:k=indexAny (s.drop (a+1)) [32,9,13,10,47,61,62])(h:k<0):Oo s a=(false,s.length,[]):=by
 unfold Oo;simp only[<-H];rw[AN h]
def XK(H:(n:Int)=indexAny (s.drop (a+1)) [32,9,13,10,47,61,62])(c:b=a+(1+n))(e:d=b+C7 (s.drop b) Gy)(h:(s.drop d).head?≠some 61):Oo s a=(decide (d<s.length),d,[]):=by
 unfold Oo;simp only[<-H];rw[AL aa];simp only[EW,<-c,<-e];rw[AL h]
def XL(H:(n:Int)=indexAny (s.drop (a+1)) [32,9,13,10,47,61,62])(c:b=a+(1+n))(e:d=b+C7 (s.drop b) Gy)(h:(s.drop d).head?=some 61)(f:j=d+1+C7 (s.drop (d+1)) Gy):Oo s a=E9 s (A2 ((s.drop a).take (1+n))) j:=by
 unfold Oo;simp only[<-H];rw[AL aa];simp only[EW,<-c,<-e];rw[AN h,<-f]
def XM(c:UInt8):(!((c.toNat:Int)==61))=!(decide (some c=some (61:UInt8))):=by
 by_cases h:c=61
 ·subst h;rfl
 rw[show((c.toNat:Int)==61)=false from S8 h,AY (fun e=>h (CU e))]
def Gr.below{w w':World}{B:Nat}(h:Gr w)(b:3<B)(H:Below B w w'):Gr w':=by
 refine⟨h.g.below H b,fun k a=>?_,fun k a=>?_,?_⟩
 ·exact(H.cell (p:=⟨1,k,none⟩) ai).trans (h.signs k a)
 ·exact(H.cell (p:=⟨2,k,none⟩) ai).trans (h.ours k a)
 exact(H.cell (p:=⟨0,0,none⟩) ai).trans h.et
def Sc.hB{out:List Av}{w:World}(h:Sc B b s i out w):B<=b:=by obtain⟨_,_,_,H⟩:=h;exact H
def XN(h:d<s.length):(s.drop d).head?=some s[d]:=by rw[AH h];rfl
def mU(h:s.length<=d):(s.drop d).head?=none:=by rw[BP h];rfl
def Eu:Code->Code
 | .seq _ c=>c
 |c=>c
noncomputable def mV:Code:=Eu (Eu (Eu (Eu (Eu (Eu (Eu ((f185.body).getD .skip)))))))
def XO{Y:Act}(B b:Nat)(s N:Bs)(a n c d:Nat)(out:List Av)(w C:World)(R:Bool×Nat×List Av)(hg:Gr w)(a9:3<B)(G:Sc B b s a out C)(B5:Below B w C)(hs:s.length<=1000000000)(b0:out.length<=1000000000)
  (z:B<=b) (b6:a<s.length) (b7:n+1<=s.length-(a+1)) (a0:c=a+(1+n)) (b8:c<=s.length) (I:Hid (c=a+(1+n))) (o:Hid (d=c+C7 (s.drop c) Gy)) (b9:d<=s.length) (b1:Hid (d<=s.length)) (HN:Hid (N=(s.drop a).take (1+n)))
  (J:Hid ((n:Int)=indexAny (s.drop (a+1)) [32,9,13,10,47,61,62])) (E:Hid (R=Oo s a)) (a1:Ho 172 [(0,Value.pointer (some ⟨b,0,none⟩)),(1,undef),(2,Value.bool false),(3,Value.int .i64 (n:Int)),(4,Value.string ⟨(A2 N).toArray⟩)] Y):
  Code.wp prog mV (bodyPost prog f185 fun e w'=>e=.returned (.bool R.1)/\Sc B b s R.2.1 (out++R.2.2) w'/\Below B w w') Y C:=by
 obtain⟨fr,rfl⟩:=a1.op;clear a1;simp only[Fp,↓reduceIte,Nat.reduceAdd,Nat.reduceEqDiff];generalize hQ:bodyPost prog f185 _=Q';delta mV f185;dsimp only[Eu,Option.getD];subst hQ;go_upto_region 12 with fail;go_cut[] (fun W=>Sc B b s c out W/\Below B w W)
 case first=>
  have H:=AE G;obtain⟨v,k,_,_⟩:=G;have K:=k.cell;have kf:=k.free;have V:=AE (aa:(a:Int)+(1+(n:Int))=((c:Nat):Int));have Z:IntKind.i64.wrap (1+(n:Int))=1+(n:Int):=CQ _ aa;have z2:IntKind.i64.wrap ((a:Int)+(1+(n:Int)))=(a:Int)+(1+(n:Int)):=CQ _ aa;clear a0;go_wp2;go_meet;exact⟨by rw[V.o];exact H.o.at c,B5.setCell z _⟩
 case rest=>
 obtain⟨L,B6⟩:=hcut;obtain⟨w6,rfl⟩:∃x:World,x=wc:=⟨_,rfl⟩;clear G B5 a0;go_upto_region 13 with fail;go_cut[] (fun W=>Sc B b s d out W/\Below B w W)
 case first=>
  have H:=AE L;obtain⟨v,k,_,_⟩:=L;have i:=A0.drew k;have b2:=i.cell;have p:=Ws (s.drop c) [32,9,13,10] w6.drew ag ae ae;have V:=AE (by have:=o.o;rw[(ca:Gy=[32,9,13,10])]at this;omega:(c:Int)+(C7 (s.drop c) [32,9,13,10]:Int)=((d:Nat):Int));generalize C7 (s.drop c) [32,9,13,10]=r at p V;clear o;have M:=V.o;have i9:d<=s.length:=b1.o;have i1:(c:Int)<=s.length:=aa
  have i2:(0:Int)<=c:=aa
  have Z:IntKind.i64.wrap ((c:Int)+(r:Int))=(c:Int)+(r:Int):=CQ _ aa;clear M;go_region_law((go_simp;with_reducible refine p.mono ?_;rintro e O⟨rfl,g⟩;have q:=AE (i.next g i.lt);have b3:=q.o.cell;have b4:=q.o.free 1));all_goals
   go_wp2;go_meet;exact⟨by rw[V.o];exact((H.o.drew).next g).at d,(B6.drew.trans (g.mono H.o.base)).setCell z _⟩
 case rest=>
 obtain⟨P,Q⟩:=hcut;obtain⟨m,rfl⟩:∃x:World,x=wc:=⟨_,rfl⟩;clear L B6;go_upto_region 14 with fail;go_cut[134] (fun t W=>t=.bool (!(decide ((s.drop d).head?=some 61)))/\Sc B b s d out W/\Below B w W)
 case first=>
  have H:=AE P;obtain⟨v,k,_,_⟩:=P;have K:=k.cell;by_cases a2:d=s.length
  ·have S:=AE (mU (s:=s) (d:=d) (FX a2.symm));have e0:((d:Int)==(s.length:Int))=true:=by rw[a2];exact KO _
   go_wp2_with fail;go_quiet(fail);have f:=CO (AG m.heap.size m) nq;generalize m.drewN nq=u at f|-;clear K;go_wp2;go_meet;exact⟨by rw[S.o];rfl,H.o.next f,Q.trans (f.mono H.o.base)⟩
  have a3:d<s.length:=aa
  have S:=AE (XN a3);have e0:((d:Int)==(s.length:Int))=false:=AI.2 aa;have c0:(d:Int)<s.length:=aa
  have c1:(0:Int)<=d:=aa
  go_wp2_with fail;go_quiet(fail);have f:=CO (AG m.heap.size m) nq;generalize m.drewN nq=u at f|-;clear K;go_wp2;go_meet;exact⟨by rw[S.o];exact CI Value.bool (XM _),H.o.next f,Q.trans (f.mono H.o.base)⟩
 case rest=>
 obtain⟨rfl,y,T⟩:=hcut;obtain⟨u,rfl⟩:∃x:World,x=wc:=⟨_,rfl⟩;clear P Q;by_cases l:(s.drop d).head?=some 61
 case neg=>
  have F:=AE (XK J.o I.o o.o l);rw[AY l];simp only[EN];have H:=AE y;obtain⟨v,k,_,_⟩:=y;have K:=k.cell;have Z:(((d:Int)<(s.length:Int))↔d<s.length):=aa
  go_wp2_with fail;go_quiet(fail);have f:=CO (AG u.heap.size u) nq;generalize u.drewN nq=w9 at f|-;clear K;go_wp2;go_ret;exact⟨by rw[E.o,F.o];simp,by rw[E.o,F.o,BU];exact H.o.next f,T.trans (f.mono H.o.base)⟩
 have a3:d<s.length:=by
  rcases CL d s.length with h|h
  ·exact h
  rw[mU h]at l;cases l
 obtain⟨j,U⟩:∃x,x=d+1+C7 (s.drop (d+1)) Gy:=⟨_,rfl⟩;have X:=AE U;have F:=AE (XL J.o I.o o.o l U);rw[BH l];simp only[EK];have a4:=P9 (s.drop (d+1)) Gy;rw[BD]at a4;have a5:=AE (aa:j<=s.length);clear U a4 l J I o;go_upto_region 16 with fail;go_cut[] (fun W=>Sc B b s (d+1) out W/\Below B w W)
 case first=>
  have H:=AE y;obtain⟨v,k,_,_⟩:=y;have K:=k.cell;have kf:=k.free;have Z:IntKind.i64.wrap ((d:Int)+1)=(d:Int)+1:=CQ _ aa;go_wp2;go_meet;exact⟨H.o.at (d+1),T.setCell z _⟩
 case rest=>
 obtain⟨A,B9⟩:=hcut;obtain⟨w9,rfl⟩:∃x:World,x=wc:=⟨_,rfl⟩;clear y T;obtain⟨D,a6⟩:∃x,x=d+1:=⟨_,rfl⟩;rw[<-a6]at A X;clear a6;go_upto_region 17 with fail;go_cut[] (fun W=>Sc B b s j out W/\Below B w W)
 case first=>
  have H:=AE A;obtain⟨v,k,_,_⟩:=A;have i:=A0.drew k;have b2:=i.cell;have p:=Ws (s.drop D) [32,9,13,10] w9.drew ag ae ae;have V:=AE (by have:=X.o;rw[(ca:Gy=[32,9,13,10])]at this;omega:(D:Int)+(C7 (s.drop D) [32,9,13,10]:Int)=((j:Nat):Int));generalize C7 (s.drop D) [32,9,13,10]=r at p V;clear X;have M:=V.o;have i9:j<=s.length:=a5.o;have i1:(D:Int)<=s.length:=aa
  have i2:(0:Int)<=D:=aa
  have Z:IntKind.i64.wrap ((D:Int)+(r:Int))=(D:Int)+(r:Int):=CQ _ aa;clear M;go_region_law((go_simp;with_reducible refine p.mono ?_;rintro e O⟨rfl,g⟩;have q:=AE (i.next g i.lt);have b3:=q.o.cell;have b4:=q.o.free 1));all_goals
   go_wp2;go_meet;exact⟨by rw[V.o];exact((H.o.drew).next g).at j,(B9.drew.trans (g.mono H.o.base)).setCell z _⟩
 case rest=>
 obtain⟨b5,a7⟩:=hcut;obtain⟨O,rfl⟩:∃x:World,x=wc:=⟨_,rfl⟩;clear A B9;have hP:=UO B b s (A2 N) j out O (hg.below a9 a7) b5 a5.o hs b0;have a8:=AE (by rw[E.o,F.o,HN.o]:R=E9 s (A2 N) j);clear E F HN;go_wp2_with fail;with_reducible refine hP.mono ?_
 rintro e c2⟨rfl,hS,g⟩;go_wp2;go_ret;exact⟨by rw[a8.o];rfl,by rw[a8.o];exact hS,a7.trans g⟩
def XP(B b:Nat)(s:Bs)(i:Nat)(out:List Av)(w:World)(hg:Gr w)(a1:3<B)(h:Sc B b s i out w)(hi:i<=s.length)(hs:s.length<=1000000000)(b2:out.length<=1000000000):Calls prog 185 #[.pointer (some ⟨b,0,none⟩)] w fun e w'=>e=.returned (.bool (C5 s i).1)/\Sc B b s (C5 s i).2.1 (out++(C5 s i).2.2) w'/\Below B w w':=by
 have G:B<=b:=h.hB;have b3:=h.base;have Q:=P9 (s.drop i) [32,9,13,10,47];rw[BD]at Q;obtain⟨a,ha⟩:∃a,a=i+C7 (s.drop i) [32,9,13,10,47]:=⟨_,rfl⟩;have A:=AE ha;have b4:=AE (aa:a<=s.length);clear ha;go_enter func185,ntmps185;go_upto_region 1 with fail;go_cut[] (fun f=>Sc B b s a out f/\Below B w f)
 case first=>
  have H:=AE h;obtain⟨v,c,_,_⟩:=h;have l:=A0.drew c;have I:=l.cell;have a2:=Ws (s.drop i) [32,9,13,10,47] w.drew ag ae ae;have HV:=AE (by have:=A.o;omega:(i:Int)+(C7 (s.drop i) [32,9,13,10,47]:Int)=((a:Nat):Int));generalize C7 (s.drop i) [32,9,13,10,47]=r at Q a2 HV;clear A;have i1:(i:Int)<=s.length:=aa
  have i2:(0:Int)<=i:=aa
  have z1:IntKind.i64.wrap ((i:Int)+(r:Int))=(i:Int)+(r:Int):=CQ _ aa;go_region_law((go_simp;with_reducible refine a2.mono ?_;rintro e a3⟨rfl,m⟩;have a4:=AE (l.next m l.lt);have c0:=a4.o.cell;have c1:=a4.o.free 1));all_goals
   go_wp2;go_meet;exact⟨by rw[HV.o];exact((H.o.drew).next m).at a,((AG B w).drew.trans (m.mono b3)).setCell G _⟩
 case rest=>
 obtain⟨y,R⟩:=hcut;obtain⟨p,rfl⟩:∃x:World,x=wc:=⟨_,rfl⟩;clear Q;have c2:=b4.o;clear h;by_cases a5:a=s.length
 ·have E:=AE (XG A.o (FX a5.symm));subst a5;have z:=AE y;obtain⟨v,c,_,_⟩:=y;have j:=c.cell;go_wp2_with fail;go_quiet(fail);have g:=CO (AG p.heap.size p) nq;generalize p.drewN nq=C at g|-;clear j;go_wp2;go_ret;exact⟨il,by rw[E.o,BU];exact z.o.next g,R.trans (g.mono z.o.base)⟩
 have S:a<s.length:=aa
 go_upto_region 2 with fail;go_cut[31] (fun t f=>t=false/\Sc B b s a out f/\Below B w f)
 case first=>
  have z:=AE y;obtain⟨v,c,_,_⟩:=y;have j:=c.cell;have b5:¬((a:Int)=(s.length:Int)):=aa
  go_wp2_with fail;go_quiet(fail);have g:=CO (AG p.heap.size p) nq;generalize p.drewN nq=C at g|-;clear j;go_wp2;go_meet;exact⟨CI Value.bool (AI.2 b5),z.o.next g,R.trans (g.mono z.o.base)⟩
 case rest=>
 obtain⟨rfl,T,B2⟩:=hcut;obtain⟨C,rfl⟩:∃x:World,x=wc:=⟨_,rfl⟩;clear y R;go_upto_region 4 with fail;go_cut[41] (fun t f=>t=.bool ((s[a].toNat:Int)==62)/\Sc B b s a out f/\Below B w f)
 case first=>
  have a6:=AE T;obtain⟨v,c,_,_⟩:=T;have j:=c.cell;have c3:(a:Int)<s.length:=aa
  have c4:(0:Int)<=a:=aa
  go_wp2_with fail;go_quiet(fail);have g:=CO (AG C.heap.size C) nq;generalize C.drewN nq=o at g|-;clear j;go_wp2;go_meet;exact⟨rfl,a6.o.next g,B2.trans (g.mono a6.o.base)⟩
 case rest=>
 obtain⟨rfl,D,J⟩:=hcut;obtain⟨o,rfl⟩:∃x:World,x=wc:=⟨_,rfl⟩;clear T B2;by_cases L:s[a]=62
 ·have E:=AE (XH A.o S L);have U:((s[a].toNat:Int)==62)=true:=by rw[L];rfl
  have M:=AE D;obtain⟨v,c,_,_⟩:=D;have j:=c.cell;have kf:=c.free;go_wp2;go_ret;exact⟨il,by rw[E.o,BU];exact M.o.at (a+1),J.setCell G _⟩
 have U:((s[a].toNat:Int)==62)=false:=S8 L;have E:=AE (XI A.o S L);clear A;generalize((s[a].toNat:Int)==62)=q at U|-;subst U;have c5:=hg.below a1 J;obtain⟨N,O⟩:∃k,k=indexAny (s.drop (a+1)) [32,9,13,10,47,61,62]:=⟨_,rfl⟩;have V:=AE O;go_upto_region 7 with fail;go_cut[3] (fun t f=>t=N/\Sc B b s a out f/\Below B w f)
 case first=>
  have M:=AE D;obtain⟨v,c,_,_⟩:=D;have l:=A0.drew c;have I:=l.cell;have j:=c.cell;have i1:(a:Int)+1<=s.length:=aa
  have i2:(0:Int)<=(a:Int)+1:=aa
  have i3:((a:Int)+1).toNat=a+1:=aa
  have a7:=Ys (s.drop (a+1)) [32,9,13,10,47,61,62] (by decide) (by decide) (by decide) (by simp;omega);rw[←O]at a7;have X:=(AG o.heap.size o).drew;have z1:IntKind.i64.wrap ((a:Int)+1)=(a:Int)+1:=CQ _ (by omega);go_region_held3(fun W=>(∀k,W.cell? ⟨b,k,none⟩=(#[.string ⟨s.toArray⟩,.int .i64 (a:Int),v])[k]?)∧Below o.heap.size o W)
   (first
    |with_reducible exact⟨I,X⟩
    |with_reducible exact⟨(c.next K c.lt).cell,K⟩)
   ((go_at_call 178;go_split_ands;with_reducible refine(a7 _).mono ?_;rintro e a3⟨rfl,m⟩;have K:=Bp m (w0:=o) ax))
  all_goals go_split_ands
  all_goals
   go_wp2;go_meet;exact⟨by rw[V.o],M.o.next ax,J.trans (IJ (B:=o.heap.size) ax M.o.base)⟩
 case rest=>
 obtain⟨rfl,P,B4⟩:=hcut;obtain⟨u,rfl⟩:∃x:World,x=wc:=⟨_,rfl⟩;clear D J;have a8:=Vp (s.drop (a+1)) [32,9,13,10,47,61,62];rw[<-O,BD]at a8;clear O;by_cases hz:N<0
 ·have HF:=AE (XJ V.o hz);have b6:=AE P;obtain⟨v,c,_,_⟩:=P;have j:=c.cell;have kf:=c.free;go_wp2;go_ret;exact⟨by rw[E.o,HF.o];rfl,by rw[E.o,HF.o,BU];exact b6.o.at s.length,B4.setCell G _⟩
 obtain⟨n,rfl⟩:∃n:Nat,N=(n:Int):=⟨N.toNat,aa⟩;have hn:n+1<=s.length-(a+1):=aa
 obtain⟨F,Y⟩:∃x,x=a+(1+n):=⟨_,rfl⟩;have b7:F<=s.length:=aa
 have a9:=AE Y;obtain⟨d,b0⟩:∃x,x=F+C7 (s.drop F) Gy:=⟨_,rfl⟩;have HD:=AE b0;have b1:=P9 (s.drop F) Gy;rw[BD]at b1;have Z:d<=s.length:=aa
 have b8:=AE Z;obtain⟨nm,a0⟩:∃x,x=(s.drop a).take (1+n):=⟨_,rfl⟩;have HN:=AE a0;clear a8 hz b0 b1;go_upto_region 11 with fail;go_cut[4] (fun t f=>t=(A2 nm)/\Sc B b s a out f/\Below B w f)
 case first=>
  have H':=AE P;obtain⟨v,c,_,_⟩:=P;have l:=A0.drew c;have I:=l.cell;have j:=c.cell;have b9:=fun W=>Gw nm W (by rw[a0];simp;omega)
  have X:=(AG u.heap.size u).drew;subst a0;clear Z Y a9;have z1:IntKind.i64.wrap ((a:Int)+1)=(a:Int)+1:=CQ _ aa;have z2:IntKind.i64.wrap ((a:Int)+1+(n:Int))=(a:Int)+1+(n:Int):=CQ _ aa;have z3:((a:Int)+1+(n:Int)).toNat=a+1+n:=aa
  have z4:(0:Int)<=a:=aa
  have z5:(a:Int)<=(a:Int)+1+(n:Int):=aa
  have z6:(a:Int)+1+(n:Int)<=(s.length:Int):=aa
  have z7:a+1+n-a=1+n:=aa
  go_region_held3(fun W=>(∀k,W.cell? ⟨b,k,none⟩=(#[.string ⟨s.toArray⟩,.int .i64 (a:Int),v])[k]?)∧Below u.heap.size u W)
   (first
    |with_reducible exact⟨I,X⟩
    |with_reducible exact⟨(c.next K c.lt).cell,K⟩)
   ((go_at_call 42;go_split_ands;with_reducible refine(b9 _).mono ?_;rintro e a3⟨rfl,m⟩;have K:=Bp m (w0:=u) ax))
  all_goals go_split_ands
  all_goals
   go_wp2;go_meet;exact⟨rfl,H'.o.next ax,B4.trans (IJ (B:=u.heap.size) ax H'.o.base)⟩
 case rest=>
 obtain⟨rfl,H5,B5⟩:=hcut;rename_i hK;refine hK _ _ ?_;exact XO B b s nm a n F d out w wc (C5 s i) hg a1 H5 B5 hs b2 G S hn Y b7 a9 HD Z b8 HN V E ⟨_,rfl,rfl,rfl⟩
def XQ(B b:Nat)(s:Bs)(i:Nat)(out:List Av)(w:World)(hg:Gr w)(a0:3<B)(h:Sc B b s i out w)(hi:i<=s.length)(hs:s.length<=1000000000)(c2:out.length<=i):Calls prog 101 #[.pointer (some ⟨b,0,none⟩)] w fun e w'=>e=.returned (.tuple #[])/\Sc B b s (Dt s i).1 (out++(Dt s i).2) w'/\Below B w w':=by
 have a1:B<=b:=h.hB;obtain⟨n,m⟩:∃n,n=C7 (s.drop i) Em:=⟨_,rfl⟩;have b5:=P9 (s.drop i) Em;rw[<-m,BD]at b5;have HN:=AE m;have T:=AE (Zc s i);rw[<-m]at T;clear m;go_enter func101,ntmps101;go_upto_region 0 with fail;go_cut[2] (fun t c=>t=.int .i64 (n:Int)/\Sc B b s i out c/\Below B w c)
 case first=>
  have a:=AE h;obtain⟨v,H,_,_⟩:=h;have E:=(A0.drew H).cell;have m:n=C7 (s.drop i) [65,66,67,68,69,70,71,72,73,74,75,76,77,78,79,80,81,82,83,84,85,86,87,88,89,90,97,98,99,100,101,102,103,104,105,106,107,108,109,110,111,112,113,114,115,116,117,118,119,120,121,122,48,49,50,51,52,53,54,55,56,57]:=HN.o;have a7:=fun W=>Ws (s.drop i) [65,66,67,68,69,70,71,72,73,74,75,76,77,78,79,80,81,82,83,84,85,86,87,88,89,90,97,98,99,100,101,102,103,104,105,106,107,108,109,110,111,112,113,114,115,116,117,118,119,120,121,122,48,49,50,51,52,53,54,55,56,57] W ag ae ae
  rw[<-m]at a7;clear m;have F:=(AG w.heap.size w).drew;have I:(i:Int)<=s.length:=aa
  have i2:(0:Int)<=i:=aa
  go_region_held3(fun W=>(∀k,W.cell? ⟨b,k,none⟩=(#[.string ⟨s.toArray⟩,.int .i64 (i:Int),v])[k]?)∧Below w.heap.size w W)
   (first
    |with_reducible exact⟨E,F⟩
    |with_reducible exact⟨(H.next K H.lt).cell,K⟩)
   ((first|(go_at_call 184;go_split_ands;with_reducible refine(a7 _).mono ?_;rintro e a2⟨rfl,d⟩;have K:=Bp d (w0:=w) ax)))
  all_goals go_split_ands
  all_goals
   go_wp2;go_meet;exact⟨rfl,a.o.next ax,IJ (B:=w.heap.size) ax a.o.base⟩
 case rest=>
 obtain⟨rfl,H1,B1⟩:=hcut;obtain⟨u,rfl⟩:∃x:World,x=wc:=⟨_,rfl⟩;clear h;obtain⟨N,Q⟩:∃x,x=(s.drop i).take n:=⟨_,rfl⟩;have c3:N.length<=1000000000:=by rw[Q];simp;omega
 have b6:=AE Q;go_upto_region 1 with fail;go_cut[3] (fun t c=>t=(A2 N)/\Sc B b s i out c/\Below B w c)
 case first=>
  have a:=AE H1;obtain⟨v,H,_,_⟩:=H1;have E:=(A0.drew H).cell;have a3:=fun W=>Gw N W aa
  subst Q;have F:=(AG u.heap.size u).drew;have z2:IntKind.i64.wrap ((i:Int)+(n:Int))=(i:Int)+(n:Int):=CQ _ aa;have z3:((i:Int)+(n:Int)).toNat=i+n:=aa
  have z4:(0:Int)<=i:=aa
  have z5:(i:Int)<=(i:Int)+(n:Int):=aa
  have z6:(i:Int)+(n:Int)<=(s.length:Int):=aa
  have z7:i+n-i=n:=aa
  go_region_held3(fun W=>(∀k,W.cell? ⟨b,k,none⟩=(#[.string ⟨s.toArray⟩,.int .i64 (i:Int),v])[k]?)∧Below u.heap.size u W)
   (first
    |with_reducible exact⟨E,F⟩
    |with_reducible exact⟨(H.next K H.lt).cell,K⟩)
   ((first|(go_at_call 42;go_split_ands;with_reducible refine(a3 _).mono ?_;rintro e a2⟨rfl,d⟩;have K:=Bp d (w0:=u) ax)))
  all_goals go_split_ands
  all_goals
   go_wp2;go_meet;exact⟨rfl,a.o.next ax,B1.trans (IJ (B:=u.heap.size) ax a.o.base)⟩
 case rest=>
 obtain⟨rfl,H2,B2⟩:=hcut;obtain⟨w2,rfl⟩:∃x:World,x=wc:=⟨_,rfl⟩;clear H1 B1 Q;go_upto_region 2 with fail;go_cut[] (fun c=>Sc B b s (i+n) out c/\Below B w c)
 case first=>
  have a:=AE H2;obtain⟨v,H,_,_⟩:=H2;have R:=H.cell;have kf:=H.free;have V:=AE (aa:(i:Int)+(n:Int)=((i+n:Nat):Int));have z2:IntKind.i64.wrap ((i:Int)+(n:Int))=(i:Int)+(n:Int):=CQ _ aa;go_wp2;go_meet;exact⟨by rw[V.o];exact a.o.at (i+n),B2.setCell a1 _⟩
 case rest=>
 obtain⟨H3,B3⟩:=hcut;obtain⟨w3,rfl⟩:∃x:World,x=wc:=⟨_,rfl⟩;clear H2 B2;have a8:i+n<=s.length:=aa
 have b7:out.length<=i+n:=aa
 generalize i+n=I at H3 T a8 b7;go_wp2_with fail
 go_loopg [] s.length (fun g wr=>∃(j:Nat)(L:List Av),s.length-j<=g/\j<=s.length/\(out++L).length<=j/\Sc B b s j (out++L) wr/\Hid (Aw s I=((Aw s j).1,L++(Aw s j).2))/\Below B w wr)
 case atStart=>exact⟨I,[],aa,a8,ag,by rw[BU];exact H3,AE rfl,B3⟩
 obtain⟨j,L,hm,S,b8,HS,U,BS⟩:=hrel;clear H3 B3;have hC:=XP B b s j (out++L) wr (hg.below a0 BS) a0 HS S hs aa;have y:=W9 S;go_wp2_with fail;refine hC.mono ?_;rintro e w4⟨rfl,f,b4⟩;clear hC;have B4:=BS.trans b4;clear BS HS b4;cases d:(C5 s j).1 with
 |true=>
  have c4:=y.2.2.2 d;have a9:=Wa S d;have a4:=y.2.1;have h1:=y.2.2.1;have A:=AE (by rw[U.o,a9,AP]:Aw s I=((Aw s (C5 s j).2.1).1,(L++(C5 s j).2.2)++(Aw s (C5 s j).2.1).2));clear a9 U y d;rw[AP]at f;generalize C5 s j=r at*;go_wp2_with fail
  go_roundg (s.length-r.2.1)
  case measure=>omega
  exact⟨r.2.1,L++r.2.2,AF _,a4,by rw[<-AP,AJ];omega,f,A,B4⟩
 |false=>
  have b0:=Pk d;have A:=AE (by rw[U.o,b0]:Aw s I=((C5 s j).2.1,L++(C5 s j).2.2));have a4:=y.2.1;clear b0 U y d;rw[AP]at f;generalize C5 s j=r at*;obtain⟨_,J,l⟩:=r;simp only at f A a4;generalize L++l=M at f A;rw[A.o]at T;clear A b8 hm S;rw[<-b6.o]at T;go_wp2_with fail;refine(UI _).mono ?_;rintro e C⟨rfl,X⟩;have D:=(f.next X).next ((AG C.heap.size C).alloc (AF _) (.cells #[.string ⟨#[115,99,114,105,112,116]⟩,.string ⟨#[115,116,121,108,101]⟩,.string ⟨#[116,101,120,116,97,114,101,97]⟩,.string ⟨#[116,105,116,108,101]⟩] 246));have G:=(B4.trans (X.mono f.base)).alloc (AV f.base X.size) (.cells #[.string ⟨#[115,99,114,105,112,116]⟩,.string ⟨#[115,116,121,108,101]⟩,.string ⟨#[116,101,120,116,97,114,101,97]⟩,.string ⟨#[116,105,116,108,101]⟩] 246);have b1:=lB C.heap.size 4 4 Qa (A2 N) (C.alloc (.cells #[.string ⟨#[115,99,114,105,112,116]⟩,.string ⟨#[115,116,121,108,101]⟩,.string ⟨#[116,101,120,116,97,114,101,97]⟩,.string ⟨#[116,105,116,108,101]⟩] 246)) rfl (fun k H=>by
   rw[(A0.new C _ _).cell]
   match k,H with
   |0,_=>rfl
   |1,_=>rfl
   |2,_=>rfl
   |3,_=>rfl) ae
  clear X f B4;go_wp2_with fail;refine b1.mono ?_;rintro e w'⟨rfl,rfl⟩;clear b1;generalize(C.alloc (.cells #[.string ⟨#[115,99,114,105,112,116]⟩,.string ⟨#[115,116,121,108,101]⟩,.string ⟨#[116,101,120,116,97,114,101,97]⟩,.string ⟨#[116,105,116,108,101]⟩] 246))=w6 at D G|-;generalize Qa.contains (A2 N)=b9 at T|-;cases b9 with
  |false=>
   have o:=AE (by rw[T.o];rfl:Dt s i=(J,M));clear T;go_wp2_with fail
   go_end0
   exact⟨rfl,by rw[o.o];exact D,G⟩
  |true=>
   obtain⟨z,p⟩:∃x,x=index (A2 (s.drop J)) ([60,47]++A2 N):=⟨_,rfl⟩;have o:=AE (by rw[T.o,p];rfl:Dt s i=(if z<0 then s.length else J+z.toNat,M));have c0:z<0\/(0<=z/\z.toNat+J<=s.length):=by
    have:=Od (A2 (s.drop J)) ([60,47]++A2 N);rw[<-p]at this;simp[A2]at this;omega
   have Z:=AE p;clear T p;have c1:(A2 N).length<=1000000000:=ot
   generalize A2 N=O at Z c1|-;have b2:=hg.below a0 G;have c5:=D.base;go_upto_region 6 with fail;go_cut[5] (fun t c=>t=z/\Sc B b s J (out++M) c/\Below B w c)
   case first=>
    have a:=AE D;obtain⟨v,H,_,_⟩:=D;have E:=(A0.drew H).cell;have a3:=fun W=>Gw (s.drop J) W ag
    have b3:=fun W(h:Gr W)=>aP (A2 (s.drop J)) (60::47::O) W ot h.g
    have p:z=index (A2 (s.drop J)) (60::47::O):=Z.o;rw[<-p]at b3;clear p Z o;have g1:¬9223372036854775807<O.length+2:=aa
    have g2:¬9223372036854775807<O.length+1+1:=aa
    have g3:¬9223372036854775807<2+O.length:=aa
    have F:=(AG w6.heap.size w6).drew;have I:(J:Int)<=s.length:=aa
    have i2:(0:Int)<=J:=aa
    go_region_held3(fun W=>(∀k,W.cell? ⟨b,k,none⟩=(#[.string ⟨s.toArray⟩,.int .i64 (J:Int),v])[k]?)∧Below w6.heap.size w6 W)
     (first
      |with_reducible exact⟨E,F⟩
      |with_reducible exact⟨(H.next K H.lt).cell,K⟩
      |with_reducible assumption)
     ((
      first
      |(go_at_call 42;go_split_ands;with_reducible refine(a3 _).mono ?_;rintro e a2⟨rfl,d⟩;have K:=Bp d (w0:=w6) ax)
      |(go_at_call 66;go_split_ands;with_reducible refine(b3 _ (b2.next ax)).mono ?_;rintro e a2⟨rfl,hw⟩;obtain rfl:=hw.symm)))
    all_goals go_split_ands
    all_goals
     go_wp2;go_meet;exact⟨rfl,a.o.next ax,G.trans (IJ (B:=w6.heap.size) ax a.o.base)⟩
   case rest=>
   obtain⟨rfl,Y,B7⟩:=hcut;obtain⟨w7,rfl⟩:∃x:World,x=wc:=⟨_,rfl⟩;clear D G b2 Z;by_cases hz:z<0
   ·have a5:=AE (by rw[o.o,AN hz]:Dt s i=(s.length,M));clear o;have a:=AE Y;obtain⟨v,H,_,_⟩:=Y;have R:=H.cell;go_wp2_with fail;go_quiet(fail);have P:=CO (AG w7.heap.size w7) nq;have a6:=H.next P H.lt;have H8:=AE (a.o.next P);have B8:=B7.trans (P.mono a.o.base);generalize w7.drewN nq=w8 at P a6 H8 B8|-;clear R H P;have R:=a6.cell;have kf:=a6.free;have V:=AE (aa:(J:Int)+((s.length:Int)-(J:Int))=((s.length:Nat):Int));go_wp2_with fail
    go_end0
    exact⟨rfl,by rw[a5.o];first|(rw[V.o];exact H8.o.at s.length)|exact H8.o.at s.length,B8.setCell a1 _⟩
   obtain⟨q,rfl⟩:∃q:Nat,z=(q:Int):=⟨z.toNat,aa⟩;have a5:=AE (by rw[o.o,AL hz];rfl:Dt s i=(J+q,M));have c6:q+J<=s.length:=aa
   clear o c0 hz;have a:=AE Y;obtain⟨v,H,_,_⟩:=Y;have R:=H.cell;have kf:=H.free;have V:=AE (aa:(J:Int)+(q:Int)=((J+q:Nat):Int));go_wp2_with fail
   go_end0
   exact⟨rfl,by rw[a5.o,V.o];exact a.o.at (J+q),B7.setCell a1 _⟩
def mW(h:hasPrefix (s.drop a) [33,45,45]=true):Fs s a c=(Cm s [45,45,62] (a+3),[]):=by
 unfold Fs;rw[AN h]
def mX(h:hasPrefix (s.drop a) [33,45,45]=false)(H:c=47\/c=33\/c=63):Fs s a c=(Cm s [62] a,[]):=by
 unfold Fs;rw[h,AL ae,AN H]
def mY(h:hasPrefix (s.drop a) [33,45,45]=false)(H:¬(c=47\/c=33\/c=63))(b:(Em.take 52).contains c=true):Fs s a c=Dt s a:=by
 unfold Fs;rw[h,AL ae,AL H,AN b]
def mZ(h:hasPrefix (s.drop a) [33,45,45]=false)(H:¬(c=47\/c=33\/c=63))(b:(Em.take 52).contains c=false):Fs s a c=(a,[]):=by
 unfold Fs;rw[h,AL ae,AL H,b];rfl
def Ml(c:UInt8):Bool:=c==47||c==33||c==63
def nA(c:UInt8):Ml c=true↔(c=47\/c=33\/c=63):=by simp[Ml,or_assoc]
def nB(c:UInt8):Ml c=((((c.toNat:Int)==47)||((c.toNat:Int)==33))||((c.toNat:Int)==63)):=by
 have h:∀d:UInt8,(c==d)=((c.toNat:Int)==(d.toNat:Int)):=fun d=>by
  by_cases e:c=d
  ·subst e;simp
  rw[AI.2 e,S8 e]
 unfold Ml;rw[h 47,h 33,h 63];rfl
def XR(l:Bs)(c:UInt8):decide (0<=indexByte l c)=l.contains c:=by
 have e:=indexByte_ge l c;by_cases h:0<=indexByte l c
 ·obtain⟨o,H⟩:∃o:Nat,indexByte l c=o:=⟨(indexByte l c).toNat,aa⟩;rw[BH h];exact(IB.2 (CP (IZ H).1)).symm
 rw[AY h];refine(AT.2 fun a=>?_).symm;obtain⟨k,b⟩:=List.getElem?_of_mem (IB.1 a);exact indexByte_none aa k b
def Xa(s:Bs)(w:World)(u:Gr w)(F:s.length<=1000000000):Calls prog 43 #[s] w fun e R=>∃v,e=.returned v/\Iy R w.heap.size v (Bf s)/\Below w.heap.size w R:=by
 have y:=u.size;have S:Sc w.heap.size w.heap.size s 0 [] (w.alloc (.cells #[s,.int .i64 0,.slice none 0 0] 165)):=⟨.slice none 0 0,A0.new w _ _,A1.nil _ _ _ _ _,AF _⟩;have T:Below w.heap.size w (w.alloc (.cells #[s,.int .i64 0,.slice none 0 0] 165)):=(AG _ _).alloc (AF _) _;have HL:=AE (ca:Bf s=Ko s 0);go_enter func43,ntmps43;go_wp2_with fail;generalize(w.alloc (.cells #[s,.int .i64 0,.slice none 0 0] 165))=w0 at S T|-
 go_loopg [] s.length (fun g wr=>∃(j:Nat)(L:List Av),s.length-j<=g/\j<=s.length/\L.length<=j/\Sc w.heap.size w.heap.size s j L wr/\Hid (Bf s=L++Ko s j)/\Below w.heap.size w wr)
 case atStart=>exact⟨0,[],aa,DE _,AF _,S,HL,T⟩
 obtain⟨j,L,hm,U,a8,HS,V,X⟩:=hrel;clear S T HL;obtain⟨a,Y⟩:∃a,a=Cm s [60] j:=⟨_,rfl⟩;have a2:=Pa s [60] j U;have hC:=aQ w.heap.size w.heap.size s [60] j L wr (u.below y X) HS U F ae;rw[<-Y]at a2 hC;have G:=AE Y;clear Y;go_wp2_with fail;with_reducible refine hC.mono ?_
 rintro e Z⟨rfl,H1,b1⟩;have B1:=X.trans b1;clear hC b1 HS X;go_upto_region 3 with fail;go_cut[4] (fun t W=>t=(s.drop a)/\Sc w.heap.size w.heap.size s a L W/\Below w.heap.size w W)
 case first=>
  have H':=AE H1;obtain⟨v,n,_,_⟩:=H1;have K:=n.cell;have i1:(a:Int)<=s.length:=aa
  have i2:(0:Int)<=a:=aa
  go_wp2_with fail;go_quiet(fail);have hB:=CO (AG Z.heap.size Z) nq;generalize Z.drewN nq=z at hB|-;clear K;go_wp2;go_meet;exact⟨rfl,H'.o.next hB,B1.trans (hB.mono H'.o.base)⟩
 case rest=>
 obtain⟨rfl,d,B⟩:=hcut;obtain⟨z,rfl⟩:∃x:World,x=wc:=⟨_,rfl⟩;clear H1 B1;cases o:s.drop a with
 |nil=>
  have HE:=AE (by rw[V.o,S5 (by rw[<-G.o];exact o),BU]:Bf s=L);obtain⟨v,n,a3,_⟩:=d;have K:=n.cell;go_wp2;go_ret;exact⟨v,rfl,by rw[HE.o];exact a3,B⟩
 |cons c l=>
  have a9:a+(l.length+1)=s.length:=by
   have:=CI List.length o;rw[BD,AK]at this;omega
  have a4:=Rs s [60] j aa ah;have a0:=Wb U (by rw[<-G.o];exact o);rw[<-G.o]at a4 a0;have b:=Qn o;have H:=AE (by rw[V.o,a0,AP]:Bf s=(L++(Fs s a c).2)++Ko s (Fs s a c).1);clear a0 V G;have J:=b.1.le;have a1:hasPrefix (c::l) [33,45,45]=hasPrefix (s.drop a) [33,45,45]:=by rw[o]
  have b0:(c.toNat:Int)<256:=eo
  clear o;go_wp2_with fail;refine(L6 (c::l) [33,45,45] _).mono ?_;rintro e R⟨rfl,rfl⟩;rw[a1];cases m:hasPrefix (s.drop a) [33,45,45]with
  |true=>
   have N:=mW (c:=c) m;rw[N]at b J H;simp only[BU]at H;have a5:a+3<=s.length:=by
    have:=(DG.1 (by unfold hasPrefix at m;exact m)).length_le;rw[BD]at this;simp at this;omega
   clear m a1 N;have q:Sc w.heap.size w.heap.size s (a+3) L (z.setCell ⟨w.heap.size,1,none⟩ (.int .i64 ((a:Int)+3))):=d.at (a+3);have f:=B.setCell (AF _) (p:=⟨w.heap.size,1,none⟩) (.int .i64 ((a:Int)+3));have i:=aQ w.heap.size w.heap.size s [45,45,62] (a+3) L _ (u.below y f) q a5 F ae;obtain⟨v,n,_,_⟩:=d;have K:=n.cell;have kf:=n.free;go_wp2_with fail;with_reducible refine i.mono ?_
   rintro e w4⟨rfl,A,k⟩;have C:=f.trans k;clear i q f k K kf n B;go_wp2_with fail
   go_roundg (s.length-Cm s [45,45,62] (a+3))
   case measure=>omega
   exact⟨Cm s [45,45,62] (a+3),L,AF _,b.2.1,aa,A,H,C⟩
  |false=>
   clear a1;have I:=AE (nB c);go_upto_region 9 with fail;go_cut[38] (fun t W=>t=.bool (Ml c)/\W=z)
   case first=>
    by_cases r:((c.toNat:Int)==47)=true
    ·go_wp2;go_meet;exact⟨by rw[I.o,r];rfl,rfl⟩
    have r:=AT.2 r;by_cases D:((c.toNat:Int)==33)=true
    ·go_wp2;go_meet;exact⟨by rw[I.o,r,D];rfl,rfl⟩
    have D:=AT.2 D;by_cases M:((c.toNat:Int)==63)=true
    ·go_wp2;go_meet;exact⟨by rw[I.o,r,D,M];rfl,rfl⟩
    have M:=AT.2 M;go_wp2;go_meet;exact⟨by rw[I.o,r,D,M];rfl,rfl⟩
   case rest=>
   obtain⟨rfl,a6⟩:=hcut;obtain rfl:=a6.symm;clear I;have O:=AE (nA c);cases E:Ml c with
   |true=>
    have N:=mX m (O.o.1 E);rw[N]at b J H;simp only[BU]at H;clear m N E O;have i:=aQ w.heap.size w.heap.size s [62] a L _ (u.below y B) d aa F ae;go_wp2_with fail;with_reducible refine i.mono ?_
    rintro e w4⟨rfl,A,k⟩;have C:=B.trans k;clear i d B k;go_wp2_with fail
    go_roundg (s.length-Cm s [62] a)
    case measure=>omega
    exact⟨Cm s [62] a,L,AF _,b.2.1,aa,A,H,C⟩
   |false=>
    have P:¬(c=47\/c=33\/c=63):=fun h=>by rw[O.o.2 h]at E;cases E
    clear E O;go_upto_region 11 with fail;go_cut[54] (fun t W=>t=.bool ((Em.take 52).contains c)/\Below z.heap.size z W)
    case first=>
     have a7:=AE (XR (Em.take 52) c);go_wp2_with fail;go_quiet((go_at_call 100;exact GW (Yo [65,66,67,68,69,70,71,72,73,74,75,76,77,78,79,80,81,82,83,84,85,86,87,88,89,90,97,98,99,100,101,102,103,104,105,106,107,108,109,110,111,112,113,114,115,116,117,118,119,120,121,122] (c.toNat:Int) c (Tm c) _)));go_wp2;go_meet;exact⟨by rw[<-a7.o];rfl,CO (AG _ _) _⟩
    case rest=>
    obtain⟨rfl,b3⟩:=hcut;obtain⟨w3,rfl⟩:∃x:World,x=wc:=⟨_,rfl⟩;have q:=d.next b3;have f:=B.trans (b3.mono d.base);clear d B b3;cases Q:(Em.take 52).contains c with
    |true=>
     have N:=mY m P Q;rw[N]at b J H;clear m P Q N;have i:=XQ w.heap.size w.heap.size s a L _ (u.below y f) y q aa F aa;go_wp2_with fail;with_reducible refine i.mono ?_
     rintro e w4⟨rfl,A,k⟩;have C:=f.trans k;clear i q f k;go_wp2_with fail
     go_roundg (s.length-(Dt s a).1)
     case measure=>omega
     exact⟨(Dt s a).1,L++(Dt s a).2,AF _,b.2.1,by have:=b.2.2;rw[AJ];omega,A,H,C⟩
    |false=>
     have N:=mZ m P Q;rw[N]at b J H;simp only[BU]at H;clear m P Q N;go_wp2_with fail
     go_roundg (s.length-a)
     case measure=>omega
     exact⟨a,L,AF _,b.2.1,aa,q,H,f⟩
def bA(s:Bs):(F3 s).length<=6*s.length:=by
 unfold F3;induction s with
 |nil=>exact AF _
 |cons c s ih=>
  rw[Se,AJ,AK];have h:((Ex Hb c).getD [c]).length<=6:=by
   unfold Ex;cases f:Hb.find? fun p=>p.1==c with
   |none=>simp
   |some p=>
    have H:=List.mem_of_find?_eq_some f;simp only[JD,DA];simp[Hb]at H;rcases H with rfl|rfl|rfl|rfl|rfl<;>decide
  omega
def Kw(c:UInt8)(v:Bs):Bs:=if Fk c then F3 v else 34::(F3 v++[34])
def nC(c:UInt8)(v:Bs):(Kw c v).length<=6*v.length+2:=by
 have:=bA v;unfold Kw;split<;>simp<;>omega
def Na(s:Bs)(x:Av):UInt8:=s.getD (x.1-1) 0
def I6(s:Bs):List (Av×Bs)->Nat->Bs
 |[],i=>s.drop i
 |x::l,i=>(s.drop i).take (x.1.1-i)++(Kw (Na s x.1) x.2++I6 s l (x.1.1+x.1.2.1))
def I7(s:Bs)(v:List Bs):Option Bs:=if(Bf s).length=v.length then some (I6 s ((Bf s).zip v) 0)else none
theorem Cg.pos:∀{l:List Av}{i j:Nat},1<=i->Cg i l j->∀x∈l,1<=x.1
 |[],_,_,_,_,x,H=>by cases H
 |y::l,i,j,a,h,x,H=>by
  rcases CG.1 H with rfl|H
  ·have:=h.1;omega
  exact Cg.pos (l:=l) ew h.2 x H
def Xb(s:Bs):∀x∈Bf s,1<=x.1:=by
 show∀x∈Ko s 0,1<=x.1;cases h:s.drop (Cm s [60] 0)with
 |nil=>rw[S5 h];intro x a;cases a
 |cons c l=>
  have n:Cm s [60] 0+(l.length+1)=s.length:=by
   have:=CI List.length h;rw[BD,AK]at this;omega
  have t:=Rs s [60] 0 aa ah;have H:=Qn h;have h0:=H.1.le;rw[Wb (DE _) h];exact Cg.pos t (H.1.append (Zf _ _ (AF _) H.2.1).1)
theorem Cg.at:∀{l:List Av}{i j:Nat}(k:Nat)(H:k<l.length),Cg i l j->Cg i (l.take k) (l[k]).1/\Cg ((l[k]).1+(l[k]).2.1) (l.drop (k+1)) j
 |y::l,i,j,0,_,h=>⟨h.1,h.2⟩
 |y::l,i,j,k+1,H,h=>by
  have ih:=Cg.at (l:=l) k el h.2;exact⟨⟨h.1,ih.1⟩,ih.2⟩
def XS(s:Bs)(l:List (Av×Bs))(k i:Nat)(h:k<l.length):I6 s (l.drop k) i=(s.drop i).take ((l[k]).1.1-i)++(Kw (Na s (l[k]).1) (l[k]).2++I6 s (l.drop (k+1)) ((l[k]).1.1+(l[k]).1.2.1)):=by
 rw[AH h];rfl
end Go.Proofs.YtignjjnflcpiiaaGreatDoor
namespace Go.Proofs.YtignjjnflcpiiaaGreatDoor
open Go Go.RowKit Proofs.Tryz Lib
def C9:Bs:=[67,111,110,116,101,110,116,45,73,68]
def O2:Bs:=[67,111,110,116,101,110,116,45,76,111,99,97,116,105,111,110]
def Li:Bs:=[109,117,108,116,105,112,97,114,116,47,114,101,108,97,116,101,100]
def Bw:Bs:=[115,116,97,114,116]
def Qz:Bs:=[116,101,120,116,47,104,116,109,108]
def Oq(v:Bs):Bs:=if 2<v.length/\v.getD 0 0=60/\v.getD (v.length-1) 0=62 then(v.drop 1).take (v.length-1-1)else[]
def G4(l:List A4):Bs:=Oq ((Aj l C9).getD [])
def E3(base:A3)(l:List A4):A3:=match Aj l O2 with
 |none=>base
 |some v=>match Be v with
  |none=>base
  |some a=>Cn (Ar base a)
structure Al where
 whole:A7
 root:Nat
 places:List A3
 ids:List Bs
def Fu(s:Bs):Bs:=60::(s++[62])
def Ot(s:Bs):List Bs->Nat->Option Nat
 |[],_=>none
 |x::l,k=>if s=Fu x then some k else Ot s l (k+1)
def Mm(l:List A4):Bs×List A4:=(Ay ((Aj l C2).getD [])).getD ([],[])
def Iz(p:A7):Except Int Al:=
 if(Mm p.head).1≠Li then .error 6
 else if p.parts=[]then .error 8
 else if p.parts.any A7.many then .error 13
 else .ok ⟨p,((match Cc (Mm p.head).2 Bw with|none=>none|some s=>if s=[]then none else Ot s (p.parts.map fun q:A7=>G4 q.head) 0)).getD 0,
  p.parts.map fun q:A7=>E3 (E3 A3.zero p.head) q.head,p.parts.map fun q:A7=>G4 q.head⟩
def C4(s:Bs):Except Int Al:=match Ef s with
 | .error e=>.error e
 | .ok p=>Iz p
def Br{α:Type}[DecidableEq α](x:α):List α->Nat->Int
 |[],_=>-1
 |y::l,k=>if y=x then k else Br x l (k+1)
def D8(b:Al)(a:A3):Int:=let w:=Cn a
 let k:Int:=if w.scheme=[99,105,100]/\w.hasAuth=false/\w.hasQuery=false/\w.path≠[]then Br w.path b.ids 0 else-1
 if 0<=k then k else if w=A3.zero then-1 else Br w b.places 0
def Jf(p:A7):Bool:=match Aj p.head C2 with
 |none=>false
 |some v=>match Ay v with
  |none=>false
  |some (m,_)=>m==Qz
def Fv(b:Al)(A:A3)(v:Bs):Bs×Int:=match Be v with
 |none=>(v,-1)
 |some a=>(Ea (Ar A a),D8 b (Ar A a))
def Fw(b:Al)(p:A7)(a:A3):List (Bs×Int):=if Jf p then(Bf p.body).map fun x=>Fv b a x.2.2 else[]
def Ca(b:Al)(i:Int):Option (List (Bs×Int)):=
 if i<0 then none else match b.whole.parts[i.toNat]?,b.places[i.toNat]?with
 |some p,some a=>some (Fw b p a)
 |_,_=>none
def Hw(b:Al)(i:Int):Option A3:=if i<0 then none else b.places[i.toNat]?
def Fe(w:A7):List Bs:=(w::w.parts).flatMap fun p:A7=>p.body::p.head.map (·.2)
def G5(w:A7):Bs:=64::98::itoa (Ja [64,98] (Fe w))
def Co(e:Bs)(i:Int):Bs:=112::97::114::116::(itoa i++e)
def F4(e:Bs)(v:Bs)(k:Int):Bs:=if k<0 then v else
 99::105::100::58::(Co e k++(match Be v with
  |none=>[]
  |some a=>if a.hasFrag then 35::a.frag else[]))
def O3(e:Bs)(i:Nat)(h:List A4):List A4:=(h.filter fun f=>!(A2 f.1==A2 C9))++[(C9,Fu (Co e i))]
def Jx(e:Bs)(s:Bs)(l:List (Bs×Int)):Bs:=if l=[]then s else(I7 s (((Bf s).zip l).map fun x=>F4 e x.1.2.2 x.2.2)).getD []
def Jg(b:Al)(e:Bs)(i:Nat)(p:A7):A7:=.mk (O3 e i p.head) (Jx e p.body ((Ca b i).getD [])) p.many p.parts
def Fl(b:Al)(e:Bs):Nat->List A7->List A7
 |_,[]=>[]
 |i,p::l=>Jg b e i p::Fl b e (i+1) l
def Jy(v s:Bs):Bs:=let k:=(Ay v).getD ([],[]);(Cl k.1 ((k.2.filter fun f=>!(f.1==Bw))++[(Bw,Fu s)])).getD []
def D9:List A4->Bs->List A4
 |[],_=>[]
 |f::l,s=>if A2 f.1=A2 C2 then(f.1,Jy f.2 s)::l else f::D9 l s
def O4(b:Al):A7:=.mk (D9 b.whole.head (Co (G5 b.whole) b.root)) b.whole.body b.whole.many (Fl b (G5 b.whole) 0 b.whole.parts)
def Jz(b:Al):Except Int Bs:=Iu (O4 b)
def XT(j:Nat):(Cr.getD j ([],[])).1.length<=(Cr.getD j ([],[])).2.length/\((Cr.getD j ([],[])).1.length<=1):=by
 match j with
 |0=>decide
 |1=>decide
 |2=>decide
 |3=>decide
 |4=>decide
 |j+5=>simp[Cr]
theorem bB:∀(k:Nat)(l:Bs),(L9 k l).length<=l.length
 |0,l=>by simp[L9]
 |k+1,l=>by
  unfold L9;split
  ·simp
  rename_i h0;have h:0<l.length:=BK.2 h0;cases H:I1 l with
  |none=>
   have:=bB k (l.drop 1);simp only[AJ,CH,BD]at*;omega
  |some j=>
   have:=bB k (l.drop (Cr.getD j ([],[])).2.length);have a:=XT j;simp only[AJ,BD]at*;omega
def XU(l:Bs):(D1 l).length<=l.length:=bB _ _
def Gl(l:List Av):Prop:=∀x∈l,x.2.2.length<=x.2.1
def Gl.nil:Gl []:=fun x h=>ee
def Gl.append{l m:List Av}(H:Gl l)(a:Gl m):Gl (l++m):=fun x h=>by
 rcases BY.1 h with h|h
 ·exact H x h
 exact a x h
def XV(s name:Bs)(i:Nat):Gl (E9 s name i).2.2:=by
 unfold E9;cases s.drop i with
 |nil=>exact Gl.nil
 |cons c l=>
  simp only;generalize(if(c==34||c==39)=true then indexByte l c else indexAny (c::l) [32,9,13,10,62])=k;generalize(if(c==34||c==39)=true then 1 else 0)=o;by_cases h:k<0
  ·rw[AN h];exact Gl.nil
  rw[AL h];simp only;split
  ·intro x H;simp only[CS]at H;subst H;refine AV (XU _) ?_;simp only[CH];omega
  exact Gl.nil
def XW(s:Bs)(i:Nat):Gl (C5 s i).2.2:=by
 unfold C5;simp only;cases s.drop (i+C7 (s.drop i) [32,9,13,10,47])with
 |nil=>exact Gl.nil
 |cons c l=>
  simp only;split
  ·exact Gl.nil
  split
  ·exact Gl.nil
  split
  ·exact XV _ _ _
  exact Gl.nil
theorem bC(s:Bs):∀f i,Gl (La s f i).2
 |0,_=>Gl.nil
 |f+1,i=>by
  have h:=XW s i;unfold La;generalize C5 s i=r at h;obtain⟨b,j,l⟩:=r;cases b with
  |true=>exact h.append (bC s f j)
  |false=>exact h
def XX(s:Bs)(i:Nat):Gl (Dt s i).2:=by
 unfold Dt;simp only;split
 ·exact bC _ _ _
 exact bC _ _ _
theorem Uh(s:Bs):∀f i,Gl (Iq s f i)
 |0,_=>Gl.nil
 |f+1,i=>by
  unfold Iq;simp only;cases s.drop (Cm s [60] i)with
  |nil=>exact Gl.nil
  |cons c l=>
   simp only;split
   ·exact Uh s f _
   split
   ·exact Uh s f _
   split
   ·exact(XX _ _).append (Uh s f _)
   exact Uh s f _
def nD(s:Bs):Gl (Bf s):=Uh s _ _
theorem Cg.sum:∀{l:List Av}{i j:Nat},Cg i l j->i+(l.map fun x=>x.2.1).sum<=j
 |[],i,j,h=>by have:=h.le;simpa using this
 |x::l,i,j,h=>by
  have ih:=Cg.sum (l:=l) h.2;have:=h.1;simp only[CD,DT];omega
theorem Cg.mem:∀{l:List Av}{i j:Nat},Cg i l j->∀x∈l,x.1+x.2.1<=j
 |x::l,i,j,h,y,H=>by
  rcases CG.1 H with rfl|H
  ·exact Cg.le (l:=l) h.2
  exact Cg.mem (l:=l) h.2 y H
def XY(s:Bs):((Bf s).map fun x=>x.2.1).sum<=s.length:=by
 have:=(I3 s).1.sum;omega
def O5(s:Bs):∀x∈Bf s,x.2.2.length<=s.length:=fun x h=>by
 have H:=nD s x h;have a:=(I3 s).1.mem x h;omega
theorem XZ(s:Bs)(V:List Bs)(vv:Value)(w:World)(hg:Gr w)(hs:s.length≤1000000000)(hv:F9 1 Bl w vv V)(d2:V.length≤1000000)(a5:∀x∈V,x.length≤1000000):Calls prog 45 #[.string ⟨s.toArray⟩,vv] w fun e w'=>Tl 1 (I7 s V) e w'∧Below w.heap.size w w':=by
 obtain⟨va,d4,rfl,a6⟩:=hv.opens By;have b6:=AE a6;have b7:=AE a5;clear a6 hv a5;have u:=AE (ca:I7 s V=if(Bf s).length=V.length then some (I6 s ((Bf s).zip V) 0)else none);have O:=(I3 s).1;have P:=Xb s;have hC:=Xa s w hg hs;generalize Bf s=L at u O P hC;go_enter func45,ntmps45;go_wp2_with fail;with_reducible refine hC.mono ?_
 rintro e b⟨v,rfl,a7,c⟩;obtain⟨a,d5,rfl,hc⟩:=(A1.rd ae G3 a7).opens G3;have HC:=AE hc;clear hC hc a7;by_cases hn:L.length=V.length
 case neg=>
  have H:=AE (by rw[u.o,AL hn]:I7 s V=none);have b8:¬((L.length:Int)=(V.length:Int)):=aa
  go_wp2;go_ret2;exact⟨Or.inr ⟨_,H.o,rfl,Or.inr (Or.inl rfl)⟩,c⟩
 have H:=AE (by rw[u.o,AN hn]:I7 s V=some (I6 s (L.zip V) 0));have b8:(L.length:Int)=(V.length:Int):=aa
 have HP:=AE P;have d:=yI b;have HL:=AE O;clear u P O;go_wp2_with fail;go_loopw[8,23] (fun c0 i wr=>∃(k p:Nat)(o:Bs),c0=p/\i=k/\k<=L.length/\p<=s.length/\Cg p (L.drop k) s.length/\o.length<=p+k*6000002/\Kr b.heap.size b.heap.size o wr/\Hid (o++I6 s ((L.zip V).drop k) p=I6 s (L.zip V) 0)/\Below b.heap.size b wr) (fun _ i _=>L.length-(intOf i).toNat)
 case atStart=>exact⟨0,0,[],rfl,rfl,aa,aa,HL.o,ah,d,AE rfl,cu⟩
 obtain⟨k,p,o,rfl,rfl,hk,hp,Q,d6,f,z,B⟩:=hrel;clear HL;by_cases R:k<L.length
 ·obtain⟨d,rfl,S,h⟩:=HC.o k R;obtain⟨m,c1,A,g⟩:=b6.o k (by omega);have T:=(B.cell (p:=⟨d,k*3,none⟩) S).trans (h 0 (by decide));have U:=(B.cell (p:=⟨d,k*3+1,none⟩) S).trans (h 1 (by decide));have Y:=(B.cell (p:=⟨d,k*3+2,none⟩) S).trans (h 2 (by decide));have Z:=(B.cell (p:=⟨m,k,none⟩) (BN A c.size)).trans ((c.cell (p:=⟨m,k,none⟩) A).trans (by have:=g 0 (by decide);simpa using this));have a8:=HP.o _ (AQ R);have c2:=b7.o _ (AQ (show k<V.length by omega));have D:=AE (XS s (L.zip V) k p (by simp;omega));simp only[ID]at D;rw[AH R]at Q;clear h g;subst c1;generalize L[k]=x at T U Y a8 D Q;generalize V[k]=v at Z c2 D;obtain⟨x1,X,n⟩:=x;obtain⟨y,rfl⟩:∃y,x1=y+1:=⟨x1-1,by simp only at a8;omega⟩;obtain⟨c3,C⟩:=Q;have c4:=C.le;simp only at c3 C c4;have c5:y<s.length:=by omega
  have a9:=AE (by unfold Na;rw[AM];simp[c5]:Na s (y+1,X,n)=s[y]);have E:=AE (by rw[<-z.o,D.o,a9.o];simp:(o++((s.drop p).take (y+1-p)++Kw (s[y]) v))++I6 s ((L.zip V).drop (k+1)) (y+1+X)=I6 s (L.zip V) 0);clear D z a9;have kf:=A0.new wr #[.int .i64 ((y:Int)+1),X,n] 96;have d7:=f.lt;have f:=f.next ((AG wr.heap.size wr).alloc (AF _) (.cells #[.int .i64 ((y:Int)+1),X,n] 96));have B2:=B.alloc B.size (.cells #[.int .i64 ((y:Int)+1),X,n] 96);have e0:wr.cell? ⟨d,k*3,none⟩=some (.int .i64 ((y:Int)+1)):=T;have e1:wr.cell? ⟨d,k*3+1,none⟩=some X:=U;have e2:wr.cell? ⟨d,k*3+2,none⟩=some n:=Y;clear T U Y;have i1:(p:Int)<=(y:Int)+1:=aa
  have i2:(y:Int)+1<=s.length:=aa
  have i3:((y:Int)+1).toNat=y+1:=aa
  have i4:(0:Int)<=p:=aa
  have kc:=kf.cell;have j:=Zt b.heap.size b.heap.size o ((s.drop p).take (y+1-p)) _ f ag (by have:=B2.size;omega);have a0:wr.heap.size≠b.heap.size:=aa
  have DV:=AE (show b.cell? ⟨m,k,none⟩=some (.string ⟨v.toArray⟩)from(B.cell (p:=⟨m,k,none⟩) (BN A c.size)).symm.trans Z);have c6:m<b.heap.size:=BN A c.size;clear Z;go_wp2_with fail;with_reducible refine j.mono ?_
  rintro e w3⟨rfl,b0,b3,b1⟩;have F:=kf.Zu b1 a0 ae;have G:=B2.trans b3;have d3:=(G.cell (p:=⟨m,k,none⟩) c6).trans DV.o;have c7:=F.cell;clear j kc f b1 b3 kf;go_wp2_with fail;refine(UH v _ ((hg.next c).next G) aa).mono ?_;rintro e w4⟨rfl,I⟩;have K:=F.next I F.lt;have J:=b0.next I;have M:=G.trans (I.mono G.size);have i5:(y:Int)<s.length:=aa
  have i6:(0:Int)<=y:=aa
  have c8:(s[y].toNat:Int)<256:=by have:=(s[y]).toNat_lt;omega
  have HQ:=AE (aR s[y]);have b2:=K.cell;clear c7 d3 I b0 F;go_upto_region 12 with fail;go_cut[12,43,49] (fun _ _ t wx=>t=.bool (!(Fk s[y]))/\wx=w4)
  case first=>
   have b4:((s[y].toNat:Int)=34\/(s[y].toNat:Int)=39)\/((s[y].toNat:Int)≠34/\(s[y].toNat:Int)≠39):=aa
   have l:=AE (fun c b5(h:((s[y].toNat:Int)==34)=c)(g:((s[y].toNat:Int)==39)=b5)=>show Fk s[y]=(c||b5)from by rw[HQ.o,h,g]);clear HQ;generalize(s[y].toNat:Int)=cI at l b4 c8|-;rcases b4 with(rfl|rfl)|⟨h,g⟩
   ·have H:=AE (l.o true false rfl rfl);clear l;go_wp2;go_meet;exact⟨bu,rfl⟩
   ·have H:=AE (l.o false true rfl rfl);clear l;go_wp2;go_meet;exact⟨bu,rfl⟩
   have H:=AE (l.o false false su (by rw[AI];exact g));have e1:(cI !=34)=true:=by rw[DD];exact h
   have e2:(cI !=39)=true:=by rw[DD];exact g
   clear l h g;go_wp2;go_meet;exact⟨bu,rfl⟩
  case rest=>
  obtain⟨rfl,c9⟩:=hcut;obtain rfl:=c9.symm;have d8:=bA v;generalize N:Fk s[y]=qb;have N:=AE N;clear HQ;cases qb with
  |false=>
   have a1:=AE (by unfold Kw;rw[N.o];rfl:Kw (s[y]) v=34::(F3 v++[34]));have j:=Zt b.heap.size b.heap.size (o++(s.drop p).take (y+1-p)) (34::(F3 v++[34])) w4 J ag (by have:=M.size;omega);go_wp2_with fail;with_reducible refine j.mono ?_
   rintro e w5⟨rfl,a2,q,r⟩;have a3:=K.Zu r a0 ae;have B5:=M.trans q;have d0:=a3.cell;have a4:=AE (by rw[<-E.o,a1.o];simp:(o++(s.drop p).take (y+1-p))++(34::(F3 v++[34]))++I6 s ((L.zip V).drop (k+1)) (y+1+X)=I6 s (L.zip V) 0);clear j J q r b2 K E;go_wp2;go_roundw
   case rel=>exact⟨k+1,y+1+X,_,aj,aj,aa,aa,C,ag,a2,a4,B5⟩
   simp[intOf];omega
  |true=>
   have a1:=AE (by unfold Kw;rw[N.o];rfl:Kw (s[y]) v=F3 v);have j:=Zt b.heap.size b.heap.size (o++(s.drop p).take (y+1-p)) (F3 v) w4 J ag (by have:=M.size;omega);go_wp2_with fail;with_reducible refine j.mono ?_
   rintro e w5⟨rfl,a2,q,r⟩;have a3:=K.Zu r a0 ae;have B5:=M.trans q;have d0:=a3.cell;have a4:=AE (by rw[<-E.o,a1.o];simp:(o++(s.drop p).take (y+1-p))++(F3 v)++I6 s ((L.zip V).drop (k+1)) (y+1+X)=I6 s (L.zip V) 0);clear j J q r b2 K E;go_wp2;go_roundw
   case rel=>exact⟨k+1,y+1+X,_,aj,aj,aa,aa,C,ag,a2,a4,B5⟩
   simp[intOf];omega
 obtain rfl:k=L.length:=aa
 have HT:=AE (by rw[<-z.o,BP ag];rfl:I6 s (L.zip V) 0=o++s.drop p);have HR:=AE (by rw[H.o,HT.o]:I7 s V=some (o++s.drop p));have d1:=fun W f hB=>yJ b.heap.size b.heap.size o W f hB
 have i1:(p:Int)<=s.length:=aa
 have i2:(0:Int)<=p:=aa
 have i3:¬(9223372036854775807:Int)<(o.length:Int)+(s.length-p:Nat):=aa
 have i4:¬9223372036854775807<o.length+(s.length-p):=aa
 have hB:=B.size;clear z HT H;go_wp2_with fail
 go_region_with ((go_at_call 80;refine(d1 wr.drew f.drew hB).mono ?_;rintro e w9⟨rfl,d9,b9,e3⟩))
 all_goals
  go_wp2;go_ret2;exact⟨Or.inl ⟨_,HR.o,rfl⟩,c.trans ((B.trans (IJ (by first|exact b9|exact(AG _ _).drew.trans b9) (AF _))).mono c.size)⟩
def O6(z:List (Av×Bs)):List Av:=z.map (·.1)
inductive Pq where
 |stop:Nat->Pq
 |bare:Nat->Pq
 |val:Bs->Nat->Pq
def Pq.pos:Pq->Nat| .stop j=>j| .bare d=>d| .val _ d=>d
def Pq.map(g:Nat->Nat):Pq->Pq| .stop j=>.stop (g j)| .bare d=>.bare (g d)| .val n d=>.val n (g d)
def nE{l:List Av}{v:List Bs}(h:v.length=l.length):O6 (l.zip v)=l:=by
 unfold O6;rw[<-List.unzip_fst,List.unzip_zip_left aa]
theorem nF{c:UInt8}:∀{l h:Bs}{t:List Bs},Ad c l=h::t->h<+:l
 |[],h,t,e=>by simp[Ad]at e;rw[e.1];exact List.prefix_rfl
 |x::l,h,t,e=>by
  unfold Ad at e;split at e
  ·injection e with e _;rw[<-e];exact List.nil_prefix
  split at e
  ·rename_i E;exact absurd E (Lx c l)
  rename_i H T E;injection e with e _;rw[<-e];exact(List.prefix_cons_inj x).2 (nF E)
theorem bD{c:UInt8}:∀{l s:Bs},s∈Ad c l->s<:+:l
 |[],s,h=>by simp[Ad]at h;rw[h];exact List.infix_rfl
 |x::l,s,h=>by
  unfold Ad at h;split at h
  ·rcases CG.1 h with h|h
   ·rw[h];exact List.nil_infix
   exact(bD h).trans (List.suffix_cons x l).isInfix
  split at h
  ·rename_i e;exact absurd e (Lx c l)
  rename_i H t e;rcases CG.1 h with h|h
  ·rw[h];exact((List.prefix_cons_inj x).2 (nF e)).isInfix
  exact(bD (l:=l) (by rw[e];exact CJ _ h)).trans (List.suffix_cons x l).isInfix
def nG(s:Bs)(w:World)(u:s.length<=1000000000)(j:Cj w):Calls prog 115 #[s] w fun e m=>e=.returned (.bool (Ld s))/\Below w.heap.size w m:=by
 have S:=Ta s 47 w aa j;have h:=AE (ca:Ld s=(decide ((Ad 47 s).length<=2)&&(Ag ((Ad 47 s).headD [])&&Ag ((Ad 47 s).getLastD []))));have f:=Lx 47 s;have b:∀x∈Ad 47 s,x.length<=1000000000:=fun x o=>by
  have:=(bD o).length_le;omega
 have c:(Ad 47 s).length<=1000000001:=by
  rw[T8];have:=II (a:=(47:UInt8)) (l:=s);omega
 generalize Ad 47 s=L at S h f b c;have B:=(AG w.heap.size w).alloc (AF _) (.cells (Ds L) 9);have k:=A0.new w (Ds L) 9;go_enter func115,ntmps115;go_wp2_with fail;with_reducible refine S.mono ?_
 rintro e W⟨rfl,rfl⟩;generalize World.alloc _ _=W at k B|-
 match L,f,b,c,h,k with
 |[x],_,b,_,h,k=>
  have H:=AE (by rw[h.o];simp:Ld s=Ag x);have T:=Si x W (by have:=b x ah;omega);have C:W.cell? ⟨w.heap.size,0,none⟩=some x:=by rw[k.cell];rfl
  generalize Ag x=q at T H;cases q with
  |true=>
   go_wp2_with fail;with_reducible refine T.mono ?_
   rintro e d⟨rfl,rfl⟩;go_wp2_with fail;with_reducible refine T.mono ?_
   rintro e p⟨rfl,rfl⟩;go_wp2;go_ret;exact⟨Bm H.o.symm,B⟩
  |false=>
   go_wp2_with fail;with_reducible refine T.mono ?_
   rintro e d⟨rfl,rfl⟩;go_wp2;go_ret;exact⟨Bm H.o.symm,B⟩
 |[x,y],_,b,_,h,k=>
  have H:=AE (by rw[h.o];simp[List.getLastD]:Ld s=(Ag x&&Ag y));have T:=Si x W (by have:=b x ah;omega);have g:=Si y W (by have:=b y ah;omega);have C:W.cell? ⟨w.heap.size,0,none⟩=some x:=by rw[k.cell];rfl
  have v:W.cell? ⟨w.heap.size,1,none⟩=some y:=by rw[k.cell];rfl
  generalize Ag x=q at T H;generalize Ag y=Q at g H;cases q with
  |true=>
   go_wp2_with fail;with_reducible refine T.mono ?_
   rintro e d⟨rfl,rfl⟩;go_wp2_with fail;with_reducible refine g.mono ?_
   rintro e p⟨rfl,rfl⟩;go_wp2;go_ret;exact⟨Bm bu,B⟩
  |false=>
   go_wp2_with fail;with_reducible refine T.mono ?_
   rintro e d⟨rfl,rfl⟩;go_wp2;go_ret;exact⟨Bm bu,B⟩
 |x::y::z::t,_,_,c,h,_=>
  have H:=AE (show Ld s=false from by
   rw[h.o,AY ah];rfl)
  have i:¬((x::y::z::t).length:Int)<=2:=ag
  have r:decide (((x::y::z::t).length:Int)<=2)=false:=AY i;generalize(x::y::z::t).length=n at i r c|-;go_wp2;go_ret;exact⟨Bm H.o.symm,B⟩
def nH{a b:Bs}{c:UInt8}(h:c∉a):indexByte (a++c::b) c=(a.length:Int):=by
 have h0:=indexByte_ge (a++c::b) c;by_cases e:indexByte (a++c::b) c=-1
 ·exact absurd ah (indexByte_none e a.length)
 obtain⟨o,H⟩:∃o:Nat,indexByte (a++c::b) c=o:=⟨(indexByte (a++c::b) c).toNat,aa⟩;obtain⟨d,f⟩:=IZ H;rw[H];by_cases t:o<a.length
 ·rw[GO t]at d;exact absurd (CP d) h
 by_cases g:a.length<o
 ·exact absurd ah (f a.length g)
 omega
def nI{l:Bs}{c:UInt8}(h:c∉l):indexByte l c=-1:=by
 have h0:=indexByte_ge l c;by_cases H:indexByte l c=-1
 ·exact H
 obtain⟨o,a⟩:∃o:Nat,indexByte l c=o:=⟨(indexByte l c).toNat,aa⟩;exact absurd (CP (IZ a).1) h
end Go.Proofs.YtignjjnflcpiiaaGreatDoor
