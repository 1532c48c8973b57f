/- A part's head without its name, and what its links become -/
import Derived.Test.YtignjjnflcpiiaaGreatDoorV38
import Derived.Test.YtignjjnflcpiiaaGreatDoorV39
set_option maxHeartbeats 16000000
set_option maxRecDepth 100000 set_option linter.all false
namespace Go.Proofs.YtignjjnflcpiiaaGreatDoor
open Go Go.RowKit Proofs.Tryz Lib
variable {w:World}{p1 p2 p3 m r p0:Value}{V la:Option Go.Addr}{T c U cp C lc:Nat}{Q:Exit → Act → World → Prop}{F:List Value}
def ts{h:List A4}{l:Value}
  (a6:A0 w T #[.slice V h.length U,p1,p2,p3] 44) (H:A0 w c #[.slice none 0 0,l,m,r] 44)
  (hH:Ba 2 Bc (fun b=>b≠c) w (.slice V h.length U) h) (G:Dw 100000 h)
  (X:Ho 213 [(18,.pointer (some ⟨T,0,none⟩)),(19,.pointer (some ⟨c,0,none⟩))] ⟨F.toArray,[]⟩)
  (I:∀(s:World)(O:Option Go.Addr)(d:Nat)(Y:Act),Kp [(0,21),(22,117),(135,213)] [] F Y->A0 s c #[.slice O (h.filter fun f=>!(A2 f.1==A2 C9)).length d,l,m,r] 44->Bt s w.heap.size (.slice O (h.filter fun f=>!(A2 f.1==A2 C9)).length d) (h.filter fun f=>!(A2 f.1==A2 C9))->A5 c w.heap.size w s->Q .normal Y s):
  Code.wp prog pS Q ⟨F.toArray,[]⟩ w:=by
 obtain⟨fr,rfl⟩:=X.Qc;clear X;simp only[Fp,↓reduceIte,Nat.reduceAdd,Nat.reduceEqDiff]at I|-;let b7:=bodyPost prog f26 (fun _ _=>True);delta pS Xs Ux Px f26;dsimp only[Ak,Hc,Gj,Option.getD];have a7:=AE I;have a8:=AE G.2;have b8:=G.1;have kp:=a6.cell;have a9:A2 C9=[99,111,110,116,101,110,116,45,105,100]:=ae
 have Z:=H.lt;clear I G;go_wp2_with fail;go_loopw[120] (fun J wr=>∃(j:Nat)(o:List A4)(O:Option Go.Addr)(d:Nat),J=j/\j<=h.length/\o.length<=j/\A0 wr c #[.slice O o.length d,l,m,r] 44/\Bt wr w.heap.size (.slice O o.length d) o/\Hid (o++(h.drop j).filter (fun f=>!(A2 f.1==A2 C9))=h.filter fun f=>!(A2 f.1==A2 C9))/\A5 c w.heap.size w wr) (fun J _=>h.length-(intOf J).toNat)
 case atStart=>exact⟨0,[],none,0,rfl,aa,ah,H,A1.nil _ _ _ _ _,AE ah,A5.refl _ _ _⟩
 obtain⟨j,o,O,d,rfl,hj,b9,H,n,t,B⟩:=hrel;by_cases K:j<h.length
 ·obtain⟨g,rfl,a0,a1,L⟩:=hH.at Af j K;have c0:=(B.cell (p:=⟨g,j*2+0,none⟩) a1 a0).trans (L 0 ae);have c1:=(B.cell (p:=⟨g,j*2+1,none⟩) a1 a0).trans (L 1 ae);have hf:=a8.o _ (AQ K);have D:=AE (show o++(if !(A2 (h[j]).1==A2 C9)then h[j]::(h.drop (j+1)).filter (fun f=>!(A2 f.1==A2 C9))else(h.drop (j+1)).filter (fun f=>!(A2 f.1==A2 C9)))=h.filter fun f=>!(A2 f.1==A2 C9)from by
   rw[<-t.o,AH K,DB])
  clear L t;generalize h[j]=f at c0 c1 hf D;obtain⟨x,y⟩:=f;simp only[Bc,BI,AU,AR]at c0 c1 hf D;have M:=fun W=>Ix x W aa
  have c2:=AE (A1.Dj n);have k:=A0.new wr #[x,y] 92;have A:=(AG wr.heap.size wr).alloc (AF _) (.cells #[x,y] 92);have n:=A1.next n A;have H:=H.next A H.lt;have u:=B.next A B.size;have a2:=k.cell;generalize b0:A2 x=lx at M D;generalize b1:(lx==A2 C9)=q at D;rw[a9]at b1;clear A b0;go_wp2_with fail;generalize World.alloc _ _=w2 at k n u H a2|-;with_reducible refine(M _).mono ?_
  rintro e v⟨rfl,i⟩;have k:=k.next i k.lt;have n:=A1.next n i;have H:=H.next i H.lt;have P:=u.next i u.size;have a2:=k.cell;have c3:=H.cell;have c4:=H.free;clear i u M;cases q with
  |true=>
   have N:=AE (show o++(h.drop (j+1)).filter (fun f=>!(A2 f.1==A2 C9))=h.filter fun f=>!(A2 f.1==A2 C9)from D.o);clear D;go_wp2;go_roundw
   case rel=>exact⟨j+1,o,O,d,aj,aa,aa,H,n,N,P⟩
   simp[intOf];omega
  |false=>
   have N:=AE (show(o++[(x,y)])++(h.drop (j+1)).filter (fun f=>!(A2 f.1==A2 C9))=h.filter fun f=>!(A2 f.1==A2 C9)from by
    have:=D.o;simp only[EN,DK]at this;rw[AP];exact this)
   clear D;have b2:=P.size;go_wp2_with(at_builtin;refine N8 (α:=A4) (cs:=Bc) (size:=2) (z:=.agg #[.string ByteArray.empty,.string ByteArray.empty]) Af M0 My rfl ae underlying42 rfl _ _ rfl w.heap.size _ o [(x,y)] ⟨v.heap.size,0,none⟩ 1 1 rfl rfl (A1.alloc n _) rfl (I0 v (x,y) _) ag ao ag ?_;intro v' w9 a3 b3 R b4;obtain⟨C,E,a4,_⟩:=A1.rd ae Af a3;rw[AJ,FF]at a4;subst a4;have S:=(H.alloc (.cells #[x,y] 92)).next R Z;have c5:=S.cell;have c6:=S.free);have B9:=(P.next ((AG v.heap.size v).alloc (AF _) (.cells #[x,y] 92)) b2).trans (A5.of R);have b5:A0 (w9.setCell ⟨c,0,none⟩ (.slice C (o.length+1) E)) c #[.slice C (o.length+1) E,l,m,r] 44:=S.set 0 _;have b6:=a3.A6 (a:=⟨c,0,none⟩) Z (.slice C (o.length+1) E);have a5:(o++[(x,y)]).length=o.length+1:=ah
   clear b3 R b4;go_wp2;go_roundw
   case rel=>exact⟨j+1,o++[(x,y)],C,E,aj,aa,ag,by rw[a5];exact b5,by rw[a5];exact b6,N,B9.set _⟩
   simp[intOf];omega
 obtain rfl:j=h.length:=aa
 have N:=AE (by have:=t.o;simpa using this:o=h.filter fun f=>!(A2 f.1==A2 C9));have h2:=N.o;clear t N;go_wp2_with fail;refine a7.o _ O d _ ⟨_,rfl,rfl,af,rfl⟩ (by rw[<-h2];exact H) (by rw[<-h2];exact n) B
def tt{l:List Ij}{L:List Av}{body:Bs}{k:Int}
  (b6:A0 w cp #[p0,body,p2,p3] 44) (b7:w.cell? ⟨C,0,none⟩=some k) (b8:-9223372036854775808<=k) (b9:k<=9223372036854775807)
  (hl:F9 2 Ji w (.slice la l.length lc) l) (R:Bf body=L) (f4:body.length<=60002) (a4:l=[]\/l.length=L.length) (u:∀x∈l,-9223372036854775808<=x.2/\x.2<=9223372036854775807) (c0:∀i(f:i<l.length)(h2:i<L.length),0<=(l[i]).2->∃a,Be (L[i]).2.2=some a) (hg:Gz w)
  (c1:Ho 213 [(6,.func (.func 72) #[] #[.pointer (some ⟨C,0,none⟩)]),(18,.pointer (some ⟨cp,0,none⟩)),(22,.slice la l.length lc),(24,.slice none 0 0)] ⟨F.toArray,[]⟩)
  (hN:∀(w':World)(S:List Bs)(U:Option Go.Addr)(Y:Nat)(ac:Act),Kp [(0,24),(30,152),(191,213)] [(24,.slice U S.length Y)] F ac->S=(L.zip l).map (fun x=>F4 (64::98::itoa k) x.1.2.2 x.2.2)->Do w' w.heap.size (.slice U S.length Y) S->Below w.heap.size w w'->Q .normal ac w'):
  Code.wp prog pT Q ⟨F.toArray,[]⟩ w:=by
 obtain⟨fr,rfl⟩:=c1.Qc;clear c1;simp only[Fp,↓reduceIte,Nat.reduceAdd,Nat.reduceEqDiff]at hN|-;let f5:=bodyPost prog f26 (fun _ _=>True);delta pT Xs Ux Px f26;dsimp only[Ak,Hc,Gj,Option.getD];have c2:=AE hN;have d7:=AE u;have d8:=AE c0;have c3:=fun W=>Xp body W aa
 rw[R]at c3;have d9:=AE (R▸O5 body);have f6:=R▸(I3 body).2;have e3:C<w.heap.size:=BJ w _ b7;obtain⟨f7,f8,e4,c4⟩:=hl.opens Lk;injection e4 with e1 e2 e5;subst e1 e5;have e6:=AE c4;have e7:l.length<=L.length:=by rcases a4 with h|h<;>simp_all
 have hZ:(L.zip l).length=l.length:=by rw[FK];omega
 have c5:=AE (fun(j:Nat)(f:j<l.length)=>show((L.zip l).drop j).map (fun x=>F4 (64::98::itoa k) x.1.2.2 x.2.2)=F4 (64::98::itoa k) (L[j]'(BN f e7)).2.2 (l[j]).2::((L.zip l).drop (j+1)).map (fun x=>F4 (64::98::itoa k) x.1.2.2 x.2.2)from by
  rw[AH (by rw[hZ];exact f),CD,ID])
 have c6:=AE (by rw[<-hZ,AS]:(L.zip l).drop l.length=[]);generalize(L.zip l)=Z at c5 c6 c2;clear hN u c0 c4 e2 hl hZ R a4;have a4:l.length<=60002:=aa
 go_wp2_with fail;go_loopw[24,154] (fun ov iv wr=>∃(j:Nat)(o:List Bs),iv=j/\j<=l.length/\o.length<=j/\Do wr w.heap.size ov o/\Hid (o++(Z.drop j).map (fun x=>F4 (64::98::itoa k) x.1.2.2 x.2.2)=Z.map (fun x=>F4 (64::98::itoa k) x.1.2.2 x.2.2))/\Below w.heap.size w wr) (fun _ iv _=>l.length-(intOf iv).toNat)
 case atStart=>exact⟨0,[],rfl,aa,ah,A1.nil _ _ _ _ _,AE ah,AG _ _⟩
 obtain⟨j,o,rfl,hj,f9,H,a0,B⟩:=hrel;by_cases a1:j<l.length
 ·obtain⟨g,rfl,c7,f⟩:=e6.o j a1;have a5:j<L.length:=by omega
  have c8:=(B.cell (p:=⟨g,j*2+0,none⟩) c7).trans (f 0 ae);have c9:=(B.cell (p:=⟨g,j*2+1,none⟩) c7).trans (f 1 ae);have u:=d7.o _ (AQ a1);have V:=AE (show∀v,F4 (64::98::itoa k) (L[j]).2.2 (l[j]).2=v->(o++[v])++(Z.drop (j+1)).map (fun x=>F4 (64::98::itoa k) x.1.2.2 x.2.2)=Z.map (fun x=>F4 (64::98::itoa k) x.1.2.2 x.2.2)from fun v hv=>by
   rw[<-a0.o,c5.o j a1,hv];simp)
  have q:=AE (d8.o j a1 a5);clear f a0;generalize l[j]=d at c8 c9 u V q;obtain⟨d1,D⟩:=d;simp only[Ji,BI,AU,AR]at c8 c9 u V q;have A:=(AG wr.heap.size wr).alloc (AF _) (.cells #[d1,D] 64);have K:=A0.new wr #[d1,D] 64;have H:=A1.next H A;have z:=B.trans (A.mono B.size);have g0:=B.size;have e8:=(b6.next z b6.lt).cell;have E:=K.cell;clear A B;go_wp2_with fail;generalize World.alloc _ _=w2 at K H z e8 E|-;with_reducible refine(c3 _).mono ?_
  rintro e w3⟨v3,rfl,d0,b3⟩;have K:=K.next b3 K.lt;have H:=A1.next H b3;have B3:=z.trans (b3.mono z.size);have a6:=A1.Dq ae G3 d0;obtain⟨xa,xc,e9,_⟩:=a6.rd;subst e9;obtain⟨lb,rfl,_,g1,a2⟩:=a6.at G3 j a5;have e0:=a2 0 ae;have e1:=a2 1 ae;have e2:=a2 2 ae;have d2:=d9.o _ (AQ a5);have i0:(0:Int)<=j:=aa
  have i1:(j:Int)<L.length:=aa
  clear a2 d0 a6 b3 z;generalize L[j]=x at d2 V q e0 e1 e2;obtain⟨x1,x2,v⟩:=x;simp only[I4,BI,AU,AR]at d2 V q e0 e1 e2;have A:=(AG w3.heap.size w3).alloc (AF _) (.cells #[x1,x2,v] 96);have r:=A0.new w3 #[x1,x2,v] 96;have K:=K.next A K.lt;have H:=A1.next H A;have c:=B3.trans (A.mono B3.size);have E:=K.cell;have a7:=r.cell;clear A B3;by_cases a8:D<0
  ·have N:=AE (V.o v (by unfold F4;rw[AN a8]));have d3:¬(0:Int)<=D:=by omega
   clear V q;go_upto_region 47 with fail;generalize World.alloc _ _=w5 at K r H c E a7|-;go_wp2_with(at_builtin;refine Mt rfl _ _ rfl w.heap.size _ o v w5.heap.size 1 rfl (A1.alloc H _) rfl (Il _ _ _) aa (by have:=c.size;simp;omega) ?_;intro v' w9 G I m J);have M:=(c.alloc c.size (.cells #[v] 9)).trans m;clear I m J;go_wp2;go_roundw
   case rel=>exact⟨j+1,o++[v],aj,aa,ag,G,N,M⟩
   simp[intOf];omega
  have d3:(0:Int)<=D:=aa
  obtain⟨ra,a9⟩:=q.o d3;have d4:=iQ a9;have T:=AE (show F4 (64::98::itoa k) v D=99::105::100::58::(Co (64::98::itoa k) D++(match Ao [35] v with|none=>[]|some (_,y)=>35::y))from by
   unfold F4;rw[AL a8,a9];simp only;rw[d4];cases Ao [35] v<;>rfl)
  have X:=fun W hW=>aP v [35] W aa hW
  simp only[Jl]at X;have f0:(Co (64::98::itoa k) D).length<=1000:=by
   have f:=BE k b8 b9;have h2:=BE D aa aa;unfold Co;simp;omega
  have b0:=hg.next c;have a3:=cL D k C _ aa aa b8 b9 ((c.cell (p:=⟨C,0,none⟩) e3).trans b7) b0;generalize Co (64::98::itoa k) D=n at a3 f0 T;have b1:=fun a b(h:Ao [35] v=some (a,b))=>F7 h
  have g2:¬9223372036854775807<4+n.length:=aa
  clear q d4 a9 a8;go_wp2_with fail;generalize World.alloc _ _=w5 at K r H c E a7 a3 b0|-;with_reducible refine a3.mono ?_
  rintro e w6⟨rfl,O⟩;have r:=r.next O r.lt;have H:=A1.next H O;have t:=c.trans (O.mono c.size);have d5:=(b0.next O).r.g;have a7:=r.cell;clear a3 O K E;cases P:Ao [35] v with
  |none=>
   simp only[P]at X T;have N:=AE (V.o _ T.o);rw[BU]at N;clear V b1 T P;go_upto_region 47 with(with_reducible refine(X _ d5).mono ?_;rintro e w7⟨rfl,b2⟩;obtain rfl:=b2.symm);clear X;go_wp2_with(at_builtin;refine Mt rfl _ _ rfl w.heap.size _ o (99::105::100::58::n) w6.heap.size 1 rfl (A1.alloc H _) rfl (Il _ _ _) aa (by have:=t.size;simp;omega) ?_;intro v' w9 G I m J);have M:=(t.alloc t.size (.cells #[(99::105::100::58::n:Bs)] 9)).trans m;clear I m J;go_wp2;go_roundw
   case rel=>exact⟨j+1,o++[99::105::100::58::n],aj,aa,ag,G,N,M⟩
   simp[intOf];omega
  |some ab=>
   obtain⟨b4,s⟩:=ab;simp only[P]at X T;have b5:=b1 _ _ P;have N:=AE (V.o _ T.o);have d6:v.drop b4.length=35::s:=by rw[b5];simp
   have f1:v.length=b4.length+1+s.length:=by rw[b5];simp;omega
   have g3:(b4.length:Int)<=v.length:=aa
   have g4:s.length<=100000:=aa
   have g5:¬9223372036854775807<n.length+1+1+1+1+(s.length+1):=aa
   have f2:=AE d6;clear V b1 T P b5 f1 d6;go_upto_region 47 with(with_reducible refine(X _ d5).mono ?_;rintro e w7⟨rfl,b2⟩;obtain rfl:=b2.symm);clear X;rw[f2.o];go_wp2_with(at_builtin;refine Mt rfl _ _ rfl w.heap.size _ o (99::105::100::58::(n++35::s)) w6.heap.size 1 rfl (A1.alloc H _) rfl (Il _ _ _) aa (by have:=t.size;simp;omega) ?_;intro v' w9 G I m J);have M:=(t.alloc t.size (.cells #[(99::105::100::58::(n++35::s):Bs)] 9)).trans m;clear I m J;go_wp2;go_roundw
   case rel=>exact⟨j+1,o++[99::105::100::58::(n++35::s)],aj,aa,ag,G,N,M⟩
   simp[intOf];omega
 obtain rfl:j=l.length:=aa
 have N:=AE (by have:=a0.o;rw[c6.o]at this;simpa using this:o=Z.map (fun x=>F4 (64::98::itoa k) x.1.2.2 x.2.2));obtain⟨U,Y,f3,_⟩:=A1.rd ae By H;subst f3;clear a0;go_wp2_with fail;exact c2.o _ o U Y _ ⟨_,rfl,rfl,af,rfl⟩ N.o H B
end Go.Proofs.YtignjjnflcpiiaaGreatDoor
