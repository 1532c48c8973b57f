/- The document's answer's Open: as the program's. Condition -/
import Derived.Test.YtignjjnflcpiiaaGreatDoorV35
import Derived.Test.YtignjjnflcpiiaaGreatDoorV37
import Derived.Test.YtignjjnflcpiiaaGreatDoorV38
set_option maxHeartbeats 16000000
set_option maxRecDepth 100000 set_option linter.all false
namespace Go.Proofs.YtignjjnflcpiiaaGreatDoor
open Go Go.RowKit Proofs.Tryz Lib
def zr(B:Nat)(r:Except Int Al)(e:Ending)(w':World):Prop:=(∃b p,r=.ok b/\e=.returned (.tuple #[.pointer (some ⟨p,0,none⟩),.int .i64 0])/\Ej (fun k=>B<=k) w' p b)\/(∃c,r=.error c/\1<=c/\e=.returned (.tuple #[.pointer none,.int .i64 c]))
def dC:Bs:=[99,111,110,116,101,110,116,45,105,100]
def zs:A2 dC=A2 C9:=ae
def T6(l:Bool)(r:Nat):Int:=if l then-1 else r
def zt(p:A7)(h:(Mm p.head).1=Li)(H:p.parts≠[]):Iz p=(Ei (E3 A3.zero p.head) ((Cc (Mm p.head).2 Bw).getD []) true 0 [] [] 0 p.parts).map fun x=>⟨p,x.1,x.2.1,x.2.2⟩:=by
 rw[oT p h H,Uq,Uq];cases Cc (Mm p.head).2 Bw with
 |none=>simp
 |some s=>rfl
variable {b:Nat}{t:TypeId}{w:World}
def Xz{x:A3}(h:A0 w b x.cells t):∀j u,([x].flatMap Gm)[j]?=some u->w.cell? ((⟨b,0,none⟩:Go.Addr).add j)=some u:=fun j u H=>by
 rw[Er,h.cell,<-GF];simpa[Gm]using H
def Y0{x:Bs}(h:A0 w b #[x] t):∀j u,([x].flatMap Bl)[j]?=some u->w.cell? ((⟨b,0,none⟩:Go.Addr).add j)=some u:=fun j u H=>by
 rw[Er,h.cell]
 match j,H with
 |0,H=>exact H
 |j+1,H=>simp[Bl]at H
theorem zv(s:Bs)(w:World)(hs:s.length<=1000000000000)(u:Gr w):Calls prog 19 #[s] w fun e w'=>zr w.heap.size (C4 s) e w'/\Below w.heap.size w w':=by
 have hP:=kq s w hs u;have N:=AE (ca:C4 s=match Ef s with| .error e=>.error e| .ok p=>Iz p);have a8:=fun p(h:Ef s=.ok p)=>Xd h
 generalize Ef s=rp at hP N a8;go_enter func19,ntmps19;go_wp2_with fail;with_reducible refine hP.mono ?_
 rintro e w1⟨hh,b9⟩;have i3:=b9.size;rcases hh with⟨p,f5,rfl,rfl,n⟩|⟨c,rfl,i4,rfl⟩
 case inr=>
  have N:=AE (show C4 s=.error c from N.o);have B1:=b9.alloc i3 (.cells Bu 44);unfold Bu at B1|-;have l5:=AE i4;have t1:¬c=0:=aa
  clear b9 hP a8 i4;go_wp2;go_ret2;exact⟨Or.inr ⟨c,N.o,l5.o,rfl⟩,B1⟩
 have N:=AE (show C4 s=Iz p from N.o);have a8:=a8 p rfl;have d6:=F1 a8.head.1;have t2:=a8.head.2.2;have c0:=n.T0;obtain⟨⟨R,G,J⟩,Z,rm,⟨a4,l6,a0⟩⟩:=f5;have l7:l6=p.parts.length:=by
  obtain⟨i5,⟨a,c,e,_⟩,hl,_⟩:=n.parts;simp only[A9]at e;injection e with _ e _;omega
 subst l7;simp only[A9]at c0;simp only[C3,A9];have A:=(AG w1.heap.size w1).alloc (AF _) (.cells #[.slice R G J,Z,rm,.slice a4 p.parts.length a0] 44);have f:=A0.new w1 #[.slice R G J,Z,rm,.slice a4 p.parts.length a0] 44;have f6:=(u.next b9).next A;have n:=n.next A;have c0:=c0.next A;have B2:=b9.trans (A.mono i3);have l8:w1.heap.size+1<=(w1.alloc (.cells #[.slice R G J,Z,rm,.slice a4 p.parts.length a0] 44)).heap.size:=ah
 clear A hP;go_upto_region 4 with fail;generalize World.alloc _ _=w2 at f f6 n c0 B2 l8|-;have hG:=Sg (.slice R G J) p.head Rc w2 c0.rd (d6.ok ae) ae;rw[Sz p.head cF]at hG;have HK:=AE (ca:Mm p.head=(Ay ((Aj p.head C2).getD [])).getD ([],[]));have l9:=Ui (s:=C2) d6;generalize(Aj p.head C2).getD []=kv at hG HK l9;generalize(Aj p.head C2).isSome=E at hG;have kc:=f.cell;unfold Rc at hG;go_wp2_with fail;with_reducible refine hG.mono ?_
 rintro e w3⟨rfl,c1⟩;have B3:=B2.trans (c1.mono aa);have f:=f.next c1 f.lt;have c4:=f6.next c1;have n:=n.next c1;have t3:=c1.size;have i6:=Sy kv w3 aa c4.g;clear hG c1 B2 f6 kc c0;go_wp2_with fail;with_reducible refine i6.mono ?_
 rintro e o⟨hh,c2⟩;obtain⟨m,ps,t4,t5,t6,rfl,d7,a9,_,m0⟩:=hh.get;have a9:=AE (HK.o.trans a9);have B4:=B3.trans (c2.mono B3.size);have f:=f.next c2 f.lt;have i7:=c4.next c2;have n:=n.next c2;have t7:=c2.size;have kc:=f.cell;clear i6 c2 B3 c4 hh HK;by_cases hm:m=Li
 case neg=>
  have N:=AE (by rw[N.o];unfold Iz;rw[a9.o,AN hm]:C4 s=.error 6);have i8:(m==[109,117,108,116,105,112,97,114,116,47,114,101,108,97,116,101,100])=false:=by simpa[Li]using hm
  clear hm;go_wp2;go_ret2;exact⟨Or.inr ⟨6,N.o,ae,rfl⟩,B4⟩
 subst hm;have i8:(Li==[109,117,108,116,105,112,97,114,116,47,114,101,108,97,116,101,100])=true:=rfl;unfold Li at i8;unfold Li;by_cases c5:p.parts.length=0
 ·have N:=AE (by rw[N.o];unfold Iz;rw[a9.o,AL ah,AN (ES c5)]:C4 s=.error 8);have m1:((p.parts.length:Int)==0)=true:=by rw[c5];rfl
  clear c5;go_wp2;go_ret2;exact⟨Or.inr ⟨8,N.o,ae,rfl⟩,B4⟩
 have m1:((p.parts.length:Int)==0)=false:=di
 have N:=AE (show C4 s=(Ei (E3 A3.zero p.head) ((Cc ps Bw).getD []) true 0 [] [] 0 p.parts).map fun x=>⟨p,x.1,x.2.1,x.2.2⟩from by
  rw[N.o,zt p (by rw[a9.o]) (fun h=>c5 iy),a9.o])
 have f7:=fun v W hr u=>pF A3.zero v p.head W hr (d6.mono ae) ae u
 have i9:=Sv (base:=A3.zero) d6;have j0:A3.zero.len=0:=rfl;rw[j0]at i9;clear j0;generalize E3 A3.zero p.head=base at N i9 f7;have c6:=fun v W hr=>jO v ps Bw W hr (by have:=m0.1;omega)
 unfold Bw at c6 N;generalize(Cc ps _).getD []=y at N c6;generalize(Cc ps _).isSome=t8 at c6;clear c5 a9;go_upto_region 10 with fail;have n:=A8.Ac (Q:=fun b=>w.heap.size<=b/\b<o.heap.size) (fun b h1 C=>⟨h1,C⟩) n;have E:=A0.new o #[.slice R G J,Z,rm,.slice a4 p.parts.length a0,.int .i64 (-1),.slice none 0 0,.slice none 0 0] 57;have A:=(AG o.heap.size o).alloc (AF _) (.cells #[.slice R G J,Z,rm,.slice a4 p.parts.length a0,.int .i64 (-1),.slice none 0 0,.slice none 0 0] 57);go_upto_region 11 with fail;have m2:o.heap.size<(o.alloc (.cells #[.slice R G J,Z,rm,.slice a4 p.parts.length a0,.int .i64 (-1),.slice none 0 0,.slice none 0 0] 57)).heap.size:=ah
 generalize World.alloc _ _=w5 at E A m2|-;have B5:=B4.trans (A.mono B4.size);have f:=f.next A f.lt;have d8:=i7.next A;have n:=n.next A;have d7:=A1.next d7 A;have m3:=B5.size;have hG:=c6 _ w5 (A1.rd ae Af d7);clear A B4 i7 c6 d7;go_wp2_with fail;with_reducible refine hG.mono ?_
 rintro e w6⟨rfl,b6⟩;have B6:=B5.trans (b6.mono m3);have f:=f.next b6 f.lt;have E:=E.next b6 E.lt;have f8:=d8.next b6;have n:=n.next b6;have t9:=b6.size;have O:=f7 (.slice R G J) w6 n.T0.rd f8;change Calls _ _ #[.agg #[.string ⟨#[]⟩,false,.string ⟨#[]⟩,.string ⟨#[]⟩,false,.string ⟨#[]⟩,false,.string ⟨#[]⟩],.slice R G J] _ _ at O;have kc:=f.cell;clear hG b6 B5 d8 f7;go_wp2_with fail;with_reducible refine O.mono ?_
 rintro e w7⟨rfl,b7⟩;have B7:=B6.trans (b7.mono B6.size);have f:=f.next b7 f.lt;have E:=E.next b7 E.lt;have c7:=f8.next b7;have n:=n.next b7;have u0:=b7.size;clear O b7 B6 f8 kc;have b8:=(AG w7.heap.size w7).alloc (AF _) (.cells base.cells 36);have d9:=A0.new w7 base.cells 36;go_upto_region 14 with fail;have a1:w7.heap.size<(w7.alloc (.cells base.cells 36)).heap.size:=ah
 generalize World.alloc _ _=l at d9 b8 a1|-;have B8:=B7.trans (b8.mono B7.size);have f:=f.next b8 f.lt;have E:=E.next b8 E.lt;have f9:=c7.next b8;have n:=n.next b8;have u1:=b8.size;have kc:=f.cell;have u2:=E.lt;have u3:w1.heap.size≠o.heap.size:=by have:=b9.size;omega
 clear b8 B7 c7;have j1:=AE n;clear n;go_wp2_with fail;go_loopw[62] (fun i wr=>∃(k:Nat)(L:Bool)(r:Nat)(P:List A3)(I:List Bs),i=k/\k<=p.parts.length/\P.length=k/\I.length=k/\r<=k/\Pv 57 l.heap.size o.heap.size ((R,G,J),Z,rm,(a4,p.parts.length,a0)) (T6 L r) P I wr/\(L=true->r=0)/\Hid (C4 s=(Ei base y L r P I k (p.parts.drop k)).map fun x=>⟨p,x.1,x.2.1,x.2.2⟩)/\A5 o.heap.size l.heap.size l wr) (fun i _=>p.parts.length-(intOf i).toNat)
 case atStart=>exact⟨0,true,0,[],[],rfl,aa,rfl,rfl,aa,⟨(none,0,0),(none,0,0),E,A1.nil _ _ _ _ _,A1.nil _ _ _ _ _,fun g h=>ee⟩,fun _=>rfl,N,A5.refl _ _ _⟩
 obtain⟨k,L,r,P,I,rfl,hk,u4,u5,u6,g0,j2,c8,B⟩:=hrel;have e2:=AE j2;have g2:=B.size;clear j2;by_cases c3:k<p.parts.length
 ·have e3:=A8.Ai j1.o B aa;obtain⟨i5,g3,u7,j3⟩:=e3.parts;simp only[A9]at g3;obtain⟨pb,rfl,u8,u9,c9⟩:=g3.at Dx k aa;have hq:=j3 k aa c3;have j4:=a8.part (AQ c3);have b0:=AE (show∀q,p.parts[k]=q->q.many=true->C4 s=.error 13 from fun q hq hm=>by
   rw[c8.o,AH c3,hq];unfold Ei;rw[AN hm];rfl)
  have S:=AE (show∀q,p.parts[k]=q->q.many=false->C4 s=(if L&&(y !=[]&&y==Fu (G4 q.head))then Ei base y false k (P++[E3 base q.head]) (I++[G4 q.head]) (k+1) (p.parts.drop (k+1))
   else Ei base y L r (P++[E3 base q.head]) (I++[G4 q.head]) (k+1) (p.parts.drop (k+1))).map (fun x=>(⟨p,x.1,x.2.1,x.2.2⟩:Al))from fun q hq hm=>by
   rw[c8.o,AH c3,hq];rw[Ei.eq_def];simp only[hm];rfl)
  have g4:=c9 0 ae;have g5:=c9 1 ae;have e4:=c9 2 ae;have g6:=c9 3 ae;have b0:=AE (b0.o _ rfl);have d0:=AE (S.o _ rfl);clear c9 j3 c8 S g3;generalize p.parts[k]=q at hq j4 b0 d0;generalize i5[k]' aa=f5 at hq g4 g5 e4 g6;have j5:=hq.pK;have g7:=hq.T0;obtain⟨⟨qa,qn,qc⟩,qb,qm,⟨e5,e6,e7⟩⟩:=f5;simp only[Dk,A9,BI,AU,AR]at g4 g5 e4 g6 j5 g7;subst j5;have e8:=F1 j4.head.1;clear hq;generalize q.many=bm at b0 d0 e4;have e9:w.heap.size<=o.heap.size:=aa
  have a1:w.heap.size<=l.heap.size:=aa
  have B9:=B8.trans ((B.mono a1).shut e9);have f0:=AE B9;cases bm with
  |true=>
   have HE:=AE (b0.o rfl);clear b0 d0;go_wp2;go_ret2;exact⟨Or.inr ⟨13,HE.o,ae,rfl⟩,f0.o.alloc (AV a1 g2) _⟩
  |false=>
  have S:=AE (d0.o rfl);clear b0 d0;have A:=(AG wr.heap.size wr).alloc (AF _) (.cells #[.slice qa qn qc,qb,false,.slice e5 e6 e7] 44);have f1:=A0.new wr #[.slice qa qn qc,qb,false,.slice e5 e6 e7] 44;have v0:w.heap.size<=l.heap.size:=a1;obtain⟨⟨j6,j7,j8⟩,⟨j9,k0,k1⟩,a2,g8,g9,k2⟩:=g0;have hM:Gq 57 l.heap.size o.heap.size w7.heap.size wr.heap.size _ base.cells _ _ _ P _ I _:=⟨AG l.heap.size _,a2.next A a2.lt,(d9.Ai B aa).next A (d9.Ai B aa).lt,f1,A1.next g8 A,A1.next g9 A,k2,fun g u=>ED (A1.Dj g8 g u),fun g u=>ED (A1.Dj g9 g u),AV g2 A.size,aa,d9.lt⟩;unfold Pu at hM;simp only[A9]at hM;have v1:=u.size;have k3:=(f9.Ai B aa).next A;have HQ:=AE (fun W(hW:Below l.heap.size _ W)=>(g7.keep (w':=W) (AV A.size hW.size) (fun b hP c3=>(hW.block b (by have:=hP.2;omega)).trans (A.block b c3))).rd);have O:=fun W hr u=>pF base (.slice qa qn qc) q.head W hr (e8.mono ae) aa u
  have a3:=fun W hr=>Sg (.slice qa qn qc) q.head dC W hr (e8.ok ae) ae
  simp only[Sz q.head zs]at a3;have m4:=bX e8;have b1:=AE (ca:G4 q.head=Oq ((Aj q.head C9).getD []));have k4:=Ui (s:=C9) e8;generalize E3 base q.head=d at S O;generalize G4 q.head=i at S b1 m4;generalize(Aj q.head C9).getD []=x at b1 a3 k4;generalize(Aj q.head C9).isSome=v2 at a3;unfold dC at a3;have k5:=f1.cell;clear a2 g8 g9 k2 g7;go_upto_region 19 with fail;clear g4 g5 e4 g6;generalize World.alloc _ _=h0 at hM k3 HQ A f1 k5|-;go_cut[18] (fun v X=>v=x/\Below h0.heap.size h0 X)
  case first=>
   clear O S;go_wp2_with fail;with_reducible refine(a3 _ (HQ.o _ (AG _ _))).mono ?_
   rintro e wb⟨rfl,bb⟩;go_wp2;go_meet;exact⟨rfl,bb⟩
  case rest=>
  obtain⟨rfl,bb⟩:=hcut;obtain⟨wa,rfl⟩:∃x:World,x=wc:=⟨_,rfl⟩;obtain⟨gd,k6⟩:∃q:Bool,q=decide (2<x.length/\x.getD 0 0=60/\x.getD (x.length-1) 0=62):=⟨_,rfl⟩;have a5:=AE k6;clear k6;go_upto_region 20 with fail;go_cut[90] (fun v X=>v=.bool (!gd)/\X=wa)
  case first=>
   clear O S b1 a3;by_cases C:2<x.length
   case neg=>
    have b2:=AE (a5.o.trans (AY (fun h=>C h.1)));have h3:(x.length:Int)<3:=aa
    clear C;go_wp2;go_meet;exact⟨by rw[b2.o];rfl,bo⟩
   have h3:¬(x.length:Int)<3:=aa
   have e0:x.getD 0 0=x[0]' aa:=by rw[AM];simp[show 0<x.length by omega]
   have e1:x.getD (x.length-1) 0=x[x.length-1]' aa:=og
   have z1:(0:Int)<=(x.length:Int)-1:=aa
   have z2:(x.length:Int)-1<x.length:=aa
   have z3:((x.length:Int)-1).toNat=x.length-1:=aa
   have hp:0<x.length:=aa
   by_cases ha:x.getD 0 0=60
   case neg=>
    have b2:=AE (a5.o.trans (AY (fun h=>ha h.2.1)));have k7:((x[0].toNat:Int)!=60)=true:=by
     rw[DD];intro h;apply ha;rw[e0];apply BQ.1;show x[0].toNat=60;omega
    clear ha e0 e1;go_wp2;go_meet;exact⟨by rw[b2.o];rfl,bo⟩
   have k7:((x[0].toNat:Int)!=60)=false:=by
    rw[GS,<-e0,ha];rfl
   by_cases F:x.getD (x.length-1) 0=62
   case neg=>
    have b2:=AE (a5.o.trans (AY (fun h=>F h.2.2)));have m5:((x[x.length-1].toNat:Int)!=62)=true:=by
     rw[DD];intro h;apply F;rw[e1];apply BQ.1;show x[x.length-1].toNat=62;omega
    have v3:=AE k7;clear ha F e0 e1;go_wp2;go_meet;exact⟨by rw[b2.o];rfl,bo⟩
   have b2:=AE (a5.o.trans (BH ⟨C,ha,F⟩));have m5:((x[x.length-1].toNat:Int)!=62)=false:=by
    rw[GS,<-e1,F];rfl
   clear ha F e0 e1;go_wp2;go_meet;exact⟨by rw[b2.o];rfl,bo⟩
  case rest=>
  obtain⟨rfl,a6⟩:=hcut;obtain rfl:=a6.symm;clear a6;go_upto_if 90 with fail;go_cut[18] (fun v X=>v=(if gd then x else[60,62]:Bs)/\X=wa)
  case first=>
   clear O S b1 a3 a5;cases gd with
   |true=>
    rw[EK];go_wp2;go_meet;exact⟨rfl,bo⟩
   |false=>
    rw[EN];go_wp2;go_meet;exact⟨rfl,bo⟩
  case rest=>
  obtain⟨rfl,a6⟩:=hcut;obtain rfl:=a6.symm;clear a6;go_upto_region 22 with fail;go_cut[18] (fun v X=>v=i/\X=wa)
  case first=>
   clear O S a3;cases gd with
   |true=>
    have C:=EU a5.o.symm;have HI:=AE (b1.o.trans (nS C));rw[AN rfl];have h3:2<x.length:=C.1;have z1:(1:Int)<=(x.length:Int)-1:=aa
    have z2:(x.length:Int)-1<=x.length:=aa
    have z3:((x.length:Int)-1).toNat=x.length-1:=aa
    clear C;go_wp2;go_meet;exact⟨by rw[HI.o,List.drop_one],bo⟩
   |false=>
    have C:=JZ a5.o.symm;have HI:=AE (b1.o.trans (Xe C));rw[AL ae];clear C;go_wp2;go_meet;exact⟨by rw[HI.o];rfl,bo⟩
  case rest=>
  obtain⟨rfl,a6⟩:=hcut;obtain rfl:=a6.symm;clear a6 b1 a3 k4 k5 a5;have d1:=AE (B.next A g2);have hM:=hM.next bb;have h2:=AE (fun W(hW:Below l.heap.size h0 W)=>k3.keep (w':=W) fun b F=>hW.block b aa);have Y:=hM.drew;clear A f1 bb;go_upto_region 23 with fail;go_cut[119] (fun _ X=>Pv 57 l.heap.size o.heap.size ((R,G,J),Z,rm,(some ⟨pb,0,none⟩,p.parts.length,a0)) (T6 L r) (P++[d]) (I++[i]) X/\A5 o.heap.size l.heap.size l X)
  case first=>
   have v4:=Y.kb.cell;have v5:=Y.k12.cell;have v6:=Y.k16.cell;have q1:=AE (ag:(P.length+[d].length)*104<=140737488355328);have q2:=AE (ao:P.length+[d].length<=maxLen);have q3:=AE (ag:(I.length+[i].length)*16<=140737488355328);have q4:=AE (ao:I.length+[i].length<=maxLen);have v7:w7.heap.size≠o.heap.size:=aa
   have v8:wr.heap.size≠o.heap.size:=aa
   have D:(Ut o.heap.size w7.heap.size wr.heap.size base.cells #[.slice qa qn qc,qb,false,.slice e5 e6 e7] (.slice j6 j7 j8) (.slice j9 k0 k1)) wa.drew:=Y.sm;refine U3 22 (Ut o.heap.size w7.heap.size wr.heap.size base.cells #[.slice qa qn qc,qb,false,.slice e5 e6 e7] (.slice j6 j7 j8) (.slice j9 k0 k1)) af ?_;refine Aa.tk 0 D ?_;refine Aa.tu 1 D ?_;refine Aa.tk 2 D ?_;refine Aa.tk 3 D ?_;refine Aa.tk 4 D ?_;refine Aa.tk 5 D ?_;refine Aa.tk 6 D ?_;refine Aa.tk 7 D ?_;refine Aa.tk 8 D ?_;refine Aa.tk 9 D ?_;refine Aa.tk 13 D ?_;refine Aa.tk 14 D ?_;refine Aa.tk 15 D ?_;refine Aa.tk 16 D ?_;refine Aa.tk 17 D ?_;refine Aa.all [10,18] af ae ae (Jv.cons rfl (fun K H=>?_) (Jv.cons rfl (fun K H=>?_) Jv.nil))
   ·go_simp;with_reducible refine(O _ (HQ.o _ Y.K) (h2.o _ Y.K)).mono ?_
    rintro e f2⟨rfl,m6⟩;have M1:=Y.next m6;have v9:=M1.kb.cell;have m7:=M1.sm;refine H.o _ _ m7 ?_;clear H K;refine Aa.all [11,18] af ae ae (Jv.cons rfl (fun K H=>?_) (Jv.cons rfl (fun K H=>?_) Jv.nil))
    ·go_simp;have M2:=M1.alloc (.cells d.cells 36);have T:=A0.new f2 d.cells 36;have w0:=M2.kb.cell;have m8:=M2.sm;refine H.o _ _ m8 ?_;clear H K;refine Aa.all [12,18] af ae ae (Jv.cons rfl (fun K H=>?_) (Jv.cons rfl (fun K H=>?_) Jv.nil))
     ·have b3:=AE (Xz T);have m9:=AE M2.oa;have n0:=AE M2.base;refine O8 (α:=A3) (cs:=Gm) (size:=8) (z:=.agg #[.string ByteArray.empty,false,.string ByteArray.empty,.string ByteArray.empty,false,.string ByteArray.empty,false,.string ByteArray.empty]) Lj Uj Uk rfl ae underlying54 rfl _ _ rfl l.heap.size _ P [d] ⟨_,0,none⟩ 1 1 rfl ae rfl m9.o rfl b3.o q1.o q2.o n0.o ?_;intro U V n1 n2 c4 n3 n4;have M3:=M2.Uu n2 c4 n3 n4;have w4:=M3.kb.cell;have n5:=M3.sm;refine H.o _ _ n5 ?_;clear H K;simp only[Act.put];refine Aa.one (j:=18) af rfl ae (fun K H=>?_);go_simp;have M4:=M3.alloc (.cells #[i] 9);have T:=T.alloc (.cells #[i] 9);have t:=A0.new n1 #[i] 9;have a7:=AE (fun g u=>ED (A1.Dj M3.oa g u));have w8:=M4.kb.cell;have n6:=M4.sm;refine H.o _ _ n6 ?_;clear H K;refine Aa.one (j:=19) af rfl ae (fun K H=>?_);have b4:=AE (Y0 t);have n7:=AE M4.oi;have n8:=AE M4.base;refine O8 (α:=Bs) (cs:=Bl) (size:=1) (z:=.string ByteArray.empty) By Pn Us rfl ae underlying55 rfl _ _ rfl l.heap.size _ I [i] ⟨_,0,none⟩ 1 1 rfl ae rfl n7.o rfl b4.o q3.o q4.o n8.o ?_;intro gI h4 w9 n9 d8 o0 o1;have M:=M4.Uv n9 d8 o0 o1;have h5:=M.kb.free;have x0:=M.kb.cell;have h6:=M.sm;refine H.o _ _ h6 ?_;clear H K;simp only[Act.put];refine Aa.tk 20 h6 ?_;refine Aa.tk 21 h6 ?_;refine Aa.stop af rfl (fun K H=>?_);go_simp;refine H.o _ _ ?_;clear H K;refine Nu 23 ?_;refine Nu 24 ?_;have f3:=(M.kb.set 5 (.slice (some ⟨U,0,none⟩) (P.length+[d].length) V)).cell;have h7:=(M.kb.set 5 (.slice (some ⟨U,0,none⟩) (P.length+[d].length) V)).free;refine U2 (j:=25) af rfl (fun K H=>?_);go_simp;refine H.o _ _ ?_;clear H K;refine GY af ?_ _;go_wp2;go_meet;rw[(ag:P.length+[d].length=k+1),(ag:I.length+[i].length=k+1)]at M;exact Uw M d1.o
     go_simp;have M6:=M2.alloc (.cells #[i] 9);have T:=T.alloc (.cells #[i] 9);have t:=A0.new (f2.alloc (.cells d.cells 36)) #[i] 9;have a7:=AE (fun g u=>ED (A1.Dj M2.oa g u));simp only[AX]at t;simp only[AX]at a7;have x1:=M6.kb.cell;have o2:=M6.sm;refine H.o _ _ o2 ?_;clear H K;refine Aa.one (j:=12) af rfl ae (fun K H=>?_);have b3:=AE (Xz T);have o3:=AE M6.oa;have o4:=AE M6.base;refine O8 (α:=A3) (cs:=Gm) (size:=8) (z:=.agg #[.string ByteArray.empty,false,.string ByteArray.empty,.string ByteArray.empty,false,.string ByteArray.empty,false,.string ByteArray.empty]) Lj Uj Uk rfl ae underlying54 rfl _ _ rfl l.heap.size _ P [d] ⟨_,0,none⟩ 1 1 rfl ae rfl o3.o rfl b3.o q1.o q2.o o4.o ?_;intro U V x2 o5 c7 o6 o7;have M7:=M6.Uu o5 c7 o6 o7;have t:=Lv t c7 (fun e=>a7.o _ e.symm rfl);have x3:=M7.kb.cell;have o8:=M7.sm;refine H.o _ _ o8 ?_;clear H K;simp only[Act.put];refine Aa.one (j:=19) af rfl ae (fun K H=>?_);have b4:=AE (Y0 t);have o9:=AE M7.oi;have p0:=AE M7.base;refine O8 (α:=Bs) (cs:=Bl) (size:=1) (z:=.string ByteArray.empty) By Pn Us rfl ae underlying55 rfl _ _ rfl l.heap.size _ I [i] ⟨_,0,none⟩ 1 1 rfl ae rfl o9.o rfl b4.o q3.o q4.o p0.o ?_;intro gI h4 x4 p1 f9 p2 p3;have M:=M7.Uv p1 f9 p2 p3;have h5:=M.kb.free;have x5:=M.kb.cell;have h8:=M.sm;refine H.o _ _ h8 ?_;clear H K;simp only[Act.put];refine Aa.tk 20 h8 ?_;refine Aa.tk 21 h8 ?_;refine Aa.stop af rfl (fun K H=>?_);go_simp;refine H.o _ _ ?_;clear H K;refine Nu 23 ?_;refine Nu 24 ?_;have f3:=(M.kb.set 5 (.slice (some ⟨U,0,none⟩) (P.length+[d].length) V)).cell;have h7:=(M.kb.set 5 (.slice (some ⟨U,0,none⟩) (P.length+[d].length) V)).free;refine U2 (j:=25) af rfl (fun K H=>?_);go_simp;refine H.o _ _ ?_;clear H K;refine GY af ?_ _;go_wp2;go_meet;rw[(ag:P.length+[d].length=k+1),(ag:I.length+[i].length=k+1)]at M;exact Uw M d1.o
    go_simp;have M9:=M1.alloc (.cells #[i] 9);have t:=A0.new f2 #[i] 9;have a7:=AE (fun g u=>ED (A1.Dj M1.oa g u));have x6:=M9.kb.cell;have p4:=M9.sm;refine H.o _ _ p4 ?_;clear H K;refine Aa.one (j:=11) af rfl ae (fun K H=>?_);go_simp;have d2:=M9.alloc (.cells d.cells 36);have t:=t.alloc (.cells d.cells 36);have T:=A0.new (f2.alloc (.cells #[i] 9)) d.cells 36;simp only[AX]at T;have x7:=d2.kb.cell;have p5:=d2.sm;refine H.o _ _ p5 ?_;clear H K;refine Aa.one (j:=12) af rfl ae (fun K H=>?_);have b3:=AE (Xz T);have p6:=AE d2.oa;have p7:=AE d2.base;refine O8 (α:=A3) (cs:=Gm) (size:=8) (z:=.agg #[.string ByteArray.empty,false,.string ByteArray.empty,.string ByteArray.empty,false,.string ByteArray.empty,false,.string ByteArray.empty]) Lj Uj Uk rfl ae underlying54 rfl _ _ rfl l.heap.size _ P [d] ⟨_,0,none⟩ 1 1 rfl ae rfl p6.o rfl b3.o q1.o q2.o p7.o ?_;intro U V x8 p8 k8 p9 q0;have d3:=d2.Uu p8 k8 p9 q0;have t:=Lv t k8 (fun e=>a7.o _ e.symm rfl);have x9:=d3.kb.cell;have q5:=d3.sm;refine H.o _ _ q5 ?_;clear H K;simp only[Act.put];refine Aa.one (j:=19) af rfl ae (fun K H=>?_);have b4:=AE (Y0 t);have q6:=AE d3.oi;have q7:=AE d3.base;refine O8 (α:=Bs) (cs:=Bl) (size:=1) (z:=.string ByteArray.empty) By Pn Us rfl ae underlying55 rfl _ _ rfl l.heap.size _ I [i] ⟨_,0,none⟩ 1 1 rfl ae rfl q6.o rfl b4.o q3.o q4.o q7.o ?_;intro gI h4 y0 q8 q9 r0 r1;have M:=d3.Uv q8 q9 r0 r1;have h5:=M.kb.free;have y1:=M.kb.cell;have h9:=M.sm;refine H.o _ _ h9 ?_;clear H K;simp only[Act.put];refine Aa.tk 20 h9 ?_;refine Aa.tk 21 h9 ?_;refine Aa.stop af rfl (fun K H=>?_);go_simp;refine H.o _ _ ?_;clear H K;refine Nu 23 ?_;refine Nu 24 ?_;have f3:=(M.kb.set 5 (.slice (some ⟨U,0,none⟩) (P.length+[d].length) V)).cell;have h7:=(M.kb.set 5 (.slice (some ⟨U,0,none⟩) (P.length+[d].length) V)).free;refine U2 (j:=25) af rfl (fun K H=>?_);go_simp;refine H.o _ _ ?_;clear H K;refine GY af ?_ _;go_wp2;go_meet;rw[(ag:P.length+[d].length=k+1),(ag:I.length+[i].length=k+1)]at M;exact Uw M d1.o
   go_simp;have M:=Y.alloc (.cells #[i] 9);have t:=A0.new wa.drew #[i] 9;have a7:=AE (fun g u=>ED (A1.Dj Y.oa g u));rw[World.alloc_drew]at M;simp only[World.alloc_drew,heap_drew]at t;simp only[heap_drew]at a7;have y2:=M.kb.cell;have r2:=M.sm;refine H.o _ _ r2 ?_;clear H K;refine Aa.one (j:=10) af rfl ae (fun K H=>?_);go_simp;with_reducible refine(O _ (HQ.o _ M.K) (h2.o _ M.K)).mono ?_
   rintro e r3⟨rfl,k9⟩;have i0:=M.next k9;have t:=t.next k9 t.lt;have f3:=i0.kb.cell;have r4:=i0.sm;refine H.o _ _ r4 ?_;clear H K;refine Aa.one (j:=11) af rfl ae (fun K H=>?_);go_simp;have d4:=i0.alloc (.cells d.cells 36);have t:=t.alloc (.cells d.cells 36);have T:=A0.new r3 d.cells 36;have y3:=d4.kb.cell;have r5:=d4.sm;refine H.o _ _ r5 ?_;clear H K;refine Aa.one (j:=12) af rfl ae (fun K H=>?_);have b3:=AE (Xz T);have r6:=AE d4.oa;have r7:=AE d4.base;refine O8 (α:=A3) (cs:=Gm) (size:=8) (z:=.agg #[.string ByteArray.empty,false,.string ByteArray.empty,.string ByteArray.empty,false,.string ByteArray.empty,false,.string ByteArray.empty]) Lj Uj Uk rfl ae underlying54 rfl _ _ rfl l.heap.size _ P [d] ⟨_,0,none⟩ 1 1 rfl ae rfl r6.o rfl b3.o q1.o q2.o r7.o ?_;intro U V y4 r8 l0 r9 s0;have d5:=d4.Uu r8 l0 r9 s0;have t:=Lv t l0 (fun e=>a7.o _ e.symm rfl);have y5:=d5.kb.cell;have s1:=d5.sm;refine H.o _ _ s1 ?_;clear H K;simp only[Act.put];refine Aa.one (j:=19) af rfl ae (fun K H=>?_);have b4:=AE (Y0 t);have s2:=AE d5.oi;have s3:=AE d5.base;refine O8 (α:=Bs) (cs:=Bl) (size:=1) (z:=.string ByteArray.empty) By Pn Us rfl ae underlying55 rfl _ _ rfl l.heap.size _ I [i] ⟨_,0,none⟩ 1 1 rfl ae rfl s2.o rfl b4.o q3.o q4.o s3.o ?_;intro gI h4 y6 s4 s5 s6 s7;have M:=d5.Uv s4 s5 s6 s7;have h5:=M.kb.free;have y7:=M.kb.cell;have i1:=M.sm;refine H.o _ _ i1 ?_;clear H K;simp only[Act.put];refine Aa.tk 20 i1 ?_;refine Aa.tk 21 i1 ?_;refine Aa.stop af rfl (fun K H=>?_);go_simp;refine H.o _ _ ?_;clear H K;refine Nu 23 ?_;refine Nu 24 ?_;have f3:=(M.kb.set 5 (.slice (some ⟨U,0,none⟩) (P.length+[d].length) V)).cell;have h7:=(M.kb.set 5 (.slice (some ⟨U,0,none⟩) (P.length+[d].length) V)).free;refine U2 (j:=25) af rfl (fun K H=>?_);go_simp;refine H.o _ _ ?_;clear H K;refine GY af ?_ _;go_wp2;go_meet;rw[(ag:P.length+[d].length=k+1),(ag:I.length+[i].length=k+1)]at M;exact Uw M d1.o
  case rest=>
  obtain⟨hR,KB⟩:=hcut;obtain⟨y8,rfl⟩:∃x:World,x=wc:=⟨_,rfl⟩;have HR:=AE hR;have f4:=AE KB;obtain⟨⟨y9,z0,z4⟩,⟨z5,z6,z7⟩,a2,_,_,_⟩:=hR;unfold Pu at a2;simp only[A9]at a2;have l1:=a2.cell;have z8:=a2.free;have i2:o.heap.size<l.heap.size:=aa
  clear a2 hM O HQ Y d1 h2;have S:=AE (show C4 s=(if L&&(!(y==[])&&(y==60::(i++[62])))then Ei base y false k (P++[d]) (I++[i]) (k+1) (p.parts.drop (k+1))
   else Ei base y L r (P++[d]) (I++[i]) (k+1) (p.parts.drop (k+1))).map (fun x=>(⟨p,x.1,x.2.1,x.2.2⟩:Al))from S.o)
  generalize l2:(y==[])=be at S;generalize s8:(y==60::(i++[62]))=bq at S;have z9:y.isEmpty=be:=by rw[<-l2];cases y<;>rfl
  clear l2;cases be with
  |true=>
   have b5:=AE (by rw[S.o];simp:C4 s=(Ei base y L r (P++[d]) (I++[i]) (k+1) (p.parts.drop (k+1))).map (fun x=>(⟨p,x.1,x.2.1,x.2.2⟩:Al)));clear S s8;go_wp2;go_roundw
   case rel=>exact⟨k+1,L,r,P++[d],I++[i],aj,aa,ag,ag,aa,HR.o,e2.o,b5,f4.o⟩
   simp[intOf];omega
  |false=>
  cases bq with
  |false=>
   have b5:=AE (by rw[S.o];simp:C4 s=(Ei base y L r (P++[d]) (I++[i]) (k+1) (p.parts.drop (k+1))).map (fun x=>(⟨p,x.1,x.2.1,x.2.2⟩:Al)));clear S;go_wp2;go_roundw
   case rel=>exact⟨k+1,L,r,P++[d],I++[i],aj,aa,ag,ag,aa,HR.o,e2.o,b5,f4.o⟩
   simp[intOf];omega
  |true=>
  cases L with
  |false=>
   have b5:=AE (by rw[S.o];simp:C4 s=(Ei base y false r (P++[d]) (I++[i]) (k+1) (p.parts.drop (k+1))).map (fun x=>(⟨p,x.1,x.2.1,x.2.2⟩:Al)));have s9:¬(r:Int)<0:=aa
   simp only[T6,CC,DM]at l1;clear S;go_wp2;go_roundw
   case rel=>exact⟨k+1,false,r,P++[d],I++[i],aj,aa,ag,ag,aa,HR.o,e2.o,b5,f4.o⟩
   simp[intOf];omega
  |true=>
   have b5:=AE (by rw[S.o];simp:C4 s=(Ei base y false k (P++[d]) (I++[i]) (k+1) (p.parts.drop (k+1))).map (fun x=>(⟨p,x.1,x.2.1,x.2.2⟩:Al)));simp only[T6,DK]at l1;clear S;go_wp2;go_roundw
   case rel=>exact⟨k+1,false,k,P++[d],I++[i],aj,aa,ag,ag,aa,HR.o.root i2 k,(fun h=>ee),b5,f4.o.set _⟩
   simp[intOf];omega
 obtain rfl:k=p.parts.length:=aa
 have HD:=AE (by rw[c8.o,AS];rfl:C4 s=.ok ⟨p,r,P,I⟩);have i2:o.heap.size<l.heap.size:=aa
 have e9:w.heap.size<=o.heap.size:=aa
 have a1:w.heap.size<=l.heap.size:=aa
 have e3:=A8.Ai j1.o (B.set (j:=4) r) aa;have t0:=g0.root i2 (r:Int);obtain⟨sa,si,h1,C,h3,_⟩:=t0;have f0:=AE (B8.trans (((B.set (j:=4) r).mono a1).shut e9));have l3:=AE (show Ej (fun k=>w.heap.size<=k) (wr.setCell ⟨o.heap.size,4,none⟩ r) o.heap.size ⟨p,r,P,I⟩from⟨((R,G,J),Z,rm,(a4,p.parts.length,a0)),sa,si,e9,h1,A8.Ac (fun b F _=>F.1) e3,Ba.Ac (A1.Dq ae Lj C) (fun b F _=>AV a1 F.1),Ba.Ac (A1.Dq ae By h3) (fun b F _=>AV a1 F.1)⟩);obtain⟨a',b',g1,_,_,_⟩:=g0;unfold Pu at g1;have l4:=g1.cell;have c':=g1.free;clear c8 e3 h1 C h3 B g1;cases L with
 |true=>
  obtain rfl:=e2.o rfl;simp only[T6,DK]at l4;go_wp2;go_ret2;exact⟨Or.inl ⟨_,_,HD.o,rfl,l3.o⟩,f0.o⟩
 |false=>
  have s9:(0:Int)<=(r:Int):=aa
  simp only[T6,CC,DM]at l4;go_wp2;go_ret2;exact⟨Or.inl ⟨_,_,HD.o,rfl,l3.o⟩,f0.o⟩
end Go.Proofs.YtignjjnflcpiiaaGreatDoor
