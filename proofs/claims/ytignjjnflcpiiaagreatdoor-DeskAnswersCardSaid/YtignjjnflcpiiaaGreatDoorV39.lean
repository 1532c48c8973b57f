/- The document's answer's Leads: as the program's. Conditio -/
import Derived.Test.YtignjjnflcpiiaaGreatDoorV31
import Derived.Test.YtignjjnflcpiiaaGreatDoorV32
import Derived.Test.YtignjjnflcpiiaaGreatDoorV33
import Derived.Test.YtignjjnflcpiiaaGreatDoorV34
import Derived.Test.YtignjjnflcpiiaaGreatDoorV35
set_option maxHeartbeats 16000000
set_option maxRecDepth 100000 set_option linter.all false
namespace Go.Proofs.YtignjjnflcpiiaaGreatDoor
open Go Go.RowKit Proofs.Tryz Lib
def mc:(prog.info? 64).map (fun i=>(i.zero,i.size,i.bytes))=some (some (.agg #[.string ByteArray.empty,.int .i64 0]),2,24):=af
abbrev Uz(w:World)(B:Nat)(v:Value)(l:List Ij):Prop:=A1 64 2 Ji w B v l
def cO(B:Nat)(r:Option (List Ij))(e:Ending)(w':World):Prop:=(∃l v,r=some l/\e=.returned (.tuple #[v,.int .i64 0])/\Uz w' B v l)\/(r=none/\e=.returned (.tuple #[.slice none 0 0,.int .i64 2]))
def pW{Q:Exit->Act->World->Prop}{O:Array Oper}{rest:List Oper}{o:Oper}{a:Act}{w:World}(H:o.guard=none)(s x:Operand)
  (d:o.op=.call {callee:=.builtin .append,args:=#[s,x],argTypes:=#[61,61]}) (B:Nat) (v:Value) (xs:List Ij) (y:Ij) (b c:Nat)
  (e:a.eval s=v) (n:Uz w B v xs) (f:a.eval x=.slice (some ⟨b,0,none⟩) 1 c) (g:∀j u,([y].flatMap Ji)[j]?=some u->w.cell? ((⟨b,0,none⟩:Go.Addr).add j)=some u) (k:xs.length<=1000000000000) (i:B<=w.heap.size)
  (h:∀V W,Uz W B V (xs++[y])->w.grownBy W v.ownBlock->Below B w W->(V.ownBlock=v.ownBlock\/V.ownBlock=some w.heap.size)->wpList prog O Q rest (a.put o.dst V) W):wpList prog O Q (o::rest) a w:=
 N8 (α:=Ij) (cs:=Ji) (size:=2) (z:=.agg #[.string ByteArray.empty,.int .i64 0]) Lk bH mc rfl ae underlying61 H s x d B v xs [y] ⟨b,0,none⟩ 1 c rfl e n f g ag ao i h
def pX(P:Nat->Prop)(bp:Nat)(b:Al)(i:Int)(w:World)(h:Ej P w bp b)(a0:Fx b)(hg:Gr w)(j3:-9223372036854775808<=i)(j4:i<=9223372036854775807):Calls prog 24 #[.pointer (some ⟨bp,0,none⟩),i] w fun e w'=>cO w.heap.size (Ca b i) e w'/\Below w.heap.size w w':=by
 have hb:=Ej.Ac (Q:=fun _=>True) (fun _ _ _=>trivial) h;have HB:=AE hb;obtain⟨b1,sa,si,_,m,d0,a1,_⟩:=hb;obtain⟨s0,sn,sc⟩:=sa;have f3:sn=b.places.length:=by
  obtain⟨a,c,e,_⟩:=a1;injection e
 subst f3;have f4:=a0.places;have d1:=a0.whole;have j5:=d1.head.2.2;obtain⟨f5,a2,a3,d2⟩:=d0.parts;obtain⟨⟨ra,rn,rc⟩,rb,rm,⟨j6,f6,j7⟩⟩:=b1;have f7:f6=b.whole.parts.length:=by
  obtain⟨a,c,e,_⟩:=a2;injection e with _ e _;exact e.trans a3
 subst f7;unfold Ii at m;simp only[A9]at m a1 a2;have kb:=m.cell;have hz:wrap64 ((b.whole.parts.length:Int)-1)=(b.whole.parts.length:Int)-1:=da
 have hI:=Ju i 0 ((b.whole.parts.length:Int)-1) w;clear h d0;by_cases h0:i<0
 ·have N:=AE (by unfold Ca;rw[AN h0]:Ca b i=none);rw[AY (show¬(0:Int)<=i by omega),Bool.false_and]at hI;go_enter func24,ntmps24;go_wp2_with fail;with_reducible refine hI.mono ?_
  rintro e w1⟨rfl,v⟩;obtain rfl:=v.symm;go_wp2;go_ret2;exact⟨Or.inr ⟨N.o,rfl⟩,AG _ _⟩
 by_cases f8:i<b.places.length
 case neg=>
  have N:=AE (by unfold Ca;rw[AL h0,DC aa]:Ca b i=none);rw[AY (show¬i<=(b.whole.parts.length:Int)-1 by omega),IV]at hI;clear h0 f8;go_enter func24,ntmps24;go_wp2_with fail;with_reducible refine hI.mono ?_
  rintro e w1⟨rfl,v⟩;obtain rfl:=v.symm;go_wp2;go_ret2;exact⟨Or.inr ⟨N.o,rfl⟩,AG _ _⟩
 rw[BH (show(0:Int)<=i by omega),BH (show i<=(b.whole.parts.length:Int)-1 by omega),Bool.and_self]at hI;obtain⟨k,rfl⟩:∃k:Nat,i=k:=⟨i.toNat,aa⟩;have hk:k<b.places.length:=aa
 have b2:k<b.whole.parts.length:=aa
 have N:=AE (show Ca b (k:Int)=some (Fw b b.whole.parts[k] b.places[k])from by
  unfold Ca;rw[AL h0];simp[hk,b2])
 obtain⟨pb,rfl,_,f9,l⟩:=a2.at Dx k aa;obtain⟨ab,rfl,_,g0,b3⟩:=a1.at Lj k hk;have I:=d2 k aa b2;have a4:=d1.part (AQ b2);have d3:=a0.placeL _ (AQ hk);have z:=l 0 ae;have C:=l 1 ae;have D:=l 2 ae;have E:=l 3 ae;clear l d2;generalize b.whole.parts[k]=p at N I a4;generalize b.places[k]=A at N d3 b3;generalize f5[k]' aa=b1 at I z C D E;have d4:=I.body;obtain⟨⟨qa,qn,qc⟩,qb,qm,⟨g1,g2,g3⟩⟩:=b1;simp only at d4;subst d4;simp only[Dk,A9,BI,AU,AR]at z C D E;have j8:(0:Int)<=k:=aa
 have j9:(k:Int)<b.places.length:=aa
 have k0:(k:Int)<b.whole.parts.length:=aa
 have a5:=jb 3 ((qa,qn,qc),p.body,qm,(g1,g2,g3)) p w I ((F1 a4.head.1).mono ae) hg;simp only[C3,A9]at a5;have J:=AE (ca:Fw b p A=if Jf p then(Bf p.body).map fun x=>Fv b A x.2.2 else[]);have b4:=fun W=>Xp p.body W (by have:=a4.head.2.1;omega)
 have b5:=O5 p.body;have g4:=(I3 p.body).2;have k1:=a4.head.2.1;generalize Bf p.body=L at J b4 b5 g4;generalize Jf p=ht at a5 J;clear I h0 a2 a1;go_enter func24,ntmps24;go_wp2_with fail;with_reducible refine hI.mono ?_
 rintro e w0⟨rfl,v⟩;obtain rfl:=v.symm;clear hI hz v;go_wp2_with fail;with_reducible refine a5.mono ?_
 rintro e w1⟨rfl,q⟩;cases ht with
 |false=>
  have N:=AE (by rw[N.o,J.o];rfl:Ca b (k:Int)=some []);go_wp2;go_ret2;exact⟨Or.inl ⟨[],_,N.o,rfl,A1.nil _ _ _ _ _⟩,q⟩
 |true=>
 have N:=AE (by rw[N.o,J.o];rfl:Ca b (k:Int)=some (L.map fun x=>Fv b A x.2.2));have g5:=(m.next q m.lt).cell;have g6:=(q.cell (p:=⟨pb,k*4+1,none⟩) f9).trans C;have d5:=hg.next q;have d6:=q.size;clear a5 J z C D E kb;go_wp2_with fail;with_reducible refine(b4 _).mono ?_
 rintro e s⟨v2,rfl,d7,b6⟩;have d8:=A1.Dq ae G3 d7;obtain⟨la,lc,g7,_⟩:=d8.rd;subst g7;have M:=q.trans (b6.mono d6);have g8:=d5.next b6;have b7:=M.size;have g9:=AE b5;clear b4 b6 g5 g6 d5 d7 b5 q;have h1:=AE b3;have k2:=AE f4;have h2:b.places.length<=1000000:=aa
 have h3:b.ids.length<=1000000:=by have:=a0.ids;omega
 have h4:=AE (HB.o.next M);have d9:=m.next M m.lt;clear b3 m HB d6;go_wp2_with fail;go_loopw[6,41] (fun ov iv wr=>∃(j:Nat)(o:List Ij),iv=j/\j<=L.length/\o.length=j/\Uz wr s.heap.size ov o/\Hid (o++(L.drop j).map (fun x=>Fv b A x.2.2)=L.map fun x=>Fv b A x.2.2)/\Below s.heap.size s wr) (fun _ iv _=>L.length-(intOf iv).toNat)
 case atStart=>exact⟨0,[],rfl,aa,rfl,A1.nil _ _ _ _ _,AE ah,AG _ _⟩
 obtain⟨j,o,rfl,hj,k3,H,a6,B⟩:=hrel;by_cases b8:j<L.length
 ·obtain⟨lb,rfl,_,b9,l⟩:=d8.at G3 j b8;have e3:=g9.o _ (AQ b8);have S:=AE (show∀y,Fv b A (L[j]).2.2=y->(o++[y])++(L.drop (j+1)).map (fun x=>Fv b A x.2.2)=L.map fun x=>Fv b A x.2.2 from fun y hy=>by
   rw[<-a6.o,AH b8,CD,hy];simp)
  have e0:=(B.cell (p:=⟨lb,j*3+0,none⟩) b9).trans (l 0 ae);have e1:=(B.cell (p:=⟨lb,j*3+1,none⟩) b9).trans (l 1 ae);have e2:=(B.cell (p:=⟨lb,j*3+2,none⟩) b9).trans (l 2 ae);clear l a6;generalize L[j]=x at e3 S e0 e1 e2;obtain⟨O,R,X⟩:=x;simp only[I4,BI,AU,AR]at e3 S e0 e1 e2;have kx:=A0.new wr #[O,R,X] 96;have d:=(AG wr.heap.size wr).alloc (AF _) (.cells #[O,R,X] 96);have h5:(wr.alloc (.cells #[O,R,X] 96)).heap.size=wr.heap.size+1:=ah
  have K:=A0.new (wr.alloc (.cells #[O,R,X] 96)) #[X,.int .i64 (-1)] 64;have c0:=d.alloc ah (.cells #[X,.int .i64 (-1)] 64);have c1:=kx.alloc (.cells #[X,.int .i64 (-1)] 64);rw[h5]at K;have h6:=AE (A1.Dj H);have H:=A1.next H c0;have U:=B.trans (c0.mono B.size);have c2:=g8.next U;have hR:=fun W=>U5 X W aa
  have V:=AE (show Fv b A X=match Be X with
   |none=>(X,-1)
   |some a=>(Ea (Ar A a),D8 b (Ar A a))from rfl)
  have a3:=fun a(h:Be X=some a)=>Iv h
  unfold N6 at hR;generalize Be X=ra at hR V a3;have h7:=kx.cell;have e4:=c1.cell;have h8:((wr.alloc (.cells #[O,R,X] 96)).alloc (.cells #[X,.int .i64 (-1)] 64)).heap.size=wr.heap.size+1+1:=ah
  have k4:=B.size;clear d c0 B;go_wp2_with fail;generalize World.alloc (World.alloc _ _) _=W1 at c1 K H U c2 e4 h8|-;with_reducible refine(hR _).mono ?_
  rintro e t⟨rfl,F⟩;have K:=K.next F K.lt;have H:=A1.next H F;have u:=U.trans (F.mono U.size);have c3:=c2.next F;have k5:=F.size;clear hR F c2 U e0 e1 e2 h7 e4 kx c1;cases ra with
  |none=>
   have T:=AE (S.o (X,-1) V.o);have d:=(AG t.heap.size t).alloc (AF _) (.cells A3.zero.cells 36);have K:=K.next d K.lt;have H:=A1.next H d;have n:=u.trans (d.mono u.size);have h9:=d.size;simp only[A3.zero]at K H n h9|-;have i0:=K.cell;clear d c3 u S V;go_wp2_with(at_builtin;refine pW rfl _ _ rfl s.heap.size _ o (X,-1) _ 1 rfl (A1.alloc H _) rfl (Xg _ (X,-1) _ _ ah) aa (by have:=n.size;simp at*;omega) ?_;intro v' w6 i1 k6 a7 i2);go_wp2;go_roundw
   case rel=>exact⟨j+1,o++[(X,-1)],aj,aa,ag,i1,T,(n.alloc n.size _).trans a7⟩
   simp[intOf];omega
  |some a=>
   have i3:=a3 a rfl;have k7:=Nw A a;have e5:=AE (show Fv b A X=(Ea (Ar A a),D8 b (Ar A a))from V.o);have T:=AE (S.o _ e5.o);have d:=(AG t.heap.size t).alloc (AF _) (.cells a.cells 36);have k9:=A0.new t a.cells 36;have c4:=fun W hW=>Zy A a W (by unfold A3.len at d3;omega) (by unfold A3.len at i3;omega) hW
   clear S V e5;go_upto_region 11 with fail;generalize World.alloc _ _=Y at k9 d|-;have n:=u.trans (d.mono u.size);have i4:=K.next d K.lt;have kd:=A0.drew (d9.next n d9.lt);have Z:=A0.drew k9;have e6:Cj Y.drew:=(c3.next d.drew).g;have f:=fun i hi=>((M.trans (n.mono b7)).drew.cell (p:=⟨ab,k*8+i,none⟩) g0).trans (h1.o i hi)
   have z:=f 0 ae;have C:=f 1 ae;have D:=f 2 ae;have E:=f 3 ae;have e7:=f 4 ae;have e8:=f 5 ae;have e9:=f 6 ae;have f0:=f 7 ae;simp only[Gm,BI,AU,AR]at z C D E e7 e8 e9 f0;clear f;have a8:=fun W=>Zr (Ar A a) W aa
   have a9:=fun W hW=>oU (fun _=>True) bp b (Ar A a) W hW aa h2 h3
   generalize Ar A a=r at c4 T a8 a9;go_cut[62] (fun _ G=>A0 G t.heap.size r.cells 36/\Below t.heap.size Y G)
   case first=>
    have k8:=kd.cell;have l0:=Z.cell;have l1:=Z.free;have i5:=d.size;clear a8 a9;go_region_law((go_simp;with_reducible refine(c4 _ e6).mono ?_;rintro e w6⟨rfl,a7⟩;have c5:=Z.next a7 Z.lt;have l2:=c5.cell;have l3:=c5.free;have K6:=Bp a7 (w0:=Y) ((AG Y.heap.size Y).drew)));all_goals
     go_wp2;go_meet;exact⟨A0.bJ c5 _ _ _ _ _ _ _ _,bK (K6.mono i5) (AF _) _ _ _ _ _ _ _ _⟩
   case rest=>
   obtain⟨i6,K7⟩:=hcut;obtain⟨w7,rfl⟩:∃x:World,x=wc:=⟨_,rfl⟩;have b0:=d.trans K7;have H:=A1.next H b0;have c6:=K.next b0 K.lt;have B7:=u.trans (b0.mono u.size);have i7:=AE (h4.o.next B7);have c7:=A0.drew i6;have l4:=c7.cell;have l5:=A0.drew c6;have l6:=B7.size;clear c4 K7 d b0 n kd k9 Z e6 z C D E e7 e8 e9 f0 c3 i4;generalize D8 b r=fv at a9 T;generalize Ea r=wv at a8 T;go_upto_region 12 with fail;go_cut[66] (fun _ G=>A0 G (wr.heap.size+1) #[wv,fv] 64/\(∀g,g<wr.heap.size->G.heap[g]?=w7.heap[g]?)/\Below s.heap.size s G)
   case first=>
    have i8:=c6.lt;go_region_law((first
     |(go_simp;with_reducible refine(a9 _ (i7.o.next K8.o)).mono ?_;rintro e w9⟨rfl,i9⟩;have K9:=AE (Bp i9 (w0:=w7) K8.o);have c8:=c6.next K9.o i8;have l7:=c8.free;have l8:=c8.cell)
     |(go_simp;with_reducible refine(a8 _).mono ?_;rintro e w8⟨rfl,f1⟩;have l9:=(c7.next f1 c7.lt).cell;have K8:=AE (Bp f1 (w0:=w7) ((AG w7.heap.size w7).drew)))))
    all_goals
     go_wp2;go_meet;exact⟨(c8.set 0 _).set 1 _,fun g hg=>(D3 _ _ _ g ai).trans ((D3 _ _ _ g ai).trans (K9.o.block g aa)),((B7.trans (K9.o.mono B7.size)).setCell ai _).setCell ai _⟩
   case rest=>
   obtain⟨j0,f2,c9⟩:=hcut;obtain⟨m0,rfl⟩:∃x:World,x=wc:=⟨_,rfl⟩;have H:=A1.J1 H fun g hv=>f2 g (h6.o g hv)
   have i0:=j0.cell;clear f2;go_wp2_with(at_builtin;refine pW rfl _ _ rfl s.heap.size _ o (wv,fv) _ 1 rfl (A1.alloc H _) rfl (Xg _ (wv,fv) _ _ ah) aa (by have:=c9.size;simp at*;omega) ?_;intro v' m1 j1 m2 j2 i2);go_wp2;go_roundw
   case rel=>exact⟨j+1,o++[(wv,fv)],aj,aa,ag,j1,T,(c9.alloc c9.size _).trans j2⟩
   simp[intOf];omega
 obtain rfl:j=L.length:=aa
 have HD:=AE (by rw[N.o,<-a6.o,AS];simp:Ca b (k:Int)=some o);clear a6 N;go_wp2;go_ret2;exact⟨Or.inl ⟨o,_,HD.o,rfl,A1.mono H b7⟩,M.trans (B.mono b7)⟩
structure Bi(X:Nat->Prop)(w w':World):Prop where
 os:w'.os=w.os
 tape:w'.tape=w.tape
 output:w'.output=w.output
 size:w.heap.size<=w'.heap.size
 block:∀k,X k->w'.heap[k]?=w.heap[k]?
def Bi.of{X:Nat->Prop}{w w':World}(H:∀k,X k->k<w.heap.size)(h:Below w.heap.size w w'):Bi X w w':=⟨h.os,h.tape,h.output,h.size,fun k a=>h.block k (H k a)⟩
def Bi.trans{X:Nat->Prop}{a b c:World}(h:Bi X a b)(k:Bi X b c):Bi X a c:=⟨k.os.trans h.os,k.tape.trans h.tape,k.output.trans h.output,AV h.size k.size,fun i H=>(k.block i H).trans (h.block i H)⟩
def Fm(w:World)(v:Value)(l:List Bs):Prop:=∃b o c,v=.slice (some ⟨b,o,none⟩) l.length c/\b<w.heap.size/\l.length<=c/\∀(j:Nat)x,l[j]?=some x->w.cell? ⟨b,o+j,none⟩=some x
variable {l:List Bs}{M d:Nat}{D:Ap}{b:Al}{n:Int}
def Fm.next{w w':World}{v:Value}(h:Fm w v l)(H:Below w.heap.size w w'):Fm w' v l:=by
 obtain⟨b,o,c,d,a,e,f⟩:=h;exact⟨b,o,c,d,BN a H.size,e,fun j x g=>(H.cell (p:=⟨b,o+j,none⟩) a).trans (f j x g)⟩
def Im(a:Ff)(e:Ending):Prop:=match a with
 | .ok s=>e=.returned s
 | .error c=>e=D5 c
def Da(X:Nat->Prop)(w:World)(d:Nat)(D:Ap):Prop:=∃B s v,A0 w d #[B,s,v] 130/\¬X d/\(s=.pointer none\/s=.pointer (some ⟨d,1,none⟩))/\Bq w 0 v D.said/\(∀g,v.ownBlock=some g->¬X g/\g≠d)/\((D.bundle=none/\B=.pointer none)\/∃b p,D.bundle=some b/\B=.pointer (some ⟨p,0,none⟩)/\Dl (fun c=>¬X c/\c≠d/\v.ownBlock≠some c) w p b/\Fx b/\b.root<=1000000)
def Da.next{X:Nat->Prop}{w w':World}{d:Nat}{D:Ap}(h:Da X w d D)(a:Below w.heap.size w w'):Da X w' d D:=by
 obtain⟨B,s,v,c,e,f,g,i,H⟩:=h;refine⟨B,s,v,c.next a c.lt,e,f,A1.next g a,i,?_⟩;rcases H with H|⟨b,p,H,j,k,l⟩
 ·exact Or.inl H
 exact Or.inr ⟨b,p,H,j,k.next a,l⟩
def Py(v:Value)(l:List Bs)(w:World)(h:Fm w v l)(H:(Ax l).length<=1000000)(n:l.length<=1000000):Calls prog 155 #[v,.string ⟨#[32]⟩] w fun e W=>e=.returned (Ax l)/\Below w.heap.size w W:=by
 obtain⟨b,o,c,rfl,a,d,f⟩:=h;exact Tb b o c l [32] w f a aa d (by unfold Ax at H;omega)
def cP{s o:Bs}(h:Df s=some o):o.length<=3*s.length+2:=by
 have H:Dd [(Bn,I2)] s=.ok o:=by
  unfold Dd;rw[(ca:Aj [(Bn,I2)] Bn=some I2)];simp only;rw[AL ae,AL ae,AN ae,h]
 exact gD H
def cQ(s:Bs):(Dn s).length<=2*s.length+6:=Ue _ _
def mf(p v:Value)(l:List Bs)(w:World)(h:Fm w v l)(b:(Ax l).length<=1000000)(n:l.length<=1000000):Calls prog 231 #[p,v] w fun e a=>Im (Um l) e/\Below w.heap.size w a:=by
 have J:=Py v l w h b n;have H:=fun W=>eP (Ax l) W aa
 have S:=fun W=>Ps (Dn (Ax l)) W (by have:=cQ (Ax l);omega)
 show Calls _ _ _ _ fun e a=>e=.returned (C1 (Dn (Ax l)))/\Below w.heap.size w a
 generalize C1 (Dn (Ax l))=r at S|-;generalize Dn (Ax l)=q at H S;generalize Ax l=j at J H;obtain⟨k,o,c,rfl,_⟩:=h;clear b;go_enter func231,ntmps231;go_wp2_with fail;with_reducible refine J.mono ?_
 rintro e i⟨rfl,B⟩;go_wp2_with fail;with_reducible refine(H _).mono ?_
 rintro e m⟨rfl,f⟩;have d:=B.trans (f.mono B.size);go_wp2_with fail;with_reducible refine(S _).mono ?_
 rintro e s⟨rfl,g⟩;go_wp2;go_ret;exact⟨rfl,d.trans (g.mono d.size)⟩
def mg(p v:Value)(l:List Bs)(w:World)(h:Fm w v l)(b:(Ax l).length<=1000000)(n:l.length<=1000000):Calls prog 233 #[p,v] w fun e a=>Im (Un l) e/\Below w.heap.size w a:=by
 have J:=Py v l w h b n;have H:=fun W=>dR (Ax l) W aa
 have S:=fun W=>Ps (E5 (Ax l)) W (by have:=Q4 (Ax l);omega)
 show Calls _ _ _ _ fun e a=>e=.returned (C1 (E5 (Ax l)))/\Below w.heap.size w a
 generalize C1 (E5 (Ax l))=r at S|-;generalize E5 (Ax l)=q at H S;generalize Ax l=j at J H;obtain⟨k,o,c,rfl,_⟩:=h;clear b;go_enter func233,ntmps233;go_wp2_with fail;with_reducible refine J.mono ?_
 rintro e i⟨rfl,B⟩;go_wp2_with fail;with_reducible refine(H _).mono ?_
 rintro e m⟨rfl,f⟩;have d:=B.trans (f.mono B.size);go_wp2_with fail;with_reducible refine(S _).mono ?_
 rintro e s⟨rfl,g⟩;go_wp2;go_ret;exact⟨rfl,d.trans (g.mono d.size)⟩
def mh(p v:Value)(l:List Bs)(w:World)(h:Fm w v l)(b:(Ax l).length<=1000000)(n:l.length<=1000000)(g:Gz w):Calls prog 235 #[p,v] w fun e f=>Im (Lr l) e/\Below w.heap.size w f:=by
 have J:=Py v l w h b n;have P:=fun W=>fF (Ax l) W aa
 have a:=fun o(h:Dr (Ax l)=some o)=>Tu _ _ _ _ _ h
 have H:=AE (ca:Lr l=match Dr (Ax l)with|none=>.error 3|some s=>.ok (C1 s));generalize Dr (Ax l)=q at P a H;generalize Ax l=j at J P b a;have M:=fun W i=>Lu (.iface 30 (.int .i64 3)) 3 W (Or.inl rfl) i
 have k:=fun W=>Pt W
 unfold D5 at M;obtain⟨A,o,c,rfl,_⟩:=h;go_enter func235,ntmps235;go_wp2_with fail;with_reducible refine J.mono ?_
 rintro e C⟨rfl,d⟩;go_wp2_with fail;with_reducible refine(P _).mono ?_
 rintro e D⟨rfl,m⟩;have B:=d.trans (m.mono d.size);have t:=g.next B;cases q with
 |none=>
  have H:=AE (show Lr l=.error 3 from H.o);unfold Du;go_wp2_with fail;with_reducible refine(M _ t.r).mono ?_
  rintro e u⟨rfl,y⟩;go_wp2_with fail;exact⟨rfl,bu,B.trans (y.mono B.size)⟩
 |some x=>
  have a:=a x rfl;have H:=AE (show Lr l=.ok (C1 x)from H.o);have S:=fun W=>Ps x W aa
  generalize C1 x=r at S H;unfold Du;go_wp2_with fail;with_reducible refine(k _).mono ?_
  rintro e u⟨rfl,rfl⟩;go_wp2_with fail;with_reducible refine(S _).mono ?_
  rintro e E⟨rfl,z⟩;go_wp2;go_ret;exact⟨bu,B.trans (z.mono B.size)⟩
def mj(p v:Value)(l:List Bs)(w:World)(h:Fm w v l)(f:(Ax l).length<=1000000)(n:l.length<=1000000)(g:Gz w):Calls prog 236 #[p,v] w fun e i=>Im (Ls l) e/\Below w.heap.size w i:=by
 have J:=Py v l w h f n;have P:=fun W b=>fE (Ax l) W aa b
 have a:=fun o(h:Df (Ax l)=some o)=>cP h
 have H:=AE (ca:Ls l=match Df (Ax l)with|none=>.error 3|some s=>.ok (C1 s));generalize Df (Ax l)=q at P a H;generalize Ax l=j at J P f a;have M:=fun W b=>Lu (.iface 30 (.int .i64 3)) 3 W (Or.inl rfl) b
 have k:=fun W=>Pt W
 unfold D5 at M;obtain⟨A,o,c,rfl,_⟩:=h;go_enter func236,ntmps236;go_wp2_with fail;with_reducible refine J.mono ?_
 rintro e C⟨rfl,d⟩;go_wp2_with fail;with_reducible refine(P _ (g.next d).r.g).mono ?_
 rintro e D⟨rfl,m⟩;have B:=d.trans (m.mono d.size);have t:=g.next B;cases q with
 |none=>
  have H:=AE (show Ls l=.error 3 from H.o);unfold Du;go_wp2_with fail;with_reducible refine(M _ t.r).mono ?_
  rintro e u⟨rfl,y⟩;go_wp2_with fail;exact⟨rfl,bu,B.trans (y.mono B.size)⟩
 |some x=>
  have a:=a x rfl;have H:=AE (show Ls l=.ok (C1 x)from H.o);have S:=fun W=>Ps x W aa
  generalize C1 x=r at S H;unfold Du;go_wp2_with fail;with_reducible refine(k _).mono ?_
  rintro e u⟨rfl,rfl⟩;go_wp2_with fail;with_reducible refine(S _).mono ?_
  rintro e E⟨rfl,z⟩;go_wp2;go_ret;exact⟨bu,B.trans (z.mono B.size)⟩
def ml(p v:Value)(l:List Bs)(w:World)(h:Fm w v l)(f:(Ax l).length<=1000000)(E:l.length<=1000000)(y:Gz w):Calls prog 227 #[p,v] w fun e F=>Im (Nd l) e/\Below w.heap.size w F:=by
 have J:=Py v l w h f E;have K:=fun W a=>Qr (Ax l) W aa a
 have H:=AE (ca:Nd l=match Ay (Ax l)with|none=>.error 3|some (m,l)=>match Cl m l with|none=>.error 1|some s=>.ok s);generalize Ax l=j at J K f H;have M:=fun W a=>Lu (.iface 30 (.int .i64 3)) 3 W (Or.inl rfl) a
 have z:=fun W=>Pt W
 unfold D5 at M;obtain⟨S,o,c,rfl,_⟩:=h;go_enter func227,ntmps227;go_wp2_with fail;with_reducible refine J.mono ?_
 rintro e T⟨rfl,g⟩;go_wp2_with fail;with_reducible refine(K _ (y.next g).r.g).mono ?_
 rintro e G⟨b,A⟩;have B:=g.trans (A.mono g.size);have i:=y.next B;obtain⟨m,P,I,U,rfl,k,_,V,n,L⟩:=b.get;clear b K A;rcases L with⟨r,rfl⟩|⟨r,rfl⟩
 ·have H:=AE (by rw[H.o,r]:Nd l=.error 3);clear r;go_wp2_with fail;with_reducible refine(M _ i.r).mono ?_
  rintro e q⟨rfl,d⟩;go_wp2_with fail;exact⟨rfl,bu,B.trans (d.mono B.size)⟩
 have H:=AE (by rw[H.o,r]:Nd l=match Cl m P with|none=>.error 1|some s=>.ok s);have n:=n.mono f;have a:=aM m I P G (A1.rd ae Af k) aa n.1 n.2 i.r.g;generalize Cl m P=X at a H;obtain⟨Y,Z,N,_⟩:=A1.rd ae Af k;subst N;clear r k;go_wp2_with fail;with_reducible refine(z _).mono ?_
 rintro e q⟨rfl,rfl⟩;go_wp2_with fail;with_reducible refine a.mono ?_
 rintro e q⟨b,d⟩;have u:=B.trans (d.mono B.size);rcases b with⟨o,rfl,rfl⟩|⟨O,rfl,rfl,C⟩
 ·have H:=AE (show Nd l=.ok o from H.o);go_wp2_with fail;with_reducible refine(z _).mono ?_
  rintro e Q⟨rfl,rfl⟩;go_wp2;go_ret;exact⟨bu,u⟩
 have H:=AE (show Nd l=.error 1 from H.o);have D:=Lu O 1 q (C.n ae) (i.next d).r;obtain⟨t,x,rfl⟩:=(C.n ae).some;unfold D5 at D;go_wp2_with fail;with_reducible refine D.mono ?_
 rintro e Q⟨rfl,R⟩;go_wp2_with fail;exact⟨rfl,bu,u.trans (R.mono u.size)⟩
def mm(p v:Value)(l:List Bs)(w:World)(h:Fm w v l)(g:Gz w):Calls prog 226 #[p,v] w fun e a=>Im (L1 l) e/\Below w.heap.size w a:=by
 obtain⟨b,o,c,rfl,_⟩:=h;by_cases h0:l.length=0
 ·have N:=AE (by unfold L1;rw[AL aa]:L1 l=.ok bO);have H:=fun W=>Ox (some ⟨b,o,none⟩) l.length c 0 (by rw[h0];rfl) W
  clear h0;go_enter func226,ntmps226;go_wp2_with fail;with_reducible refine(H _).mono ?_
  rintro e d⟨rfl,rfl⟩;go_wp2;go_ret;exact⟨ay,AG _ _⟩
 have N:=AE (by unfold L1;rw[AN h0]:L1 l=.error 3);have H:=Oy (some ⟨b,o,none⟩) l.length c 0 di w g.r;unfold D5 at H;clear h0;go_enter func226,ntmps226;go_wp2_with fail;with_reducible refine H.mono ?_
 rintro e d⟨rfl,B⟩;go_wp2_with fail;exact⟨rfl,ay,B⟩
def mq(p v:Value)(l:List Bs)(w:World)(h:Fm w v l)(n:l.length<=1000000)(a:∀x∈l,x.length<=1000000)(g:Gz w):Calls prog 224 #[p,v] w fun e i=>Im (Nc l) e/\Below w.heap.size w i:=by
 obtain⟨B,o,c,rfl,m,_,d⟩:=h;by_cases h0:l.length=1
 ·obtain⟨x,rfl⟩:=EA.1 h0;have N:=AE (ca:Nc [x]=.ok (105::115::32::Fh x));have H:=fun W=>Ox (some ⟨B,o,none⟩) 1 c 1 rfl W
  have j:=d 0 x rfl;have q:=a x ah;have D:=fun W H=>Qg x W aa H
  have k:=Qf x;generalize Fh x=r at D N k;clear h0 d a;rw[BI]at j;go_enter func224,ntmps224;go_wp2_with fail;with_reducible refine(H _).mono ?_
  rintro e f⟨rfl,rfl⟩;go_wp2_with fail;with_reducible refine(D _ g.r.g).mono ?_
  rintro e f⟨rfl,b⟩;go_wp2;go_ret;exact⟨ay,b⟩
 have N:=AE (by unfold Nc;rw[AN h0]:Nc l=.error 3);have H:=Oy (some ⟨B,o,none⟩) l.length c 1 di w g.r;unfold D5 at H;clear h0;go_enter func224,ntmps224;go_wp2_with fail;with_reducible refine H.mono ?_
 rintro e f⟨rfl,b⟩;go_wp2_with fail;exact⟨rfl,ay,b⟩
def cR:∀(l:List Bs)(p:Bs),(join l p).length<=(l.map List.length).sum+l.length*p.length
 |[],_=>by simp[join]
 |x::l,p=>by
  rw[join_cons];have h:(joinTail p l).length=(l.map List.length).sum+l.length*p.length:=by
   unfold joinTail;induction l with
   |nil=>simp
   |cons y l ih=>
    simp only[CD,List.flatten_cons,AJ,DT,AK,DL];omega
  simp only[AJ,CD,DT,AK,DL];omega
theorem pY{α:Type}(f:α->Nat)(M:Nat):∀l:List α,(∀x∈l,f x<=M)->(l.map f).sum<=l.length*M
 |[],_=>ah
 |x::l,h=>by
  have a:=h x ah;have b:=pY f M l fun y H=>h y je
  simp only[CD,DT,AK,DL];omega
theorem T2(h:∀x∈l,x.length<=M):(D4 l).length<=l.length*(M+2):=by
 have H:=cR l [44,32];have a:=pY List.length M l h;unfold D4;have e:l.length*(M+2)=l.length*M+l.length*2:=Nat.mul_add _ _ _;have E:([44,32]:Bs).length=2:=rfl;rw[E]at H;omega
def T3(B:Nat)(v:Value)(l:List Bs)(w:World)(h:Do w B v l)(q:l.length<=1000000)(i:(D4 l).length<=140737488355328):Calls prog 155 #[v,.string ⟨#[44,32]⟩] w fun e W=>e=.returned (D4 l)/\Below w.heap.size w W:=by
 obtain⟨a,C,d,k⟩:=A1.rd ae By h;cases l with
 |nil=>
  subst d;refine(Vg a C [44,32] w).mono ?_;rintro e W⟨rfl,rfl⟩;exact⟨rfl,AG _ _⟩
 |cons x l=>
  obtain⟨b,m,t,n⟩:=k ah;subst m;rcases h.2 with⟨H,_⟩|⟨g,r,s,H,_,_,p,_⟩
  ·rw[d]at H;cases H
  rw[d]at H;injection H with H u o;subst o d;refine Tb b 0 C (x::l) [44,32] w (fun j y c=>?_) t aa p i;have f:=(CB.1 c).1;rw[EQ,n j aa];have:=L8 By (x::l) j f 0 ae;rw[IE,BI]at this;rw[this];rw[BC f]at c;injection c with c;rw[c];rfl
def mr(p v:Value)(l:List Bs)(w:World)(h:Fm w v l)(hl:(Ax l).length<=1000000)(hn:l.length<=1000000)(hg:Gz w):Calls prog 229 #[p,v] w fun e w'=>Im (R3 l) e/\Below w.heap.size w w':=by
 have J:=Py v l w h hl hn;have n:=fun W f=>Xa (Ax l) W f aa
 have N:=AE (ca:R3 l=.ok (108::105::110::107::115::32::D4 ((Bf (Ax l)).map Hg)));have D:=AE (O5 (Ax l));have E:=AE ((I3 (Ax l)).1.mem);have a3:=(I3 (Ax l)).2;generalize Bf (Ax l)=L at n N D E a3;generalize Ax l=j at J n hl D E a3;obtain⟨bk,o,c,rfl,_⟩:=h;go_enter func229,ntmps229;go_wp2_with fail;with_reducible refine J.mono ?_
 rintro e w1⟨rfl,q⟩;have F:=hg.next q;go_wp2_with fail;with_reducible refine(n _ F.r).mono ?_
 rintro e g⟨v2,rfl,a4,G⟩;have a5:=A1.Dq ae G3 a4;obtain⟨la,lc,b7,_⟩:=a5.rd;subst b7;have B2:=q.trans (G.mono q.size);have b8:=F.next G;have b9:=B2.size;clear n J a4 q G F;go_wp2_with fail;go_loopw[5,12] (fun ov M wr=>∃(k:Nat)(O:List Bs),M=k/\k<=L.length/\O.length<=k/\Do wr g.heap.size ov O/\Hid (O++(L.drop k).map Hg=L.map Hg)/\Hid (∀x∈O,x.length<=3000100)/\Below g.heap.size g wr) (fun _ M _=>L.length-(intOf M).toNat)
 case atStart=>exact⟨0,[],rfl,aa,ah,A1.nil _ _ _ _ _,AE ah,AE (fun x h=>ee),AG _ _⟩
 obtain⟨k,O,rfl,hk,f0,H,r,HO,B⟩:=hrel;have c0:=B.size;by_cases t:k<L.length
 ·obtain⟨P,rfl,_,Q,u⟩:=a5.at G3 k t;have e0:=(B.cell (p:=⟨P,k*3+0,none⟩) Q).trans (u 0 ae);have e1:=(B.cell (p:=⟨P,k*3+1,none⟩) Q).trans (u 1 ae);have e2:=(B.cell (p:=⟨P,k*3+2,none⟩) Q).trans (u 2 ae);have a6:=D.o _ (AQ t);have a7:=E.o _ (AQ t);have S:=AE (show∀y,L[k]=y->(O++[Hg y])++(L.drop (k+1)).map Hg=L.map Hg from fun y hy=>by
   rw[<-r.o,AH t,CD,hy];simp)
  have S:=AE (S.o _ rfl);clear u r;generalize L[k]=x at e0 e1 e2 a6 a7 S;obtain⟨X,b,d⟩:=x;simp only[I4,BI,AU,AR]at e0 e1 e2 a6 a7;have T:=AE (ca:Hg (X,b,d)=itoa X++32::(itoa b++32::C1 d));have a8:=fun W f=>Fj (X:Int) aa aa W f
  have a9:=fun W f=>Fj (b:Int) aa aa W f
  have c1:=BE (X:Int) aa aa;have c2:=BE (b:Int) aa aa;have b0:=fun W=>Ps d W aa
  have c3:=L2 d;generalize Hg (X,b,d)=lt at S T;generalize itoa (X:Int)=i at a8 c1 T;generalize itoa (b:Int)=I at a9 c2 T;generalize C1 d=s at b0 c3 T;have c4:=AE (fun e=>FO _ (A1.Dj H wr.heap.size e));have R:=(AG wr.heap.size wr).alloc (AF _) (.cells #[X,b,d] 96);have K:=A0.new wr #[X,b,d] 96;have H:=A1.next H R;have U:=B.trans (R.mono c0);have V:=b8.next U;go_upto_region 5 with fail;generalize World.alloc _ _=a at R K H U V|-;have c5:=K.drew.cell;have b1:Gz a.drew:=V.next (AG a.heap.size a).drew;have b2:=AE b1;have c6:=AE (show A0 a.drew wr.heap.size #[X,b,d] 96 from K.drew);have c7:=AE (show wr.heap.size<a.drew.heap.size from K.lt);have c8:=AE H;have A:=AE U;have z1:¬9223372036854775807<i.length+1:=aa
  have z2:¬9223372036854775807<i.length+1+I.length:=aa
  have z3:¬9223372036854775807<i.length+(I.length+1)+1:=aa
  have z4:¬9223372036854775807<i.length+(I.length+1+1)+s.length:=aa
  have q1:=AE (ag:(O.length+[(i++32::(I++32::s):Bs)].length)*16<=140737488355328);have q2:=AE (ao:O.length+[(i++32::(I++32::s):Bs)].length<=maxLen);have c9:=AE (show∀x∈O++[lt],x.length<=3000100 from fun x m=>by
   rcases BY.1 m with m|m
   ·exact HO.o x m
   rw[CS.1 m,T.o];simp only[AJ,AK];omega)
  clear V K H b1
  go_region_held_law (fun W=>∀k,W.cell? ⟨wr.heap.size,k,none⟩=(#[.int .i64 (X:Int),.int .i64 (b:Int),.string ⟨d.toArray⟩])[k]?)
   (first
    |with_reducible exact c5
    |with_reducible exact d0
    |with_reducible exact d1
    |with_reducible exact d2
    |with_reducible exact d3
    |with_reducible exact d4)
   ((
    first
    |(refine Lg (α:=Bs) (cs:=Bl) (size:=1) (z:=.string ByteArray.empty) By R8 R7 rfl ae underlying55 rfl _ _ rfl g.heap.size _ O [(i++32::(I++32::s):Bs)] ⟨Y.heap.size,0,none⟩ 1 1 rfl ae rfl d5.o rfl d6 q1.o q2.o d7.o ?_;intro v' f1 d8 d9 e3;have d4:=(Lv b3.o d9 (fun e=>c4.o e.symm)).cell)
    |(go_simp;with_reducible refine(a8 _ b2.o).mono ?_;rintro e f2⟨rfl,Z⟩;have e4:=AE (Bp Z (w0:=a) ((AG a.heap.size a).drew));have b4:=AE (Gz.next b2.o Z);have a0:=AE (A0.next c6.o Z c7.o);have d0:=a0.o.cell)
    |(go_simp;with_reducible refine(a9 _ b4.o).mono ?_;rintro e f3⟨rfl,a1⟩;have e5:=AE (Bp a1 (w0:=a) e4.o);have f4:=AE (Gz.next b4.o a1);have a2:=AE (A0.next a0.o a1 (A0.lt a0.o));have d1:=a2.o.cell)
    |(go_simp;with_reducible refine(b0 _).mono ?_;rintro e Y⟨rfl,b5⟩;have C:=AE (Bp b5 (w0:=a) e5.o);have b6:=AE (A0.next a2.o b5 (A0.lt a2.o));have d2:=b6.o.cell;have d5:=AE (A1.alloc (A1.next (w:=a) c8.o C.o) (.cells #[(i++32::(I++32::s):Bs)] 9));have d6:=Il Y (i++32::(I++32::s)) 9;have b3:=AE (b6.o.alloc (.cells #[(i++32::(I++32::s):Bs)] 9));have d3:=b3.o.cell;have d7:=AE (by have h1:=C.o.size;have h2:=A.o.size;simp at h1 h2|-;omega:g.heap.size<=(Y.alloc (.cells #[(i++32::(I++32::s):Bs)] 9)).heap.size))))
  all_goals
   go_wp2;go_roundw
   case rel=>exact⟨k+1,O++[lt],aj,aa,ag,by rw[T.o];exact d8,S,c9,((A.o.trans (C.o.mono A.o.size)).alloc (AV A.o.size C.o.size) _).trans e3⟩
   simp[intOf];omega
 obtain rfl:k=L.length:=aa
 have HF:=AE (by rw[<-r.o,AS];simp:L.map Hg=O);have e6:=T2 HO.o;have e7:(D4 O).length<=3000102000000:=by
  have:=CV (3000100+2) (show O.length<=1000000 by omega);omega
 have J:=T3 _ _ O wr H aa aa;have N:=AE (by rw[N.o,HF.o]:R3 l=.ok (108::105::110::107::115::32::D4 O));generalize D4 O=ct at J N e7;obtain⟨oa,oc,e8,_⟩:=A1.rd ae By H;subst e8;clear e6 r HF;go_wp2_with fail;with_reducible refine J.mono ?_
 rintro e a⟨rfl,e9⟩;go_wp2;go_ret;exact⟨ay,(B2.trans (B.mono b9)).trans (e9.mono aa)⟩
def V0(d b:Nat)(w:World)(h:w.cell? ⟨d,0,none⟩=some (.pointer (some ⟨b,0,none⟩))):Calls prog 278 #[.pointer (some ⟨d,0,none⟩)] w fun e W=>e=.returned (.pointer (some ⟨b,0,none⟩))/\w=W:=by
 go_enter func278,ntmps278;go_wp2;go_ret;exact⟨rfl,rfl⟩
def V3(d:Nat)(w:World)(c:w.cell? ⟨d,0,none⟩=some (.pointer none))(H:Gr w):Calls prog 278 #[.pointer (some ⟨d,0,none⟩)] w fun e W=>e=D5 7/\Below w.heap.size w W:=by
 have h:=Lu (.iface 30 (.int .i64 7)) 7 w (Or.inl rfl) H;unfold D5 at h|-;go_enter func278,ntmps278;go_wp2_with fail;with_reducible refine h.mono ?_
 rintro e a⟨rfl,b⟩;go_wp2_with fail;exact⟨rfl,rfl,b⟩
def Da.no{X:Nat->Prop}{w:World}(h:Da X w d D)(a:D.bundle=none):w.cell? ⟨d,0,none⟩=some (.pointer none):=by
 obtain⟨B,s,v,c,_,_,_,_,H⟩:=h;rcases H with⟨_,rfl⟩|⟨b,p,H,_⟩
 ·rw[c.cell];rfl
 rw[a]at H;cases H
def Da.yes{X:Nat->Prop}{w:World}(h:Da X w d D)(a:D.bundle=some b):∃B,w.cell? ⟨d,0,none⟩=some (.pointer (some ⟨B,0,none⟩))/\Dl (fun _=>True) w B b/\Fx b/\b.root<=1000000:=by
 obtain⟨r,s,v,c,_,_,_,_,H⟩:=h;rcases H with⟨H,_⟩|⟨i,B,H,rfl,e,f,g⟩
 ·rw[a]at H;cases H
 rw[a]at H;cases H;exact⟨B,by rw[c.cell];rfl,Dl.Ac (fun _ _ _=>trivial) e,f,g⟩
def mw(X:Nat->Prop)(d:Nat)(D:Ap)(v:Value)(l:List Bs)(w:World)(V:Da X w d D)(h:Fm w v l)(E:∀x∈l,x.length<=1000000)(G:Gz w)(hn:l.length<=1000000):Calls prog 225 #[.pointer (some ⟨d,0,none⟩),v] w fun e Y=>Im (Hf D l) e/\Below w.heap.size w Y:=by
 obtain⟨B,o,c,rfl,q,_,I⟩:=h;by_cases h0:l.length=1
 case neg=>
  have N:=AE (by unfold Hf;rw[AN h0]:Hf D l=.error 3);have f:=Oy (some ⟨B,o,none⟩) l.length c 1 di w G.r;unfold D5 at f;clear h0;go_enter func225,ntmps225;go_wp2_with fail;with_reducible refine f.mono ?_
  rintro e J⟨rfl,s⟩;go_wp2_with fail;exact⟨rfl,ay,s⟩
 obtain⟨x,rfl⟩:=EA.1 h0;have f:=fun W=>Ox (some ⟨B,o,none⟩) 1 c 1 rfl W
 have L:=I 0 x rfl;have a4:=E x ah;have F:=AE (show Hf D [x]=match D.bundle with
  |none=>.error 7
  |some b=>match Be x with
   |none=>.error 3
   |some a=>.ok (itoa (D8 b a))from rfl)
 rw[BI]at L;clear h0 I E;have M:w.drew.cell? ⟨B,o,none⟩=some (.string ⟨x.toArray⟩):=L;have t:Gz w.drew:=G.next (AG w.heap.size w).drew;have O:Da X w.drew d D:=V.next (AG w.heap.size w).drew;have u:=(AG w.heap.size w).drew;go_enter func225,ntmps225;go_wp2_with fail;with_reducible refine(f _).mono ?_
 rintro e w0⟨rfl,rfl⟩;go_upto_region 2 with fail;refine U3 8 (fun W=>W.cell? ⟨B,o,none⟩=some (.string ⟨x.toArray⟩)) (by kernel_rfl) ?_;have k:(fun W=>W.cell? ⟨B,o,none⟩=some (.string ⟨x.toArray⟩)) w.drew:=M;refine Aa.tu 0 k ?_;refine Aa.tu 2 k ?_;refine Aa.tu 3 k ?_;refine Aa.tk 4 k ?_;refine Aa.one (j:=1) (by kernel_rfl) rfl (by decide) (fun K H=>?_);go_simp;cases m:D.bundle with
 |none=>
  have N:=AE (by rw[F.o,m]:Hf D [x]=.error 7);have hI:=V3 d w.drew (O.no m) t.r;unfold D5 at hI;with_reducible refine hI.mono ?_
  rintro e J⟨rfl,s⟩;go_wp2_with fail;exact⟨rfl,ay,u.trans s⟩
 |some b=>
  obtain⟨P,Z,a0,n,_⟩:=O.yes m;have F:=AE (show Hf D [x]=match Be x with
   |none=>.error 3
   |some a=>.ok (itoa (D8 b a))from by rw[F.o,m])
  with_reducible refine(V0 d P w.drew Z).mono ?_
  rintro e J⟨rfl,rfl⟩;refine H.o _ _ k ?_;clear H K
  (try simp only[Act.put])
  have g:=oW x w.drew aa t;have a1:=fun a(h:Be x=some a)=>Iv h
  refine Aa.one (j:=5) af rfl ae (fun K H=>?_);go_simp;cases r:Be x with
  |none=>
   have N:=AE (by rw[F.o,r]:Hf D [x]=.error 3);rw[r]at g;unfold D5 at g;with_reducible refine g.mono ?_
   rintro e y⟨rfl,i⟩;go_wp2_with fail;exact⟨rfl,ay,u.trans i⟩
  |some a=>
   have a5:=a1 a r;have N:=AE (by rw[F.o,r]:Hf D [x]=.ok (itoa (D8 b a)));rw[r]at g;simp only at g;with_reducible refine g.mono ?_
   rintro e y⟨rfl,i⟩;have Q:(fun W=>W.cell? ⟨B,o,none⟩=some (.string ⟨x.toArray⟩)) y:=(i.cell (p:=⟨B,o,none⟩) (show B<w.drew.heap.size from q)).trans M;refine H.o _ _ Q ?_;clear H K
   (try simp only[Act.put])
   have z:=u.trans i;have R:=nY (fun _=>True) P b a y (a0.next i) (by omega) (by rw[n.places];have:=n.whole.head.2.2;omega) (by rw[n.ids];have:=n.whole.head.2.2;omega);have S:=Xl n a;have hI:=fun W f=>Fj (D8 b a) S.1 S.2 W f
   have a2:=t.next i;generalize itoa (D8 b a)=is at hI N;generalize D8 b a=fv at R hI;refine Aa.one (j:=6) af rfl ae (fun K H=>?_);go_simp;with_reducible refine R.mono ?_
   rintro e w3⟨rfl,A⟩;have T:(fun W=>W.cell? ⟨B,o,none⟩=some (.string ⟨x.toArray⟩)) w3:=(A.cell (p:=⟨B,o,none⟩) (BN q z.size)).trans Q;refine H.o _ _ T ?_;clear H K
   (try simp only[Act.put])
   have C:=z.trans (A.mono z.size);refine Aa.one (j:=7) af rfl ae (fun K H=>?_);go_simp;with_reducible refine(hI _ (a2.next A)).mono ?_
   rintro e w4⟨rfl,U⟩;have a3:(fun W=>W.cell? ⟨B,o,none⟩=some (.string ⟨x.toArray⟩)) w4:=(U.cell (p:=⟨B,o,none⟩) (BN q C.size)).trans T;refine H.o _ _ a3 ?_;clear H K
   (try simp only[Act.put])
   have B4:=C.trans (U.mono C.size);refine Aa.stop af rfl (fun K H=>?_);go_simp;refine H.o _ _ ?_;clear H K;refine GY af ?_ _;go_wp2_with fail;go_ret;exact⟨ay,B4⟩
def pZ{s:Bs}(h:E4 s=some n):-9223372036854775808<=n/\n<=9223372036854775807:=by
 unfold E4 at h;rcases H:atoiAll s with v|_|_
 ·rw[H]at h;simp only at h;split at h
  ·cases h;exact bZ H
  cases h
 ·rw[H]at h;cases h
 rw[H]at h;cases h
def cS{l:List (Bs×Int)}(d:Fx b)(h:Ca b n=some l):l.length<=60002/\∀x∈l,x.1.length<=2400000/\-9223372036854775808<=x.2/\x.2<=9223372036854775807:=by
 unfold Ca at h;split at h
 ·cases h
 cases c:b.whole.parts[n.toNat]?with
 |none=>rw[c]at h;cases h
 |some p=>
  cases f:b.places[n.toNat]?with
  |none=>rw[c,f]at h;cases h
  |some a=>
   rw[c,f]at h;cases h;have g:=d.whole.part (CP c);have k:=d.placeL a (CP f);have m:=g.fl.2;have v:=O5 p.body;have o:=(I3 p.body).2;refine⟨?_,fun x H=>⟨?_,Xm d p a x H⟩⟩
   ·rcases Xk b p a with e|e
    ·rw[e];simp
    omega
   unfold Fw at H;split at H
   ·obtain⟨y,i,rfl⟩:=DN.1 H;have q:=v y i;unfold Fv;cases j:Be y.2.2 with
    |none=>simp only;omega
    |some r=>
     have s:=Iv j;have t:=(Nw a r).1;have u:=Pp (Ar a r);simp only;omega
   cases H
def mx(X:Nat->Prop)(d:Nat)(D:Ap)(v:Value)(l:List Bs)(w:World)(hD:Da X w d D)(h:Fm w v l)(q:∀x∈l,x.length<=1000000)(hg:Gz w)(hn:l.length<=1000000):Calls prog 228 #[.pointer (some ⟨d,0,none⟩),v] w fun e w'=>Im (G9 D l) e/\Below w.heap.size w w':=by
 obtain⟨f,o,c,rfl,b6,_,Q⟩:=h;by_cases h0:l.length=1
 case neg=>
  have N:=AE (by unfold G9;rw[AN h0]:G9 D l=.error 3);have C:=Oy (some ⟨f,o,none⟩) l.length c 1 di w hg.r;unfold D5 at C;clear h0;go_enter func228,ntmps228;go_wp2_with fail;with_reducible refine C.mono ?_
  rintro e w1⟨rfl,b1⟩;go_wp2_with fail;exact⟨rfl,ay,b1⟩
 obtain⟨x,rfl⟩:=EA.1 h0;have C:=fun W=>Ox (some ⟨f,o,none⟩) 1 c 1 rfl W
 have hc:=Q 0 x rfl;have g2:=q x ah;have F:=AE (show G9 D [x]=match D.bundle with
  |none=>.error 7
  |some b=>match E4 x with
   |none=>.error 3
   |some n=>match Ca b n with
    |none=>.error 2
    |some l=>.ok (108::101::97::100::115::32::D4 (l.map F5))from rfl)
 rw[BI]at hc;clear h0 Q q;have a3:w.drew.cell? ⟨f,o,none⟩=some (.string ⟨x.toArray⟩):=hc;have R:Gz w.drew:=hg.next (AG w.heap.size w).drew;have a4:Da X w.drew d D:=hD.next (AG w.heap.size w).drew;have U:=(AG w.heap.size w).drew;go_enter func228,ntmps228;go_wp2_with fail;with_reducible refine(C _).mono ?_
 rintro e w0⟨rfl,rfl⟩;go_upto_region 2 with fail;refine U3 11 (fun W=>W.cell? ⟨f,o,none⟩=some (.string ⟨x.toArray⟩)) (by kernel_rfl) ?_;have E:(fun W=>W.cell? ⟨f,o,none⟩=some (.string ⟨x.toArray⟩)) w.drew:=a3;refine Aa.tu 0 E ?_;refine Aa.tu 2 E ?_;refine Aa.tu 3 E ?_;refine Aa.tk 4 E ?_;refine Aa.one (j:=1) (by kernel_rfl) rfl (by decide) (fun K H=>?_);go_simp;cases V:D.bundle with
 |none=>
  have N:=AE (by rw[F.o,V]:G9 D [x]=.error 7);have hI:=V3 d w.drew (a4.no V) R.r;unfold D5 at hI;with_reducible refine hI.mono ?_
  rintro e w1⟨rfl,b1⟩;go_wp2_with fail;exact⟨rfl,ay,U.trans b1⟩
 |some b=>
  obtain⟨bp,b7,b8,b9,_⟩:=a4.yes V;have F:=AE (show G9 D [x]=match E4 x with
   |none=>.error 3
   |some n=>match Ca b n with
    |none=>.error 2
    |some l=>.ok (108::101::97::100::115::32::D4 (l.map F5))from by rw[F.o,V])
  with_reducible refine(V0 d bp w.drew b7).mono ?_
  rintro e w1⟨rfl,rfl⟩;refine H.o _ _ E ?_;clear H K
  (try simp only[Act.put])
  have t:=oV x w.drew aa R;refine Aa.one (j:=5) af rfl ae (fun K H=>?_);go_simp;cases G:E4 x with
  |none=>
   have N:=AE (by rw[F.o,G]:G9 D [x]=.error 3);rw[G]at t;unfold D5 at t;with_reducible refine t.mono ?_
   rintro e w2⟨rfl,u⟩;go_wp2_with fail;exact⟨rfl,ay,U.trans u⟩
  |some n=>
   have c0:=pZ G;have F:=AE (show G9 D [x]=match Ca b n with
    |none=>.error 2
    |some l=>.ok (108::101::97::100::115::32::D4 (l.map F5))from by rw[F.o,G])
   rw[G]at t;simp only at t;with_reducible refine t.mono ?_
   rintro e w2⟨rfl,u⟩;have a5:(fun W=>W.cell? ⟨f,o,none⟩=some (.string ⟨x.toArray⟩)) w2:=(u.cell (p:=⟨f,o,none⟩) (show f<w.drew.heap.size from b6)).trans a3;refine H.o _ _ a5 ?_;clear H K
   (try simp only[Act.put])
   have Z:=U.trans u;have a6:=R.next u;have a7:=oA (fun _=>True) bp b n w2 (b8.next u) b9 a6.r c0.1 c0.2;have m:=fun l(h:Ca b n=some l)=>cS b9 h
   generalize Ca b n=ld at a7 F m;clear G t b7 b8 a4 hD;refine Aa.one (j:=6) af rfl ae (fun K H=>?_);go_simp;with_reducible refine a7.mono ?_
   rintro e A⟨hh,b3⟩;have a:(fun W=>W.cell? ⟨f,o,none⟩=some (.string ⟨x.toArray⟩)) A:=(b3.cell (p:=⟨f,o,none⟩) (BN b6 Z.size)).trans a5;have M:=Z.trans (b3.mono Z.size);have c1:=a6.next b3;clear a7;rcases hh with⟨L,vL,rfl,rfl,c2⟩|⟨rfl,rfl⟩
   case inr=>
    have N:=AE (show G9 D [x]=.error 2 from F.o);have hM:=Lu (.iface 30 (.int .i64 2)) 2 A (Or.inl rfl) c1.r;unfold D5 at hM;refine H.o _ _ a ?_;clear H K
    (try simp only[Act.put])
    refine Aa.tu 7 a ?_;refine Aa.tu 8 a ?_;refine Aa.tu 9 a ?_;refine Aa.tu 10 a ?_;refine Aa.stop af rfl (fun K H=>?_);go_simp;refine H.o _ _ ?_;clear H K;refine GY af ?_ _;go_wp2_with fail;with_reducible refine hM.mono ?_
    rintro e w4⟨rfl,d0⟩;go_wp2_with fail;exact⟨rfl,ay,M.trans (d0.mono M.size)⟩
   have N:=AE (show G9 D [x]=.ok (108::101::97::100::115::32::D4 (L.map F5))from F.o);have m:=m L rfl;have c3:=A1.Dq ae Lk c2;obtain⟨la,lc,d1,_⟩:=c3.rd;subst d1;have c4:=fun W=>Pt W
   refine H.o _ _ a ?_;clear H K
   (try simp only[Act.put])
   refine Aa.tu 7 a ?_;refine Aa.tu 8 a ?_;refine Aa.tu 9 a ?_;refine Aa.tu 10 a ?_;refine Aa.stop af rfl (fun K H=>?_);go_simp;refine H.o _ _ ?_;clear H K;refine GY af ?_ _;go_wp2_with fail;with_reducible refine(c4 _).mono ?_
   rintro e w4⟨rfl,rfl⟩;have d2:=AE m.2;have g3:=m.1;have d3:=M.size;have d4:=AE M;clear F m c2 E a5 a a3 hc u b3 Z R a6 hg U M c4;go_wp2_with fail;go_loopw[7,26] (fun ov iv wr=>∃(k:Nat)(O:List Bs),iv=.int .i64 k/\k<=L.length/\O.length<=k/\Do wr A.heap.size ov O/\Hid (O++(L.drop k).map F5=L.map F5)/\Hid (∀x∈O,x.length<=8000000)/\Below A.heap.size A wr) (fun _ iv _=>L.length-(intOf iv).toNat)
   case atStart=>exact⟨0,[],rfl,aa,ah,A1.nil _ _ _ _ _,AE ah,AE (fun x h=>ee),AG _ _⟩
   obtain⟨k,O,rfl,hk,g4,r,a0,HO,B⟩:=hrel;have d5:=B.size;by_cases a8:k<L.length
   ·obtain⟨lb,rfl,_,m,a9⟩:=c3.at Lk k a8;have e0:=(B.cell (p:=⟨lb,k*2+0,none⟩) m).trans (a9 0 ae);have e1:=(B.cell (p:=⟨lb,k*2+1,none⟩) m).trans (a9 1 ae);have J:=d2.o _ (AQ a8);have S:=AE (show∀y,L[k]=y->(O++[F5 y])++(L.drop (k+1)).map F5=L.map F5 from fun y hy=>by
     rw[<-a0.o,AH a8,CD,hy];simp)
    have S:=AE (S.o _ rfl);clear a9 a0;generalize L[k]=y at e0 e1 J S;obtain⟨Y,g⟩:=y;simp only[Ji,BI,AU,AR]at e0 e1 J;have T:=AE (ca:F5 (Y,g)=C1 Y++32::itoa g);have c5:=fun W C=>Fj g J.2.1 J.2.2 W C
    have d6:=BE g J.2.1 J.2.2;have c6:=fun W=>Ps Y W aa
    have d7:=L2 Y;generalize F5 (Y,g)=lt at S T;generalize itoa g=I at c5 d6 T;generalize C1 Y=s at c6 d7 T;have d8:=AE (fun e=>FO _ (A1.Dj r wr.heap.size e));have BA:=(AG wr.heap.size wr).alloc (AF _) (.cells #[.string ⟨Y.toArray⟩,.int .i64 g] 46);have P:=A0.new wr #[.string ⟨Y.toArray⟩,.int .i64 g] 46;have r:=A1.next r BA;have B1:=B.trans (BA.mono d5);have b0:=c1.next B1;go_upto_region 8 with fail;generalize World.alloc _ _=i at BA P r B1 b0|-;have d9:=P.drew.cell;have e2:=AE (show Gz i.drew from b0.next (AG i.heap.size i).drew);have e3:=AE (show A0 i.drew wr.heap.size #[.string ⟨Y.toArray⟩,.int .i64 g] 46 from P.drew);have e4:=AE (show wr.heap.size<i.drew.heap.size from P.lt);have e5:=AE r;have a1:=AE B1;have z1:¬9223372036854775807<s.length+1:=aa
    have z2:¬9223372036854775807<s.length+1+I.length:=aa
    have q1:=AE (ag:(O.length+[(s++32::I:Bs)].length)*16<=140737488355328);have q2:=AE (ao:O.length+[(s++32::I:Bs)].length<=maxLen);have e6:=AE (show∀x∈O++[lt],x.length<=8000000 from fun x q=>by
     rcases BY.1 q with q|q
     ·exact HO.o x q
     rw[CS.1 q,T.o];simp only[AJ,AK];omega)
    clear b0 P r
    go_region_held_law (fun W=>∀k,W.cell? ⟨wr.heap.size,k,none⟩=(#[.string ⟨Y.toArray⟩,.int .i64 g])[k]?)
     (first
      |with_reducible exact d9
      |with_reducible exact e7
      |with_reducible exact e8
      |with_reducible exact e9
      |with_reducible exact f0)
     ((
      first
      |(refine Lg (α:=Bs) (cs:=Bl) (size:=1) (z:=.string ByteArray.empty) By R8 R7 rfl ae underlying55 rfl _ _ rfl A.heap.size _ O [(s++32::I:Bs)] ⟨b2.heap.size,0,none⟩ 1 1 rfl ae rfl f1.o rfl f2 q1.o q2.o f3.o ?_;intro v' g5 f4 f5 f6;have f0:=(Lv c7.o f5 (fun e=>d8.o e.symm)).cell)
      |(go_simp;with_reducible refine(c6 _).mono ?_;rintro e g6⟨rfl,b4⟩;have f7:=AE (Bp b4 (w0:=i) ((AG i.heap.size i).drew));have f8:=AE (Gz.next e2.o b4);have b5:=AE (A0.next e3.o b4 e4.o);have e7:=b5.o.cell)
      |(go_simp;with_reducible refine(c5 _ f8.o).mono ?_;rintro e b2⟨rfl,c8⟩;have a2:=AE (Bp c8 (w0:=i) f7.o);have c9:=AE (A0.next b5.o c8 (A0.lt b5.o));have e8:=c9.o.cell;have f1:=AE (A1.alloc (A1.next (w:=i) e5.o a2.o) (.cells #[.string ⟨(s++32::I:Bs).toArray⟩] 9));have f2:=Il b2 (s++32::I) 9;have c7:=AE (c9.o.alloc (.cells #[.string ⟨(s++32::I:Bs).toArray⟩] 9));have e9:=c7.o.cell;have f3:=AE (by have h1:=a2.o.size;have h2:=a1.o.size;simp at h1 h2|-;omega:A.heap.size<=(b2.alloc (.cells #[.string ⟨(s++32::I:Bs).toArray⟩] 9)).heap.size))))
    all_goals
     go_wp2_with fail;go_roundw
     case rel=>exact⟨k+1,O++[lt],aj,aa,ag,by rw[T.o];exact f4,S,e6,((a1.o.trans (a2.o.mono a1.o.size)).alloc (AV a1.o.size a2.o.size) _).trans f6⟩
     simp[intOf];omega
   obtain rfl:k=L.length:=aa
   have F:=AE (by rw[<-a0.o,AS];simp:L.map F5=O);have Q:=T2 HO.o;have f9:(D4 O).length<=3000102000000:=by
    have:=CV (8000000+2) (show O.length<=60002 by omega);omega
   have hJ:=T3 _ _ O wr r aa aa;have N:=AE (by rw[N.o,F.o]:G9 D [x]=.ok (108::101::97::100::115::32::D4 O));generalize D4 O=ct at hJ N f9;obtain⟨oa,oc,g0,_⟩:=A1.rd ae By r;subst g0;clear Q a0 F;go_wp2_with fail;with_reducible refine hJ.mono ?_
   rintro e w6⟨rfl,g1⟩;go_wp2_with fail;go_ret;exact⟨ay,(d4.o.trans (B.mono d3)).trans (g1.mono aa)⟩
theorem Xu:∀(t C r:Bs),(∀c∈t,c≠32)->Ec C (t++r)=Ec (C++t) r
 |[],C,r,_=>ah
 |c::t,[],r,h=>by
  show Ec [] (c::(t++r))=_;rw[Ec,AL (h c ah)];have:=Xu t [c] r (fun x H=>h x je);simpa using this
 |c::t,x::l,r,h=>by
  show Ec (x::l) (c::(t++r))=_;rw[Ec,AL (h c ah)];have:=Xu t (x::l++[c]) r (fun x H=>h x je);simpa using this
def P0(r:Nat):Bool:=r==32
def Kd(s:Bs)(x:Nat×Nat):Bs:=(s.drop x.1).take (x.2-x.1)
def P1(s:Bs)(pos:Nat):Option Nat->Bs
 |some a=>Kd s (a,pos)
 |none=>[]
def qA(s:Bs)(a pos k:Nat)(h:a<=pos):Kd s (a,pos+k)=Kd s (a,pos)++(s.drop pos).take k:=by
 unfold Kd;simp only;rw[show pos+k-a=(pos-a)+k by omega,List.take_add,ET,show a+(pos-a)=pos by omega]
def mz(s:Bs):∀(f pos:Nat)(S:Option Nat)(A:List (Nat×Nat)),s.length<=pos+f->pos<=s.length->(∀a,S=some a->a<pos)->(closeSpans ⟨s.toArray⟩ (spansFromP P0 ⟨s.toArray⟩ f pos S A)).map (Kd s)=A.map (Kd s)++Ec (P1 s pos S) (s.drop pos):=by
 have z:(⟨s.toArray⟩:ByteArray).size=s.length:=ki
 have n:∀(pos:Nat)(S:Option Nat)(A:List (Nat×Nat)),pos=s.length->(∀a,S=some a->a<pos)->(closeSpans ⟨s.toArray⟩ (A,S)).map (Kd s)=A.map (Kd s)++Ec (P1 s pos S) (s.drop pos):=by
  intro pos S A u v;rw[BP aa];cases S with
  |none=>simp[closeSpans,P1,Ec]
  |some a=>
   have o:=v a rfl;have b:(Kd s (a,pos)).length=pos-a:=by unfold Kd;simp;omega
   simp only[closeSpans,P1,z,<-u];cases q:Kd s (a,pos)with
   |nil=>rw[q]at b;simp at b;omega
   |cons x l=>rw[Ec];simp[q]
 intro f;induction f with
 |zero=>
  intro pos S A w y d;exact n pos S A aa d
 |succ f ih=>
  intro pos S A w y d;unfold spansFromP;rw[z];by_cases H:pos<s.length
  case neg=>rw[AL H];exact n pos S A aa d
  rw[AN H];have B:∃k,(Utf8.decode ⟨s.toArray⟩ pos).2=k/\1<=k/\pos+k<=s.length/\((P0 (Utf8.decode ⟨s.toArray⟩ pos).1=true/\k=1/\s[pos]=32)\/(P0 (Utf8.decode ⟨s.toArray⟩ pos).1=false/\∀c∈(s.drop pos).take k,c≠32)):=by
   by_cases D:s[pos].toNat<128
   ·rw[Yq s pos H D];refine⟨1,rfl,aa,aa,?_⟩;by_cases g:s[pos]=32
    ·left;exact⟨by rw[g];rfl,rfl,g⟩
    right;refine⟨?_,fun c m=>?_⟩
    ·show(s[pos].toNat==32)=false;rw[AI];intro e;exact g (BQ.1 xi)
    obtain⟨i,j,rfl⟩:=JU m;simp only[CH,BD]at j;obtain rfl:i=0:=aa
    rw[List.getElem_take,KL];exact g
   obtain⟨J,E,F⟩:=Yp s pos H aa;refine⟨_,rfl,width_pos _ _,E,Or.inr ⟨?_,fun c m=>?_⟩⟩
   ·show(_==32)=false;rw[AI];omega
   obtain⟨i,j,rfl⟩:=JU m;simp only[CH,BD]at j;have:=F (pos+i) aa aa aa;rw[List.getElem_take,KL];intro e;rw[e]at this;exact absurd this ae
  obtain⟨k,G,K,L,I⟩:=B;rw[G];rcases I with⟨C,rfl,p⟩|⟨C,r⟩
  ·rw[AN C];cases S with
   |none=>
    simp only;rw[ih (pos+1) none A aa aa (fun a h=>ee),AH H,p];simp only[P1];rw[Ec,AN rfl]
   |some a=>
    have o:=d a rfl;have b:(Kd s (a,pos)).length=pos-a:=by unfold Kd;simp;omega
    simp only;rw[ih (pos+1) none _ aa aa (fun a h=>ee),AH H,p];simp only[P1];cases q:Kd s (a,pos)with
    |nil=>rw[q]at b;simp at b;omega
    |cons x l=>
     rw[Ec,AN rfl];simp[q]
  rw[AL (by rw[C];decide)];have t:s.drop pos=(s.drop pos).take k++s.drop (pos+k):=by rw[<-ET,CE]
  cases S with
  |none=>
   simp only;rw[ih (pos+k) (some pos) A aa aa (fun a h=>by injection h;omega),t,Xu _ _ _ r];simp only[P1];rw[qA s pos pos k (AF _)];simp[Kd]
  |some a=>
   have o:=d a rfl;simp only;rw[ih (pos+k) (some a) A aa aa (fun M h=>by injection h;omega),t,Xu _ _ _ r];simp only[P1];rw[qA s a pos k aa]
def nc(s:Bs):goFieldsP P0 ⟨s.toArray⟩=(I8 s).map fun x=>⟨x.toArray⟩:=by
 have h:=mz s s.length 0 none [] aa aa (fun a h=>ee);have H:(⟨s.toArray⟩:ByteArray).size=s.length:=ki
 simp only[List.map_nil,CT,DR,P1]at h;unfold goFieldsP spansOfP I8;rw[<-h,H,IQ];refine IM fun x _=>?_
 rw[sH];rfl
theorem V4:∀(s C:Bs),((Ec C s).map List.length).sum+(Ec C s).length<=C.length+s.length+1
 |[],[]=>by simp[Ec]
 |[],x::l=>by simp[Ec]
 |c::s,[]=>by
  unfold Ec;split
  ·have:=V4 s [];simp at this|-;omega
  have:=V4 s [c];simp at this|-;omega
 |c::s,x::l=>by
  unfold Ec;split
  ·have:=V4 s [];simp at this|-;omega
  have:=V4 s (x::l++[c]);simp at this|-;omega
def V5(s:Bs):((I8 s).map List.length).sum+(I8 s).length<=s.length+1:=by
 have:=V4 s [];simpa[I8]using this
theorem qB{x:Bs}:∀{l:List Bs},x∈l->x.length<=(l.map List.length).sum
 |y::l,h=>by
  rw[CD,DT];rcases CG.1 h with rfl|h
  ·omega
  have:=qB h;omega
def V6{n:Nat}(h:(l.map List.length).sum+l.length<=n):(Ax l).length<=n/\l.length<=n/\∀x∈l,x.length<=n:=by
 have H:=cR l [32];refine⟨?_,aa,fun x a=>?_⟩
 ·unfold Ax;simp at H;omega
 have:=qB a;omega
def nd(x:Nat)(a:x<=1114111)(W:World):Calls prog 133 #[.int .i32 (x:Int)] W fun e w=>e=.returned (.bool (P0 x))/\W=w:=by
 have H:=AE (by unfold P0;rw[DY];simp;omega:P0 x=((x:Int)==32));go_enter func133,ntmps133;go_wp2;go_ret;exact⟨bu,rfl⟩
def nf(w:World):PredGrows prog 133 #[] P0 w:=fun W x h _=>
 (nd x h W).mono fun _ _⟨H,a⟩=>⟨H,a▸AG _ _⟩
def ng(s:Bs)(w:World)(i:s.length<=1000000000):Calls prog 132 #[s,.func (.func 133) #[] #[]] w fun e W=>(∃b,e=.returned (.slice (some ⟨b,0,none⟩) (I8 s).length (I8 s).length)/\b<W.heap.size/\∀(j:Nat)x,(I8 s)[j]?=some x->W.cell? ⟨b,j,none⟩=some x)/\Below w.heap.size w W:=by
 refine(Tryz.strings_FieldsFunc_grows 133 #[] (DU func133 af rfl) P0 ⟨s.toArray⟩ w ej (nf w)).mono ?_;rintro e W⟨b,rfl,_,n,c⟩;rw[nc,DQ]at n|-;refine⟨⟨b,rfl,?_,fun j x d=>?_⟩,c⟩
 ·rcases n.2 with⟨h,_⟩|⟨g,C,r,v,_,f,_⟩
  ·cases h
  injection v with H;injection H with H;injection H with H;subst H;rcases CL b W.heap.size with h|h
  ·exact h
  simp[CA h]at f
 have:=n.cells (g:=b) rfl j x (by simp[d]);by_cases a:j=0
 ·subst a;simpa[Go.Addr.add]using this
 simpa[Go.Addr.add,a]using this
end Go.Proofs.YtignjjnflcpiiaaGreatDoor
