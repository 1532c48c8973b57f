/- The closures of the document's answer's Bind: whether a s -/
import Derived.Test.YtignjjnflcpiiaaGreatDoorV30
import Derived.Test.YtignjjnflcpiiaaGreatDoorV31
set_option maxHeartbeats 16000000
set_option maxRecDepth 100000 set_option linter.all false
namespace Go.Proofs.YtignjjnflcpiiaaGreatDoor
open Go Go.RowKit Proofs.Tryz Lib
def cL(i k:Int)(c:Nat)(w:World)(h0:-9223372036854775808<=i)(a:i<=9223372036854775807)(b:-9223372036854775808<=k)(d:k<=9223372036854775807)(e:w.cell? ⟨c,0,none⟩=some k)(g:Gz w):Calls prog 72 #[i,.pointer (some ⟨c,0,none⟩)] w fun r n=>r=.returned (Co (64::98::itoa k) i)/\Below w.heap.size w n:=by
 have f:c<w.heap.size:=BJ w _ e;have hI:=fun W h=>Fj i h0 a W h
 have o:=BE i h0 a;have j:=fun W h=>Fj k b d W h
 have q:=BE k b d;have H:=AE (ca:Co (64::98::itoa k) i=112::97::114::116::(itoa i++64::98::itoa k));generalize s:itoa i=I at hI o H;generalize t:itoa k=u at j q H;have v:=g.next ((AG w.heap.size w).drew);have G:=AE g;have x:=AE (show c<w.drew.heap.size from f);have y:=AE f;have Z:¬9223372036854775807<4+I.length:=aa
 have C:¬9223372036854775807<I.length+1+1+1+1+2:=aa
 have D:¬9223372036854775807<I.length+1+1+1+1+2+u.length:=aa
 have z:w.drew.cell? ⟨c,0,none⟩=some k:=e;clear s t;go_enter func72,ntmps72;go_upto_region 1 with fail;go_region_law((first
  |(go_simp;with_reducible refine(j _ (G.o.next K.o)).mono ?_;rintro r E⟨rfl,l⟩;have A:=AE (Bp l (w0:=w) K.o);have F:=(l.cell (p:=⟨c,0,none⟩) (BN y.o K.o.size)).trans B)
  |(go_simp;with_reducible refine(hI _ v).mono ?_;rintro r J⟨rfl,m⟩;have K:=AE (Bp m (w0:=w) ((AG w.heap.size w).drew));have B:=(m.cell (p:=⟨c,0,none⟩) x.o).trans z)))
 all_goals
  go_wp2;go_ret;exact⟨Hz ix,A.o⟩
def kg(P:Nat->Prop)(bp K:Nat)(b:Al)(s:Bs)(w:World)(h:Ej P w bp b)(Y:G6 4 b.whole)(a4:b.whole.parts≠[])(hc:w.cell? ⟨K,0,none⟩=some (.pointer (some ⟨bp,0,none⟩)))(hg:Gr w):Calls prog 71 #[s,.pointer (some ⟨K,0,none⟩)] w fun e w'=>e=.returned (.bool ((b.whole::b.whole.parts).any (I9 s)))/\Below w.heap.size w w':=by
 have hb:=Ej.Ac (Q:=fun _=>True) (fun _ _ _=>trivial) h;obtain⟨D,sa,si,_,t,hr,_,_⟩:=hb;have a5:=AE (bU Y);generalize b.whole=p at hr a5 Y a4|-;obtain⟨r,b2,a0,b3⟩:=hr.parts;have d2:=Y.head.2.2;have Z:=AE (show∀k(h1:k<(D::r).length)(h2:k<(p::p.parts).length),A8 (fun _=>True) 4 w (D::r)[k] (p::p.parts)[k]from fun k h1 h2=>by
  cases k with
  |zero=>exact hr
  |succ k=>exact(b3 k (by simp at h1;omega) (by simp at h2;omega)).up)
 have hL:(D::r).length=(p::p.parts).length:=by simp[a0]
 have f9:r.length<=20002:=aa
 have b4:=AE (by rw[a0];exact BK.2 a4:0<r.length);have M:(p::p.parts).length=r.length+1:=by simp[a0]
 generalize p::p.parts=L at a5 Z hL M|-;unfold Ii at t;have b5:=t.cell;clear h hr b3 Y a0 d2 a4;obtain⟨⟨a,n,c⟩,l,m,⟨g0,g1,R⟩⟩:=D;simp only[A9]at b2 t b5;have d3:K<w.heap.size:=BJ w _ hc;go_enter func71,ntmps71;obtain⟨g2,g3,d4,b6⟩:=b2;injection d4 with e1 e2 e3;subst e1 e2 e3;obtain⟨g,rfl,_,d5,b7⟩:=b6 b4.o;have A:=((AG w.heap.size w).alloc (AF _) (.cells #[.slice a n c,l,m,.slice (some ⟨g,0,none⟩) r.length R] 44)).drew;have d6:=AE (A1.next (oM w a (some ⟨g,0,none⟩) n c r.length R l m) ((AG _ _).drew));have v:=AE (show∀j u,(r.flatMap Dk)[j]?=some u->(w.alloc (.cells #[.slice a n c,l,m,.slice (some ⟨g,0,none⟩) r.length R] 44)).drew.cell? ((⟨g,0,none⟩:Go.Addr).add j)=some u from fun j u hj=>by
  have E:=(CB.1 hj).1;rw[Kj Dx]at E;rw[Er];exact(A.cell (p:=⟨g,j,none⟩) d5).trans ((b7 j E).trans hj))
 have q1:=AE (ag:([((a,n,c),l,m,((some ⟨g,0,none⟩:Option Go.Addr),r.length,R))].length+r.length)*72<=140737488355328);have q2:=AE (ao:[((a,n,c),l,m,((some ⟨g,0,none⟩:Option Go.Addr),r.length,R))].length+r.length<=maxLen);have d7:=AE A.size;have d8:=AE A;have d9:=(A0.drew t).cell;have e0:w.drew.cell? ⟨K,0,none⟩=some (.pointer (some ⟨bp,0,none⟩)):=hc;have e4:=(t.next A t.lt).cell;have e5:=(A.cell (p:=⟨K,0,none⟩) d3).trans hc;have e6:=AE hg;have e7:=AE Z;clear A b7 b6 Z hg;go_upto_region 1 with fail;go_cut[18,19,20] (fun x y z wx=>∃(V:Option Go.Addr)(O:Nat),x=.slice V L.length O/\y=.int .i64 L.length/\z=.int .i64 0/\Ba 4 Dk (fun _=>True) wx (.slice V L.length O) (((a,n,c),l,m,((some ⟨g,0,none⟩:Option Go.Addr),r.length,R))::r)/\Below w.heap.size w wx)
 case first=>
  go_region_law((refine Lg (α:=Au) (cs:=Dk) (size:=4) (z:=.agg #[.slice none 0 0,.string ByteArray.empty,false,.slice none 0 0]) Dx aN aO rfl ae underlying33 rfl _ _ rfl w.heap.size _ [((a,n,c),l,m,((some ⟨g,0,none⟩:Option Go.Addr),r.length,R))] r ⟨g,0,none⟩ r.length R rfl b4.o rfl d6.o rfl v.o q1.o q2.o d7.o ?_;intro v' a6 a7 g4 e8;obtain⟨V,O,a8,_⟩:=A1.rd ae Dx a7;rw[JF]at a8 a7;rw[AK]at a8;subst a8));all_goals
   go_wp2;go_meet;exact⟨V,O,by rw[M],by rw[M];first|rfl|simp,rfl,by rw[M];exact(A1.Dq ae Dx a7).Ac (fun _ _ _=>trivial),d8.o.trans e8⟩
 case rest=>
 obtain⟨V,O,rfl,rfl,rfl,e9,F⟩:=hcut;obtain⟨a6,rfl⟩:∃x:World,x=wc:=⟨_,rfl⟩;have f0:=e6.o.next F;have Z:=AE (fun k h1 h2=>(e7.o k h1 h2).next F);have HL:=AE hL;have g5:L.length<=1000000:=aa
 clear hL M;have a9:=F.size;clear e4 e5 d9 e0 b5 t hc;go_wp2_with fail;go_loopw[20] (fun i wr=>∃k:Nat,i=k/\k<=L.length/\Hid (L.any (I9 s)=(L.drop k).any (I9 s))/\Below a6.heap.size a6 wr) (fun i _=>L.length-(intOf i).toNat)
 case atStart=>exact⟨0,rfl,aa,AE ah,AG _ _⟩
 obtain⟨k,rfl,hk,o,B⟩:=hrel;by_cases E:k<L.length
 ·have a1:k<(((a,n,c),l,m,((some ⟨g,0,none⟩:Option Go.Addr),r.length,R))::r).length:=by have:=HL.o;simp only[AK]at this|-;omega
  obtain⟨pb,rfl,_,a2,v⟩:=e9.at Dx k a1;have S:=(Z.o k a1 E).next B;have T:=a5.o _ (AQ E);have H:=AE (by rw[AH E];rfl:(L.drop k).any (I9 s)=((contains (L[k]).body s||(L[k]).head.any fun f=>contains f.2 s)||(L.drop (k+1)).any (I9 s)));have c0:=(B.cell (p:=⟨pb,k*4+0,none⟩) a2).trans (v 0 ae);have c1:=(B.cell (p:=⟨pb,k*4+1,none⟩) a2).trans (v 1 ae);have c2:=(B.cell (p:=⟨pb,k*4+2,none⟩) a2).trans (v 2 ae);have c3:=(B.cell (p:=⟨pb,k*4+3,none⟩) a2).trans (v 3 ae);clear v;generalize L[k]=q at S T H;generalize(((a,n,c),l,m,((some ⟨g,0,none⟩:Option Go.Addr),r.length,R))::r)[k]'a1=D at S c0 c1 c2 c3;have b8:=S.body;have C:=S.hd.rd;obtain⟨⟨qa,qn,qc⟩,qb,qm,⟨b9,c4,c5⟩⟩:=D;simp only at b8;subst b8;simp only[Dk,A9,BI,AU,AR]at c0 c1 c2 c3 C;clear S a1;have f3:=T.2;have c6:=AE T.1.2;have f4:=T.1.1;generalize q.body=a3 at H c1 f3;generalize q.head=d at H C c6 f4;have kt:=A0.new wr #[.slice qa qn qc,a3,qm,.slice b9 c4 c5] 44;have A:=(AG wr.heap.size wr).alloc (AF _) (.cells #[.slice qa qn qc,a3,qm,.slice b9 c4 c5] 44);have G:=B.trans (A.mono B.size);have b0:=f0.next G;have C:=C.next A;have hC:=fun W hW=>Qq a3 s W aa hW
  have f5:=kt.cell;generalize contains a3 s=q1 at hC H;clear A T;go_wp2_with fail;generalize World.alloc _ _=w2 at kt G b0 C f5|-;with_reducible refine(hC _ b0.g).mono ?_
  rintro e w3⟨rfl,U⟩;obtain rfl:=U.symm;clear U hC;cases q1 with
  |true=>
   have N:=AE (by rw[o.o,H.o];rfl:L.any (I9 s)=true);clear H o;go_wp2;go_ret;exact⟨Bm N.o.symm,F.trans (G.mono a9)⟩
  |false=>
   obtain⟨g6,g7,f6,c7⟩:=Cq.open C;injection f6 with e1 e2 e3;subst e1 e2 e3;have f7:=AE c7;have c8:=G.size;obtain⟨wo,rfl⟩:∃x:World,x=wr:=⟨_,rfl⟩;clear c7 C c0 c1 c2 c3;go_wp2_with fail;go_loopw[31] (fun i wr=>∃j:Nat,i=j/\j<=d.length/\Hid ((d.any fun f=>contains f.2 s)=(d.drop j).any fun f=>contains f.2 s)/\Below w3.heap.size w3 wr) (fun i _=>d.length-(intOf i).toNat)
   case atStart=>exact⟨0,rfl,aa,AE ah,AG _ _⟩
   obtain⟨j,rfl,hj,I,X⟩:=hrel;by_cases b1:j<d.length
   ·obtain⟨fb,rfl,c9,f1,f2⟩:=f7.o j b1;have f1:=(X.cell (p:=⟨fb,j*2,none⟩) c9).trans f1;have f2:=(X.cell (p:=⟨fb,j*2+1,none⟩) c9).trans f2;have d0:=(c6.o _ (AQ b1)).2;have J:=AE (by rw[AH b1];rfl:((d.drop j).any fun f=>contains f.2 s)=(contains (d[j]).2 s||(d.drop (j+1)).any fun f=>contains f.2 s));generalize d[j]=f at f1 f2 d0 J;obtain⟨x,y⟩:=f;simp only at f1 f2 d0 J;have kf:=A0.new wr #[x,y] 92;have B4:=X.alloc X.size (.cells #[x,y] 92);have d1:=b0.next B4;have hC:=fun W hW=>Qq y s W aa hW
    have f8:=kf.cell;generalize contains y s=q2 at hC J;go_wp2_with fail;generalize World.alloc _ _=w4 at kf B4 d1 f8|-;with_reducible refine(hC _ d1.g).mono ?_
    rintro e w5⟨rfl,U⟩;obtain rfl:=U.symm;clear U hC;cases q2 with
    |true=>
     have N:=AE (by rw[o.o,H.o,I.o,J.o];rfl:L.any (I9 s)=true);clear H o I J;go_wp2;go_ret;exact⟨Bm N.o.symm,F.trans ((G.trans (B4.mono c8)).mono a9)⟩
    |false=>
     have N:=AE (I.o.trans J.o);clear I J;go_wp2;go_roundw
     case rel=>exact⟨j+1,aj,aa,N,B4⟩
     simp[intOf];omega
   obtain rfl:j=d.length:=aa
   have N:=AE (show L.any (I9 s)=(L.drop (k+1)).any (I9 s)from by
    rw[o.o,H.o,I.o,AS];rfl)
   clear I H o;go_wp2;go_roundw
   case rel=>exact⟨k+1,aj,aa,N,G.trans (X.mono c8)⟩
   simp[intOf];omega
 obtain rfl:k=L.length:=aa
 have N:=AE (by rw[o.o,AS];rfl:L.any (I9 s)=false);clear o;go_wp2;go_ret;exact⟨Bm N.o.symm,F.trans (B.mono a9)⟩
end Go.Proofs.YtignjjnflcpiiaaGreatDoor
