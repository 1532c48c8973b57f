/- Letters unpacked by bits, by the document's answer: the p -/
import Derived.Test.YtignjjnflcpiiaaGreatDoorS27
set_option linter.all false
set_option maxHeartbeats 16000000
set_option maxRecDepth 100000
namespace Go.Proofs.YtignjjnflcpiiaaGreatDoor
open Go Go.RowKit Proofs.Tryz Lib
variable {p B j J a:Nat}{w w0:World}{R:Nat × List Aj}{out:List Aj}{v U z A C D E F I K M O P S T X Z a0 a1 a2 a3 a4 a5 a6 a7 a8 a9 b0 b1 b2 b3 b4 b5 b6 b7 b8 b9 c0 c1 c2 c3 c4 c5 c6 c7 c8 c9 d0 d1 d2 d3 d4 d5 d6 d7 d8 d9 e0 e1 e2 e3 e4 e5 e6 e7 e8 e9 f0 f1 f2 f3 f4 f5 f6 f7 f8 f9 g0 g1 g2 g3 g4 g5 g6 g7 g8 g9 h0 h1 h2 h3 h4 h5 h6 h7 h8 h9 i0 i1 i2 i3 i4 i5 i6 i7 i8 i9 j0 j1 j2 j3 j4 j5 j6 j7 j8 j9 k0 k1 k2 k3 k4 k5 k6 k7 k8 k9 l0 l1 l2 l3 l4 l5 l6 l7 l8 l9 m0 m1 m2 m3 m4 m5 m6 m7 m8 m9 n0 n1 n2 n3 n4 n5 n6 n7 n8 n9 o0 o1 o2 o3 o4 o5 o6 o7 o8 o9 p0 p1 p2 p3 p4 p5 p6 p7 p8 p9 q0 q1 q2 q3 q4 q5 q6 q7 q8 q9 r0 r1 r2 r3 r4 r5 r6 r7 r8 r9 s0 s1 s2 s3 s4 s5 s6 s7 s8 s9 t0 t1 t2 t3 t4 t5 t6 t7 t8 t9 u0 u1 u2 u3 u4 u5 u6 u7 u8 u9 v0 v1 v2 v3 v4 v5 v6 v7 v8 v9 w1 w2 w3 w4 w5 w6 w7 w8 w9 x0 x1 x2 x3 x4 x5 x6 x7 x8 x9 y0 y1 y2 y3 y4 y5 y6 y7 y8 y9 z0 z1 z2 z3 z4 z5 z6 z7 z8 z9 a':Value}{s n N:Bs}{Q:Exit → Act → World → Prop}
theorem SM{e:Option Go.Addr}{b:List Nat}(h:Kr w B (.slice e b.length p) b):∃g,b.length≤p∧(0<b.length→e=some ⟨g,0,none⟩)∧∀j(h:j<b.length),g<w.heap.size∧w.cell? ⟨g,j,none⟩=some (.int .i64 (b[j]:Int)):=by
 obtain⟨a,C,H,l⟩:=A0.rd (by decide) Pd h;injection H with E q r;subst E;have c:b.length≤p:=by
  unfold Kr A0 at h;rcases h.2 with⟨H,d⟩|⟨g,C,s,H,f,u,v,c,z,x⟩
  ·injection H with F m n;omega
  injection H with F m n;omega
 by_cases d:0<b.length
 ·obtain⟨g,f,t,o⟩:=l d;refine⟨g,c,fun _=>f,fun j i=>⟨t,?_⟩⟩;rw[o j (by omega)];have k:=Kg (cs:=Ld) Pd b j i 0 (by decide);rw[IJ,BI]at k;rw[k];rfl
 exact⟨0,c,fun h=>absurd h d,fun j i=>by omega⟩
theorem SN(s:Bs)(w:World)(hl:s.length≤1000000):Calls prog 159 #[.string ⟨s.toArray⟩] w fun e w'=>e=.returned (Np (Ef s))∧Below w.heap.size w w':=by
 rw[←oZ];have P:=AB (by rfl:Mn s=Mm (s.filter fun c=>!Al c));have b2:=AB (show(s.filter fun c=>!Al c).length≤s.length from IF _ _);go_enter func159,ntmps159;go_upto_block 0 with fail;go_cut[4] (fun v l=>Cs l w.heap.size v (s.filter fun c=>!Al c)∧Below w.heap.size w l)
 case first=>
  go_wp2_with fail;go_loopw[4,21] (fun v i wr=>∃(k:Nat)(o:Bs),i=.int .i64 k∧k≤s.length∧o.length≤k∧Cs wr w.heap.size v o∧Hid (o=(s.take k).filter fun c=>!Al c)∧Below w.heap.size w wr) (fun _ i _=>s.length-(intOf i).toNat)
  case atStart=>exact⟨0,[],rfl,by omega,by simp,A0.nil _ _ _ _ _,AB (by simp),AD _ _⟩
  obtain⟨k,o,rfl,hk,e5,b,HO,B⟩:=hrel;by_cases a0:k<s.length
  ·have a1:=AB (show((s.take (k+1)).filter fun c=>!Al c)=o++(if !Al s[k]then[s[k]]else[])from by
    rw[AU a0,List.filter_append,←HO.o];congr 1;rw[DA,List.filter_nil])
   have G:=AB (wU s[k]);have a2:(s[k].toNat:Int)<256:=by have:=s[k].toNat_lt;omega
   go_upto_region 6 with fail;generalize s[k]=c at a1 G a2⊢;have F:=AB (show(!Al c)=false→o=(s.take (k+1)).filter fun c=>!Al c from fun h=>by rw[a1.o,h];simp);have K:=AB (show(!Al c)=true→o++[c]=(s.take (k+1)).filter fun c=>!Al c from fun h=>by rw[a1.o,h];rfl);clear a1;cases b3:((c.toNat:Int)!=13)with
   |false=>
    have O:=AB b3;have u:=AB (F.o (by rw[G.o,O.o];rfl));clear F K G;go_wp2_with fail;go_roundw
    case rel=>exact⟨k+1,o,by go_num,by omega,by omega,b,u,B⟩
    simp[intOf];omega
   |true=>
    have O:=AB b3;cases b4:((c.toNat:Int)!=10)with
    |false=>
     have S:=AB b4;have u:=AB (F.o (by rw[G.o,O.o,S.o];rfl));clear F K G;go_wp2_with fail;go_roundw
     case rel=>exact⟨k+1,o,by go_num,by omega,by omega,b,u,B⟩
     simp[intOf];omega
    |true=>
     have S:=AB b4;cases b5:((c.toNat:Int)!=32)with
     |false=>
      have a3:=AB b5;have u:=AB (F.o (by rw[G.o,O.o,S.o,a3.o];rfl));clear F K G;go_wp2_with fail;go_roundw
      case rel=>exact⟨k+1,o,by go_num,by omega,by omega,b,u,B⟩
      simp[intOf];omega
     |true=>
      have a3:=AB b5;cases h9:((c.toNat:Int)!=9)with
      |false=>
       have H9:=AB h9;have u:=AB (F.o (by rw[G.o,O.o,S.o,a3.o,H9.o];rfl));clear F K G;go_wp2_with fail;go_roundw
       case rel=>exact⟨k+1,o,by go_num,by omega,by omega,b,u,B⟩
       simp[intOf];omega
      |true=>
       have H9:=AB h9;have u:=AB (K.o (by rw[G.o,O.o,S.o,a3.o,H9.o];rfl));clear F K G;go_wp2_with(at_builtin;refine Na rfl _ _ rfl w.heap.size _ o [c] wr.heap.size 1 1 rfl rfl (Cs.alloc b _) rfl (Q7 wr c _) (by simp;omega) (by have:=B.size;simp;omega) ?_;intro V Q f H);have q:=(B.alloc B.size (.cells #[.int .u8 (c.toNat:Int)] 5)).trans H;clear H;go_wp2_with fail;go_roundw
       case rel=>exact⟨k+1,o++[c],by go_num,by omega,by simp;omega,f,u,q⟩
       simp[intOf];omega
  obtain rfl:k=s.length:=by omega
  have N:=AB (by rw[HO.o,CQ]:o=s.filter fun c=>!Al c);go_wp2_with fail;go_meet;exact⟨by rw[←N.o];exact b,B⟩
 case rest=>
 obtain⟨b,B⟩:=hcut;obtain⟨W,rfl⟩:∃x:World,x=wc:=⟨_,rfl⟩;have c7:=b2.o;have P:=AB P.o;generalize(s.filter fun c=>!Al c)=L at b c7 P;obtain⟨la,a4,rfl,y⟩:=Cs.shape b;have a8:=AB y;have U:L.length≤a4∨L.length=0:=by
  rcases b.2 with⟨C,h2⟩|⟨g,e6,e7,C,_,_,U,_⟩
  ·exact Or.inr h2
  injection C with e8 e9 e3;subst e3;exact Or.inl U
 have f0:L.length≤a4:=by omega
 have b6:=AB (wQ L);have b7:=AB (Se L);have b8:=B.size;clear y b2 U;by_cases h4:L.length%4=0
 case neg=>
  have N:=AB (by rw[P.o];unfold Mm;rw[AM h4]:Mn s=none);have b9:((L.length:Int)%4 !=0)=true:=by rw[CZ];omega
  go_wp2_with fail;go_ret2;exact⟨by rw[N.o];rfl,B⟩
 have P:=AB (show Mn s=match Cv (L.take (L.length-D7 L))with
  |none=>none
  |some E3=>if(E0 E3).2.all (·==0)then some (E0 E3).1 else none from by rw[P.o];unfold Mm;rw[AI (by omega)];rfl)
 have b9:(L.length:Int)%4=0:=by omega
 go_upto_region 11 with fail;clear b9;go_upto_block 2 with fail;go_cut[7] (fun x l=>x=.int .i64 (D7 L:Int)∧l=W)
 case first=>
  go_wp2_with fail;go_loopw[7] (fun x wr=>∃p:Nat,x=.int .i64 p∧p≤2∧p≤L.length∧Hid ((1≤p→K3 L 0=true)∧(2≤p→K3 L 1=true))∧wr=W) (fun x _=>2-(intOf x).toNat)
  case atStart=>exact⟨0,rfl,by omega,by omega,AB ⟨by omega,by omega⟩,rfl⟩
  obtain⟨p,rfl,a9,f1,HS,rfl⟩:=hrel;have T:=AB (by rfl:K3 L p=(decide (p<2)&&(decide (p<L.length)&&(L.getD (L.length-1-p) 0==61))));have b0:=AB (show K3 L p=false→p≤2→D7 L=p from fun h hp=>by
   rw[b6.o];have C:=HS.o;have:p=0∨p=1∨p=2:=by omega
   rcases this with rfl|rfl|rfl
   ·rw[h];rfl
   ·rw[C.1 (by omega),h];rfl
   rw[C.1 (by omega),C.2 (by omega)];rfl)
  by_cases hp:p<2
  ·by_cases c0:p<L.length
   ·have hi:L.length-1-p<L.length:=by omega
    have hg:L.getD (L.length-1-p) 0=L[L.length-1-p]:=by rw[AK];simp[hi]
    obtain⟨g,he,a5⟩:=a8.o (L.length-1-p) hi;subst he;have T:=AB (by rw[T.o,BD hp,BD c0,hg,Ei];rfl:K3 L p=(((L[L.length-1-p]).toNat:Int)==61));have a2:((L[L.length-1-p]).toNat:Int)<256:=by have:=(L[L.length-1-p]).toNat_lt;omega
    have z1:wrap64 ((L.length:Int)-1)=(L.length:Int)-1:=by unfold wrap64;omega
    have z2:(L.length:Int)-1-(p:Int)=((L.length-1-p:Nat):Int):=by omega
    have i0:((L.length-1-p:Nat):Int)<(L.length:Int):=by omega
    clear hg;generalize L[L.length-1-p]=c at a5 T a2;cases c1:((c.toNat:Int)==61)with
    |true=>
     have c8:=AB (show(1≤p+1→K3 L 0=true)∧(2≤p+1→K3 L 1=true)from by
      have C:=HS.o;have h2:K3 L p=true:=by rw[T.o,c1]
      refine⟨fun _=>?_,fun _=>?_⟩
      ·by_cases h0:p=0
       ·subst h0;exact h2
       exact C.1 (by omega)
      obtain rfl:p=1:=by omega
      exact h2)
     go_wp2_with fail;go_roundw
     case rel=>exact⟨p+1,by go_num,by omega,by omega,c8,by first|rfl|trivial⟩
     simp[intOf];omega
    |false=>
     have N:=AB (b0.o (by rw[T.o,c1]) a9);go_wp2_with fail;go_meet;exact⟨by rw[N.o],rfl⟩
   have N:=AB (b0.o (by rw[T.o,AX c0];simp) a9);have c2:¬(p:Int)<(L.length:Int):=by omega
   go_wp2_with fail;go_meet;exact⟨by rw[N.o],rfl⟩
  have N:=AB (b0.o (by rw[T.o,AX hp];rfl) a9);have c2:¬(p:Int)<2:=by omega
  go_wp2_with fail;go_meet;exact⟨by rw[N.o],rfl⟩
 case rest=>
 obtain⟨rfl,D⟩:=hcut;obtain rfl:=D.symm;clear D b6 h4;have c9:=b7.o;have P:=AB P.o;generalize D7 L=p at c9 P⊢;generalize hX:L.take (L.length-p)=a at P;have c3:a.length=L.length-p:=by rw[←hX];simp
 have d0:=AB (show∀j(h:j<a.length),∃g,la=some ⟨g,0,none⟩∧g<W.heap.size∧W.cell? ⟨g,j,none⟩=some (.int .u8 (a[j].toNat:Int))from fun j h=>by
  obtain⟨g,e,hc⟩:=a8.o j (by omega);refine⟨g,e,AY W _ hc,?_⟩;rw[hc];subst hX;simp)
 clear hX a8 b7;have c2:(0:Int)≤(p:Int):=by omega
 have z1:(L.length:Int)-(p:Int)=((a.length:Nat):Int):=by omega
 have f2:a.length≤a4:=by omega
 have f3:((a.length:Nat):Int)≤(a4:Int):=by omega
 have d1:=AB c3;clear c3;go_upto_block 4 with fail;go_cut[8] (fun v l=>∃E ba b1,v=.slice ba E.length b1∧Hid (Cv a=some E)∧Kr l W.heap.size (.slice ba E.length b1) E∧Below W.heap.size W l)
 case first=>
  go_wp2_with fail;go_loopw[8,78] (fun v i wr=>∃(k:Nat)(A:List Nat),i=.int .i64 k∧k≤a.length∧A.length=6*k∧Kr wr W.heap.size v A∧Hid ((Cv (a.drop k)).map (A++·)=Cv a)∧Below W.heap.size W wr) (fun _ i _=>a.length-(intOf i).toNat)
  case atStart=>exact⟨0,[],rfl,by omega,rfl,A0.nil _ _ _ _ _,AB (by simp),AD _ _⟩
  obtain⟨k,A,rfl,hk,c4,R,HB,J⟩:=hrel;by_cases a0:k<a.length
  ·obtain⟨g,he,d2,a5⟩:=d0.o k a0;subst he;have d3:=(J.cell (p:=⟨g,k,none⟩) d2).trans a5;have Y:=AB (show(if Ax a[k]<0 then none else((Cv (a.drop (k+1))).map (An (Ax a[k]).toNat++·)).map (A++·))=Cv a from by
    rw[←HB.o,AE a0,Z7];split<;>rfl)
   have f4:A.length≤6*k:=by omega
   have d4:=AB c4;clear c4 a5 HB;generalize a[k]=c at d3 Y;have a2:(c.toNat:Int)<256:=by have:=c.toNat_lt;omega
   go_upto_block 6 with fail;go_cut[11] (fun x l=>(∃n:Nat,x=.int .i64 (n:Int)∧n<64∧Hid (Ax c=(n:Int))∧l=wr)∨(x=.int .i64 64∧Hid (Ax c<0)∧l=wr))
   case first=>
    go_wp2_with fail;go_loopw[11] (fun x l=>∃n:Nat,x=.int .i64 (n:Int)∧n≤64∧Hid (∀m,m<n→Bp m≠c)∧l=wr) (fun x _=>64-(intOf x).toNat)
    case atStart=>exact⟨0,rfl,by omega,AB (fun m hm=>by omega),rfl⟩
    obtain⟨n,rfl,hn,M,rfl⟩:=hrel;by_cases a6:n<64
    ·have a7:=dA n wr a6;by_cases y:Bp n=c
     ·have I:=AB (by rw[←y];exact(oJ a6).1:Ax c=(n:Int));rw[y]at a7;clear y M;go_wp2_with fail;with_reducible refine a7.mono ?_
      rintro e w3⟨rfl,Z⟩;obtain rfl:=Z.symm;clear Z;go_wp2_with fail;go_meet;exact Or.inl ⟨n,rfl,a6,I,rfl⟩
     have d5:=AB (show∀m,m<n+1→Bp m≠c from fun m hm=>by
      by_cases h:m=n
      ·rw[h];exact y
      exact M.o m (by omega))
     have d6:(((Bp n).toNat:Int)!=(c.toNat:Int))=true:=by
      rw[CZ];intro h;exact y (BJ.1 (by omega))
     generalize Bp n=d at a7 d6;clear y M;go_wp2_with fail;with_reducible refine a7.mono ?_
     rintro e w3⟨rfl,Z⟩;obtain rfl:=Z.symm;clear Z;go_wp2_with fail;go_roundw
     case rel=>exact⟨n+1,by go_num,by omega,d5,by first|rfl|trivial⟩
     simp[intOf];omega
    obtain rfl:n=64:=by omega
    have I:=AB (wR M.o);clear M;go_wp2_with fail;go_meet;exact Or.inr ⟨rfl,I,rfl⟩
   case rest=>
   rcases hcut with⟨n,rfl,a6,I,D⟩|⟨rfl,I,D⟩
   ·obtain rfl:=D.symm;clear D;have d7:=AB (show(Cv (a.drop (k+1))).map ((A++An n)++·)=Cv a from by
     rw[←Y.o,I.o,AI (by omega),DO,Option.map_map];congr 1;funext z;simp)
    have f5:¬(n:Int)=64:=by omega
    have f6:((n:Int)==64)=false:=by rw[AG];omega
    clear Y I;have c5:=d4.o;have f7:(0:Int)≤(n:Int):=by omega
    go_wp2_with fail;go_loopw[8,12] (fun v x l=>∃m:Nat,x=.int .i64 (5-(m:Int))∧m≤6∧Kr l W.heap.size v (A++(An n).take m)∧Below W.heap.size W l) (fun _ x _=>(intOf x+1).toNat)
    case atStart=>exact⟨0,rfl,by omega,by simpa using R,J⟩
    clear R J;obtain⟨m,rfl,hm,b,B⟩:=hrel;by_cases d8:m<6
    ·have M:=AB (wS n m d8);have f8:(A++(An n).take m).length≤6*k+6:=by simp[An,c5];omega
     have:m=0∨m=1∨m=2∨m=3∨m=4∨m=5:=by omega
     rcases this with rfl|rfl|rfl|rfl|rfl|rfl
     ·have r:Go.bits .and .i64 ((n:Int)/32) 1=((Gg n 0:Nat):Int):=by
       rw[J4 _ (by omega) (by omega)];show _=((n/32%2:Nat):Int);omega
      go_wp2_with(at_builtin;refine J3 rfl _ _ rfl W.heap.size _ (A++(An n).take 0) (Gg n 0) wr.heap.size 1 rfl (A0.alloc b _) rfl (by first|exact Eb _ _ _|(rw[r];exact Eb _ _ _)) (by omega) (by have:=B.size;simp;omega) ?_;intro V Q f t H);rw[AJ,←M.o]at f;have q:=(B.alloc B.size (.cells #[.int .i64 (Gg n 0:Int)] 3)).trans H;clear t H;go_wp2_with fail;go_roundw
      case rel=>exact⟨1,by go_num,by omega,f,q⟩
      simp[intOf];try omega
     ·have r:Go.bits .and .i64 ((n:Int)/16) 1=((Gg n 1:Nat):Int):=by
       rw[J4 _ (by omega) (by omega)];show _=((n/16%2:Nat):Int);omega
      go_wp2_with(at_builtin;refine J3 rfl _ _ rfl W.heap.size _ (A++(An n).take 1) (Gg n 1) wr.heap.size 1 rfl (A0.alloc b _) rfl (by first|exact Eb _ _ _|(rw[r];exact Eb _ _ _)) (by omega) (by have:=B.size;simp;omega) ?_;intro V Q f t H);rw[AJ,←M.o]at f;have q:=(B.alloc B.size (.cells #[.int .i64 (Gg n 1:Int)] 3)).trans H;clear t H;go_wp2_with fail;go_roundw
      case rel=>exact⟨2,by go_num,by omega,f,q⟩
      simp[intOf];try omega
     ·have r:Go.bits .and .i64 ((n:Int)/8) 1=((Gg n 2:Nat):Int):=by
       rw[J4 _ (by omega) (by omega)];show _=((n/8%2:Nat):Int);omega
      go_wp2_with(at_builtin;refine J3 rfl _ _ rfl W.heap.size _ (A++(An n).take 2) (Gg n 2) wr.heap.size 1 rfl (A0.alloc b _) rfl (by first|exact Eb _ _ _|(rw[r];exact Eb _ _ _)) (by omega) (by have:=B.size;simp;omega) ?_;intro V Q f t H);rw[AJ,←M.o]at f;have q:=(B.alloc B.size (.cells #[.int .i64 (Gg n 2:Int)] 3)).trans H;clear t H;go_wp2_with fail;go_roundw
      case rel=>exact⟨3,by go_num,by omega,f,q⟩
      simp[intOf];try omega
     ·have r:Go.bits .and .i64 ((n:Int)/4) 1=((Gg n 3:Nat):Int):=by
       rw[J4 _ (by omega) (by omega)];show _=((n/4%2:Nat):Int);omega
      go_wp2_with(at_builtin;refine J3 rfl _ _ rfl W.heap.size _ (A++(An n).take 3) (Gg n 3) wr.heap.size 1 rfl (A0.alloc b _) rfl (by first|exact Eb _ _ _|(rw[r];exact Eb _ _ _)) (by omega) (by have:=B.size;simp;omega) ?_;intro V Q f t H);rw[AJ,←M.o]at f;have q:=(B.alloc B.size (.cells #[.int .i64 (Gg n 3:Int)] 3)).trans H;clear t H;go_wp2_with fail;go_roundw
      case rel=>exact⟨4,by go_num,by omega,f,q⟩
      simp[intOf];try omega
     ·have r:Go.bits .and .i64 ((n:Int)/2) 1=((Gg n 4:Nat):Int):=by
       rw[J4 _ (by omega) (by omega)];show _=((n/2%2:Nat):Int);omega
      go_wp2_with(at_builtin;refine J3 rfl _ _ rfl W.heap.size _ (A++(An n).take 4) (Gg n 4) wr.heap.size 1 rfl (A0.alloc b _) rfl (by first|exact Eb _ _ _|(rw[r];exact Eb _ _ _)) (by omega) (by have:=B.size;simp;omega) ?_;intro V Q f t H);rw[AJ,←M.o]at f;have q:=(B.alloc B.size (.cells #[.int .i64 (Gg n 4:Int)] 3)).trans H;clear t H;go_wp2_with fail;go_roundw
      case rel=>exact⟨5,by go_num,by omega,f,q⟩
      simp[intOf];try omega
     have r:Go.bits .and .i64 (n:Int) 1=((Gg n 5:Nat):Int):=by
      rw[J4 _ (by omega) (by omega)];show _=((n/1%2:Nat):Int);omega
     go_wp2_with(at_builtin;refine J3 rfl _ _ rfl W.heap.size _ (A++(An n).take 5) (Gg n 5) wr.heap.size 1 rfl (A0.alloc b _) rfl (by first|exact Eb _ _ _|(rw[r];exact Eb _ _ _)) (by omega) (by have:=B.size;simp;omega) ?_;intro V Q f t H);rw[AJ,←M.o]at f;have q:=(B.alloc B.size (.cells #[.int .i64 (Gg n 5:Int)] 3)).trans H;clear t H;go_wp2_with fail;go_roundw
     case rel=>exact⟨6,by go_num,by omega,f,q⟩
     simp[intOf];try omega
    obtain rfl:m=6:=by omega
    have d9:Kr wr W.heap.size _ (A++An n):=b;clear b;go_wp2_with fail;go_roundw
    case rel=>exact⟨k+1,A++An n,by go_num,by omega,by simp[An,c5];omega,d9,d7,B⟩
    simp[intOf];omega
   obtain rfl:=D.symm;clear D;have N:=AB (show Mn s=none from by
    have h:=Y.o;rw[AM I.o]at h;rw[P.o,←h])
   have BW:=B.trans (J.mono b8);clear Y I;go_wp2_with fail;go_ret2;exact⟨by rw[N.o];rfl,BW⟩
  obtain rfl:k=a.length:=by omega
  have N:=AB (by rw[←HB.o,AQ];simp[Cv]:Cv a=some A);obtain⟨ia,e0,rfl,_⟩:=A0.rd (by decide) Pd R;go_wp2_with fail;go_meet;exact⟨A,ia,e0,rfl,N,R,J⟩
 case rest=>
 obtain⟨E,ba,b1,rfl,c6,R,J⟩:=hcut;obtain⟨w2,rfl⟩:∃x:World,x=wc:=⟨_,rfl⟩;have e1:=eD _ _ c6.o;have e2:E.length≤10000000:=by have:=d1.o;omega
 have HX:=AB (by rw[P.o,c6.o]:Mn s=if(E0 E).2.all (·==0)then some (E0 E).1 else none);have H1:=AB e1.2;have BW:=B.trans (J.mono b8);obtain⟨ga,U,hg,e4⟩:=SM R;apply_assumption;exact RK (g:=ga) (X:=Mn s) e2 U BW (AB hg) (AB e4) H1 HX
theorem SO{N:Value}{e:Nat}
  (hs:s.length≤1000000000) (o:G9 w B v out) (H:Below B w0 w) (hB:B≤w0.heap.size) (x9:out.length≤J) (y0:J≤s.length) (y5:j<e) (he:e<s.length) (y6:J≤j)
  (l:Hid (∀d,d=Aa Al s e→(∀h:d<s.length,s[d]≠61)→(Ar s d).1=R.1∧out++(Ar s d).2=R.2))
  (V:Hid (∀d i,d=Aa Al s e→(∃h:d<s.length,s[d]=61)→i=Aa Al s (d+1)→(s.length≤i→i=R.1∧out=R.2)∧(i<s.length→(s.length≤Cm s i→s.length=R.1∧out=R.2)∧(Cm s i<s.length→(Ar s (Cm s i+Cn s i)).1=R.1∧(out++(if Hf.contains (A2 ((s.drop j).take (e-j)))then[(i+Cn s i,Cm s i-(i+Cn s i),Cr ((s.drop (i+Cn s i)).take (Cm s i-(i+Cn s i))))]else[]))++(Ar s (Cm s i+Cn s i)).2=R.2))))
  (hN:Kd Q .normal s n B w0 R J) (y1:Kd Q (.exit 3) s n B w0 R J) (hS:Nx Q s n B w0 R):
  Code.wp prog Pk Q ⟨List.toArray (Value.string ⟨s.toArray⟩::Value.int .i64 (j:Int)::U::z::A::C::v::Value.string ⟨n.toArray⟩::D::Value.int .i64 (e:Int)::E::F::I::K::M::N::O::P::S::T::X::Z::a0::a1::a2::a3::a4::a5::a6::a7::a8::a9::b0::b1::b2::b3::b4::b5::b6::b7::b8::b9::c0::c1::c2::c3::c4::c5::c6::c7::c8::c9::d0::d1::d2::d3::d4::d5::d6::d7::d8::d9::e0::e1::e2::e3::e4::e5::e6::e7::e8::e9::f0::f1::f2::f3::f4::f5::f6::f7::f8::f9::g0::g1::g2::g3::g4::g5::g6::g7::g8::g9::h0::h1::h2::h3::h4::h5::h6::h7::h8::h9::i0::i1::i2::i3::i4::i5::i6::i7::i8::i9::j0::j1::j2::j3::j4::j5::j6::j7::j8::j9::k0::k1::k2::k3::k4::k5::k6::k7::k8::k9::l0::l1::l2::l3::l4::l5::l6::l7::l8::l9::m0::m1::m2::m3::m4::m5::m6::m7::m8::m9::n0::n1::n2::n3::n4::n5::n6::n7::n8::n9::o0::o1::o2::o3::o4::o5::o6::o7::o8::o9::p0::p1::p2::p3::p4::p5::p6::p7::p8::p9::q0::q1::q2::q3::q4::q5::q6::q7::q8::q9::r0::r1::r2::r3::r4::r5::r6::r7::r8::r9::s0::s1::s2::s3::s4::s5::s6::s7::s8::s9::t0::t1::t2::t3::t4::t5::t6::t7::t8::t9::u0::u1::u2::u3::u4::u5::u6::u7::u8::u9::v0::v1::v2::v3::v4::v5::v6::v7::v8::v9::w1::w2::w3::w4::w5::w6::w7::w8::w9::x0::x1::x2::x3::x4::x5::x6::x7::x8::[]),[]⟩ w:=by
 let y7:=bodyPost prog f124 (fun _ _=>True);delta Pk Kx Ma f124;dsimp only[Ak,Ga,Fs,Option.getD];have y2:=H.size;have q:=fun W=>I1 ((s.drop j).take (e-j)) W (by simp;omega)
 generalize A2 ((s.drop j).take (e-j))=y3 at q V;have y8:(j:Int)≤(e:Int):=by omega
 have y9:(e:Int)≤(s.length:Int):=by omega
 go_upto_region 17 with fail;go_cut[10] (fun x a=>x=.string ⟨y3.toArray⟩∧Below w.heap.size w a)
 case first=>
  go_wp2_with fail;with_reducible refine(q _).mono ?_
  rintro x m⟨rfl,b⟩;go_wp2_with fail;go_meet;exact⟨rfl,b⟩
 case rest=>
 obtain⟨rfl,b⟩:=hcut;obtain⟨m,rfl⟩:∃x:World,x=wc:=⟨_,rfl⟩;have o:=A0.next o b;have H:=H.trans (b.mono (by omega));have y2:=H.size;clear q b;have L:=AB (Lh Al (s:=s) (i:=e) (by omega));go_upto_region 18 with fail;go_cut[1] (fun x a=>x=.int .i64 (e:Int)∧a=m)
 case first=>
  go_wp2_with fail;go_meet;exact⟨rfl,rfl⟩
 case rest=>
 obtain⟨rfl,c⟩:=hcut;obtain rfl:=c.symm;clear c;go_upto_block 8 with fail;go_cut[1] (fun x a=>x=.int .i64 (Aa Al s e:Int)∧a=m)
 case first=>
  go_wp2_with fail;go_loopw[1] (fun x wr=>∃k:Nat,x=.int .i64 k∧k≤s.length∧Hid (Aa Al s k=Aa Al s e)∧wr=m) (fun x _=>s.length-(intOf x).toNat)
  case atStart=>exact⟨e,rfl,by omega,AB rfl,rfl⟩
  obtain⟨k,rfl,hk,r,rfl⟩:=hrel;by_cases t:k<s.length
  ·have G:=Qv s[k] wr;have Y:=AB (Pf (p:=Al) t);have u:=AB (Pg (p:=Al) t);generalize Al s[k]=g at G Y u;cases g with
   |true=>
    have f:=AB (by rw[←r.o,Y.o rfl]:Aa Al s (k+1)=Aa Al s e);go_wp2_with fail;with_reducible refine G.mono ?_
    rintro x y4⟨rfl,rfl⟩;go_wp2_with fail;go_roundw
    case rel=>exact⟨k+1,by go_num,by omega,f,by first|rfl|trivial⟩
    simp[intOf];omega
   |false=>
    have f:=AB (by rw[←r.o,u.o rfl]:Aa Al s e=k);go_wp2_with fail;with_reducible refine G.mono ?_
    rintro x y4⟨rfl,rfl⟩;go_wp2_with fail;go_meet;exact⟨by rw[f.o],rfl⟩
  obtain rfl:k=s.length:=by omega
  have f:=AB (by rw[←r.o,Ph (AC _)]:Aa Al s e=s.length);go_wp2_with fail;go_meet;exact⟨by rw[f.o],rfl⟩
 case rest=>
 obtain⟨rfl,c⟩:=hcut;obtain rfl:=c.symm;clear c;have y:=L.o;have l:=AB (l.o _ rfl);have V:=AB (fun i=>V.o _ i rfl);generalize Aa Al s e=d at y l V⊢;clear L;apply_assumption;exact RL hs o H hB x9 y0 (by omega) y.2 l V hN y1 hS
theorem SP
  (hs:s.length≤1000000000) (J:G9 w B v out) (y:Below B w0 w) (hB:B≤w0.heap.size) (z8:out.length≤j) (K:j≤s.length) (d':j≤a) (e':a<s.length)
  (H:Hid ((Ar s j).1=R.1∧out++(Ar s j).2=R.2))
  (M:Hid (∀e,e=Aa Eo s (a+1)→s.length≤e→Ar s j=(s.length,[])))
  (f:Hid (∀e d,e=Aa Eo s (a+1)→e<s.length→d=Aa Al s e→(∀h:d<s.length,s[d]≠61)→Ar s j=Ar s d))
  (L:Hid (∀e d,e=Aa Eo s (a+1)→e<s.length→d=Aa Al s e→∀f':d<s.length,s[d]=61→Bv s j=Dl s (A2 ((s.drop a).take (e-a))) (Aa Al s (d+1))))
  (O:Kd Q .normal s N B w0 R j) (P:Kd Q (.exit 3) s N B w0 R j) (S:Nx Q s N B w0 R):
  Code.wp prog fH Q ⟨List.toArray (Value.string ⟨s.toArray⟩::Value.int .i64 (a:Int)::u2::u3::u4::u5::v::Value.string ⟨N.toArray⟩::u8::u9::a1::a2::a3::a4::a5::a6::a7::a8::a9::b0::b1::b2::b3::b4::b5::b6::b7::b8::b9::c0::c1::c2::c3::c4::c5::c6::c7::c8::c9::d0::d1::d2::d3::d4::d5::d6::d7::d8::d9::e0::e1::e2::e3::e4::e5::e6::e7::e8::e9::f0::f1::f2::f3::f4::f5::f6::f7::f8::f9::g0::g1::g2::g3::g4::g5::g6::g7::g8::g9::h0::h1::h2::h3::h4::h5::h6::h7::h8::h9::i0::i1::i2::i3::i4::i5::i6::i7::i8::i9::j0::j1::j2::j3::j4::j5::j6::j7::j8::j9::k0::k1::k2::k3::k4::k5::k6::k7::k8::k9::l0::l1::l2::l3::l4::l5::l6::l7::l8::l9::m0::m1::m2::m3::m4::m5::m6::m7::m8::m9::n0::n1::n2::n3::n4::n5::n6::n7::n8::n9::o0::o1::o2::o3::o4::o5::o6::o7::o8::o9::p0::p1::p2::p3::p4::p5::p6::p7::p8::p9::q0::q1::q2::q3::q4::q5::q6::q7::q8::q9::r0::r1::r2::r3::r4::r5::r6::r7::r8::r9::s0::s1::s2::s3::s4::s5::s6::s7::s8::s9::t0::t1::t2::t3::t4::t5::t6::t7::t8::t9::u0::u1::u6::u7::v0::v1::v2::v3::v4::v5::v6::v7::v8::v9::w1::w2::w3::w4::w5::w6::w7::w8::w9::x0::x1::x2::x3::x4::x5::x6::x7::x8::x9::y0::y1::y2::y3::y4::y5::y6::y7::y8::y9::z0::z1::z2::z3::z4::z5::z6::z7::[]),[]⟩ w:=by
 let g':=bodyPost prog f124 (fun _ _=>True);delta fH Kx Ma f124;dsimp only[Ak,Ga,Fs,Option.getD];have HN:=AB O;have z9:=AB P;have T:=AB S;clear O P S;have h':=y.size;have U:=AB (Lh Eo (s:=s) (i:=a+1) (by omega));go_upto_block 6 with fail;go_cut[9] (fun x W=>x=.int .i64 (Aa Eo s (a+1):Int)∧W=w)
 case first=>
  go_wp2_with fail;go_loopw[9] (fun x wr=>∃k:Nat,x=.int .i64 k∧k≤s.length∧Hid (Aa Eo s k=Aa Eo s (a+1))∧wr=w) (fun x _=>s.length-(intOf x).toNat)
  case atStart=>exact⟨a+1,by go_num,by omega,AB rfl,rfl⟩
  obtain⟨k,rfl,hk,l,rfl⟩:=hrel;by_cases V:k<s.length
  ·have G:=Qv s[k] wr;have i':(s[k].toNat:Int)<256:=by have:=s[k].toNat_lt;omega
   have Y:=AB (Pf (p:=Eo) V);have z:=AB (Pg (p:=Eo) V);have c:=AB (by unfold Eo;rw[Ei s[k] 47,Ei s[k] 61,Ei s[k] 62];rfl:Eo s[k]=!(Al s[k]||((s[k].toNat:Int)==47)||((s[k].toNat:Int)==61)||((s[k].toNat:Int)==62)));go_upto_region 13 with fail;go_cut[108] (fun t W=>t=.bool (Eo s[k])∧W=wr)
   case first=>
    generalize Al s[k]=g at G c;cases g with
    |true=>
     go_wp2_with fail;with_reducible refine G.mono ?_
     rintro e o⟨rfl,rfl⟩;go_wp2_with fail;go_meet;exact⟨by rw[c.o];rfl,rfl⟩
    |false=>
     cases X:((s[k].toNat:Int)!=47)with
     |false=>
      have m:=AB (Pb X);go_wp2_with fail;with_reducible refine G.mono ?_
      rintro e o⟨rfl,rfl⟩;go_wp2_with fail;go_meet;exact⟨by rw[c.o,m.o];rfl,rfl⟩
     |true=>
      have m:=AB (Pa X);cases Z:((s[k].toNat:Int)!=61)with
      |false=>
       have q:=AB (Pb Z);go_wp2_with fail;with_reducible refine G.mono ?_
       rintro e o⟨rfl,rfl⟩;go_wp2_with fail;go_meet;exact⟨by rw[c.o,m.o,q.o];rfl,rfl⟩
      |true=>
       have q:=AB (Pa Z);cases a0:((s[k].toNat:Int)!=62)with
       |false=>
        have C:=AB (Pb a0);go_wp2_with fail;with_reducible refine G.mono ?_
        rintro e o⟨rfl,rfl⟩;go_wp2_with fail;go_meet;exact⟨by rw[c.o,m.o,q.o,C.o];rfl,rfl⟩
       |true=>
        have C:=AB (Pa a0);go_wp2_with fail;with_reducible refine G.mono ?_
        rintro e o⟨rfl,rfl⟩;go_wp2_with fail;go_meet;exact⟨by rw[c.o,m.o,q.o,C.o];rfl,rfl⟩
   case rest=>
   obtain⟨rfl,b⟩:=hcut;obtain rfl:=b.symm;clear b G c;cases r:Eo s[k]with
   |true=>
    have n:=AB (by rw[←l.o,Y.o r]:Aa Eo s (k+1)=Aa Eo s (a+1));clear r Y z l;go_wp2_with fail;go_roundw
    case rel=>exact⟨k+1,by go_num,by omega,n,by first|rfl|trivial⟩
    simp[intOf];omega
   |false=>
    have n:=AB (by rw[←l.o,z.o r]:Aa Eo s (a+1)=k);clear r Y z l;go_wp2_with fail;go_meet;exact⟨by rw[n.o],rfl⟩
  obtain rfl:k=s.length:=by omega
  have n:=AB (by rw[←l.o,Ph (AC _)]:Aa Eo s (a+1)=s.length);clear l;go_wp2_with fail;go_meet;exact⟨by rw[n.o],rfl⟩
 case rest=>
 obtain⟨rfl,b⟩:=hcut;obtain rfl:=b.symm;clear b;have a':=U.o;have M:=AB (M.o _ rfl);have f:=AB (fun d=>f.o _ d rfl);have L:=AB (fun d=>L.o _ d rfl);generalize Aa Eo s (a+1)=e at a' M f L⊢;clear U;by_cases j':s.length≤e
 ·obtain rfl:e=s.length:=by omega
  have E:=M.o (AC _);have H1:=AB (by rw[←H.o.1,E];simp:min s.length s.length=R.1);have H2:=AB (by rw[←H.o.2,E];simp:out=R.2);clear E M f L H;go_wp2_with fail;refine T.o s.length v w _ ⟨_,_,_,_,_,_,_,_,_,_,_,_,_,_,_,_,_,_,_,_,_,_,_,_,_,_,_,_,_,_,_,_,_,_,_,_,_,_,_,_,_,_,_,_,_,_,_,_,_,_,_,_,_,_,_,_,_,_,_,_,_,_,_,_,_,_,_,_,_,_,_,_,_,_,_,_,_,_,_,_,_,_,_,_,_,_,_,_,_,_,_,_,_,_,_,_,_,_,_,_,_,_,_,_,_,_,_,_,_,_,_,_,_,_,_,_,_,_,_,_,_,_,_,_,_,_,_,_,_,_,_,_,_,_,_,_,_,_,_,_,_,_,_,_,_,_,_,_,_,_,_,_,_,_,_,_,_,_,_,_,_,_,_,_,_,_,_,_,_,_,_,_,_,_,_,_,_,_,_,_,_,_,_,_,_,_,_,_,_,_,_,_,_,_,_,_,_,_,_,_,_,_,_,_,_,_,_,_,_,_,_,_,_,_,_,_,_,_,_,_,_,_,_,_,_,_,_,_,_,_,_,_,_,_,_,_,_,_,_,_,_,_,_,_,_,_,_,_,_,_,_,_,_,_,_,_,rfl⟩ (by omega) H1 (by rw[←H2.o];exact J) y
 have D:e<s.length:=by omega
 have k':¬((s.length:Int)≤(e:Int)):=by omega
 have HB:=AB (show∀d,d=Aa Al s e→(∀h:d<s.length,s[d]≠61)→(Ar s d).1=R.1∧out++(Ar s d).2=R.2 from fun d F h=>by
  rw[←f.o d D F h];exact H.o)
 have HV:=AB (show∀d i,d=Aa Al s e→(∃h:d<s.length,s[d]=61)→i=Aa Al s (d+1)→(s.length≤i→i=R.1∧out=R.2)∧(i<s.length→(s.length≤Cm s i→s.length=R.1∧out=R.2)∧(Cm s i<s.length→(Ar s (Cm s i+Cn s i)).1=R.1∧(out++(if Hf.contains (A2 ((s.drop a).take (e-a)))then[(i+Cn s i,Cm s i-(i+Cn s i),Cr ((s.drop (i+Cn s i)).take (Cm s i-(i+Cn s i))))]else[]))++(Ar s (Cm s i+Cn s i)).2=R.2))from fun d i F h hi=>by
  obtain⟨b',c'⟩:=h;have A:=L.o d D F b' c';rw[←hi]at A;refine⟨fun u=>?_,fun u=>⟨fun I=>?_,fun I=>?_⟩⟩
  ·have E:=yN A u;rw[←H.o.1,←H.o.2,E];simp
  ·have E:=yO A u I;rw[←H.o.1,←H.o.2,E];simp
  have E:=yP K A u I;rw[←H.o.1,←H.o.2,E];exact⟨rfl,by rw[AJ]⟩)
 clear M f L H;go_upto_if 114 with fail;go_cut[1] (fun x W=>x=.int .i64 (a:Int)∧W=w)
 case first=>
  go_wp2_with fail;go_meet;exact⟨rfl,rfl⟩
 case rest=>
 obtain⟨rfl,b⟩:=hcut;obtain rfl:=b.symm;clear b;apply_assumption;exact SO hs J y hB z8 K (by omega) D (by omega) HB HV HN.o z9.o T.o
theorem SQ
  (hs:s.length≤1000000000) (J:G9 w B v out) (C:Below B w0 w) (hB:B≤w0.heap.size) (b':out.length≤j) (l:j≤s.length)
  (f:Hid ((Ar s j).1=R.1∧out++(Ar s j).2=R.2))
  (V:Kd Q .normal s N B w0 R j) (X:Kd Q (.exit 3) s N B w0 R j) (Z:Nx Q s N B w0 R):
  Code.wp prog Kx Q ⟨List.toArray (Value.string ⟨s.toArray⟩::Value.int .i64 (j:Int)::u2::u3::u4::u5::v::Value.string ⟨N.toArray⟩::u8::u9::a3::a4::a5::a6::a7::a8::a9::b0::b1::b2::b3::b4::b5::b6::b7::b8::b9::c0::c1::c2::c3::c4::c5::c6::c7::c8::c9::d0::d1::d2::d3::d4::d5::d6::d7::d8::d9::e0::e1::e2::e3::e4::e5::e6::e7::e8::e9::f0::f1::f2::f3::f4::f5::f6::f7::f8::f9::g0::g1::g2::g3::g4::g5::g6::g7::g8::g9::h0::h1::h2::h3::h4::h5::h6::h7::h8::h9::i0::i1::i2::i3::i4::i5::i6::i7::i8::i9::j0::j1::j2::j3::j4::j5::j6::j7::j8::j9::k0::k1::k2::k3::k4::k5::k6::k7::k8::k9::l0::l1::l2::l3::l4::l5::l6::l7::l8::l9::m0::m1::m2::m3::m4::m5::m6::m7::m8::m9::n0::n1::n2::n3::n4::n5::n6::n7::n8::n9::o0::o1::o2::o3::o4::o5::o6::o7::o8::o9::p0::p1::p2::p3::p4::p5::p6::p7::p8::p9::q0::q1::q2::q3::q4::q5::q6::q7::q8::q9::r0::r1::r2::r3::r4::r5::r6::r7::r8::r9::s0::s1::s2::s3::s4::s5::s6::s7::s8::s9::t0::t1::t2::t3::t4::t5::t6::t7::t8::t9::u0::u1::u6::u7::v0::v1::v2::v3::v4::v5::v6::v7::v8::v9::w1::w3::w4::w5::w6::w7::w8::w9::x0::x1::x2::x3::x4::x5::x6::x7::x8::x9::y0::y1::y2::y3::y4::y5::y6::y7::y8::y9::z0::z1::z2::z3::z4::z5::z6::z7::z8::z9::a'::[]),[]⟩ w:=by
 let g':=bodyPost prog f124 (fun _ _=>True);delta Kx Ma f124;dsimp only[Ak,Ga,Fs,Option.getD];have HN:=AB V;have c':=AB X;have S:=AB Z;clear V X Z;have h':=C.size;have a0:=AB (Lh E4 l);have H:=AB (yJ l);have M:=AB (fun a e n o q r u=>yK (s:=s) (j:=j) (a:=a) (e:=e) l n o q r u);have b:=AB (fun a e d n o q r K O u=>yL (s:=s) (j:=j) (a:=a) (e:=e) (d:=d) l n o q r K O u);have L:=AB (fun a e d n o q r K O d' u=>yM (s:=s) (j:=j) (a:=a) (e:=e) (d:=d) l n o q r K O d' u);go_upto_block 4 with fail;go_cut[1] (fun x W=>x=.int .i64 (Aa E4 s j:Int)∧W=w)
 case first=>
  go_wp2_with fail;go_loopw[1] (fun x wr=>∃k:Nat,x=.int .i64 k∧k≤s.length∧Hid (Aa E4 s k=Aa E4 s j)∧wr=w) (fun x _=>s.length-(intOf x).toNat)
  case atStart=>exact⟨j,rfl,by omega,AB rfl,rfl⟩
  obtain⟨k,rfl,hk,m,rfl⟩:=hrel;by_cases a1:k<s.length
  ·have G:=Qv s[k] wr;have e':(s[k].toNat:Int)<256:=by have:=s[k].toNat_lt;omega
   have Y:=AB (Pf (p:=E4) a1);have P:=AB (Pg (p:=E4) a1);have y:=AB (by unfold E4;rw[Ei s[k] 47];rfl:E4 s[k]=(Al s[k]||((s[k].toNat:Int)==47)));go_upto_region 8 with fail;go_cut[63] (fun t W=>t=.bool (E4 s[k])∧W=wr)
   case first=>
    generalize Al s[k]=g at G y;cases g with
    |true=>
     go_wp2_with fail;with_reducible refine G.mono ?_
     rintro e w2⟨rfl,rfl⟩;go_wp2_with fail;go_meet;exact⟨by rw[y.o];rfl,rfl⟩
    |false=>
     by_cases D:((s[k].toNat:Int)==47)=true
     ·go_wp2_with fail;with_reducible refine G.mono ?_
      rintro e w2⟨rfl,rfl⟩;go_wp2_with fail;go_meet;exact⟨by rw[y.o,D];rfl,rfl⟩
     have D:=AP.2 D;go_wp2_with fail;with_reducible refine G.mono ?_
     rintro e w2⟨rfl,rfl⟩;go_wp2_with fail;go_meet;exact⟨by rw[y.o,D];rfl,rfl⟩
   case rest=>
   obtain⟨rfl,c⟩:=hcut;obtain rfl:=c.symm;clear c G y;cases F:E4 s[k]with
   |true=>
    have z:=AB (by rw[←m.o,Y.o F]:Aa E4 s (k+1)=Aa E4 s j);clear F Y P m;go_wp2_with fail;go_roundw
    case rel=>exact⟨k+1,by go_num,by omega,z,by first|rfl|trivial⟩
    simp[intOf];omega
   |false=>
    have z:=AB (by rw[←m.o,P.o F]:Aa E4 s j=k);clear F Y P m;go_wp2_with fail;go_meet;exact⟨by rw[z.o],rfl⟩
  obtain rfl:k=s.length:=by omega
  have z:=AB (by rw[←m.o,Ph (AC _)]:Aa E4 s j=s.length);clear m;go_wp2_with fail;go_meet;exact⟨by rw[z.o],rfl⟩
 case rest=>
 obtain⟨rfl,c⟩:=hcut;obtain rfl:=c.symm;clear c;have a2:=a0.o;have H:=AB H.o;have M:=AB (fun e=>M.o _ e rfl);have b:=AB (fun e d=>b.o _ e d rfl);have L:=AB (fun e d=>L.o _ e d rfl);generalize Aa E4 s j=a at a2 H M b L⊢;clear a0;by_cases f':s.length≤a
 ·obtain rfl:a=s.length:=by omega
  have E:=H.o (Or.inl (AC _));have T:=AB (by rw[←f.o.1,E]:min (s.length+1) s.length=R.1);have U:=AB (by rw[←f.o.2,E];simp:out=R.2);clear E H M b L f;go_wp2_with fail;refine S.o (s.length+1) v w _ ⟨_,_,_,_,_,_,_,_,_,_,_,_,_,_,_,_,_,_,_,_,_,_,_,_,_,_,_,_,_,_,_,_,_,_,_,_,_,_,_,_,_,_,_,_,_,_,_,_,_,_,_,_,_,_,_,_,_,_,_,_,_,_,_,_,_,_,_,_,_,_,_,_,_,_,_,_,_,_,_,_,_,_,_,_,_,_,_,_,_,_,_,_,_,_,_,_,_,_,_,_,_,_,_,_,_,_,_,_,_,_,_,_,_,_,_,_,_,_,_,_,_,_,_,_,_,_,_,_,_,_,_,_,_,_,_,_,_,_,_,_,_,_,_,_,_,_,_,_,_,_,_,_,_,_,_,_,_,_,_,_,_,_,_,_,_,_,_,_,_,_,_,_,_,_,_,_,_,_,_,_,_,_,_,_,_,_,_,_,_,_,_,_,_,_,_,_,_,_,_,_,_,_,_,_,_,_,_,_,_,_,_,_,_,_,_,_,_,_,_,_,_,_,_,_,_,_,_,_,_,_,_,_,_,_,_,_,_,_,_,_,_,_,_,_,_,_,_,_,_,_,_,_,_,_,_,_,rfl⟩ (AC _) T (by rw[←U.o];exact J) C
 have A:a<s.length:=by omega
 have i':¬((s.length:Int)≤(a:Int)):=by omega
 have e':(s[a].toNat:Int)<256:=by have:=s[a].toNat_lt;omega
 by_cases I:((s[a].toNat:Int)==62)=true
 ·have i:s[a]=62:=BJ.1 (by have:=BG.1 I;simp;omega);have E:=H.o (Or.inr ⟨A,i⟩);have T:=AB (by rw[←f.o.1,E]:min (a+1) s.length=R.1);have U:=AB (by rw[←f.o.2,E];simp:out=R.2);clear E H M b L f i;go_wp2_with fail;refine S.o (a+1) v w _ ⟨_,_,_,_,_,_,_,_,_,_,_,_,_,_,_,_,_,_,_,_,_,_,_,_,_,_,_,_,_,_,_,_,_,_,_,_,_,_,_,_,_,_,_,_,_,_,_,_,_,_,_,_,_,_,_,_,_,_,_,_,_,_,_,_,_,_,_,_,_,_,_,_,_,_,_,_,_,_,_,_,_,_,_,_,_,_,_,_,_,_,_,_,_,_,_,_,_,_,_,_,_,_,_,_,_,_,_,_,_,_,_,_,_,_,_,_,_,_,_,_,_,_,_,_,_,_,_,_,_,_,_,_,_,_,_,_,_,_,_,_,_,_,_,_,_,_,_,_,_,_,_,_,_,_,_,_,_,_,_,_,_,_,_,_,_,_,_,_,_,_,_,_,_,_,_,_,_,_,_,_,_,_,_,_,_,_,_,_,_,_,_,_,_,_,_,_,_,_,_,_,_,_,_,_,_,_,_,_,_,_,_,_,_,_,_,_,_,_,_,_,_,_,_,_,_,_,_,_,_,_,_,_,_,_,_,_,_,_,_,_,_,_,_,_,_,_,_,_,_,_,_,_,_,_,_,_,rfl⟩ (by omega) T (by rw[←U.o];exact J) C
 have i:s[a]≠62:=fun h=>I (by rw[h];rfl)
 have M:=AB (fun e=>M.o e A i);have b:=AB (fun e d=>b.o e d A i);have L:=AB (fun e d=>L.o e d A i);have I:=AP.2 I;clear H i f';go_upto_if 75 with fail;go_cut[1] (fun x W=>x=.int .i64 (a:Int)∧W=w)
 case first=>
  go_wp2_with fail;go_meet;exact⟨rfl,rfl⟩
 case rest=>
 obtain⟨rfl,c⟩:=hcut;obtain rfl:=c.symm;clear c;apply_assumption;exact SP hs J C hB b' l a2.1 A f M b L HN.o c'.o S.o
end Go.Proofs.YtignjjnflcpiiaaGreatDoor
