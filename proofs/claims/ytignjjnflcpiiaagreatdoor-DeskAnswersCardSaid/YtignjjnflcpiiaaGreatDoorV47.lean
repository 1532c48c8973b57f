/- Lines that ask the document's desk by a number: at, lead. -/
import Derived.Test.YtignjjnflcpiiaaGreatDoorV45
set_option maxHeartbeats 16000000
set_option maxRecDepth 100000 set_option linter.all false
namespace Go.Proofs.YtignjjnflcpiiaaGreatDoor
open Go Go.RowKit Proofs.Tryz Lib
attribute [local go_sem] Jj Ln Lo Ik Kz
def qU(d:Nat)(D:Ap)(b:Al)(n:Bs)(v:Value)(x:Bs)(w:World)(h:Ke w d D v [x])(hn:n=Jj\/n=Ik)(N:D.bundle=some b):Calls prog 161 #[.pointer (some ⟨d,0,none⟩),n,v] w fun e F=>J5 (Cd D n [x]).2 e/\Below w.heap.size w F:=by
 have HA:=AE (show G7 D [x]=match E4 x with
  |none=>.error 3
  |some n=>match Hw b n with
   |none=>.error 2
   |some a=>.ok (Kb (Ea a))from by unfold G7;rw[AL ah,N];rfl)
 have HL:=AE (show G9 D [x]=match E4 x with
  |none=>.error 3
  |some n=>match Ca b n with
   |none=>.error 2
   |some l=>.ok (108::101::97::100::115::32::D4 (l.map F5))from by unfold G9;rw[AL ah,N];rfl)
 obtain⟨A,a2⟩:∃a,(Cd D n [x]).2=a:=⟨_,rfl⟩;rw[a2];have X:=AE (show(n=Jj/\A=G7 D [x])\/(n=Ik/\A=G9 D [x])from by
  rcases hn with rfl|rfl
  ·exact Or.inl ⟨rfl,a2.symm⟩
  exact Or.inr ⟨rfl,a2.symm⟩)
 have HE:=AE (show E4 x=none->A=.error 3 from fun e=>by
  rcases X.o with⟨_,h⟩|⟨_,h⟩
  ·rw[h,HA.o,e]
  rw[h,HL.o,e])
 have a8:=AE (show∀i,E4 x=some i->¬(0<=i/\i<=(b.places.length:Int)-1)->A=.error 2 from fun i e hi=>by
  rcases X.o with⟨_,h⟩|⟨_,h⟩
  ·rw[h,HA.o,e];simp only;rw[zj hi]
  rw[h,HL.o,e];simp only;rw[zk hi])
 clear a2;obtain⟨bp,hk,hR,hB⟩:=h.dB N;have kc:=hk.cell;obtain⟨bk,o,c,rfl,c6,j3,a3⟩:=h.rd;have hc:=a3 0 x rfl;rw[BI]at hc;have j4:=h.each x ah;have hP:=zg x w aa h.g;have hg:=h.g;have P:=hB.into;have hR:=Ej.Ac (Q:=fun _=>True) (fun _ _ _=>trivial) hR;have HR:=AE hR;obtain⟨j5,sa,si,_,R,d9,G,_⟩:=hR;obtain⟨s0,sn,sc⟩:=sa;obtain rfl:sn=b.places.length:=by
  obtain⟨a,c,e,_⟩:=G;injection e
 have e1:=P.whole.head.2.2;have e2:=AE P.places;have e1:b.places.length<=1000000:=by have:=P.places;omega
 unfold Ii at R;simp only[A9]at R G;have kb:=R.cell;have c7:=AE G;have hz:wrap64 ((b.places.length:Int)-1)=(b.places.length:Int)-1:=da
 clear h a3 d9 N hn G hB;go_enter func161,ntmps161;go_upto_region 4 with fail;go_cut[33] (fun t wx=>t=true/\wx=w)
 case first=>
  rcases X.o with⟨rfl,_⟩|⟨rfl,_⟩
  ·go_wp2;go_meet;exact⟨rfl,rfl⟩
  go_wp2;go_meet;exact⟨rfl,rfl⟩
 case rest=>
 obtain⟨rfl,c8⟩:=hcut;obtain rfl:=c8.symm;clear c8;go_wp2_with fail;with_reducible refine hP.mono ?_
 rintro e f⟨hh,C⟩;have a9:=hg.next C;have b0:=hk.next C hk.lt;have b1:=R.next C R.lt;have b3:f.cell? ⟨bk,o,none⟩=some (.string ⟨x.toArray⟩):=(C.cell (p:=⟨bk,o,none⟩) c6).trans hc;have e3:bk<f.heap.size:=BN c6 C.size;clear hP kc hc kb hk R hg;rcases hh with⟨i,ha,rfl⟩|⟨c9,u,t,p,rfl⟩
 case inr=>
  have H:=AE (HE.o c9);clear c9;go_upto_region 6 with fail;go_quiet(fail);go_wp2;go_ret2;exact⟨sy,CO C _⟩
 have b4:=bZ ha;have b5:=fun W(hW:Below f.heap.size f W)=>zh i b4.1 b4.2 W (a9.next hW)
 have J:=AE (by unfold E4;rw[ha]:E4 x=if itoa i=x then some i else none);generalize itoa i=T at b5 J;clear ha;go_upto_region 6 with fail;go_cut[50] (fun t wx=>t=.bool (T !=x)/\Below f.heap.size f wx)
 case first=>
  have e4:f.drew.cell? ⟨bk,o,none⟩=some (.string ⟨x.toArray⟩):=b3;have K0:=(AG f.heap.size f).drew;go_region_held3(fun W=>W.cell? ⟨bk,o,none⟩=some (.string ⟨x.toArray⟩)/\Below f.heap.size f W)
   (first
    |with_reducible exact⟨e4,K0⟩
    |with_reducible exact⟨(K.cell (p:=⟨bk,o,none⟩) e3).trans b3,K⟩)
   ((first|(go_at_call 248;go_split_ands;with_reducible refine(b5 _ ax).mono ?_;rintro e j6⟨rfl,N⟩;have K:=Bp N (w0:=f) ax)))
  all_goals go_split_ands
  all_goals
   go_wp2;go_meet;exact⟨rfl,ax⟩
 case rest=>
 obtain⟨rfl,b2⟩:=hcut;obtain⟨U,rfl⟩:∃x:World,x=wc:=⟨_,rfl⟩;have r:=C.trans (b2.mono C.size);have e5:=(b0.next b2 b0.lt).cell;have e6:=(b1.next b2 b1.lt).cell;have b6:=a9.next b2;have e7:=AE r;clear b5 b0 b1 b3 a9;cases a0:(T !=x)with
 |true=>
  have H:=AE (HE.o (by rw[J.o,AL (fun e=>by rw[e]at a0;simp at a0)]));clear a0;go_wp2;go_ret2;exact⟨sy,r⟩
 |false=>
 have J:=AE (by rw[J.o,AN (by simpa using a0)]:E4 x=some i);have hI:=Ju i 0 ((b.places.length:Int)-1) U;clear a0;by_cases hr:0<=i/\i<=(b.places.length:Int)-1
 case neg=>
  have H:=AE (a8.o i J.o hr);have hI:Calls prog 65 #[i,.int .i64 0,.int .i64 ((b.places.length:Int)-1)] U fun e F=>e=.returned false/\F=U:=hI.mono fun e F h=>⟨by rw[h.1];by_cases h0:0<=i<;>simp[h0]<;>omega,h.2⟩
  clear hr;go_wp2_with fail;with_reducible refine hI.mono ?_
  rintro e M⟨rfl,hw⟩;obtain rfl:=hw.symm;go_wp2;go_ret2;exact⟨sy,r⟩
 have hI:Calls prog 65 #[i,.int .i64 0,.int .i64 ((b.places.length:Int)-1)] U fun e F=>e=.returned true/\F=U:=hI.mono fun e F h=>⟨by rw[h.1,BH hr.1,BH hr.2];rfl,h.2⟩
 obtain⟨k,rfl⟩:∃k:Nat,i=k:=⟨i.toNat,aa⟩;have a4:k<b.places.length:=aa
 have j7:(k:Int)<(b.places.length:Int):=aa
 clear hr b4;go_wp2_with fail;with_reducible refine hI.mono ?_
 rintro e M⟨rfl,hw⟩;obtain rfl:=hw.symm;clear hI hw;go_upto_region 11 with fail;rcases X.o with⟨rfl,g⟩|⟨rfl,g⟩
 ·unfold Jj;have H:=AE (show A=.ok (105::115::32::Ea b.places[k])from g.trans (by
   rw[HA.o,J.o];simp only;rw[(by unfold Hw;rw[AL aa];simp[a4]:Hw b (k:Int)=some b.places[k])];rfl))
  have G:=c7.o;obtain⟨ab,rfl,_,e8,d0⟩:=G.at Lj k a4;have e9:=P.placeL _ (AQ a4);have b7:=fun W=>Zr b.places[k] W aa
  have d1:=Pp b.places[k];have j:=fun i hi=>((e7.o).cell (p:=⟨ab,k*8+i,none⟩) e8).trans (d0 i hi)
  generalize b.places[k]=a at H e9 b7 j d1;generalize Ea a=wa at H b7 d1;have f0:=j 0 ae;have f1:=j 1 ae;have f2:=j 2 ae;have f3:=j 3 ae;have f4:=j 4 ae;have f5:=j 5 ae;have f6:=j 6 ae;have f7:=j 7 ae;simp only[Gm,BI,AU,AR]at f0 f1 f2 f3 f4 f5 f6 f7;clear j d0 G HA HL HE a8 X g;go_wp2_with fail;with_reducible refine(b7 _).mono ?_
  rintro e w4⟨rfl,f8⟩;go_wp2;go_ret2;exact⟨bu,r.trans (f8.mono r.size)⟩
 unfold Ik;have H:=AE (show A=match Ca b (k:Int)with
  |none=>.error 2
  |some l=>.ok (108::101::97::100::115::32::D4 (l.map F5))from g.trans (by rw[HL.o,J.o]))
 have b8:=pX (fun _=>True) bp b (k:Int) U (HR.o.next r) P b6.r aa aa;have s:=fun l(h:Ca b (k:Int)=some l)=>cS P h
 have f9:∃l,Ca b (k:Int)=some l:=by
  have h2:k<b.whole.parts.length:=by have:=e2.o;omega
  unfold Ca;rw[AL aa];simp[a4,h2]
 obtain⟨L,hL⟩:=f9;rw[hL]at b8 H s;have HN:=AE (show A=.ok (108::101::97::100::115::32::D4 (L.map F5))from H.o);have s:=s L rfl;clear hL HA HL HE a8 H c7 X g;go_wp2_with fail;with_reducible refine b8.mono ?_
 rintro e M⟨hh,b9⟩;rcases hh with⟨L',vL,V,rfl,d2⟩|⟨V,_⟩
 case inr=>cases V
 cases V;have B3:=r.trans (b9.mono r.size);have g0:=b6.next b9;have d3:=A1.Dq ae Lk d2;obtain⟨la,lc,g1,_⟩:=d3.rd;subst g1;have g2:=AE s.2;have j8:=s.1;have g3:=B3.size;have g4:=AE B3;clear s d2 b9 r B3 b6 e6 e5 b8;go_wp2_with fail;go_loopw[18,140] (fun ov T wr=>∃(k:Nat)(O:List Bs),T=k/\k<=L.length/\O.length<=k/\Do wr M.heap.size ov O/\Hid (O++(L.drop k).map F5=L.map F5)/\Hid (∀x∈O,x.length<=8000000)/\Below M.heap.size M wr) (fun _ T _=>L.length-(intOf T).toNat)
 case atStart=>exact⟨0,[],rfl,aa,ah,A1.nil _ _ _ _ _,AE ah,AE (fun x h=>ee),AG _ _⟩
 obtain⟨k,O,rfl,hk,j9,E,a5,HO,B⟩:=hrel;have g5:=B.size;by_cases c0:k<L.length
 ·obtain⟨lb,rfl,_,s,c1⟩:=d3.at Lk k c0;have e0:=(B.cell (p:=⟨lb,k*2+0,none⟩) s).trans (c1 0 ae);have V:=(B.cell (p:=⟨lb,k*2+1,none⟩) s).trans (c1 1 ae);have Z:=g2.o _ (AQ c0);have HS:=AE (show∀y,L[k]=y->(O++[F5 y])++(L.drop (k+1)).map F5=L.map F5 from fun y hy=>by
   rw[<-a5.o,AH c0,CD,hy];simp)
  have HS:=AE (HS.o _ rfl);clear c1 a5;generalize L[k]=y at e0 V Z HS;obtain⟨Y,m⟩:=y;simp only[Ji,BI,AU,AR]at e0 V Z;have a1:=AE (ca:F5 (Y,m)=C1 Y++32::itoa m);have d4:=fun W hW=>Fj m Z.2.1 Z.2.2 W hW
  have g6:=BE m Z.2.1 Z.2.2;have d5:=fun W=>Ov Y W aa
  have g7:=L2 Y;generalize F5 (Y,m)=lt at HS a1;generalize itoa m=I at d4 g6 a1;generalize C1 Y=S at d5 g7 a1;have g8:=AE (fun e=>FO _ (A1.Dj E wr.heap.size e));have BA:=(AG wr.heap.size wr).alloc (AF _) (.cells #[Y,m] 64);have k7:=A0.new wr #[Y,m] 64;have E:=A1.next E BA;have B1:=B.trans (BA.mono g5);have c2:=g0.next B1;go_upto_region 31 with fail;generalize World.alloc _ _=q at BA k7 E B1 c2|-;have g9:=k7.drew.cell;have h1:=AE (show Gz q.drew from c2.next (AG q.heap.size q).drew);have h3:=AE (show A0 q.drew wr.heap.size #[Y,m] 64 from k7.drew);have h4:=AE (show wr.heap.size<q.drew.heap.size from k7.lt);have h5:=AE E;have a6:=AE B1;have z1:¬9223372036854775807<S.length+1:=aa
  have z2:¬9223372036854775807<S.length+1+I.length:=aa
  have q1:=AE (ag:(O.length+[(S++32::I:Bs)].length)*16<=140737488355328);have q2:=AE (ao:O.length+[(S++32::I:Bs)].length<=maxLen);have h6:=AE (show∀x∈O++[lt],x.length<=8000000 from fun x g=>by
   rcases BY.1 g with g|g
   ·exact HO.o x g
   rw[CS.1 g,a1.o];simp only[AJ,AK];omega)
  clear c2 k7 E
  go_region_held_law (fun W=>∀k,W.cell? ⟨wr.heap.size,k,none⟩=(#[.string ⟨Y.toArray⟩,.int .i64 m])[k]?)
   (first
    |with_reducible exact g9
    |with_reducible exact h7
    |with_reducible exact h8
    |with_reducible exact h9
    |with_reducible exact i0)
   ((
    first
    |(refine Lg (α:=Bs) (cs:=Bl) (size:=1) (z:=.string ByteArray.empty) By R8 R7 rfl ae underlying55 rfl _ _ rfl M.heap.size _ O [(S++32::I:Bs)] ⟨c3.heap.size,0,none⟩ 1 1 rfl ae rfl i1.o rfl i2 q1.o q2.o i3.o ?_;intro v' k0 i4 i5 i6;have i0:=(Lv d6.o i5 (fun e=>g8.o e.symm)).cell)
    |(go_simp;with_reducible refine(d5 _).mono ?_;rintro e k1⟨rfl,c4⟩;have i7:=AE (Bp c4 (w0:=q) ((AG q.heap.size q).drew));have i8:=AE (Gz.next h1.o c4);have c5:=AE (A0.next h3.o c4 h4.o);have h7:=c5.o.cell)
    |(go_simp;with_reducible refine(d4 _ i8.o).mono ?_;rintro e c3⟨rfl,d7⟩;have a7:=AE (Bp d7 (w0:=q) i7.o);have d8:=AE (A0.next c5.o d7 (A0.lt c5.o));have h8:=d8.o.cell;have i1:=AE (A1.alloc (A1.next (w:=q) h5.o a7.o) (.cells #[(S++32::I:Bs)] 9));have i2:=Il c3 (S++32::I) 9;have d6:=AE (d8.o.alloc (.cells #[(S++32::I:Bs)] 9));have h9:=d6.o.cell;have i3:=AE (by have i9:=a7.o.size;have h2:=a6.o.size;simp at i9 h2|-;omega:M.heap.size<=(c3.alloc (.cells #[(S++32::I:Bs)] 9)).heap.size))))
  all_goals
   go_wp2;go_roundw
   case rel=>exact⟨k+1,O++[lt],aj,aa,ag,by rw[a1.o];exact i4,HS,h6,((a6.o.trans (a7.o.mono a6.o.size)).alloc (AV a6.o.size a7.o.size) _).trans i6⟩
   simp[intOf];omega
 obtain rfl:k=L.length:=aa
 have H:=AE (by rw[<-a5.o,AS];simp:L.map F5=O);have a3:=T2 HO.o;have j0:(D4 O).length<=3000102000000:=by
  have:=CV (8000000+2) (show O.length<=60002 by omega);omega
 have hJ:=T3 _ _ O wr E aa aa;have HN:=AE (by rw[HN.o,H.o]:A=.ok (108::101::97::100::115::32::D4 O));generalize D4 O=ct at hJ HN j0;obtain⟨oa,oc,j1,_⟩:=A1.rd ae By E;subst j1;clear a3 a5 H;go_wp2_with fail;with_reducible refine hJ.mono ?_
 rintro e w6⟨rfl,j2⟩;go_wp2;go_ret2;exact⟨by rw[HN.o];rfl,(g4.o.trans (B.mono g3)).trans (j2.mono aa)⟩
end Go.Proofs.YtignjjnflcpiiaaGreatDoor
