/- The parts, bound, in the document's answer's Bind. Condit -/
import Derived.Test.YtignjjnflcpiiaaGreatDoorV40
import Derived.Test.YtignjjnflcpiiaaGreatDoorV42
import Derived.Test.YtignjjnflcpiiaaGreatDoorV43
set_option maxHeartbeats 16000000
set_option maxRecDepth 100000 set_option linter.all false
namespace Go.Proofs.YtignjjnflcpiiaaGreatDoor
open Go Go.RowKit Proofs.Tryz Lib
variable {n B k T u C bp wc A I:Nat}{e s:Bs}{K i:Int}{P:Nat → Prop}{h5 c1:Ending → World → Prop}{ac:Act}{f:A4}
def xq{v:Bs}{k:Int}(h:(Co e k).length<=n):(F4 e v k).length<=n+4+v.length:=by
 unfold F4;split
 ·omega
 cases H:Be v with
 |none=>simp;omega
 |some a=>
  simp only;rw[iQ H];cases c:Ao [35] v with
  |none=>simp;omega
  |some x=>
   obtain⟨x,y⟩:=x;have:=CI List.length (F7 c);simp at this|-;omega
def xr{b:Al}{a:A3}{v:Bs}(h:0<=(Fv b a v).2):∃x,Be v=some x:=by
 unfold Fv at h;cases H:Be v with
 |none=>rw[H]at h;simp at h
 |some x=>exact⟨x,rfl⟩
def xt(b:Al)(p:A7)(a:A3)(i:Nat)(H:i<(Fw b p a).length)(d:i<(Bf p.body).length)(h:0<=((Fw b p a)[i]).2):∃x,Be ((Bf p.body)[i]).2.2=some x:=by
 unfold Fw at H h;split at H
 ·rename_i c;simp only[c,DK,List.getElem_map]at h;exact xr h
 simp at H
def cO.get{l:List Ij}{e:Ending}{w':World}(h:cO B (some l) e w'):∃(L:Option Go.Addr)(b:Nat),e=.returned (.tuple #[.slice L l.length b,.int .i64 0])/\Uz w' B (.slice L l.length b) l:=by
 rcases h with⟨i,v,H,f,d⟩|⟨H,_⟩
 ·cases H;obtain⟨a,c,g,_⟩:=A1.rd ae Lk d;subst g;exact⟨a,c,f,d⟩
 cases H
def V9(b:Al):Prop:=∀p∈b.whole.parts,p.many=false/\p.parts=[]
def xv{b:Al}{p:A7}(h:p.many=false/\p.parts=[]):Jg b e k p=.mk (O3 e k p.head) (Jx e p.body ((Ca b k).getD [])) false []:=by
 unfold Jg;rw[h.1,h.2]
def xw{b:Al}{l:List A7}(h:k<l.length):Fl b e k (l.drop k)=Jg b e k l[k]::Fl b e (k+1) (l.drop (k+1)):=by
 rw[AH h];rfl
def xx{wa:Option Go.Addr}{b:Al}{L:List A4}{w:World}
  (h6:Ho 213 [(1,.pointer (some ⟨T,0,none⟩)),(6,.func (.func 72) #[] #[.pointer (some ⟨u,0,none⟩)]),(7,.pointer (some ⟨C,0,none⟩))] ac) (a6:w.cell? ⟨T,0,none⟩=some (.pointer (some ⟨bp,0,none⟩))) (e5:w.cell? ⟨u,0,none⟩=some K) (h7:T≠C) (h8:u≠C) (c4:¬P C) (hb:Ej P w bp b) (c5:Fx b) (h9:V9 b)
  (n6:(64::98::itoa K:Bs).length<=23) (i0:-9223372036854775808<=K) (i1:K<=9223372036854775807) (e6:8<C)
  (U:A0 w C #[.slice wa L.length wc,.string ⟨#[]⟩,true,.slice none 0 0] 44) (n7:Ba 2 Bc (fun q=>q≠C) w (.slice wa L.length wc) L)
  (i2:He 4 (.mk L [] true (Fl b (64::98::itoa K) 0 b.whole.parts))) (hg:Gz w)
  (hR:∀e w',Xx (Iu (.mk L [] true (Fl b (64::98::itoa K) 0 b.whole.parts))) e->A5 C w.heap.size w w'->h5 e w'):
  Code.wp prog Ux (bodyPost prog f26 h5) ac w:=by
 obtain⟨fr,rfl⟩:=h6.op;clear h6;simp only[Fp,↓reduceIte,Nat.reduceAdd,Nat.reduceEqDiff];have HR:=AE hR;have n8:=AE i2;have i3:T<w.heap.size:=BJ w _ a6;have i4:u<w.heap.size:=BJ w _ e5;have i5:=U.lt;have HB:=AE hb;have n9:=AE h9;have i6:=c5.whole;have r9:=i6.head.2.2;have s0:=c5.places;have i7:∀k:Nat,k<=9223372036854775807->(Co (64::98::itoa K) k).length<=48:=fun k hk=>by have:=Xo (64::98::itoa K) k hk;omega
 have o0:=AE i7;obtain⟨e7,sa,si,o1,e8,i8,_,_⟩:=hb;obtain⟨o2,e9,o3,i9⟩:=i8.parts;obtain⟨⟨ra,rn,rc⟩,rb,rm,⟨s1,o4,s2⟩⟩:=e7;have o5:o4=b.whole.parts.length:=by
  obtain⟨a,c,e,_⟩:=e9;injection e with _ e _;exact e.trans o3
 subst o5;unfold Ii at e8;simp only[A9]at e8 e9;have o6:=AE i9;have s3:bp≠C:=fun e=>c4 (e▸o1)
 have kb:=e8.cell;clear hR i2 i8 i9 h9 i7;generalize o7:bodyPost prog f26 _=QQ;delta Ux Px f26;dsimp only[Ak,Option.getD];subst o7;go_wp2_with fail;go_loopw[109] (fun iv wr=>∃(k:Nat)(D:List A7)(R:List Au)(sl:Je),iv=k/\k<=b.whole.parts.length/\D.length=k/\R.length=k/\A0 wr C #[.slice wa L.length wc,.string ⟨#[]⟩,true,A9 sl] 44/\Gk wr w.heap.size (A9 sl) R/\Hid (∀j(H:j<R.length)(d:j<D.length),A8 (fun q=>w.heap.size<=q/\(A9 sl).ownBlock≠some q) 3 wr R[j] D[j])/\Hid (D++Fl b (64::98::itoa K) k (b.whole.parts.drop k)=Fl b (64::98::itoa K) 0 b.whole.parts)/\A5 C w.heap.size w wr) (fun iv _=>b.whole.parts.length-(intOf iv).toNat)
 case atStart=>exact⟨0,[],[],(none,0,0),rfl,aa,rfl,rfl,U,A1.nil _ _ _ _ _,AE (fun j H=>by simp at H),AE ah,A5.refl _ _ _⟩
 clear U;obtain⟨k,D,R,sl,rfl,s4,s5,s6,U,a7,c6,HA,B⟩:=hrel;obtain⟨c7,c8,c9⟩:=sl;simp only[A9]at U a7 c6;have f0:=B.size;by_cases t:k<b.whole.parts.length
 ·obtain⟨pb,rfl,o8,d0,b3⟩:=e9.at Dx k aa;have d1:pb≠C:=fun e=>c4 (e▸o8)
  have b4:=o6.o k aa t;have f1:=i6.part (AQ t);have j0:=n9.o _ (AQ t);have b5:=pC t (show k<b.places.length by omega);have b6:=xv (b:=b) (e:=64::98::itoa K) (k:=k) j0;rw[b5,DA]at b6;have X:=AE (show∀y,Jg b (64::98::itoa K) k b.whole.parts[k]=y->(D++[y])++Fl b (64::98::itoa K) (k+1) (b.whole.parts.drop (k+1))=Fl b (64::98::itoa K) 0 b.whole.parts from fun y hy=>by
   rw[<-HA.o,xw t,hy];simp)
  have f2:=(B.cell (p:=⟨pb,k*4+0,none⟩) d0 d1).trans (b3 0 ae);have f3:=(B.cell (p:=⟨pb,k*4+1,none⟩) d0 d1).trans (b3 1 ae);have f4:=(B.cell (p:=⟨pb,k*4+2,none⟩) d0 d1).trans (b3 2 ae);have f5:=(B.cell (p:=⟨pb,k*4+3,none⟩) d0 d1).trans (b3 3 ae);have d2:=Xk b b.whole.parts[k] b.places[k];have b7:=Xm c5 b.whole.parts[k] b.places[k];have d3:=xt b b.whole.parts[k] b.places[k];clear b3 HA j0;generalize b.whole.parts[k]=q at b4 f1 b5 b6 X d2 b7 d3;generalize o2[k]' aa=e7 at b4 f2 f3 f4 f5;generalize Fw b q b.places[k]=ll at b5 b6 d2 b7 d3;have X:=AE (X.o _ b6);clear b6;have j1:=b4.body;have a8:=b4.hd;obtain⟨⟨qa,qn,qc⟩,qb,qm,⟨d4,d5,d6⟩⟩:=e7;simp only at j1;subst j1;simp only[Dk,A9,BI,AU,AR]at f2 f3 f4 f5 a8;have o9:qn=q.head.length:=by
   obtain⟨a,c,e,_⟩:=a8;injection e
  subst o9;have j2:=F1 f1.head.1;have p0:=f1.head.2.1;clear b4;have a8:Ba 2 Bc (fun x=>x≠C/\x<w.heap.size) wr (.slice qa q.head.length qc) q.head:=(a8.Ac (fun x H d=>⟨fun e=>c4 (e▸H),d⟩)).keep f0 (fun x H d=>B.block x d H.1);have a0:=A0.new wr #[.slice qa q.head.length qc,q.body,qm,.slice d4 d5 d6] 44;have V:=(AG wr.heap.size wr).alloc (AF _) (.cells #[.slice qa q.head.length qc,q.body,qm,.slice d4 d5 d6] 44);have f6:(wr.alloc (.cells #[.slice qa q.head.length qc,q.body,qm,.slice d4 d5 d6] 44)).heap.size=wr.heap.size+1:=ah
  go_upto_region 27 with fail;generalize World.alloc _ _=w1 at a0 V f6|-;have p1:=a0.cell;go_cut[19] (fun v A=>v=.pointer (some ⟨wr.heap.size+1,0,none⟩)/\A0 A (wr.heap.size+1) #[.slice none 0 0,q.body,false,.slice none 0 0] 44/\Below w1.heap.size w1 A/\A.heap.size=w1.heap.size+1)
  case first=>
   have kn:=A0.new w1 #[.slice none 0 0,q.body,false,.slice none 0 0] 44;rw[f6]at kn;go_wp2;go_meet;exact⟨by first|rfl|rw[f6],kn,(AG _ _).alloc (AF _) _,ah⟩
  case rest=>
  obtain⟨rfl,j3,B2,s7⟩:=hcut;obtain⟨M,rfl⟩:∃x:World,x=wc:=⟨_,rfl⟩;have a0:=a0.next B2 a0.lt;have BB:=V.trans (B2.mono V.size);have j4:=a8.keep (w':=M) aa (fun x H d=>BB.block x d);have j5:=(hg.Ai B e6).next BB;have f7:=(BB.cell (p:=⟨T,0,none⟩) ai).trans ((B.cell (p:=⟨T,0,none⟩) i3 h7).trans a6);have d7:=(BB.cell (p:=⟨u,0,none⟩) ai).trans ((B.cell (p:=⟨u,0,none⟩) i4 h8).trans e5);have j6:=U.next BB U.lt;have a2:=A1.Dj a7;have j7:=A1.next a7 BB;have j8:=B.next BB f0;have j9:=AE (fun j H d=>(A8.Ac (Q:=fun x=>(w.heap.size<=x/\(Value.slice c7 c8 c9).ownBlock≠some x)/\x<wr.heap.size) (fun x E t=>⟨E,t⟩) (c6.o j H d)).next BB);clear p1 V B2 f2 f3 f4 f5 a8;apply_assumption;refine wp_seq_k (fun K1 p2=>?_);refine ts a0 j3 (j4.Ac fun x H d=>aa) (j2.mono ae) ⟨_,rfl,rfl,rfl⟩ ?_;intro F oa oc ac b8 f8 d8 N;obtain⟨gr,rfl⟩:=b8.op;clear b8;simp only[List.foldl,List.set,Kk,↓reduceIte,Nat.reduceAdd,Nat.reduceLeDiff,Nat.reduceEqDiff];refine p2 _ _ ?_;have k0:=N.size;have k1:=a0.Ai N aa;have k2:=j6.Ai N aa;have k3:=j5.Ai N (by have:=U.lt;omega);have f7:=(N.cell (p:=⟨T,0,none⟩) ai ai).trans f7;have d7:=(N.cell (p:=⟨u,0,none⟩) ai ai).trans d7;have k4:=A1.J1 j7 fun g hv=>N.block g qy qy
  have k5:=AE (fun j H d=>A8.keep (w':=F) k0 (fun x E t=>N.block x t (by have:=E.2;omega)) (j9.o j H d));have k6:A5 C w.heap.size w F:=j8.trans (A5.of ((N.mono (show w.heap.size<=M.heap.size by omega)).shut (show w.heap.size<=wr.heap.size+1 by omega)));unfold O3 at X;have p3:(q.head.filter fun f=>!(A2 f.1==A2 C9)).length<=20000:=AV (JH _ _) j2.1;generalize(q.head.filter fun f=>!(A2 f.1==A2 C9))=i at f8 d8 X p3;have f9:=o0.o k aa;have g0:=fun W hc hg=>cL (k:Int) K u W aa aa i0 i1 hc hg
  generalize Co (64::98::itoa K) (k:Int)=n at g0 f9 X;unfold C9 Fu at X;clear N j4 j6 j5 j7 j9 j8 a0 j3;go_upto_region 34 with fail;go_cut[145] (fun _ A=>∃(o:Option Go.Addr)(O:Nat),A0 A (wr.heap.size+1) #[.slice o (i.length+1) O,q.body,false,.slice none 0 0] 44/\Bt A M.heap.size (.slice o (i.length+1) O) (i++[([67,111,110,116,101,110,116,45,73,68],60::(n++[62]))])/\A5 (wr.heap.size+1) M.heap.size F A)
  case first=>
   have g1:=(A0.drew f8);have s8:=g1.cell;have p4:F.drew.cell? ⟨u,0,none⟩=some K:=d7;have p5:=k3.next ((AG F.heap.size F).drew);have p6:=AE d8;have s9:¬9223372036854775807<1+n.length:=aa
   have t0:¬9223372036854775807<n.length+1+1:=aa
   have q1:=AE (ag:(i.length+[(([67,111,110,116,101,110,116,45,73,68]:Bs),(60::(n++[62]):Bs))].length)*32<=140737488355328);have q2:=AE (ao:i.length+[(([67,111,110,116,101,110,116,45,73,68]:Bs),(60::(n++[62]):Bs))].length<=maxLen);have k7:=AE (aa:wr.heap.size+1<M.heap.size);clear X d8;go_region_law((first
    |(refine Lg (α:=A4) (cs:=Bc) (size:=2) (z:=.agg #[.string ByteArray.empty,.string ByteArray.empty]) Af M0 My rfl ae underlying42 rfl _ _ rfl M.heap.size _ i [(([67,111,110,116,101,110,116,45,73,68]:Bs),(60::(n++[62]):Bs))] ⟨m.heap.size,0,none⟩ 1 1 rfl ae rfl d9.o rfl p7.o q1.o q2.o p8.o ?_;intro v' w5 e0 g2 k8;obtain⟨o,O,k9,_⟩:=A1.rd Nat.two_pos Af e0;rw[AJ,FF]at k9;subst k9;have a3:=(a4.alloc (.cells #[([67,111,110,116,101,110,116,45,73,68]:Bs),(60::(n++[62]):Bs)] 92)).next k8 k7.o;have t1:=a3.cell;have t2:=a3.free)
    |(go_simp;with_reducible refine(g0 _ p4 p5).mono ?_;rintro r m⟨rfl,l0⟩;have a4:=g1.next l0 g1.lt;have t3:=a4.cell;have t4:=(a4.alloc (.cells #[([67,111,110,116,101,110,116,45,73,68]:Bs),(60::(n++[62]):Bs)] 92)).cell;have K4:=AE (Bp l0 (w0:=F) ((AG F.heap.size F).drew));have d9:=AE (A1.alloc (A1.next (w:=F) p6.o K4.o) (.cells #[([67,111,110,116,101,110,116,45,73,68]:Bs),(60::(n++[62]):Bs)] 92));have p7:=AE (I0 m ([67,111,110,116,101,110,116,45,73,68],60::(n++[62])) 92);have p8:=AE (by have:=K4.o.size;simp;omega:M.heap.size<=(m.alloc (.cells #[([67,111,110,116,101,110,116,45,73,68]:Bs),(60::(n++[62]):Bs)] 92)).heap.size))))
   all_goals
    go_wp2;go_meet;exact⟨o,O,a3.set 0 _,e0.A6 k7.o _,((A5.of ((K4.o.mono k0).alloc (by have:=K4.o.size;omega) _)).trans (A5.of k8)).set _⟩
  case rest=>
  obtain⟨o,O,a4,d9,b9⟩:=hcut;obtain⟨m,rfl⟩:∃x:World,x=wc:=⟨_,rfl⟩;have p9:=b9.size;have g3:A0 m wr.heap.size #[.slice qa q.head.length qc,q.body,qm,.slice d4 d5 d6] 44:=(b9.block wr.heap.size aa aa).trans k1;have a1:A5 C w.heap.size w m:=k6.trans (A5.of ((b9.mono (show w.heap.size<=M.heap.size by omega)).shut (show w.heap.size<=wr.heap.size+1 by omega)));have g4:∀x,x<wr.heap.size->m.heap[x]?=F.heap[x]?:=fun x E=>b9.block x aa aa
  have g5:A0 m C #[.slice wa L.length wc,.string ⟨#[]⟩,true,.slice c7 c8 c9] 44:=(g4 C aa).trans k2;have l1:=A1.J1 k4 fun g hv=>g4 g (a2 g hv)
  have l2:=AE (fun j H d=>A8.keep (w':=m) p9 (fun x E t=>g4 x E.2) (k5.o j H d));have g6:=hg.Ai a1 e6;have l3:m.cell? ⟨u,0,none⟩=some K:=(a1.cell (p:=⟨u,0,none⟩) i4 h8).trans e5;have q0:m.cell? ⟨T,0,none⟩=some (.pointer (some ⟨bp,0,none⟩)):=(a1.cell (p:=⟨T,0,none⟩) i3 h7).trans a6;have l4:=HB.o.keep (w':=m) a1.size (fun x hP t=>a1.block x t (fun e=>c4 (e▸hP)));have g7:=pX P bp b (k:Int) m l4 c5 g6.r aa aa;rw[b5]at g7;clear b9 g0 k2 k4 k5 k3 k6 f7 d7 f8 d8 l4 k1;go_upto_region 36 with(with_reducible refine g7.mono ?_;rintro r w5⟨hh,G⟩;obtain⟨la,lc,rfl,e0⟩:=hh.get);have t5:=G.size;have e1:=g3.next G g3.lt;have a3:=a4.next G a4.lt;have g8:=g5.next G g5.lt;have l5:=A1.next l1 G;have l6:=A1.next d9 G;have l7:=AE (fun j H d=>(l2.o j H d).next G);have g9:=a1.next G a1.size;have g2:=g6.next G;have l8:=(G.cell (p:=⟨u,0,none⟩) ai).trans l3;clear g7 G g3 a4 g5 l1 d9 l2 a1 g6 l3 q0;go_cut[24] (fun v A=>v=.slice none 0 0/\A=w5)
  case first=>
   go_wp2;go_meet;exact⟨rfl,bo⟩
  case rest=>
  obtain⟨rfl,l9⟩:=hcut;obtain rfl:=l9.symm;clear l9;apply_assumption;refine wp_seq_k (fun K2 q3=>?_);refine tt e1 l8 i0 i1 (A1.rd ae Lk e0) rfl p0 d2 b7 d3 g2 ⟨_,rfl,rfl,rfl⟩ ?_;intro w6 a9 va vc ac b8 e2 q4 Y;obtain⟨gr,rfl⟩:=b8.op;clear b8;simp only[List.foldl,List.set,Kk,↓reduceIte,Nat.reduceAdd,Nat.reduceLeDiff,Nat.reduceEqDiff];refine q3 _ _ ?_;have t6:=Y.size;have m0:=e1.next Y e1.lt;have c0:=a3.next Y a3.lt;have m1:=g8.next Y g8.lt;have m2:=A1.next l5 Y;have m3:=A1.next l6 Y;have m4:=AE (fun j H d=>(l7.o j H d).next Y);have m5:=g9.next Y g9.size;have b0:=AE (show Jx (64::98::itoa K) q.body ll=if ll=[]then q.body else(I7 q.body a9).getD []from by
   unfold Jx;split
   ·rfl
   rw[e2])
  have m6:a9.length<=1000000:=by
   have H:=(I3 q.body).2;rw[e2];simp only[DQ,FK];omega
  have m7:∀x∈a9,x.length<=1000000:=by
   intro x E;rw[e2]at E;obtain⟨z,hz,rfl⟩:=DN.1 E;have t7:=O5 q.body _ (List.of_mem_zip hz).1;have m8:=b7 _ (List.of_mem_zip hz).2;have f9:(Co (64::98::itoa K) z.2.2).length<=1000:=by
    have d:=BE z.2.2 m8.1 m8.2;have H:=n6;unfold Co;simp at H|-;omega
   have:=xq (v:=z.1.2.2) f9;omega
  have c1:=js q.body a9 (.slice va a9.length vc) w6 aa (A1.rd ae By q4) m6 m7;generalize Jx (64::98::itoa K) q.body ll=l at b0 X;clear Y e1 a3 g8 l5 l6 l7 g9 e2 d3 d2 b7 b5 m7 m6 l8 g2;go_upto_if 193 with fail;go_cut[] (fun A=>A0 A (wr.heap.size+1) #[.slice o (i.length+1) O,l,false,.slice none 0 0] 44/\A5 (wr.heap.size+1) w6.heap.size w6 A)
  case first=>
   have t8:=c0.cell;have t9:=m0.cell;by_cases b1:ll=[]
   ·have c2:=AE (b0.o.trans (AN b1));have q5:¬(0:Int)<ll.length:=by rw[b1];simp
    clear b0 c1 b1;go_wp2;go_meet;exact⟨by rw[c2.o];exact c0,A5.refl _ _ _⟩
   have c2:=AE (b0.o.trans (AL b1));have q5:(0:Int)<ll.length:=by have:=BK.2 b1;omega
   generalize I7 q.body a9=rp at c2 c1;clear b0 b1;go_wp2_with fail;with_reducible refine c1.mono ?_
   rintro r Z⟨rfl,h0⟩;have b2:=c0.next h0 c0.lt;have u0:=b2.cell;have u1:=b2.free;clear c1;cases rp with
   |none=>
    have h1:=AE (show l=[]from c2.o);unfold cK;go_wp2;go_meet;exact⟨by rw[h1.o];exact b2.set 1 _,(A5.of h0).set _⟩
   |some rt=>
    have h1:=AE (show l=rt from c2.o);unfold cK;go_wp2;go_meet;exact⟨by rw[h1.o];exact b2.set 1 _,(A5.of h0).set _⟩
  case rest=>
  obtain⟨b2,a5⟩:=hcut;obtain⟨Z,rfl⟩:∃x:World,x=wc:=⟨_,rfl⟩;have q6:=a5.size;have m9:=m1.Ai a5 aa;have u2:wr.heap.size<=w6.heap.size:=aa
  have n0:=A1.J1 m2 fun g hv=>a5.block g qy qy
  have q7:=A1.Ai m3 a5 aa;have n1:=AE (fun j H d=>A8.keep (w':=Z) q6 (fun x E t=>a5.block x t (by have:=E.2;omega)) (m4.o j H d));have n2:A5 C w.heap.size w Z:=m5.trans (A5.of ((a5.mono (show w.heap.size<=w6.heap.size by omega)).shut (show w.heap.size<=wr.heap.size+1 by omega)));have u3:=A1.Ha n0;have kp:=m9.cell;have kt:=b2.cell;have q8:(i++[(([67,111,110,116,101,110,116,45,73,68]:Bs),(60::(n++[62]):Bs))]).length=i.length+1:=ah
  have u4:M.heap.size<=Z.heap.size:=aa
  have h2:(Z.alloc (.cells #[.slice o (i.length+1) O,l,false,.slice none 0 0] 44)).heap.size=Z.heap.size+1:=ah
  clear c1 b0 m1 m2 m3 m4 m5 a5 c0 m0;go_wp2_with(at_builtin;refine Wy rfl _ _ rfl w.heap.size _ R (((o,i.length+1,O),l,false,((none:Option Go.Addr),0,0)):Au) _ 1 rfl (A1.alloc n0 _) rfl (Wx _ (((o,i.length+1,O),l,false,((none:Option Go.Addr),0,0)):Au) _ _ ah) aa ag ?_;intro v' w9 n3 e3 h3 h4;obtain⟨S,I,J,rfl⟩:=n3.shape;have e4:=(m9.alloc (.cells #[.slice o (i.length+1) O,.string ⟨l.toArray⟩,.bool false,.slice none 0 0] 44)).next h3 i5;have u5:=e4.cell;have u6:=e4.free);have V:=(AG Z.heap.size Z).alloc (AF _) (.cells #[.slice o (i.length+1) O,.string ⟨l.toArray⟩,.bool false,.slice none 0 0] 44);have q9:=e3.size;rw[h2]at q9;have r0:A0 (w9.setCell ⟨C,3,none⟩ (.slice S I J)) C #[.slice wa L.length wc,.string ⟨#[]⟩,.bool true,.slice S I J] 44:=e4.set 3 _;have a7:=n3.A6 (a:=⟨C,3,none⟩) i5 (.slice S I J);have r1:=AE (show∀j(H:j<(R++[(((o,i.length+1,O),l,false,((none:Option Go.Addr),0,0)):Au)]).length)(d:j<(D++[A7.mk (i++[(([67,111,110,116,101,110,116,45,73,68]:Bs),(60::(n++[62]):Bs))]) l false []]).length),A8 (fun x=>w.heap.size<=x/\(Value.slice S I J).ownBlock≠some x) 3 (w9.setCell ⟨C,3,none⟩ (.slice S I J)) (R++[(((o,i.length+1,O),l,false,((none:Option Go.Addr),0,0)):Au)])[j] (D++[A7.mk (i++[(([67,111,110,116,101,110,116,45,73,68]:Bs),(60::(n++[62]):Bs))]) l false []])[j]from fun j H d=>by
   by_cases hj:j<R.length
   ·rw[EC hj,EC aa];exact A8.Ac (Q:=fun x=>w.heap.size<=x/\(Value.slice S I J).ownBlock≠some x) (fun x h _=>⟨h.1.1.1,h.2⟩) (((A8.Ac (Q:=fun x=>((w.heap.size<=x/\(Value.slice c7 c8 c9).ownBlock≠some x)/\x<wr.heap.size)/\(Value.slice S I J).ownBlock≠some x) (fun x h t=>⟨h,fun e=>by
     rcases h4 with ho|ho
     ·exact h.1.2 (ho▸e)
     rw[ho]at e;injection e with e;rw[h2]at e;omega⟩) ((n1.o j hj aa).next V)).grown e3 (fun x h e=>h.1.1.2 e.symm)).set (a:=⟨C,3,none⟩) (.slice S I J) (fun h=>by have:=h.1.1.1;simp only at this;omega))
   obtain rfl:j=R.length:=by simp at H;omega
   have r2:(R++[(((o,i.length+1,O),l,false,((none:Option Go.Addr),0,0)):Au)])[R.length]=(((o,i.length+1,O),l,false,((none:Option Go.Addr),0,0)):Au):=ah
   have r3:(D++[A7.mk (i++[(([67,111,110,116,101,110,116,45,73,68]:Bs),(60::(n++[62]):Bs))]) l false []])[R.length]'d=A7.mk (i++[(([67,111,110,116,101,110,116,45,73,68]:Bs),(60::(n++[62]):Bs))]) l false []:=uu
   rw[r2,r3];have c3:=A1.Dq ae Af q7;rw[<-q8]at c3|-;have r4:=Ba.Ac (Q:=fun x=>M.heap.size<=x/\x<Z.heap.size) c3 (fun x h t=>⟨h.1,t⟩);refine⟨rfl,rfl,?_,[],Ba.nil _ _ _ _ _ _,rfl,fun k h=>en⟩;refine Ba.Ac (((r4.next V).grown e3 (fun x h e=>by have r5:=a2 x e.symm;omega)).set (a:=⟨C,3,none⟩) (.slice S I J) (fun h=>av)) (fun x h _=>⟨aa,fun e=>?_⟩);rcases h4 with ho|ho
   ·rw[ho]at e;have r5:=a2 x e;omega
   rw[ho]at e;injection e with e;rw[h2]at e;omega)
  have B9:A5 C w.heap.size w (w9.setCell ⟨C,3,none⟩ (.slice S I J)):=((n2.next V n2.size).trans (A5.of h3)).set _;clear h4 e3 h3 V n1 e4;go_wp2;go_roundw
  case rel=>exact⟨k+1,D++[A7.mk (i++[([67,111,110,116,101,110,116,45,73,68],60::(n++[62]))]) l false []],R++[(((o,i.length+1,O),l,false,((none:Option Go.Addr),0,0)):Au)],(S,I,J),aj,aa,ag,ag,r0,a7,r1,X,B9⟩
  simp[intOf];omega
 obtain rfl:k=b.whole.parts.length:=aa
 have n4:=AE (by have:=HA.o;rw[AS]at this;simpa[Fl]using this:D=Fl b (64::98::itoa K) 0 b.whole.parts);have c3:A8 (fun _=>True) 4 wr ((wa,L.length,wc),[],true,(c7,c8,c9)) (.mk L [] true (Fl b (64::98::itoa K) 0 b.whole.parts)):=by
  rw[<-n4.o];exact⟨rfl,rfl,(n7.Ai B (fun h=>h rfl)).Ac (fun _ _ _=>trivial),R,(A1.Dq ae Dx a7).Ac (fun _ _ _=>trivial),aa,fun j H d=>A8.Ac (fun _ _ _=>trivial) (c6.o j H d)⟩
 have n5:=vl 4 _ _ wr c3 n8.o (hg.Ai B e6);simp only[C3,A9]at n5;have u7:=U.cell;clear n4 c3 HA c6;go_wp2_with fail;with_reducible refine n5.mono ?_
 rintro r w9⟨hh,r6⟩;have B9:=B.next r6 f0;rcases hh with⟨s,hs,r7,rfl⟩|⟨c,hc,a6,rfl⟩
 ·go_wp2_with fail;exact HR.o _ _ (Or.inl ⟨s,hs,r7,rfl⟩) B9
 have r8:=AE a6;clear a6;go_wp2_with fail;exact HR.o _ _ (Or.inr ⟨c,hc,r8.o,rfl⟩) B9
def Nh(first:Bool)(s:Bs)(l:List A4):List A4:=if first then D9 l s else l
def xz{l:List A4}(h:(A2 f.1==A2 C2)=true):Nh true s (f::l)=(f.1,Jy f.2 s)::Nh false s l:=by
 unfold Nh;simp only[DK,CC,DM];rw[D9,AN ek]
def zb{first:Bool}{l:List A4}(h:(first&&(A2 f.1==A2 C2))=false):Nh first s (f::l)=f::Nh first s l:=by
 cases first with
 |false=>rfl
 |true=>
  unfold Nh;simp only[DK];rw[FR]at h;rw[D9,AL ek]
def zc(first:Bool)(s:Bs):Nh first s []=[]:=by cases first<;>rfl
def zd{D:Nat}{b:Al}{w:World}
  (c2:Ho 213 [(1,.pointer (some ⟨A,0,none⟩)),(6,.func (.func 72) #[] #[.pointer (some ⟨D,0,none⟩)]),(7,.pointer (some ⟨C,0,none⟩)),(8,true)] ac) (a8:w.cell? ⟨A,0,none⟩=some (.pointer (some ⟨I,0,none⟩))) (a9:w.cell? ⟨D,0,none⟩=some K) (b0:A≠C) (b1:D≠C) (X:¬P C) (Z:Ej P w I b) (c3:Fx b) (c4:V9 b)
  (e2:(64::98::itoa K:Bs).length<=23) (c5:-9223372036854775808<=K) (c6:K<=9223372036854775807) (b2:8<C) (g4:b.root<=1000000)
  (H:A0 w C #[.slice none 0 0,.string ⟨#[]⟩,true,.slice none 0 0] 44)
  (c7:He 4 (.mk (D9 b.whole.head (Co (64::98::itoa K) b.root)) [] true (Fl b (64::98::itoa K) 0 b.whole.parts))) (hg:Gz w)
  (hR:∀e w',Xx (Iu (.mk (D9 b.whole.head (Co (64::98::itoa K) b.root)) [] true (Fl b (64::98::itoa K) 0 b.whole.parts))) e->A5 C w.heap.size w w'->c1 e w'):
  Code.wp prog Px (bodyPost prog f26 c1) ac w:=by
 obtain⟨fr,rfl⟩:=c2.op;clear c2;simp only[Fp,↓reduceIte,Nat.reduceAdd,Nat.reduceEqDiff];have HR:=AE hR;have a0:=AE c7;have c8:A<w.heap.size:=BJ w _ a8;have c9:D<w.heap.size:=BJ w _ a9;have a1:=H.lt;have HB:=AE Z;have d0:=AE c4;have e3:=c3.whole;obtain⟨e4,sa,si,e5,a2,d1,_,_⟩:=Z;have J:=d1.hd;have b3:=F1 e3.head.1;have e6:=b3.1;have d2:=AE b3.2;obtain⟨⟨ra,rn,rc⟩,rb,rm,⟨g5,g6,g7⟩⟩:=e4;simp only[A9]at J;have e7:rn=b.whole.head.length:=by
  obtain⟨a,c,e,_⟩:=J;injection e
 subst e7;unfold Ii at a2;simp only[A9]at a2;have e8:I≠C:=fun e=>X (e▸e5)
 have e9:=a2.lt;have kb:=a2.cell;have J:Ba 2 Bc (fun x=>x≠C) w (.slice ra b.whole.head.length rc) b.whole.head:=J.Ac fun x h1 _=>fun e=>X (e▸h1)
 have f0:A2 C2=[99,111,110,116,101,110,116,45,116,121,112,101]:=ae
 generalize f1:b.whole.head=h at J e6 d2 kb a0 HR;generalize d3:Co (64::98::itoa K) (b.root:Int)=N at a0 HR;have f2:=AE d3;clear hR c7 d1 c4 b3 d3;generalize f3:bodyPost prog f26 _=QQ;delta Px f26;dsimp only[Ak,Option.getD];subst f3;go_upto_block 2 with fail;go_cut[] (fun L=>∃(m:Option Go.Addr)(r:Nat),A0 L C #[.slice m (D9 h N).length r,.string ⟨#[]⟩,true,.slice none 0 0] 44/\Bt L w.heap.size (.slice m (D9 h N).length r) (D9 h N)/\A5 C w.heap.size w L)
 case first=>
  clear HR a0 d0 f1;go_wp2_with fail;go_loopw[8,46] (fun nv iv wr=>∃(k:Nat)(first:Bool)(o:List A4)(m:Option Go.Addr)(r:Nat),nv=first/\iv=k/\k<=h.length/\o.length<=k/\A0 wr C #[.slice m o.length r,.string ⟨#[]⟩,true,.slice none 0 0] 44/\Bt wr w.heap.size (.slice m o.length r) o/\Hid (o++Nh first N (h.drop k)=D9 h N)/\A5 C w.heap.size w wr) (fun _ iv _=>h.length-(intOf iv).toNat)
  case atStart=>exact⟨0,true,[],none,0,rfl,rfl,aa,ah,H,A1.nil _ _ _ _ _,AE (by simp[Nh]),A5.refl _ _ _⟩
  clear H;obtain⟨k,first,o,m,r,rfl,rfl,hk,g8,H,n,M,B⟩:=hrel;have a3:=B.size;by_cases Q:k<h.length
  ·obtain⟨g,rfl,d4,d5,b4⟩:=J.at Af k Q;have d6:=(B.cell (p:=⟨g,k*2+0,none⟩) d5 d4).trans (b4 0 ae);have d7:=(B.cell (p:=⟨g,k*2+1,none⟩) d5 d4).trans (b4 1 ae);have hf:=d2.o _ (AQ Q);have b5:=AH Q;have s:=AE (fun(q:(first&&(A2 (h[k]).1==A2 C2))=false)=>show(o++[h[k]])++Nh first N (h.drop (k+1))=D9 h N from by
    rw[<-M.o,b5,zb q];simp)
   have u:=AE (fun(q:(first&&(A2 (h[k]).1==A2 C2))=true)=>show(o++[((h[k]).1,Jy (h[k]).2 N)])++Nh false N (h.drop (k+1))=D9 h N/\first=true from by
    rw[BR]at q;obtain⟨q1,q2⟩:=q;subst q1;refine⟨?_,rfl⟩;rw[<-M.o,b5,xz q2];simp)
   clear M b4 b5;generalize h[k]=f at d6 d7 hf s u;obtain⟨x,y⟩:=f;simp only[Bc,BI,AU,AR]at d6 d7 hf s u;have b6:=fun W=>Ix x W aa
   have d8:=AE (A1.Dj n);have d:=A0.new wr #[x,y] 92;have R:=(AG wr.heap.size wr).alloc (AF _) (.cells #[x,y] 92);have n:=A1.next n R;have H:=H.next R H.lt;have B1:=B.next R a3;have a4:=(hg.Ai B b2).next R;rw[f0]at s u;generalize A2 x=lx at b6 s u;clear R B;go_upto_region 11 with fail;generalize World.alloc _ _=w2 at d n B1 H a4|-;have a5:=d.cell;go_cut[56] (fun t L=>t=.bool (first&&(lx==[99,111,110,116,101,110,116,45,116,121,112,101]))/\Below w2.heap.size w2 L)
   case first=>
    clear s u n d;cases first with
    |false=>
     go_wp2;go_meet;exact⟨rfl,AG _ _⟩
    |true=>
     go_wp2_with fail;with_reducible refine(b6 _).mono ?_
     rintro e v⟨rfl,i⟩;go_wp2;go_meet;exact⟨rfl,i⟩
   case rest=>
   obtain⟨rfl,i⟩:=hcut;obtain⟨v,rfl⟩:∃x:World,x=wc:=⟨_,rfl⟩;have g9:=d.lt;have d:=d.next i d.lt;have n:=A1.next n i;have H:=H.next i H.lt;have a4:=a4.next i;have j:=B1.next i B1.size;have h0:=i.size;clear i B1 b6 a5;cases a6:(first&&(lx==[99,111,110,116,101,110,116,45,116,121,112,101]))with
   |false=>
    have E:=AE (s.o a6);have a5:=d.cell;have f4:=H.cell;have f5:=H.free;clear s u a6;go_wp2_with(at_builtin;refine N8 (α:=A4) (cs:=Bc) (size:=2) (z:=.agg #[.string ByteArray.empty,.string ByteArray.empty]) Af M0 My rfl ae underlying42 rfl _ _ rfl w.heap.size _ o [(x,y)] ⟨v.heap.size,0,none⟩ 1 1 rfl rfl (A1.alloc n _) rfl (I0 v (x,y) _) ag ao (by have:=j.size;simp;omega) ?_;intro v' w9 S b7 F b8;obtain⟨O,l,T,_⟩:=A1.rd ae Af S;rw[AJ,FF]at T;subst T;have G:=(H.alloc (.cells #[x,y] 92)).next F a1;have f6:=G.cell;have f7:=G.free);have B9:=(j.next ((AG v.heap.size v).alloc (AF _) (.cells #[x,y] 92)) j.size).trans (A5.of F);have b9:A0 (w9.setCell ⟨C,0,none⟩ (.slice O (o.length+1) l)) C #[.slice O (o.length+1) l,.string ⟨#[]⟩,true,.slice none 0 0] 44:=G.set 0 _;have c0:=S.A6 (a:=⟨C,0,none⟩) a1 (.slice O (o.length+1) l);have U:(o++[(x,y)]).length=o.length+1:=ah
    clear b7 F b8;go_wp2;go_roundw
    case rel=>exact⟨k+1,first,o++[(x,y)],O,l,rfl,aj,aa,ag,by rw[U];exact b9,by rw[U];exact c0,E,B9.set _⟩
    simp[intOf];omega
   |true=>
    obtain⟨d9,f8⟩:=u.o a6;have E:=AE d9;subst f8;have f9:y.length<=100000:=by have:=hf.2;omega
    have g0:v.cell? ⟨A,0,none⟩=some (.pointer (some ⟨I,0,none⟩)):=(j.cell (p:=⟨A,0,none⟩) c8 b0).trans a8;have g1:v.cell? ⟨D,0,none⟩=some K:=(j.cell (p:=⟨D,0,none⟩) c9 b1).trans a9;have g2:v.cell? ⟨I,4,none⟩=some (.int .i64 (b.root:Int)):=(j.cell (p:=⟨I,4,none⟩) e9 e8).trans (kb 4);clear s u a6 d9;apply_assumption;refine lz d g0 g1 g2 f9 aa aa c5 c6 a4 ⟨_,rfl,rfl,rfl⟩ ?_;rw[f2.o];intro V ac e0 e1 a7;obtain⟨gr,rfl⟩:=e0.op;clear e0;simp only[List.foldl,List.set,Kk,↓reduceIte,Nat.reduceAdd,Nat.reduceLeDiff,Nat.reduceEqDiff];have n:=A1.J1 n fun g hv=>a7.block g (by have:=d8.o g hv;omega) (by have:=d8.o g hv;omega)
    have H:=H.Ai a7 aa;have B5:A5 C w.heap.size w V:=j.trans (A5.of ((a7.mono j.size).shut (show w.heap.size<=wr.heap.size by omega)));have a5:=e1.cell;have f4:=H.cell;have f5:=H.free;generalize Jy y N=Y at e1 a5 E;clear d a7 j;go_wp2_with(at_builtin;refine N8 (α:=A4) (cs:=Bc) (size:=2) (z:=.agg #[.string ByteArray.empty,.string ByteArray.empty]) Af M0 My rfl ae underlying42 rfl _ _ rfl w.heap.size _ o [(x,Y)] ⟨V.heap.size,0,none⟩ 1 1 rfl rfl (A1.alloc n _) rfl (I0 V (x,Y) _) ag ao (by have:=B5.size;simp;omega) ?_;intro v' w9 S b7 F b8;obtain⟨O,l,T,_⟩:=A1.rd ae Af S;rw[AJ,FF]at T;subst T;have G:=(H.alloc (.cells #[x,Y] 92)).next F a1;have f6:=G.cell;have f7:=G.free);have B9:=(B5.next ((AG V.heap.size V).alloc (AF _) (.cells #[x,Y] 92)) B5.size).trans (A5.of F);have b9:A0 (w9.setCell ⟨C,0,none⟩ (.slice O (o.length+1) l)) C #[.slice O (o.length+1) l,.string ⟨#[]⟩,true,.slice none 0 0] 44:=G.set 0 _;have c0:=S.A6 (a:=⟨C,0,none⟩) a1 (.slice O (o.length+1) l);have U:(o++[(x,Y)]).length=o.length+1:=ah
    clear b7 F b8;go_wp2;go_roundw
    case rel=>exact⟨k+1,false,o++[(x,Y)],O,l,rfl,aj,aa,ag,by rw[U];exact b9,by rw[U];exact c0,E,B9.set _⟩
    simp[intOf];omega
  obtain rfl:k=h.length:=aa
  have E:=AE (by have:=M.o;rw[AS,zc,BU]at this;exact this:o=D9 h N);have h2:=E.o;clear M E;go_wp2;go_meet;exact⟨m,r,by rw[<-h2];exact H,by rw[<-h2];exact n,B⟩
 case rest=>
 obtain⟨m,r,g3,n,B⟩:=hcut;obtain⟨w1,rfl⟩:∃x:World,x=wc:=⟨_,rfl⟩;have a3:=B.size;apply_assumption;exact xx ⟨_,rfl,rfl,rfl⟩ ((B.cell (p:=⟨A,0,none⟩) c8 b0).trans a8) ((B.cell (p:=⟨D,0,none⟩) c9 b1).trans a9) b0 b1 X (HB.o.keep a3 fun x hP Q=>B.block x Q (fun e=>X (e▸hP))) c3 d0.o e2 c5 c6 b2 g3 ((A1.Dq ae Af n).Ac fun x h _ e=>ew) a0.o (hg.Ai B b2) (fun e w' h Z=>HR.o e w' h (B.trans (Z.mono a3)))
def zf(P:Nat->Prop)(a:Nat)(b:Al)(w:World)(h:Ej P w a b)(n:Fx b)(a4:V9 b)(a5:b.whole.parts≠[])(T:b.root<=1000000)(U:b.whole.many=true)(hbody:b.whole.body=[])(V:Gz w):Calls prog 26 #[.pointer (some ⟨a,0,none⟩)] w fun e X=>Xx (Jz b) e/\Below w.heap.size w X:=by
 have m:=Ej.Ac (Q:=fun x=>x<w.heap.size) (fun _ _ h=>h) h;have c0:=bV n.whole;have a6:=AE (oN b.whole);have I:=AE (pD n T);have G:=AE (by unfold Jz O4;rw[U,hbody]:Jz b=Iu (.mk (D9 b.whole.head (Co (G5 b.whole) b.root)) [] true (Fl b (G5 b.whole) 0 b.whole.parts)));have J:=AE (by unfold O4;rw[U,hbody]:O4 b=.mk (D9 b.whole.head (Co (G5 b.whole) b.root)) [] true (Fl b (G5 b.whole) 0 b.whole.parts));have Y:=cC n.whole;have a7:=AE (fun(k:Nat)(h1:∀j,j<k->Dv [64,98] (Fe b.whole) j=true)(h2:Dv [64,98] (Fe b.whole) k=false)=>show G5 b.whole=64::98::itoa (k:Int)from by
  unfold G5;rw[iP h1 h2])
 have c1:=V.size;have o:=(A0.new w #[.pointer (some ⟨a,0,none⟩)] 50).alloc (.cells #[.int .i64 0] 3);have H:=A0.new (w.alloc (.cells #[.pointer (some ⟨a,0,none⟩)] 50)) #[.int .i64 0] 3;rw[AX]at H;have r:=((AG w.heap.size w).alloc (AF _) (.cells #[.pointer (some ⟨a,0,none⟩)] 50)).alloc ah (.cells #[.int .i64 0] 3);have a8:((w.alloc (.cells #[.pointer (some ⟨a,0,none⟩)] 50)).alloc (.cells #[.int .i64 0] 3)).heap.size=w.heap.size+2:=ah
 have s:=m.next r;have u:=V.next r;clear h;go_enter func26,ntmps26;go_upto_block 0 with fail;generalize World.alloc (World.alloc _ _) _=f at o H r a8 s u|-;go_cut[] (fun y=>∃k:Nat,A0 y (w.heap.size+1) #[.int .i64 (k:Int)] 3/\A5 (w.heap.size+1) f.heap.size f y/\k<=1000000000000000/\Hid (G5 b.whole=64::98::itoa (k:Int)))
 case first=>
  clear I G J m;go_wp2_with fail;go_loopw[] (fun wr=>∃k:Nat,A0 wr (w.heap.size+1) #[.int .i64 (k:Int)] 3/\Hid (∀j,j<k->Dv [64,98] (Fe b.whole) j=true)/\A5 (w.heap.size+1) f.heap.size f wr) (fun wr=>match wr.cell? ⟨w.heap.size+1,0,none⟩with|some v=>20*(Bk (Fe b.whole)+(Fe b.whole).length+1)-(intOf v).toNat|none=>0)
  case atStart=>exact⟨0,H,AE (fun j hj=>aa),A5.refl _ _ _⟩
  clear H;obtain⟨k,H,g,B⟩:=hrel;have c2:=Tt _ _ k g.o;have c3:=H.cell 0;have c4:=H.free 0;have Z:=u.Ai B aa;have hI:=Fj (k:Int) aa aa wr Z;have a9:=BE (k:Int) aa aa;have K:=AE (a6.o k);have O:=AE (a7.o k g.o);have b0:Ej (fun x=>x<w.heap.size) wr a b:=s.keep B.size fun x hx L=>B.block x L aa
  have b1:wr.cell? ⟨w.heap.size,0,none⟩=some (.pointer (some ⟨a,0,none⟩)):=(B.cell (p:=⟨w.heap.size,0,none⟩) ai ai).trans (o.cell 0);generalize a0:itoa (k:Int)=ib at hI a9 K O;have b2:=AE a0;clear a0;have c5:¬9223372036854775807<2+ib.length:=aa
  go_wp2_with fail;with_reducible refine hI.mono ?_
  rintro e w4⟨rfl,c⟩;have M:=H.next c H.lt;have B4:=B.next c B.size;have z:=kg (fun x=>x<w.heap.size) a w.heap.size b (64::98::ib) w4 (b0.next c) n.whole a5 ((c.cell (p:=⟨w.heap.size,0,none⟩) (by have:=B.size;simp only;omega)).trans b1) (Z.next c).r;rw[<-K.o]at z;generalize hq:Dv [64,98] (Fe b.whole) k=q at z O;have N:=AE hq;clear hq K hI;go_wp2_with fail;with_reducible refine z.mono ?_
  rintro e w5⟨rfl,R⟩;have C:=M.next R M.lt;have B5:=B4.next R B4.size;have c6:=C.cell 0;have c7:=C.free 0;have a1:=C.set 0 (.int .i64 ((k:Int)+1));have b3:wr.cell? ⟨w.heap.size+1,0,none⟩=some (.int .i64 (k:Int)):=H.cell 0;clear z c R M;cases q with
  |true=>
   have b4:=AE (show∀j,j<k+1->Dv [64,98] (Fe b.whole) j=true from fun j hj=>by
    rcases CL j k with h'|h'
    ·exact g.o j h'
    obtain rfl:j=k:=aa
    exact N.o)
   have b5:(w5.setCell ⟨w.heap.size+1,0,none⟩ (.int .i64 ((k:Int)+1))).cell? ⟨w.heap.size+1,0,none⟩=some (.int .i64 ((k:Int)+1)):=a1.cell 0;clear g O N;go_wp2_with fail;go_roundw
   case rel=>exact⟨k+1,a1,b4,B5.set _⟩
   rw[b5,b3];simp only[intOf];omega
  |false=>
   have HN:=AE (O.o rfl);clear g O N;go_wp2_with fail;go_meet;exact⟨k,C,B5,by omega,AE (by rw[b2.o];exact HN.o)⟩
 case rest=>
 obtain⟨k,i,d,c8,HS⟩:=hcut;obtain⟨W,rfl⟩:∃x:World,x=wc:=⟨_,rfl⟩;have b6:=d.size;have l:=o.Ai d aa;have D:Ej (fun x=>x<w.heap.size) W a b:=s.keep b6 fun x hx L=>d.block x L aa
 have E:=u.Ai d aa;have S:=G.o;have F:=I.o;rw[J.o]at F;rw[HS.o]at S F Y;have b7:=AE S;have b8:=AE F;have A:=(AG W.heap.size W).alloc (AF _) (.cells #[.slice none 0 0,.string ⟨#[]⟩,.bool true,.slice none 0 0] 44);have a2:=A0.new W #[.slice none 0 0,.string ⟨#[]⟩,.bool true,.slice none 0 0] 44;have b9:(W.alloc (.cells #[.slice none 0 0,.string ⟨#[]⟩,.bool true,.slice none 0 0] 44)).heap.size=W.heap.size+1:=ah
 have l:=l.next A l.lt;have i:=i.next A i.lt;have D:=D.next A;have E:=E.next A;have B7:Below w.heap.size w (W.alloc (.cells #[.slice none 0 0,.string ⟨#[]⟩,.bool true,.slice none 0 0] 44)):=(r.trans ((d.mono (show w.heap.size<=f.heap.size by omega)).shut aa)).trans (A.mono aa);clear S F G J I d u s o A;go_upto_region 7 with fail;generalize World.alloc _ _=w3 at a2 l i D E B7 b9|-;go_cut[8] (fun t y=>t=.bool true/\y=w3)
 case first=>
  go_wp2_with fail;go_meet;exact⟨rfl,bo⟩
 case rest=>
 obtain⟨rfl,a3⟩:=hcut;obtain rfl:=a3.symm;clear a3;apply_assumption;exact zd ⟨_,rfl,rfl,rfl⟩ (l.cell 0) (i.cell 0) aa aa aa D n a4 Y aa aa aa T a2 b8.o E (fun e X h m=>⟨by rw[b7.o];exact h,B7.trans ((m.mono (show w.heap.size<=w3.heap.size by omega)).shut aa)⟩)
structure RB(b:Al):Prop where
 into:Fx b
 leaf:V9 b
 ne:b.whole.parts≠[]
 root:b.root<=1000000
 many:b.whole.many=true
 body:b.whole.body=[]
def Oa(w:World)(d:Nat)(D:Ap):Prop:=∃B,A0 w d #[B,D.said] 154/\((D.bundle=none/\B=.pointer none)\/∃b p,D.bundle=some b/\B=.pointer (some ⟨p,0,none⟩)/\Ej (fun c=>c≠d) w p b/\RB b)
def Oa.next{w w':World}{d:Nat}{D:Ap}(h:Oa w d D)(a:Below w.heap.size w w'):Oa w' d D:=by
 obtain⟨B,c,H⟩:=h;refine⟨B,c.next a c.lt,?_⟩;rcases H with H|⟨b,p,e,f,g,i⟩
 ·exact Or.inl H
 exact Or.inr ⟨b,p,e,f,g.next a,i⟩
def J5(a:Ff)(e:Ending):Prop:=match a with
 | .ok t=>e=.returned (.tuple #[t,.int .i64 0])
 | .error n=>∃s,e=.returned (.tuple #[.string s,n])
structure Ke(w:World)(d:Nat)(dk:Ap)(v:Value)(l:List Bs):Prop where
 desk:Oa w d dk
 rd:Fm w v l
 len:(Ax l).length<=1000000
 cnt:l.length<=1000000
 each:∀x∈l,x.length<=1000000
 g:Gz w
 far:∀j,j<=8->j≠d
 said:dk.said.length<=1000000
def zg(s:Bs)(w:World)(c:s.length<=1000000000000)(g:Gz w):Calls prog 247 #[s,.int .i64 10,.int .i64 64] w fun e W=>((∃v,atoiAll s=.ok v/\e=.returned (.tuple #[.int .i64 v,.nilIface]))\/(E4 s=none/\∃v t p,e=.returned (.tuple #[.int .i64 v,.iface t p])))/\Below w.heap.size w W:=by
 rcases h:atoiAll s with v|_|_
 ·refine(Tryz.strconv_ParseInt_10_at64_ok ⟨s.toArray⟩ ej v ug w).mono ?_;rintro e W⟨rfl,rfl|⟨t,rfl⟩⟩
  ·exact⟨Or.inl ⟨v,rfl,rfl⟩,AG _ _⟩
  exact⟨Or.inl ⟨v,rfl,rfl⟩,bytesWorld_below _ _ _⟩
 ·obtain⟨E,H,a⟩:=g.syn;refine(Tryz.strconv_ParseInt_10_at64_syntax ⟨s.toArray⟩ ej ug E w H a).mono ?_;rintro e W⟨N,rfl,_,_,b⟩;exact⟨Or.inr ⟨qo,_,_,_,rfl⟩,b⟩
 obtain⟨E,H,a⟩:=g.rng;refine(Tryz.strconv_ParseInt_10_at64_range ⟨s.toArray⟩ ej ug E w H a).mono ?_;rintro e W⟨N,rfl,_,_,b⟩;exact⟨Or.inr ⟨qo,_,_,_,rfl⟩,b⟩
def zh(n:Int)(h0:-9223372036854775808<=n)(h:n<=9223372036854775807)(w:World)(H:Gz w):Calls prog 248 #[n,.int .i64 10] w fun e W=>e=.returned (itoa n)/\Below w.heap.size w W:=by
 refine(Tryz.strconv_FormatInt_10 n h0 h w H.tab).mono ?_;rintro e W⟨rfl,k,o,rfl⟩;exact⟨rfl,below_grow _ w (AF _) k o⟩
def zj{b:Al}(h:¬(0<=i/\i<=(b.places.length:Int)-1)):Hw b i=none:=by
 unfold Hw;split
 ·rfl
 exact DC aa
def zk{b:Al}(h:¬(0<=i/\i<=(b.places.length:Int)-1)):Ca b i=none:=by
 unfold Ca;split
 ·rfl
 rw[DC (l:=b.places) aa];cases b.whole.parts[i.toNat]?<;>rfl
def Va(n:Bs)(l:List Bs):Prop:=(n=Kz/\l.length=0)\/(n=Jj/\l.length=1)\/(n=Lo/\l.length=1)\/(n=Ik/\l.length=1)\/(n=Ln/\l.length=0)
def zl{d:Ap}{n:Bs}{l:List Bs}(a:Va n l)(H:d.bundle=none):Cd d n l=(d,.error 7):=by
 rcases a with⟨rfl,h⟩|⟨rfl,h⟩|⟨rfl,h⟩|⟨rfl,h⟩|⟨rfl,h⟩
 ·show(d,Hi d l)=_;unfold Hi;rw[AL aa,H]
 ·show(d,G7 d l)=_;unfold G7;rw[AL aa,H]
 ·show(d,Hf d l)=_;unfold Hf;rw[AL aa,H]
 ·show(d,G9 d l)=_;unfold G9;rw[AL aa,H]
 show(d,G8 d l)=_;unfold G8;rw[AL aa,H]
def zm(d:Nat)(D:Ap)(n:Bs)(v:Value)(l:List Bs)(w:World)(h:Ke w d D v l)(f:Va n l)(a:D.bundle=none):Calls prog 161 #[.pointer (some ⟨d,0,none⟩),n,v] w fun e W=>J5 (Cd D n l).2 e/\Below w.heap.size w W:=by
 rw[zl f a];obtain⟨B,k,H⟩:=h.desk;obtain rfl:B=.pointer none:=by
  rcases H with⟨_,H⟩|⟨b,_,g,_⟩
  ·exact H
  rw[a]at g;cases g
 have K:=k.cell;obtain⟨i,o,c,rfl,_⟩:=h.rd;clear k H h a f;go_enter func161,ntmps161;go_wp2;go_ret2;exact⟨⟨_,rfl⟩,AG _ _⟩
attribute [local go_sem] Jj Ln Lo Ik Kz
def zn(d:Nat)(D:Ap)(b:Al)(v:Value)(l:List Bs)(w:World)(h:Ke w d D v l)(h0:l.length=0)(f:D.bundle=some b):Calls prog 161 #[.pointer (some ⟨d,0,none⟩),Ln,v] w fun e p=>J5 (G8 D l) e/\Below w.heap.size w p:=by
 have F:=AE (show G8 D l=match Jz b with
  | .error e=>.error e
  | .ok s=>.ok (C1 s)from by unfold G8;rw[AL aa,f];rfl)
 obtain⟨q,k,a⟩:=h.desk;obtain⟨B,rfl,R,H⟩:∃B,q=.pointer (some ⟨B,0,none⟩)/\Ej (fun c=>c≠d) w B b/\RB b:=by
  rcases a with⟨a,_⟩|⟨y,B,j,t⟩
  ·rw[f]at a;cases a
  rw[f]at j;cases j;exact⟨B,t⟩
 have K:=k.cell;obtain⟨z,o,c,rfl,_⟩:=h.rd;have m:=zf _ B b w R H.into H.leaf H.ne H.root H.many H.body h.g;generalize Jz b=A at m F;clear k a h f h0;go_enter func161,ntmps161;go_wp2_with fail;with_reducible refine m.mono ?_
 rintro e C⟨u,g⟩;rcases u with⟨s,rfl,E,rfl⟩|⟨n,rfl,_,rfl⟩
 ·have N:=AE (show G8 D l=.ok (C1 s)from F.o);have S:=fun W=>Ov s W aa
  generalize C1 s=r at S N;go_wp2_with fail;with_reducible refine(S _).mono ?_
  rintro e x⟨rfl,i⟩;go_wp2;go_ret2;exact⟨ay,g.trans (i.mono g.size)⟩
 have N:=AE (show G8 D l=.error n from F.o);have S:=fun W=>Ov [] W ah
 go_wp2_with fail;with_reducible refine(S _).mono ?_
 rintro e x⟨rfl,i⟩;go_wp2;go_ret2;exact⟨by rw[N.o];exact⟨_,rfl⟩,g.trans (i.mono g.size)⟩
attribute [local go_sem] Jj Ln Lo Ik Kz
def Ke.dB{w:World}{d:Nat}{D:Ap}{b:Al}{v:Value}{l:List Bs}(h:Ke w d D v l)(a:D.bundle=some b):∃B,A0 w d #[.pointer (some ⟨B,0,none⟩),D.said] 154/\Ej (fun c=>c≠d) w B b/\RB b:=by
 obtain⟨r,k,H⟩:=h.desk;rcases H with⟨H,_⟩|⟨i,B,e,f,g⟩
 ·rw[a]at H;cases H
 rw[a]at e;cases e;subst f;exact⟨B,k,g⟩
def zp(d:Nat)(D:Ap)(b:Al)(v:Value)(x:Bs)(w:World)(h:Ke w d D v [x])(g:D.bundle=some b):Calls prog 161 #[.pointer (some ⟨d,0,none⟩),Lo,v] w fun e N=>J5 (Hf D [x]) e/\Below w.heap.size w N:=by
 have F:=AE (show Hf D [x]=match Be x with
  |none=>.error 3
  |some a=>.ok (itoa (D8 b a))from by unfold Hf;rw[AL ah,g];rfl)
 obtain⟨q,p,R,B⟩:=h.dB g;have O:=p.cell;obtain⟨bk,o,c,rfl,a3,a4,E⟩:=h.rd;have G:=E 0 x rfl;rw[BI]at G;have a5:=h.each x ah;have r:=fun W=>U5 x W aa
 have I:=h.g;obtain⟨z,n,hz,J,V⟩:∃(z:A3)(n:Int),z.len<=8000000/\Hid (J5 (Hf D [x]) (.returned (.tuple #[itoa (D8 b z),n])))/\N6 x=.tuple #[z.val,n]:=by
  unfold N6;cases s:Be x with
  |none=>exact⟨A3.zero,3,ae,by rw[F.o,s];exact AE ⟨_,rfl⟩,rfl⟩
  |some a=>exact⟨a,0,by have:=Iv s;omega,by rw[F.o,s];exact AE rfl,rfl⟩
 rw[V]at r;have t:=fun W H=>oU (fun _=>True) q b z W H aa (by have:=B.into.places;have:=B.into.whole.head.2.2;omega) (by have:=B.into.ids;have:=B.into.whole.head.2.2;omega)
 have u:=Xl B.into z;have y:=fun W H=>Fj (D8 b z) u.1 u.2 W H
 generalize D8 b z=fv at J t y;have R:=Ej.Ac (Q:=fun _=>True) (fun _ _ _=>trivial) R;clear h V F B E u;go_enter func161,ntmps161;go_wp2_with fail;with_reducible refine(r _).mono ?_
 rintro e k⟨rfl,A⟩;have C:=(AG k.heap.size k).alloc (AF _) (.cells z.cells 36);have l:=A0.new k z.cells 36;have j:=A.trans (C.mono A.size);have m:=p.next j p.lt;clear r O G;go_upto_region 24 with fail;generalize World.alloc _ _=f at l j C m|-;have L:=R.next j;have M:=I.next j;have P:∀i,f.drew.cell? ⟨d,i,none⟩=(#[.pointer (some ⟨q,0,none⟩),D.said]:Array Value)[i]?:=m.cell;have S:∀i,f.drew.cell? ⟨k.heap.size,i,none⟩=z.cells[i]?:=l.cell;have T:=AE m;have U:=AE l;have X:=l.lt;have Y:=m.lt;have Z:=(AG f.heap.size f).drew;have a0:=fun W(H:Below f.heap.size f W)=>t W (L.next H)
 have a1:=fun W(H:Below f.heap.size f W)=>y W (M.next H)
 clear m l t y L M R I p C A;go_region_held3(fun W=>(∀i,W.cell? ⟨d,i,none⟩=(#[.pointer (some ⟨q,0,none⟩),.string ⟨D.said.toArray⟩]:Array Value)[i]?)/\(∀i,W.cell? ⟨k.heap.size,i,none⟩=z.cells[i]?)/\Below f.heap.size f W)
  (first
   |with_reducible exact⟨P,S,Z⟩
   |with_reducible exact⟨(T.o.next K Y).cell,(U.o.next K X).cell,K⟩)
  ((
   first
   |(go_at_call 22;go_split_ands;with_reducible refine(a0 _ ax).mono ?_;rintro e a2⟨rfl,g⟩;have K:=Bp g (w0:=f) ax)
   |(go_at_call 41;go_split_ands;with_reducible refine(a1 _ ax).mono ?_;rintro e a2⟨rfl,g⟩;have K:=Bp g (w0:=f) ax)))
 all_goals go_split_ands
 all_goals
  go_wp2;go_ret2;exact⟨J.o,j.trans (IJ ax j.size)⟩
def zq(d:Nat)(D:Ap)(b:Al)(v:Value)(l:List Bs)(w:World)(h:Ke w d D v l)(h0:l.length=0)(Y:D.bundle=some b):Calls prog 161 #[.pointer (some ⟨d,0,none⟩),Kz,v] w fun e w'=>J5 (Hi D l) e/\Below w.heap.size w w':=by
 have N:=AE (by unfold Hi;rw[AL aa,Y]:Hi D l=.ok (112::97::114::116::115::32::D4 (b.whole.parts.map Gp)));obtain⟨bp,Z,hR,hB⟩:=h.dB Y;have kc:=Z.cell;obtain⟨bk,o,c,rfl,_⟩:=h.rd;have hg:=h.g;have a0:=hB.into;obtain⟨a1,sa,si,_,t,b0,_⟩:=hR;have b1:=AE (fun q(g:q∈b.whole.parts)=>(a0.whole.part g).fl);have c1:=a0.whole.head.2.2;obtain⟨r,u,a2,b2⟩:=b0.parts;obtain⟨⟨ra,rn,rc⟩,rb,rm,⟨f8,c2,f9⟩⟩:=a1;have c3:c2=r.length:=by
  obtain⟨a,c,e,_⟩:=u;injection e
 subst c3;unfold Ii at t;simp only[A9]at t u;have kb:=t.cell;have c4:=Ba.Ac (Q:=fun _=>True) u (fun _ _ _=>trivial);have b3:=AE b2;have c5:r.length<=b.whole.parts.length:=FX a2;have c6:b.whole.parts.length<=r.length:=FX a2.symm;clear h h0 Y Z hB b0 t b2 a2 a0 u;generalize b.whole.parts=P at N b1 c1 b3 c5 c6;unfold Kz;go_enter func161,ntmps161;go_wp2_with fail;clear kb kc;go_loopw[11,76] (fun ov iv wr=>∃(k:Nat)(O:List Bs),iv=k/\k<=r.length/\O.length<=k/\Do wr w.heap.size ov O/\Hid (O++(P.drop k).map Gp=P.map Gp)/\Hid (∀x∈O,x.length<=200000)/\Below w.heap.size w wr) (fun _ iv _=>r.length-(intOf iv).toNat)
 case atStart=>exact⟨0,[],rfl,aa,ah,A1.nil _ _ _ _ _,AE ah,AE (fun x h=>ee),AG _ _⟩
 obtain⟨k,O,rfl,Z,g0,H,A,HO,B⟩:=hrel;have c7:=B.size;by_cases b4:k<r.length
 ·obtain⟨L,rfl,_,C,j⟩:=c4.at Dx k b4;have a3:k<P.length:=by omega
  have e0:=(B.cell (p:=⟨L,k*4+0,none⟩) C).trans (j 0 ae);have e1:=(B.cell (p:=⟨L,k*4+1,none⟩) C).trans (j 1 ae);have e2:=(B.cell (p:=⟨L,k*4+2,none⟩) C).trans (j 2 ae);have e3:=(B.cell (p:=⟨L,k*4+3,none⟩) C).trans (j 3 ae);have g:=b3.o k b4 a3;have E:=b1.o _ (AQ a3);have S:=AE (show∀y,P[k]=y->(O++[Gp y])++(P.drop (k+1)).map Gp=P.map Gp from fun y hy=>by
   rw[<-A.o,AH a3,CD,hy];simp)
  have S:=AE (S.o _ rfl);clear j A;generalize P[k]=q at g E S;generalize r[k]=a1 at g e0 e1 e2 e3;have b5:=g.body;have a4:=g.hd.rd;obtain⟨⟨F,qn,G⟩,m,I,⟨J,M,R⟩⟩:=a1;simp only[A9]at b5 a4;have c8:qn=q.head.length:=by
   obtain⟨a,c,e,_⟩:=a4;injection e
  subst b5 c8;simp only[Dk,A9,BI,AU,AR]at e0 e1 e2 e3;have T:=AE (ca:Gp q=itoa q.head.length++32::C1 q.body);have c9:=E.1.1;have d0:=E.2;have a5:=fun W hW=>Fj (q.head.length:Int) aa aa W hW
  have d1:=BE (q.head.length:Int) aa aa;have a6:=fun W=>Ov q.body W aa
  have b6:=L2 q.body;clear g a4 E;generalize Gp q=lt at S T;generalize itoa (q.head.length:Int)=i at a5 d1 T;generalize C1 q.body=s at a6 b6 T;generalize q.head.length=U at e0 c9 a5|-;generalize q.body=m at e1 d0 a6 b6|-;have d2:=AE (fun e=>FO _ (A1.Dj H wr.heap.size e));have BA:=(AG wr.heap.size wr).alloc (AF _) (.cells #[.slice F U G,m,I,.slice J M R] 44);have K:=A0.new wr #[.slice F U G,m,I,.slice J M R] 44;have H:=A1.next H BA;have B1:=B.trans (BA.mono c7);have a7:=hg.next B1;go_upto_region 17 with fail;generalize World.alloc _ _=f at BA K H B1 a7|-;have d3:=K.drew.cell;have d4:=AE (show Gz f.drew from a7.next (AG f.heap.size f).drew);have d5:=AE (show A0 f.drew wr.heap.size #[.slice F U G,m,I,.slice J M R] 44 from K.drew);have d6:=AE (show wr.heap.size<f.drew.heap.size from K.lt);have d7:=AE H;have V:=AE B1;have z1:¬9223372036854775807<i.length+1:=aa
  have z2:¬9223372036854775807<i.length+1+s.length:=aa
  have q1:=AE (ag:(O.length+[(i++32::s:Bs)].length)*16<=140737488355328);have q2:=AE (ao:O.length+[(i++32::s:Bs)].length<=maxLen);have d8:=AE (show∀x∈O++[lt],x.length<=200000 from fun x n=>by
   rcases BY.1 n with n|n
   ·exact HO.o x n
   rw[CS.1 n,T.o];simp only[AJ,AK];omega)
  clear a7 K H
  go_region_held_law (fun W=>∀k,W.cell? ⟨wr.heap.size,k,none⟩=(#[.slice F U G,.string ⟨m.toArray⟩,.bool I,.slice J M R])[k]?)
   (first
    |with_reducible exact d3
    |with_reducible exact d9
    |with_reducible exact e4
    |with_reducible exact e5
    |with_reducible exact e6)
   ((
    first
    |(refine Lg (α:=Bs) (cs:=Bl) (size:=1) (z:=.string ByteArray.empty) By R8 R7 rfl ae underlying55 rfl _ _ rfl w.heap.size _ O [(i++32::s:Bs)] ⟨a8.heap.size,0,none⟩ 1 1 rfl ae rfl e7.o rfl e8 q1.o q2.o e9.o ?_;intro v' g1 f0 f1 f2;have e6:=(Lv b7.o f1 (fun e=>d2.o e.symm)).cell)
    |(go_simp;with_reducible refine(a5 _ d4.o).mono ?_;rintro e g2⟨rfl,b8⟩;have f3:=AE (Bp b8 (w0:=f) ((AG f.heap.size f).drew));have a9:=AE (A0.next d5.o b8 d6.o);have d9:=a9.o.cell)
    |(go_simp;with_reducible refine(a6 _).mono ?_;rintro e a8⟨rfl,b9⟩;have X:=AE (Bp b9 (w0:=f) f3.o);have c0:=AE (A0.next a9.o b9 (A0.lt a9.o));have e4:=c0.o.cell;have e7:=AE (A1.alloc (A1.next (w:=f) d7.o X.o) (.cells #[(i++32::s:Bs)] 9));have e8:=Il a8 (i++32::s) 9;have b7:=AE (c0.o.alloc (.cells #[(i++32::s:Bs)] 9));have e5:=b7.o.cell;have e9:=AE (by have h1:=X.o.size;have h2:=V.o.size;simp at h1 h2|-;omega:w.heap.size<=(a8.alloc (.cells #[(i++32::s:Bs)] 9)).heap.size))))
  all_goals
   go_wp2;go_roundw
   case rel=>exact⟨k+1,O++[lt],aj,aa,ag,by rw[T.o];exact f0,S,d8,((V.o.trans (X.o.mono V.o.size)).alloc (AV V.o.size X.o.size) _).trans f2⟩
   simp[intOf];omega
 have HF:=AE (show P.map Gp=O from by
  rw[<-A.o,JC aa];simp)
 obtain rfl:k=r.length:=aa
 have f4:=T2 HO.o;have f5:(D4 O).length<=3000102000000:=by
  have:=CV (200000+2) (show O.length<=60002 by omega);omega
 have hJ:=T3 _ _ O wr H aa aa;have N:=AE (by rw[N.o,HF.o]:Hi D l=.ok (112::97::114::116::115::32::D4 O));generalize D4 O=ct at hJ N f5;obtain⟨oa,oc,f6,_⟩:=A1.rd ae By H;subst f6;clear f4 A HF;go_wp2_with fail;with_reducible refine hJ.mono ?_
 rintro e w6⟨rfl,f7⟩;go_wp2;go_ret2;exact⟨ay,B.trans (f7.mono aa)⟩
def Xy{b:Al}(h:C4 s=.ok b):V9 b/\b.whole.parts≠[]/\b.whole.many=true/\b.whole.body=[]:=by
 unfold C4 at h;cases a:Ef s with
 |error n=>rw[a]at h;cases h
 |ok p=>
  rw[a]at h;simp only at h;obtain⟨k,d⟩:=ZO a;unfold Iz at h;split at h
  ·cases h
  split at h
  ·cases h
  rename_i e;split at h
  ·cases h
  rename_i f;simp only[GA]at h;have y:∀q∈p.parts,q.many=false:=fun q H=>by
   cases m:q.many with
   |false=>rfl
   |true=>exact absurd (KQ.2 ⟨q,H,m⟩) f
  obtain⟨_,g⟩:=k;obtain⟨i,_,hbody⟩:=g.resolve_left (fun j=>e j.2.2);have c:b.whole=p:=by rw[<-h]
  rw[c];refine⟨fun q H=>?_,e,i,hbody⟩;rw[c]at H;exact⟨y q H,((d q H).leaf (y q H)).2.2.2⟩
end Go.Proofs.YtignjjnflcpiiaaGreatDoor
