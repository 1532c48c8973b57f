/- Bind's round with a part. Condition: what the variables h -/
import Derived.Test.YtignjjnflcpiiaaGreatDoorV15
import Derived.Test.YtignjjnflcpiiaaGreatDoorV30
set_option maxHeartbeats 16000000
set_option maxRecDepth 100000 set_option linter.all false
namespace Go.Proofs.YtignjjnflcpiiaaGreatDoor
open Go Go.RowKit Proofs.Tryz Lib
def gb{F:List Value}(Q:Exit->Act->World->Prop)(bp bw g m k cap B:Nat)(b:Al)(q:A7)(R:List Au)(qa:Option Go.Addr)(qc:Nat)(t:Bool)(u:Je)(e:Bs)(y0 y1 y2:Value)(w:World)
  (c1:Dl (fun c=>c≠g) w bp b) (a4:Fx b) (hk:k<b.whole.parts.length) (hq:b.whole.parts[k]=q) (A:k<R.length) (M:R[k]=((qa,q.head.length,qc),q.body,t,u))
  (c2:A0 w bw #[y0,y1,y2,.slice (some ⟨g,0,none⟩) R.length cap] 44) (C:Gk w B (.slice (some ⟨g,0,none⟩) R.length cap) R) (a5:Ba 2 Bc (fun c=>c≠g) w (.slice qa q.head.length qc) q.head)
  (a6:w.cell? ⟨m,0,none⟩=some e) (d6:m≠g) (d7:e.length<=1000) (hg:Gz w) (g0:8<B) (c3:∀a,∀x∈Fw b q a,-9223372036854775808<=x.2/\x.2<=9223372036854775807)
  (c4:Ho 150 [(0,.pointer (some ⟨bp,0,none⟩)),(4,.pointer (some ⟨bw,0,none⟩)),(6,.func (.func 40) #[] #[.pointer (some ⟨m,0,none⟩)]),(31,k)] ⟨F.toArray,[]⟩)
  (hN:∀(x:Exit),x=.normal\/x=.exit 1->∀(N:World)(v:Je)(ac:Act),Kp [(0,7),(10,11),(20,33),(138,150)] [] F ac->Gk N B (.slice (some ⟨g,0,none⟩) R.length cap) (R.set k (v,Jx e q.body ((Ca b (k:Int)).getD []),t,u))->Ba 2 Bc (fun c=>w.heap.size<=c) N (A9 v) (O3 e k q.head)->A5 g w.heap.size w N->Q x ac N):
  Code.wp prog Up Q ⟨F.toArray,[]⟩ w:=by
 obtain⟨fr,rfl⟩:=c4.Qc;clear c4;simp only[Fp,↓reduceIte,Nat.reduceAdd,Nat.reduceEqDiff]at hN|-;have HN:=AE hN;have d8:=AE c1;have d9:=AE c3;have HQ:=AE hq;have a7:=a4.whole.part (AQ hk);rw[hq]at a7;have a8:=a7.fl.1;have g1:=a7.fl.2;have HH:=AE (ca:O3 e k q.head=(q.head.filter fun f=>!(A2 f.1==A2 C9))++[(C9,Fu (Co e k))]);have g2:=A1.Ha C g rfl;have g3:=A1.Dj C g rfl;have c0:=A1.cellAt Dx C k A 0 ae;have c5:=A1.cellAt Dx C k A 1 ae;have P:=AE (fun(W:World)(o:Gk W B (.slice (some ⟨g,0,none⟩) R.length cap) R)(s:Je)=>A1.oQ Dx o k 0 A ae (A9 s) (s,(R[k]).2) rfl);have S:=AE (fun(W:World)(o:Gk W B (.slice (some ⟨g,0,none⟩) R.length cap) R)=>A1.cellAt Dx o k A 0 ae);simp only[M]at P S c0 c5;simp only[Dk,A9,AU,AR,BI]at c0 c5 S P;have g4:=c2.cell;have g5:(0:Int)<=k:=aa
 have g6:(k:Int)<R.length:=aa
 have e2:=AE M;have HK:=AE hk;have g7:=AE c2;have g8:k<=20002:=by have:=a4.whole.head.2.2;omega
 have c6:=BJ w _ a6;generalize c7:q.head=H at a5 a8 HH c0 M e2 P S;have e3:=AE c7;clear c7 hN c1 c3 hq M;have g9:=a8.1;have e4:=AE a8;delta Up f11;dsimp only[Eu,R9,Ow,Option.getD];go_wp2_with fail;go_loopw[9,43] (fun pv iv wr=>∃(j:Nat)(O:List A4),iv=j/\j<=H.length/\O.length<=j/\Bt wr w.heap.size pv O/\Hid (O++(H.drop j).filter (fun f=>!(A2 f.1==A2 C9))=H.filter fun f=>!(A2 f.1==A2 C9))/\Below w.heap.size w wr) (fun _ iv _=>H.length-(intOf iv).toNat)
 case atStart=>exact⟨0,[],rfl,aa,ah,A1.nil _ _ _ _ _,AE ah,AG _ _⟩
 obtain⟨j,O,rfl,hj,h0,T,U,l⟩:=hrel;have c8:=l.size;by_cases a9:j<H.length
 ·obtain⟨qb,rfl,_,c9,b0⟩:=a5.at Af j a9;have e0:=(l.cell (p:=⟨qb,j*2+0,none⟩) c9).trans (b0 0 ae);have e1:=(l.cell (p:=⟨qb,j*2+1,none⟩) c9).trans (b0 1 ae);have X:=e4.o.2 _ (AQ a9);have d:=AE (show∀f,H[j]=f->(O++(if !(A2 f.1==A2 C9)then f::(H.drop (j+1)).filter (fun f=>!(A2 f.1==A2 C9))else(H.drop (j+1)).filter (fun f=>!(A2 f.1==A2 C9))))=H.filter fun f=>!(A2 f.1==A2 C9)from fun f X=>by
   rw[<-U.o,AH a9,X,DB])
  have d:=AE (d.o _ rfl);clear b0 U;generalize H[j]=f at e0 e1 d X;obtain⟨x,y⟩:=f;simp only[Bc,BI,AU,AR]at e0 e1 d X;have E:=(AG wr.heap.size wr).alloc (AF _) (.cells #[x,y] 92);have K:=A0.new wr #[x,y] 92;have b1:=fun W=>Gw x W aa
  have b2:=fun W=>Gw [67,111,110,116,101,110,116,45,73,68] W ae
  have Y:=AE (ca:A2 C9=A2 [67,111,110,116,101,110,116,45,73,68]);generalize A2 [67,111,110,116,101,110,116,45,73,68]=L at b2 Y;rw[show A2 C9=L from Y.o]at d;generalize d0:A2 x=Z at b1 d;have h2:=AE d0;clear d0;have d1:=K.cell;have J:=A1.next T E;go_upto_region 12 with fail;generalize World.alloc _ _=w2 at E K d1 J|-;go_wp2_with fail;with_reducible refine(b1 _).mono ?_
  rintro r w3⟨rfl,b3⟩;go_wp2_with fail;with_reducible refine(b2 _).mono ?_
  rintro r w4⟨rfl,d2⟩;have a0:=b3.trans (d2.mono b3.size);have K:=K.next a0 K.lt;have E:=E.trans (a0.mono E.size);have B4:=l.trans (E.mono c8);have J:=A1.next J a0;have d1:=K.cell;have e5:=B4.size;clear b1 b2 b3 d2 a0 T l e0 e1;by_cases G:Z=L
  ·have D:=AE (by rw[<-d.o,G];simp:O++(H.drop (j+1)).filter (fun f=>!(A2 f.1==L))=H.filter fun f=>!(A2 f.1==L));have D:=AE (by rw[Y.o];exact D.o:O++(H.drop (j+1)).filter (fun f=>!(A2 f.1==A2 C9))=H.filter fun f=>!(A2 f.1==A2 C9));have e6:(Z==L)=true:=by rw[BL];exact G
   clear d G;go_wp2;go_roundw
   case rel=>exact⟨j+1,O,aj,aa,aa,J,D,B4⟩
   simp[intOf];omega
  have D:=AE (show(O++[(x,y)])++(H.drop (j+1)).filter (fun f=>!(A2 f.1==L))=H.filter fun f=>!(A2 f.1==L)from by
   rw[<-d.o,(by rw[AI];exact G:(Z==L)=false)];simp)
  have D:=AE (by rw[Y.o];exact D.o:(O++[(x,y)])++(H.drop (j+1)).filter (fun f=>!(A2 f.1==A2 C9))=H.filter fun f=>!(A2 f.1==A2 C9));have e6:(Z==L)=false:=by rw[AI];exact G
  have e7:=A1.alloc J (.cells #[x,y] 92);clear d G;go_wp2_with(at_builtin;refine Q8 rfl _ _ rfl w.heap.size _ O (x,y) w4.heap.size 1 rfl e7 rfl (I0 w4 (x,y) _) aa ag ?_;intro v' w9 a1 e8 b4);go_wp2;go_roundw
  case rel=>exact⟨j+1,O++[(x,y)],aj,aa,ag,a1,D,(B4.alloc e5 _).trans b4⟩
  simp[intOf];omega
 obtain rfl:j=H.length:=aa
 have HF:=AE (by rw[<-U.o,AS];simp:(H.filter fun f=>!(A2 f.1==A2 C9))=O);have a2:=AE (by rw[HH.o,HF.o]:O3 e k H=O++[(C9,Fu (Co e k))]);have d3:=(l.cell (p:=⟨m,0,none⟩) c6).trans a6;have b5:=bW (k:Int) e m wr aa aa d3 aa (hg.next l);have e9:(Co e (k:Int)).length<=1100:=by
  have:=BE (k:Int) aa aa;unfold Co;simp;omega
 have a3:=AE (show∀n,Co e (k:Int)=n->O3 e k H=O++[([67,111,110,116,101,110,116,45,73,68],60::(n++[62]))]from fun n hn=>by rw[a2.o,hn];rfl);have a3:=AE (a3.o _ rfl);generalize Co e (k:Int)=nm at b5 e9 a3;clear a2 HF U HH d3;go_upto_region 15 with fail;go_cut[]from 57 to 68 (fun wx=>∃sv:Je,Gk wx B (.slice (some ⟨g,0,none⟩) R.length cap) (R.set k (sv,q.body,t,u))/\Ba 2 Bc (fun c=>w.heap.size<=c) wx (A9 sv) (O3 e k H)/\A5 g w.heap.size w wx)
 case first=>
  go_wp2_with fail;with_reducible refine b5.mono ?_
  rintro r w5⟨rfl,b6⟩;have f0:=A1.next T b6;have B5:=l.trans (b6.mono c8);have f1:=B5.size;have f2:=A1.alloc f0 (.cells #[([67,111,110,116,101,110,116,45,73,68]:Bs),(60::(nm++[62]):Bs)] 92);have d4:=fun W(hb:Below w.heap.size w W)=>A1.below C hb (fun b e=>by injection e with e;simp only at e;omega)
  have f3:=AE d4;clear d4 b5 b6 T l C a5;go_wp2_with(at_builtin;refine Q8 rfl _ _ rfl w.heap.size _ O ([67,111,110,116,101,110,116,45,73,68],60::(nm++[62])) w5.heap.size 1 rfl f2 rfl (I0 w5 ([67,111,110,116,101,110,116,45,73,68],60::(nm++[62])) _) aa ag ?_;intro v' w9 a1 e8 b4;have K9:=AE ((B5.alloc f1 (.cells #[([67,111,110,116,101,110,116,45,73,68]:Bs),(60::(nm++[62]):Bs)] 92)).trans b4);have b7:=f3.o _ K9.o;have h3:=A1.free b7;have h4:=S.o _ b7;obtain⟨V,i,f4,_⟩:=A1.rd Nat.two_pos Af a1;subst f4);go_wp2;go_meet;have b8:=P.o _ b7 (V,O.length+1,i);have z:A5 g w.heap.size w (w9.setCell ⟨g,k*4,none⟩ (.slice V (O.length+1) i)):=(A5.of K9.o).set _;refine⟨(V,O.length+1,i),b8,?_,z⟩;rw[a3.o];refine Ba.set ?_ _ ai;have h1:=(A1.Dq ae Af a1).Ac (Q:=fun c=>w.heap.size<=c) (fun c h _=>h.1);simp only[AJ,FF]at h1;exact h1
 case rest=>
 rename_i hK;obtain⟨⟨V,I,i⟩,b8,f5,z⟩:=hcut;obtain⟨wy,rfl⟩:∃x:World,x=wc:=⟨_,rfl⟩;have b9:(R.set k ((V,I,i),q.body,t,u)).length=R.length:=ah
 have f6:(R.set k ((V,I,i),q.body,t,u))[k]'(by rw[b9];exact A)=((V,I,i),q.body,t,u):=ah
 have f7:wy.cell? ⟨m,0,none⟩=some e:=(z.cell (p:=⟨m,0,none⟩) c6 (by simp only;exact d6)).trans a6;have a2:=e3.o;subst a2;refine hK _ _ ?_;refine fq _ bp g m k cap B b q (R.set k ((V,I,i),q.body,t,u)) e _ (Dl.Ac (fun _ _ _=>trivial) (d8.o.keep z.size (fun c hP f8=>z.block c f8 hP))) a4 HK.o HQ.o (by rw[b9];exact A) (by rw[f6]) (by rw[b9];exact b8) f7 d7 (hg.Ai z aa) d9.o ⟨_,rfl,rfl,rfl⟩ ?_;intro x hx wz ac d5 ho hb;obtain⟨gr,rfl⟩:=d5.op;clear d5;simp only[List.foldl,List.set,Kk,↓reduceIte,Nat.reduceAdd,Nat.reduceLeDiff,Nat.reduceEqDiff];have HO:=AE ho;have BZ:=z.trans (hb.mono z.size);have f9:=f5.Ai hb aa;clear ho;have HO:=AE (show Gk wz B (.slice (some ⟨g,0,none⟩) R.length cap) (R.set k ((V,I,i),Jx e q.body ((Ca b (k:Int)).getD []),t,u))from by
  have:=HO.o;simp only[JI,List.set_set,FL]at this;exact this)
 exact HN.o _ hx wz (V,I,i) _ ⟨_,rfl,rfl,af,rfl⟩ HO.o f9 BZ
theorem Oz(b:Al)(e:Bs):∀(l:List A7)(i:Nat),(Fl b e i l).length=l.length
 |[],_=>rfl
 |_::l,i=>by simp[Fl,Oz b e l]
theorem cA(b:Al)(e:Bs):∀(l:List A7)(i k:Nat)(h:k<l.length),(Fl b e i l)[k]?=some (Jg b e (i+k) l[k])
 |p::l,i,0,_=>rfl
 |p::l,i,k+1,h=>by
  have:=cA b e l (i+1) k ek;rw[(aa:i+1+k=i+(k+1))]at this;exact this
theorem cB{α:Type}[DecidableEq α](x:α):∀(l:List α)(k:Nat),-1<=Br x l k/\Br x l k<=(l.length:Int)+k
 |[],k=>by
  simp only[Br,BG];omega
 |y::l,k=>by
  unfold Br;split
  ·simp;omega
  have:=cB x l (k+1);simp;omega
def Xl{b:Al}(h:Fx b)(a:A3):-9223372036854775808<=D8 b a/\D8 b a<=9223372036854775807:=by
 have h0:=h.whole.head.2.2;have H:=cB (Cn a).path b.ids 0;have c:=cB (Cn a) b.places 0;have d:=h.ids;have e:=h.places;unfold D8;simp only;split
 ·split<;>omega
 split
 ·omega
 omega
def Xm{b:Al}(H:Fx b)(p:A7)(a:A3):∀x∈Fw b p a,-9223372036854775808<=x.2/\x.2<=9223372036854775807:=fun x h=>by
 unfold Fw at h;split at h
 ·obtain⟨y,_,rfl⟩:=DN.1 h;unfold Fv;cases Be y.2.2 with
  |none=>simp
  |some r=>exact Xl H _
 cases h
theorem oX(s:Bs):∀(l:List Bs)(k r:Nat),Ot s l k=some r->r<k+l.length
 |[],_,_,h=>ee
 |x::l,k,r,h=>by
  unfold Ot at h;split at h
  ·cases h;simp
  have:=oX s l (k+1) r h;simp;omega
variable {s m e Z t:Bs}{n i k lb B:Nat}{p:A7}{P:Nat → Prop}{raws R:List Au}
def Xn{b:Al}(h:C4 s=.ok b):b.root<=20002:=by
 have n:=Sw h;have h0:=n.whole.head.2.2;unfold C4 at h;cases H:Ef s with
 |error e=>rw[H]at h;cases h
 |ok p=>
  rw[H]at h;simp only[Iz]at h;split at h
  ·cases h
  split at h
  ·cases h
  split at h
  ·cases h
  cases h;simp only at h0|-;cases Cc (Mm p.head).2 Bw with
  |none=>simp
  |some S=>
   simp only;split
   ·simp
   cases o:Ot S (p.parts.map fun q:A7=>G4 q.head) 0 with
   |none=>simp
   |some r=>
    have:=oX _ _ _ _ o;simp at this|-;omega
def cC{w:A7}(h:G6 (n+1) w):(G5 w).length<=23:=by
 have H:=bV h;have a:=fW [64,98] (Fe w);have b:=BE (Ja [64,98] (Fe w):Int) aa aa;unfold G5;simp;omega
def Xo(e:Bs)(i:Nat)(h:i<=9223372036854775807):(Co e i).length<=e.length+25:=by
 have H:=BE (i:Int) aa aa;unfold Co;simp;omega
def gg(p:A4)(H:Ag p.1=true)(x:Bs)(h:Hm p=some x):x.length<=4*(p.1.length+p.2.length+1):=by
 have e:1<=p.1.length:=by
  cases h0:p.1 with
  |nil=>rw[h0]at H;cases H
  |cons c l=>simp
 unfold Hm at h;split at h
 ·cases h;have:=mN p.2;simp;omega
 cases h
theorem oY:∀(l:List A4)(o:Bs),Ee l=some o->o.length<=4*Az l
 |[],o,h=>by cases h;simp
 |p::l,o,h=>by
  unfold Ee at h;cases H:Hm p with
  |none=>rw[H]at h;cases h
  |some x=>
   rw[H]at h;simp only[BM]at h;obtain⟨O,a,rfl⟩:=h;have d:=oY l _ a;have b:Ag p.1=true:=by
    unfold Hm at H;split at H
    ·rename_i c;simp only[BR]at c;exact c.1.1
    cases H
   have e:=gg p b x H;rw[AJ,Hp];omega
def gh{o:Bs}{l:List A4}(h:Cl m l=some o):o.length<=m.length+4*Az l:=by
 unfold Cl at h;simp only at h;split at h
 ·simp only[BM]at h;obtain⟨O,H,rfl⟩:=h;have:=oY _ _ H;simp;omega
 cases h
def gj(v s:Bs):(Jy v s).length<=5*v.length+4*(s.length+8):=by
 have b:=mM v;unfold Jy;simp only;cases H:Cl ((Ay v).getD ([],[])).1 ((((Ay v).getD ([],[])).2.filter fun f=>!(f.1==Bw))++[(Bw,Fu s)])with
 |none=>simp
 |some o=>
  have h:=gh H;have c:=X6 (fun f=>!(f.1==Bw)) ((Ay v).getD ([],[])).2;rw[Qm]at h;have a:Az [(Bw,Fu s)]=s.length+8:=by
   simp[Az,Bw,Fu];omega
  rw[a]at h;simp only[DA];omega
theorem oZ(s:Bs):∀l:List A4,Az (D9 l s)<=5*Az l+4*(s.length+8)
 |[]=>by simp[D9,Az]
 |f::l=>by
  unfold D9;split
  ·have:=gj f.2 s;rw[Hp,Hp];simp only;omega
  have:=oZ s l;rw[Hp,Hp];omega
def gl(e:Bs)(i:Nat)(H:i<=9223372036854775807)(h:List A4):Az (O3 e i h)<=Az h+e.length+40:=by
 have b:=X6 (fun f=>!(A2 f.1==A2 C9)) h;have c:=Xo e i H;unfold O3;rw[Qm];have a:Az [(C9,Fu (Co e i))]=(Co e i).length+13:=by
  simp[Az,C9,Fu];omega
 rw[a];omega
theorem pA(s:Bs):∀(l:List (Av×Bs))(i j:Nat),Cg i (l.map (·.1)) j->(I6 s l i).length<=(s.length-i)+(l.map fun x=>6*x.2.length+2).sum
 |[],i,_,_=>by simp[I6]
 |x::l,i,j,h=>by
  have H:=nC (Na s x.1) x.2;have h0:=h.1;have a:=pA s l (x.1.1+x.1.2.1) j h.2;unfold I6;simp only[AJ,CH,BD,CD,DT]at h0|-;omega
theorem pB{e:Bs}(b:e.length<=23):∀(L:List Av)(l:List (Bs×Int)),(∀x∈l,-9223372036854775808<=x.2/\x.2<=9223372036854775807)->(∀x∈L,x.2.2.length<=x.2.1)->((L.zip ((L.zip l).map fun x=>F4 e x.1.2.2 x.2.2)).map fun x=>6*x.2.length+2).sum<=18*(L.map fun x=>x.2.1).sum+320*L.length
 |[],_,_,_=>ah
 |_::_,[],_,_=>ah
 |x::L,y::l,H,v=>by
  have ih:=pB b L l (fun x h=>H x (CJ _ h)) (fun x h=>v x (CJ _ h));have a:=H y (CN ..);have c:=v x (CN ..);have d:=oS e x.2.2 y.2 a.1 a.2;simp only[KC,CD,DT,AK];omega
def gm{b:Al}{a:A3}(j:Fx b)(k:e.length<=23)(m:G6 n p):(Jx e p.body (Fw b p a)).length<=40000000:=by
 have o:=m.fl.2;have c:=Xm j p a;unfold Jx;split
 ·omega
 rename_i q;have H:(Fw b p a).length=(Bf p.body).length:=by
  rcases Xk b p a with h|h
  ·exact absurd h q
  exact h
 generalize Fw b p a=l at c H;have d:=XY p.body;have v:=nD p.body;have i:=(I3 p.body).1;have f:=(I3 p.body).2;unfold I7;generalize p.body=s at o H d v i f|-;generalize Bf s=L at H d v i f|-;have r:=pB k L l c v;have g:((L.zip l).map fun x=>F4 e x.1.2.2 x.2.2).length=L.length:=by rw[DQ,FK];omega
 generalize((L.zip l).map fun x=>F4 e x.1.2.2 x.2.2)=V at r g|-;rw[AN g.symm,DA];have t:=pA s (L.zip V) 0 s.length (by rw[List.map_fst_zip aa];exact i);omega
def G6.par(h:G6 (n+1) p):∀q∈p.parts,He n q:=fun _ H=>(h.part H).in
def gn{b:Al}(c:e.length<=23)(d:i<=1000000)(h:G6 n p)(H:∃l,Ca b (i:Int)=some l/\(Jx e p.body l).length<=40000000):He n (Jg b e i p):=by
 cases n with
 |zero=>exact h.elim
 |succ n=>
  have f:=gl e i aa p.head;have g:=h.head;obtain⟨l,H,a⟩:=H;unfold Jg;rw[H];exact⟨aa,a,aa,h.par⟩
def pC{b:Al}(h:k<b.whole.parts.length)(H:k<b.places.length):Ca b (k:Int)=some (Fw b b.whole.parts[k] b.places[k]):=by
 unfold Ca;rw[AL aa];simp[h,H]
def gp{b:Al}(h:Fx b)(a:e.length<=23)(H:k<b.whole.parts.length):He 3 (Jg b e k b.whole.parts[k]):=by
 have p:=h.whole.part (AQ H);have c:=h.whole.head.2.2;exact gn a aa p ⟨_,pC H (by rw[h.places];exact H),gm h a p⟩
def pD{b:Al}(H:Fx b)(r:b.root<=1000000):He 4 (O4 b):=by
 have e:=cC H.whole;have f:=H.whole.head;have g:=oZ (Co (G5 b.whole) b.root) b.whole.head;have j:=Xo (G5 b.whole) b.root aa;unfold O4;refine⟨aa,aa,by rw[Oz];omega,fun q c=>?_⟩;obtain⟨k,h,rfl⟩:=JM.1 c;rw[Oz]at h;have a:=cA b (G5 b.whole) b.whole.parts 0 k h;rw[EQ]at a;have d:(Fl b (G5 b.whole) 0 b.whole.parts)[k]'(by rw[Oz];exact h)=Jg b (G5 b.whole) k b.whole.parts[k]:=by
  have:=BC (l:=Fl b (G5 b.whole) 0 b.whole.parts) (i:=k) (by rw[Oz];exact h);rw[this]at a;exact CU a
 rw[d];exact gp H e h
def Rb(P:Nat->Prop)(w:World)(b:Al)(e:Bs)(raws r:List Au)(k:Nat):Prop:=r.length=raws.length/\(∀j(h:j<r.length)(H:j<b.whole.parts.length),j<k->A8 P 3 w r[j] (Jg b e j b.whole.parts[j]))/\∀j,k<=j->r[j]?=raws[j]?
def Rb.next{w w':World}{b:Al}{r:List Au}(h:Rb P w b e raws r k)(H:A5 lb w.heap.size w w')(l:¬P lb):Rb P w' b e raws r k:=⟨h.1,fun j a c d=>(h.2.1 j a c d).Ai H l,h.2.2⟩
def Rb.step{w:World}{b:Al}(h:Rb P w b e raws R k)(f:k<b.whole.parts.length)(r:Au)(a:A8 P 3 w r (Jg b e k b.whole.parts[k])):Rb P w b e raws (R.set k r) (k+1):=by
 refine⟨by rw[FL];exact h.1,fun j H c d=>?_,fun j d=>?_⟩
 ·rw[FL]at H;by_cases e:j=k
  ·subst e;rw[JI];exact a
  rw[List.getElem_set_ne (fun x=>e x.symm)];exact h.2.1 j H c aa
 rw[List.getElem?_set_ne aa];exact h.2.2 j aa
def gq(P:Nat->Prop)(bp:Nat)(b:Al)(w:World)(h:Dl P w bp b)(p:Fx b)(f3:b.root<=1000000)(J:Gz w):Calls prog 11 #[.pointer (some ⟨bp,0,none⟩)] w fun e w'=>nP (Jz b) e/\Below w.heap.size w w':=by
 have L:=Dl.Ac (Q:=fun c=>c<w.heap.size) (fun b _ h=>h) h;have f4:=AE L;obtain⟨a0,sa,si,f5,S,c2,_⟩:=L;have HN:=AE (ca:Jz b=Iu (O4 b));have f6:=AE (pD p f3);have HW:=AE (ca:O4 b=.mk (D9 b.whole.head (Co (G5 b.whole) b.root)) b.whole.body b.whole.many (Fl b (G5 b.whole) 0 b.whole.parts));have hC:=nV 3 a0 b.whole w (A8.Ac (fun _ _ _=>trivial) c2) p.whole.in;have f7:=cC p.whole;have f8:=J.size;obtain⟨⟨xa,xn,xc⟩,xb,xm,⟨k4,k5,k6⟩⟩:=a0;unfold Ii at S;simp only[A9]at S;simp only[C3,A9]at hC;have kb:=S.cell;have k7:=p.whole.head.2.2;have f9:=F1 p.whole.head.1;clear h c2;go_enter func11,ntmps11;go_wp2_with fail;with_reducible refine hC.mono ?_
 rintro r W⟨⟨g0,rfl,c3⟩,b1⟩;have k8:=J.next b1;have g1:=b1.size;have c4:=c3.rd;obtain⟨⟨d,hn,H⟩,bd,mn,⟨u,pn,y⟩⟩:=g0;obtain⟨c5,c6,q,R,f,a1,a2,b0⟩:=c3;simp only[A9]at c5 c6 q f a2 b0;have g2:hn=b.whole.head.length:=by
  obtain⟨a,c,e,_⟩:=A1.rd ae Af q;injection e
 have g3:pn=R.length:=by
  obtain⟨a,c,e,_⟩:=A1.rd ae Dx f;injection e
 subst g2 g3;subst c5 c6;clear hC kb;have b2:=A1.Dj q;have c7:=A1.Ha q;have c8:=A1.Dj f;have g4:=A1.Ha f;have K:=A0.new W #[.slice d b.whole.head.length H,b.whole.body,.bool b.whole.many,.slice u R.length y] 44;have M:=(AG W.heap.size W).alloc (AF _) (.cells #[.slice d b.whole.head.length H,b.whole.body,.bool b.whole.many,.slice u R.length y] 44);have k9:R.length<=b.whole.parts.length:=FX a1;have l0:b.whole.parts.length<=R.length:=FX a1.symm;clear a1;go_upto_region 2 with fail;generalize World.alloc _ _=w2 at K M|-;have B2:=b1.trans (M.mono g1);have hS:=fh ((d,b.whole.head.length,H),b.whole.body,b.whole.many,(u,R.length,y)) b.whole w2 (A8.Ac (fun _ _ _=>trivial) (c4.next M)) p.whole (J.next B2);simp only[C3,A9]at hS;have c9:=K.cell;have g5:=M.size;generalize G5 b.whole=e at hS f7 HW;clear c4;go_wp2_with fail;with_reducible refine hS.mono ?_
 rintro r N⟨rfl,T⟩;have K:=K.next T K.lt;have B3:=B2.trans (T.mono B2.size);have b3:=M.trans (T.mono g5);have a3:=A0.new N #[e] 9;have U:=(AG N.heap.size N).alloc (AF _) (.cells #[e] 9);have l1:=T.size;go_upto_region 3 with fail;generalize World.alloc _ _=w4 at a3 U|-;have K:=K.next U K.lt;have V:=B3.trans (U.mono B3.size);have a4:=b3.trans (U.mono b3.size);have l2:=U.size;have l3:=a4.size;have l4:=K.lt;have l5:=a3.lt;have d0:=V.size;clear hS T M b3 c9 B3 B2;have g6:∃G,(0<R.length->u=some ⟨G,0,none⟩/\G<W.heap.size)/\w.heap.size<=G/\(∀c,c<W.heap.size->(Value.slice u R.length y).ownBlock≠some c->c≠G)/\G≠W.heap.size/\G≠N.heap.size/\(Value.slice d b.whole.head.length H).ownBlock≠some G:=by
  rcases f.2 with⟨_,h0⟩|⟨g,l6,l7,hv,g7,_⟩
  ·refine⟨w4.heap.size,fun h=>aa,d0,fun c H _=>aa,aa,aa,fun e=>?_⟩;have:=b2 _ e;omega
  injection hv with hv _ _;subst hv;have z:=c8 g rfl;exact⟨g,fun _=>⟨rfl,z⟩,g7,fun c _ g8 e=>g8 xi,aa,aa,fun e=>a2 g e rfl⟩
 obtain⟨G,d1,g9,d2,d3,b4,d4⟩:=g6;have h1:=AE b0;have h2:=AE d1;have h3:=AE d2;have d5:=AE d4;have a5:=AE b2;have h4:=AE c7;have h6:=AE a2;have d6:=AE K;have d7:=A1.next f a4;have h7:=A1.next q a4;have h8:=AE f9;have c9:=K.cell;have d8:=J.next V;have b5:=S.next V f5;have i0:=AE (f4.o.next V);clear b0 d1 d2 d4 b2 c7 c8 g4 a2 f q K S;go_wp2_with fail;go_loopw[31] (fun iv wr=>∃(k:Nat)(o:List Au),iv=k/\k<=b.whole.parts.length/\Gk wr w.heap.size (.slice u R.length y) o/\Hid (Rb (fun c=>w.heap.size<=c/\(Value.slice d b.whole.head.length H).ownBlock≠some c/\c≠G) wr b e R o k)/\A5 G w4.heap.size w4 wr) (fun iv _=>b.whole.parts.length-(intOf iv).toNat)
 case atStart=>exact⟨0,R,rfl,aa,d7,AE ⟨rfl,fun j _ _ h=>aa,fun _ _=>rfl⟩,A5.refl _ _ _⟩
 clear d7;obtain⟨k,o,rfl,hk,f,A,B⟩:=hrel;have d9:=B.size;by_cases b6:k<b.whole.parts.length
 ·obtain⟨i1,l8⟩:=h2.o aa;subst i1;have hL:=A.o.1;have e0:k<o.length:=by omega
  have e1:o[k]=R[k]' aa:=by
   have:=A.o.2.2 k (AF _);rw[BC e0,BC aa]at this;exact CU this
  have C:=(((A8.Ac (Q:=fun c=>w.heap.size<=c/\(Value.slice d b.whole.head.length H).ownBlock≠some c/\c≠G) (fun c h H=>⟨h.1,h.2.1,h3.o c H h.2.2⟩) (h1.o k aa b6)).next a4).Ai B aa);have L:=((Dl.Ac (Q:=fun c=>c≠G/\c<w4.heap.size) (fun c(h:c<w.heap.size)_=>⟨aa,aa⟩) i0.o).keep d9 (fun c hP _=>B.block c hP.2 hP.1));have L:=Dl.Ac (Q:=fun c=>c≠G) (fun c h _=>h.1) L;have X:=d6.o.Ai B (fun e=>d3 e.symm);have a6:=(a3.Ai B (fun e=>b4 e.symm)).cell 0;rw[<-hL]at f X;have i2:=fun a=>Xm p b.whole.parts[k] a
  have i3:=AE (fun(Y:World)(r:Au)(hz:A5 G wr.heap.size wr Y)(D:A8 (fun c=>w.heap.size<=c/\(Value.slice d b.whole.head.length H).ownBlock≠some c/\c≠G) 3 Y r (Jg b e k b.whole.parts[k]))=>(A.o.next hz aa).step b6 r D);rw[<-e1]at C;have b7:=C.body;have b8:=C.mn;obtain⟨i4,a7,i5,e2⟩:=C.parts;have O:=C.hd;generalize i6:o[k]=a0 at C b7 b8 a7 O;obtain⟨⟨qa,qn,qc⟩,qb,qm,qp⟩:=a0;simp only[A9]at b7 b8 a7 O;have i7:qn=(b.whole.parts[k]).head.length:=by
   obtain⟨a,c,e,_⟩:=O.rd;injection e
  subst b7 b8 i7;have i8:=AE a7;have i9:=AE e2;have a8:=d8.Ai B aa;have O:=O.Ac (Q:=fun c=>c≠G) (fun c h _=>h.2.2);have j0:=AE i6;clear a7 e2 C e1 A b5;go_upto_block 1 with fail;refine wp_block (gb _ bp W.heap.size G N.heap.size k y w.heap.size b b.whole.parts[k] o qa qc (b.whole.parts[k]).many qp e _ _ _ wr L p b6 rfl e0 j0.o X f O a6 (fun e=>b4 e.symm) aa a8 f8 i2 ⟨_,rfl,rfl,rfl⟩ ?_);intro x hx Y v ac e3 ho e4 hb;obtain⟨gr,rfl⟩:=e3.op;clear e3;simp only[List.foldl,List.set,Kk,↓reduceIte,Nat.reduceAdd,Nat.reduceLeDiff,Nat.reduceEqDiff];rcases hx with rfl|rfl
  all_goals
   have e5:A8 (fun c=>w.heap.size<=c/\(Value.slice d b.whole.head.length H).ownBlock≠some c/\c≠G) 3 Y (v,Jx e (b.whole.parts[k]).body ((Ca b (k:Int)).getD []),(b.whole.parts[k]).many,qp) (Jg b e k b.whole.parts[k]):=by
    unfold Jg;refine⟨rfl,rfl,e4.Ac (fun c h _=>⟨aa,fun e=>by have:=a5.o c e;omega,aa⟩),i4,i8.o.Ai hb aa,i5,fun j z t=>(i9.o j z t).Ai hb aa⟩
   have j1:=AE (i3.o Y _ hb e5);have BZ:=B.trans (hb.mono d9);rw[hL]at ho;clear e5 e4;simp only[Exit.inBlock,Exit.then,DK];go_wp2;go_roundw
   case rel=>exact⟨k+1,o.set k (v,Jx e (b.whole.parts[k]).body ((Ca b (k:Int)).getD []),(b.whole.parts[k]).many,qp),aj,aa,ho,j1,BZ⟩
   simp[intOf];omega
 obtain rfl:k=b.whole.parts.length:=aa
 have hL:=A.o.1;have l9:o.length<=b.whole.parts.length:=aa
 have a8:=d8.Ai B aa;have j2:=(b5.Ai B aa).cell;have a6:=(a3.Ai B (fun e=>b4 e.symm)).cell 0;have X:=d6.o.Ai B (fun e=>d3 e.symm);have b9:=bW (b.root:Int) e N.heap.size wr aa aa a6 aa a8;have j3:=Xo e b.root aa;generalize Co e (b.root:Int)=nm at b9 j3 HW;have q:=h7.J1 (w':=wr) (fun c H=>B.block c (by have:=a5.o c H;omega) (fun e=>d5.o (e▸H)));clear hL;go_wp2_with fail;with_reducible refine b9.mono ?_
 rintro r Z⟨rfl,m⟩;have a9:=X.next m X.lt;have j4:=A1.next q m;have e6:=a8.next m;have e7:=fc W.heap.size d H b.whole.head _ _ _ nm w.heap.size Z a9 j4 aa (fun g J e=>by subst J;have:=a5.o g rfl;omega) (h8.o.mono ae) aa e6.r;clear b9 j2 a6 b5;go_wp2_with fail;with_reducible refine e7.mono ?_
 rintro r E⟨rfl,e8,F⟩;clear e7;have hx:∃n,n≠W.heap.size/\n≠G/\w.heap.size<=n/\((Value.slice d b.whole.head.length H).ownBlock=some n\/E.heap.size<=n)/\A5 n Z.heap.size Z E:=by
  rcases F with F|⟨n,j5,F⟩
  ·refine⟨E.heap.size+G+1,?_,aa,?_,Or.inr aa,A5.of F⟩
   ·have:=a9.lt;have:=F.size;omega
   have:=F.size;have:=m.size;omega
  subst j5;have z:=a5.o n rfl;exact⟨n,aa,fun e=>d5.o (by rw[<-e];rfl),h4.o n rfl,Or.inl rfl,F⟩
 obtain⟨n,j6,m0,j7,e9,I⟩:=hx;have f0:=a9.Ai I (fun e=>j6 e.symm);have j8:=e6.Ai I aa;have m1:=f0.cell;have f1:=((A1.next f m)).J1 (w':=E) (fun c H=>by
  have z:=A1.Dj f c H;refine I.block c (by have:=m.size;omega) (fun e=>?_);subst e;rcases e9 with h|h
  ·exact h6.o _ h H
  have:=m.size;have:=I.size;omega)
 have f2:A8 (fun _=>True) 4 E ((d,b.whole.head.length,H),b.whole.body,b.whole.many,(u,R.length,y)) (O4 b):=by
  rw[HW.o];have m2:=m.size;have m3:=I.size;have a1:=A.o.1;refine⟨rfl,rfl,(A1.Dq ae Af e8).Ac (fun _ _ _=>trivial),o,(A1.Dq ae Dx f1).Ac (fun _ _ _=>trivial),by rw[Oz];omega,fun j z t=>?_⟩;rw[Oz]at t;have h5:=cA b e b.whole.parts 0 j t;rw[EQ]at h5;have j9:(Fl b e 0 b.whole.parts)[j]'(by rw[Oz];exact t)=Jg b e j b.whole.parts[j]:=by
   have:=BC (l:=Fl b e 0 b.whole.parts) (i:=j) (by rw[Oz];exact t);rw[this]at h5;exact CU h5
  rw[j9];have k0:=(A.o.2.1 j z t t).next m;have k1:=A8.Ac (Q:=fun c=>(Value.slice d b.whole.head.length H).ownBlock≠some c/\c<Z.heap.size) (fun c h H=>⟨h.2.1,H⟩) k0;refine A8.Ac (fun _ _ _=>trivial) (k1.Ai I (fun h=>?_));rcases e9 with h9|h9
  ·exact h.1 h9
  have:=h.2;omega
 have c0:=YW 4 _ (O4 b) E f2 f6.o j8;rw[<-HN.o]at c0;simp only[C3,A9]at c0;have B6:Below w.heap.size w E:=(V.trans ((B.mono d0).shut g9)).trans (((m.mono aa):Below w.heap.size wr Z).trans ((I.mono (by have:=m.size;omega)).shut j7));clear f2 f1 e8 f0 a9;go_wp2_with fail;with_reducible refine c0.mono ?_
 rintro r w7⟨hh,k2⟩;have B7:=B6.trans (k2.mono B6.size);rcases hh with⟨s,D,k3,rfl⟩|⟨c,D,rfl⟩
 ·have c1:=AE D;clear D;go_wp2;go_ret2;exact⟨Or.inl ⟨s,c1.o,k3,rfl⟩,B7⟩
 have c1:=AE D;clear D;go_wp2;go_ret2;exact⟨Or.inr ⟨c,c1.o,rfl⟩,B7⟩
def cD(B:Nat)(r:Option (Bs×List A4))(e:Ending)(w':World):Prop:=(∃m l v,r=some (m,l)/\e=.returned (.tuple #[.string ⟨m.toArray⟩,v,.int .i64 0])/\Kq w' B v l)\/(r=none/\e=.returned (.tuple #[.string ⟨#[]⟩,.slice none 0 0,.int .i64 3]))
structure J2(w0 w:World)(bb:Nat)(z:Bs)(q:Bool)(o:Value)(out:List A4):Prop where
 r:Hv w bb z q
 l:Kq w (bb+1) o out
 b:A5 bb w0.heap.size w0 w
def J2.next{w0 w w':World}{z:Bs}{q Q:Bool}{o:Value}{out:List A4}(h:J2 w0 w B z q o out)(k:Hv w' B Z Q)(b:A5 B w.heap.size w w'):J2 w0 w' B Z Q o out:=⟨k,A1.Ai h.l b aa,h.b.trans (b.mono h.b.size)⟩
def J2.more{w0 w w':World}{z:Bs}{q:Bool}{o:Value}{out:List A4}(h:J2 w0 w B z q o out)(b:Below w.heap.size w w'):J2 w0 w' B z q o out:=h.next (h.r.next b h.r.lt) (A5.of b)
def J2.Sx{w0 w:World}{b:Nat}{z:Bs}{q:Bool}{o:Value}{out:List A4}(h:J2 w0 w b z q o out)(Q:Bool):J2 w0 (w.setCell ⟨b,1,none⟩ Q) b z Q o out:=h.next (by have:=h.r.set 1 Q;simpa using this) ((A5.refl _ _ _).set _)
def J2.cE{w0 w:World}{b p:Nat}{z:Bs}{q:Bool}{o:Value}{out:List A4}(h:J2 w0 w b z q o out)(H:b<p)(d:w0.heap.size<=b)(a:∀g,o.ownBlock=some g->g<p)(u:Value):J2 w0 (w.setCell ⟨p,1,none⟩ u) b z q o out:=⟨(D3 w ⟨p,1,none⟩ u b (ED H)).trans h.r,A1.J1 h.l fun g c=>D3 w ⟨p,1,none⟩ u g (ED (a g c)),h.b.own (by show w0.heap.size<=p;omega) u⟩
def gw(h:∀r,s≠34::r):Jt s=if s.takeWhile Ae=[]then none else some (s.takeWhile Ae,s.dropWhile Ae):=by
 unfold Jt;split
 ·rename_i r;exact absurd rfl (h r)
 rfl
def Sy(s:Bs)(w:World)(hl:s.length<=1000000000)(hg:Cj w):Calls prog 55 #[s] w fun e I=>cD w.heap.size (Ay s) e I/\Below w.heap.size w I:=by
 obtain⟨C,f,U,a7,b1⟩:=XF s;have R:=AE b1;clear b1;have b2:s.length=C.length+f.length:=by rw[U,AJ]
 have a0:Calls prog 66 #[s,.string ⟨#[59]⟩] w fun e I=>e=.returned (.int .i64 (if f=[]then-1 else(C.length:Int)))/\I=w:=by
  have h:Calls prog 66 _ w _:=Tryz.strings_Index_one ⟨s.toArray⟩ 59 w;rcases a7 with⟨h0,hn⟩|⟨r,h0,hn⟩
  ·rw[(ah:(⟨s.toArray⟩:ByteArray).data.toList=s),nI hn]at h;rw[AN h0];exact h
  rw[(by rw[U,h0]:(⟨s.toArray⟩:ByteArray).data.toList=C++59::r),nH hn]at h;rw[AL (by rw[h0];simp)];exact h
 have c6:=AE (show s.take C.length=C by rw[U,List.take_left]);have c7:=AE (show s.drop C.length=f by rw[U,List.drop_left]);have b3:=AE (show f=[]\/∃r,f=59::r from a7.imp And.left fun⟨r,h,_⟩=>⟨r,h⟩);clear U a7;have a1:∀W,Calls prog 114 #[s.take C.length] W fun e I=>e=.returned (trimS C [32,9])/\I=W:=by
  intro W;rw[c6.o];exact Wl C W aa
 have e7:C.length<=s.length:=aa
 have e8:f.length<=s.length:=aa
 have c8:=AE b2;clear b2;have a2:=Ro C [32,9];go_enter func55,ntmps55;go_upto_if 13 with(go_at_call 66;with_reducible refine a0.mono ?_;rintro e w1⟨rfl,rfl⟩);go_cut[5] (fun k u=>k=.int .i64 (C.length:Int)/\u=w1)
 case first=>
  by_cases h0:f=[]
  ·have X:(if f=[]then-1 else(C.length:Int))=-1:=AN h0;have c9:=AE (show s.length=C.length by rw[c8.o,h0];rfl);rw[X];clear h0 a0 X a1;go_wp2;go_meet;exact⟨by rw[c9.o],rfl⟩
  have X:(if f=[]then-1 else(C.length:Int))=(C.length:Int):=AL h0;rw[X];clear h0 a0 X a1;go_wp2;go_meet;exact⟨rfl,rfl⟩
 case rest=>
 obtain⟨rfl,hw⟩:=hcut;obtain rfl:=hw.symm;clear a0;go_wp2_with fail;with_reducible refine(a1 _).mono ?_
 rintro e y⟨rfl,rfl⟩;clear a1;generalize trimS C [32,9]=t at a2 R|-;go_wp2_with fail;with_reducible refine(Ix t _ aa).mono ?_
 rintro e w3⟨rfl,B⟩;have b4:(A2 t).length<=1000000000:=ot
 clear a2;generalize A2 t=m at b4 R|-;have hM:=nG m w3 b4 (hg.next B);generalize Ld m=d0 at hM R;go_wp2_with fail;with_reducible refine hM.mono ?_
 rintro e w4⟨rfl,hb⟩;have B:=B.trans (hb.mono B.size);clear hb hM;cases d0 with
 |false=>
  have Y:=AE (uk:Ay s=none);go_wp2;go_ret3;exact⟨Or.inr ⟨Y.o,rfl⟩,B⟩
 |true=>
  have Y:=AE (uk:Ay s=(Ih true f.length f).map fun l=>(m,l));clear R;have d1:=B.size;generalize b5:w4.heap.size=a;have A:Hv (w4.alloc (.cells #[f,true] 189)) a f true:=by rw[<-b5];exact A0.new w4 _ _
  have B0:A5 a y.heap.size y (w4.alloc (.cells #[f,true] 189)):=A5.of (B.alloc B.size _);have Z:y.heap.size<=a:=aa
  go_wp2_with fail;rw[c7.o];generalize World.alloc _ _=w5 at A B0|-;generalize b6:Ih true f.length f=a8 at Y;have b7:=AE (show(Ih true f.length f).map (([]:List A4)++·)=a8 by rw[b6];simp);clear b6;clear b5 d1 B;go_loopw[8] (fun o wr=>∃(q:Bool)(z:Bs)(F:Nat)(O:List A4),Hv wr a z q/\Kq wr (a+1) o O/\z.length<=F/\O.length+z.length<=1000000000/\Hid (q=true->z=[]\/∃r,z=59::r)/\Hid ((Ih q F z).map (O++·)=a8)/\A5 a y.heap.size y wr) (fun _ wr=>match wr.cell? ⟨a,0,none⟩with|some v=>Jn v|none=>0)
  case atStart=>exact⟨true,f,f.length,[],A,A1.nil _ _ _ _ _,AF _,ag,AE fun _=>b3.o,b7,B0⟩
  clear B0 A b7 b3;obtain⟨q,z,F,O,A,a9,b8,d2,HZ,a3,B⟩:=hrel;have kc:=A.cell;have J:=A.free;cases q with
  |false=>
   have HE:=AE (show Ay s=none by rw[Y.o,<-a3.o];simp[Ih]);go_wp2;go_ret3;exact⟨Or.inr ⟨HE.o,rfl⟩,B.shut Z⟩
  |true=>
   by_cases hz:z=[]
   ·subst hz;have HE:=AE (show Ay s=some (m,O) by rw[Y.o,<-a3.o];simp[Ih]);go_wp2;go_ret3;exact⟨Or.inl ⟨m,O,_,HE.o,rfl,a9.mono aa⟩,B.shut Z⟩
   obtain⟨rest,rfl⟩:∃r,z=59::r:=(HZ.o rfl).resolve_left hz;clear hz HZ;obtain⟨F,rfl⟩:∃n,F=n+1:=⟨F-1,by simp at b8;omega⟩;simp only[AK]at b8 d2;have T:=Ug a (59::rest) true 59 59 rfl wr A ag;have E:Dy 59 (59::rest)=(true,rest):=by simp[Dy]
   rw[E]at T;clear E;have S:J2 y wr a (59::rest) true _ O:=⟨A,a9,B⟩;have d3:=AE (show wr.cell? ⟨a,0,none⟩=some (59::rest:Bs) by rw[A.cell];rfl);clear A a9 B;go_wp2_with fail;with_reducible refine T.mono ?_
   rintro e w6⟨rfl,k,b⟩;have S1:=S.next k b;have J:=k.free;have d4:=k.cell;have S:=S1.Sx true;clear T kc k b S1;go_wp2_with fail;clear J d4;generalize World.setCell _ _ _=w7 at S|-;with_reducible refine(X3 a rest true w7 S.r).mono ?_
   rintro e w8⟨rfl,k,b⟩;have S:=S.next k b;clear k b;have d5:=X9 rest;have H:=AE (fun(v D:Bs)(Q:Bool)(h:Qy ((Dy 61 (Ah ((Ah rest).dropWhile Ae))).1&&!((Ah rest).takeWhile Ae).isEmpty) (Ah (Dy 61 (Ah ((Ah rest).dropWhile Ae))).2) v D Q)=>XD F h);generalize Ah rest=G at S d5 H;go_wp2_with fail;with_reducible refine(lR a G true w8 S.r aa).mono ?_
   rintro e w9⟨rfl,k,b⟩;have S:=S.next k b;clear k b;have a2:(G.takeWhile Ae).length<=G.length:=(FY _).length_le;have d6:(G.dropWhile Ae).length<=G.length:=(EM _).length_le;rw[FR]at S;generalize G.takeWhile Ae=t at S a2 H|-;generalize G.dropWhile Ae=s3 at S d6 H;generalize(!t.isEmpty)=q3 at S H;go_wp2_with fail;with_reducible refine(Ix t _ aa).mono ?_
   rintro e M⟨rfl,b⟩;have S:=S.more b;clear b;generalize A2 t=L at H|-;have j:M.heap.size≠a:=Nat.ne_of_gt S.r.lt;have a4:a<M.heap.size:=S.r.lt;have HG:=AE (fun g(hg:u8.ownBlock=some g)=>S.l.Dj g hg);have K:=A0.new M #[L,.string ⟨#[]⟩] 119;have S:=S.more ((AG M.heap.size M).alloc (AF _) (.cells #[L,.string ⟨#[]⟩] 119));go_wp2_with fail;generalize d7:M.heap.size=pb at K j a4 HG|-;generalize World.alloc _ _=d8 at S K|-;clear d7;with_reducible refine(X3 a s3 q3 d8 S.r).mono ?_
   rintro e d9⟨rfl,k,b⟩;have S:=S.next k b;have K:=K.Ai b j;clear k b;have e0:=X9 s3;generalize Ah s3=s4 at S e0 H;have T:=Ug a s4 q3 61 61 rfl d9 S.r aa;have b9:=XE 61 s4;generalize Dy 61 s4=xs at T b9 H;obtain⟨x,s5⟩:=xs;simp only at T b9 H;go_upto_region 14 with fail;go_cut[] (fun u=>J2 y u a s5 (x&&q3) u8 O/\A0 u pb #[L,.string ⟨#[]⟩] 119)
   case first=>
    clear H;go_wp2_with fail;with_reducible refine T.mono ?_
    rintro e c0⟨rfl,k,b⟩;have S:=S.next k b;have K:=K.Ai b j;have e9:=k.cell;have f0:=k.free;clear T k b;cases x with
    |true=>
     go_wp2;go_meet;exact⟨S.Sx q3,K.Ai ((A5.refl _ _ _).set _) j⟩
    |false=>
     go_wp2;go_meet;exact⟨S.Sx false,K.Ai ((A5.refl _ _ _).set _) j⟩
   case rest=>
   clear S K T;obtain⟨S,K⟩:=hcut;obtain⟨c0,rfl⟩:∃x:World,x=wc:=⟨_,rfl⟩;generalize(x&&q3)=p at S H;go_wp2_with fail;with_reducible refine(X3 a s5 p c0 S.r).mono ?_
   rintro e e1⟨rfl,k,b⟩;have S:=S.next k b;have K:=K.Ai b j;clear k b;have c1:=X9 s5;generalize Ah s5=i at S c1 H;have T:=Ug a i p 34 34 rfl e1 S.r aa;go_upto_if 67 with(go_at_call 116;with_reducible refine T.mono ?_;rintro e c2⟨rfl,k,b⟩;have S:=S.next k b;have K:=K.Ai b j;clear k b T);go_cut[] (fun u=>∃(v D:Bs)(Q:Bool),J2 y u a D Q u8 O/\A0 u pb #[L,v] 119/\Hid (Qy p i v D Q)/\D.length<=i.length/\v.length<=i.length)
   case first=>
    clear H;by_cases a5:∃r,i=34::r
    ·obtain⟨r,rfl⟩:=a5;have E:Dy 34 (34::r)=(true,r):=by simp[Dy]
     rw[E]at S;simp only[AK]at c1;have N:=XB a r p c2 S.r aa;rw[E];clear E;go_wp2_with fail;with_reducible refine N.mono ?_
     rintro e b0⟨hq,b⟩;rcases hq with⟨v,r2,P,rfl,k⟩|⟨P,rfl,r2,k,e2⟩
     ·have e2:=Vm _ _ _ P;have V:=AE (show Qy p (34::r) v r2 p from⟨id,fun h=>by rw[(ca:Jt (34::r)=Bj r),P];exact⟨h,rfl,rfl⟩⟩);have S:=S.next k b;have K:=K.Ai b j;have kc:=K.cell;have J:=K.free;have ks:=K.set 1 v;clear N k b P;go_wp2;go_meet;exact⟨v,r2,p,S.cE a4 Z HG.o _,by simpa using ks,V,ag,ag⟩
     have V:=AE (show Qy p (34::r) [] r2 false from⟨fun _=>rfl,fun h=>by rw[(ca:Jt (34::r)=Bj r),P]⟩);have S:=S.next k b;have K:=K.Ai b j;have kc:=K.cell;have J:=K.free;have ks:=K.set 1 ([]:Bs);clear N k b P;go_wp2;go_meet;exact⟨[],r2,false,S.cE a4 Z HG.o _,by simpa using ks,V,ag,ah⟩
    have E:Dy 34 i=(false,i):=by
     cases i with
     |nil=>rfl
     |cons d r=>
      have:d≠34:=fun e=>a5 ⟨r,by rw[e]⟩
      simp[Dy,this]
    rw[E]at S;have V:=AE (show Qy p i (i.takeWhile Ae) (i.dropWhile Ae) (p&&!(i.takeWhile Ae).isEmpty)from⟨fun h=>iy,fun h=>by
     rw[gw fun r e=>a5 ⟨r,e⟩];by_cases h0:i.takeWhile Ae=[]
     ·rw[AN h0];simp[h0]
     rw[AL h0,h];exact⟨by cases ht:i.takeWhile Ae<;>simp[ht]at h0|-,rfl,rfl⟩⟩)
    have e3:(i.dropWhile Ae).length<=i.length:=(EM _).length_le;have e4:(i.takeWhile Ae).length<=i.length:=(FY _).length_le;have N:=lR a i p c2 S.r aa;rw[E];clear E a5;go_wp2_with fail;with_reducible refine N.mono ?_
    rintro e b0⟨rfl,k,b⟩;have S:=S.next k b;have K:=K.Ai b j;have kc:=K.cell;have J:=K.free;have ks:=K.set 1 (i.takeWhile Ae);clear N k b;go_wp2;go_meet;exact⟨_,_,_,S.cE a4 Z HG.o _,by simpa using ks,V,e3,e4⟩
   case rest=>
   obtain⟨v,D,Q,S,K,V,f1,f2⟩:=hcut;obtain⟨b0,rfl⟩:∃x:World,x=wc:=⟨_,rfl⟩;have HQ:=AE (H.o v D Q V.o);clear H V;go_wp2_with fail;with_reducible refine(X3 a D Q b0 S.r).mono ?_
   rintro e f3⟨rfl,k,b⟩;have S:=S.next k b;have K:=K.Ai b j;clear k b;have e5:=X9 D;generalize Ah D=z at S e5 HQ;go_upto_region 20 with fail;go_cut[] (fun u=>J2 y u a z (Ig Q z) u8 O/\A0 u pb #[L,v] 119)
   case first=>
    have kc:=S.r.cell;have J:=S.r.free;cases Q with
    |false=>
     have S2:=S.Sx (Ig false z);clear S;go_wp2;go_meet;exact⟨S2,K.Ai ((A5.refl _ _ _).set _) j⟩
    |true=>
     cases z with
     |nil=>
      have S2:=S.Sx (Ig true []);clear S;go_wp2;go_meet;exact⟨S2,K.Ai ((A5.refl _ _ _).set _) j⟩
     |cons c r=>
      have E1:=AE (show Ig true (c::r)=((c.toNat:Int)==59)from by
       by_cases h:c=59
       ·subst h;rfl
       have:((c.toNat:Int)==59)=false:=by
        rw[AI];exact fun e=>h (BQ.1 ag)
       rw[this];simp[Ig,h])
      have S2:=fun q=>S.Sx q
      clear S;go_wp2;go_meet;exact⟨by rw[E1.o];exact S2 _,K.Ai ((A5.refl _ _ _).set _) j⟩
   case rest=>
   clear S K;obtain⟨S,K⟩:=hcut;obtain⟨a6,rfl⟩:∃x:World,x=wc:=⟨_,rfl⟩;have HF:=AE (show(Ih (Ig Q z) F z).map ((O++[(L,v)])++·)=a8 by rw[<-a3.o,HQ.o];cases Ih (Ig Q z) F z<;>simp);have c3:=AE (show Ig Q z=true->z=[]\/∃r,z=59::r from fun h=>by
    simp only[Ig,BR,FM,EL]at h;rcases h.2 with h|h
    ·exact Or.inl h
    cases z with
    |nil=>cases h
    |cons c r=>simp at h;exact Or.inr ⟨r,by rw[h]⟩)
   clear HQ a3 HG;generalize Ig Q z=q9 at S HF c3;have f4:=K.cell 0;have f5:=K.cell 1;have f6:=S.b.size;have f7:=S.r.lt;go_wp2_with(at_builtin;refine Tz rfl _ _ rfl (a+1) _ O (L,v) a6.heap.size 1 rfl (A1.alloc S.l _) rfl (gP a6 (L,v) _ _ rfl) aa ag ?_;intro v' c4 e6 f8 c5);have Sa:=S.more ((AG a6.heap.size a6).alloc (AF _) (.cells #[L,v] 119));have S3:J2 y c4 a z q9 v' (O++[(L,v)]):=⟨(c5.block a aa).trans Sa.r,e6,Sa.b.trans (A5.of (c5.mono aa))⟩;go_wp2_with fail;refine⟨⟨q9,z,F,O++[(L,v)],S3.r,S3.l,aa,ag,c3,HF,S3.b⟩,?_⟩;have k9:c4.cell? ⟨a,0,none⟩=some z:=by rw[S3.r.cell];rfl
   rw[d3.o,k9];simp;omega
def Ur:Option (Option Bs)->Value
 |none=>.tuple #[.string ⟨#[]⟩,false,.int .i64 3]
 |some none=>.tuple #[.string ⟨#[]⟩,false,.int .i64 0]
 |some (some b)=>.tuple #[b,true,.int .i64 0]
def Sz(l:List A4)(h:A2 s=A2 t):Aj l s=Aj l t:=by
 induction l with
 |nil=>rfl
 |cons f l ih=>unfold Aj;rw[h,ih]
def Rc:Bs:=[99,111,110,116,101,110,116,45,116,121,112,101]
def cF:A2 Rc=A2 C2:=ae
def gx(b:Bs):Km b=(!(decide (1<=(b.length:Int))&&decide ((b.length:Int)<=70))||(b.getLast?==some 32)):=by
 unfold Km;rcases DH b with h|⟨i,c,h⟩
 ·subst h;rfl
 rw[DI]at h;subst h;have H:hasSuffix (i++[c]) [32]=((i++[c]).getLast?==some 32):=by
  unfold hasSuffix;rw[DY,GI,BL];constructor
  ·rintro⟨t,a⟩;rw[<-a];simp
  intro h;simp at h;subst h;exact⟨i,rfl⟩
 rw[H];have d:(i++[c]).isEmpty=false:=ah
 have e:decide (1<=((i++[c]).length:Int))=true:=ag
 rw[d,e];by_cases h:70<(i++[c]).length
 ·rw[BH h,AY aa];rfl
 rw[AY h,BH aa];rfl
def pE(v:Value)(l:List A4)(w:World)(o:Cq w v l)(k:Dw 1000000 l)(E:Gr w):Calls prog 206 #[v] w fun e F=>e=.returned (Ur (Bo l))/\Below w.heap.size w F:=by
 have G:=Sg v l Rc w o (k.ok ae) ae;rw[Sz l cF]at G;have H:=AE (ca:Bo l=match Aj l C2 with|none=>some none|some v=>match Ay v with|none=>none|some (m,p)=>if hasPrefix m Mb then(match Cc p Ch with|none=>none|some b=>if Km b then none else some (some b))else some none);have a:=fun x=>Mc (n:=1000000) (s:=C2) (v:=x) k
 unfold Rc at G;generalize Aj l _=r at G H a;clear k o;cases r with
 |none=>
  have N:=AE (show Bo l=some none from H.o);clear H a;simp only[EH,FB]at G;go_enter func206,ntmps206;go_wp2_with fail;with_reducible refine G.mono ?_
  rintro e I⟨rfl,B⟩;go_wp2;go_ret3;exact⟨ay,B⟩
 |some x=>
  have Z:=a x rfl;clear a;simp only[DA,EE]at G;have K:=fun W J=>Sy x W aa J
  have c:=fun m p(h:Ay x=some (m,p))=>Ql h
  have H:=AE (show Bo l=match Ay x with|none=>none|some (m,p)=>if hasPrefix m Mb then(match Cc p Ch with|none=>none|some b=>if Km b then none else some (some b))else some none from H.o);generalize Ay x=rk at K H c;go_enter func206,ntmps206;go_wp2_with fail;with_reducible refine G.mono ?_
  rintro e I⟨rfl,B⟩;have L:=(E.next B).g;clear G;go_wp2_with fail;with_reducible refine(K _ L).mono ?_
  rintro e t⟨O,u⟩;have d:=B.trans (u.mono B.size);clear K u;rcases O with⟨m,p,S,rfl,rfl,y⟩|⟨rfl,rfl⟩
  case inr=>
   have N:=AE (show Bo l=none from H.o);clear H c;go_wp2;go_ret3;exact⟨ay,d⟩
  obtain⟨a0,g⟩:=c m p rfl;have H:=AE (show Bo l=if hasPrefix m Mb then(match Cc p Ch with|none=>none|some b=>if Km b then none else some (some b))else some none from H.o);have M:=L6 m Mb t;have z:=A1.rd ae Af y;have P:=jO S p Ch t z (by have:=g.1;omega);have f:=fun b=>W7 (s:=Ch) (v:=b) g
  clear c y z g;unfold Mb at M H;unfold Ch at P H f;generalize hasPrefix m _=T at M H;generalize Cc p _=R at P H f;cases T with
  |false=>
   have N:=AE (show Bo l=some none from H.o);clear H;go_wp2_with fail;with_reducible refine M.mono ?_
   rintro e U⟨rfl,rfl⟩;go_wp2;go_ret3;exact⟨ay,d⟩
  |true=>
   go_wp2_with fail;with_reducible refine M.mono ?_
   rintro e U⟨rfl,rfl⟩;go_wp2_with fail;with_reducible refine P.mono ?_
   rintro e V⟨rfl,A⟩;have i:=d.trans (A.mono d.size);clear P M A;have Q:=AE (show Bo l=if Km (R.getD [])then none else some (some (R.getD []))from by
    rw[H.o];cases R with
    |none=>rfl
    |some b=>rfl)
   have X:(R.getD []).length<=1000000:=by
    cases R with
    |none=>simp
    |some b=>have:=f b rfl;simp;omega
   clear H f;generalize R.getD []=b at Q X|-;generalize R.isSome=bs;rw[gx]at Q;have hI:=Ju (b.length:Int) 1 70 V;generalize j:(decide (1<=(b.length:Int))&&decide ((b.length:Int)<=70))=q at hI Q;cases q with
   |false=>
    have N:=AE (by rw[Q.o];rfl:Bo l=none);clear j Q;go_wp2_with fail;with_reducible refine hI.mono ?_
    rintro e C⟨rfl,rfl⟩;go_wp2;go_ret3;exact⟨ay,i⟩
   |true=>
    have h1:1<=b.length:=by simp at j;omega
    have Y:b.length-1<b.length:=aa
    have a:(b.getLast?==some 32)=(b[b.length-1]==32):=by
     rw[List.getLast?_eq_getElem?,BC Y];rfl
    have a1:wrap64 ((b.length:Int)-1)=((b.length-1:Nat):Int):=da
    have a2:(b[b.length-1].toNat:Int)<256:=by have:=b[b.length-1].toNat_lt;omega
    rw[a,F2]at Q;clear j a;by_cases D:(b[b.length-1].toNat:Int)=32
    ·have N:=AE (by rw[Q.o,D];rfl:Bo l=none);clear Q;go_wp2_with fail;with_reducible refine hI.mono ?_
     rintro e C⟨rfl,rfl⟩;go_wp2;go_ret3;exact⟨ay,i⟩
    have N:=AE (show Bo l=some (some b)from by
     rw[Q.o];have:((b[b.length-1].toNat:Int)==((32:UInt8).toNat:Int))=false:=AI.2 D;rw[this];rfl)
    clear Q;go_wp2_with fail;with_reducible refine hI.mono ?_
    rintro e C⟨rfl,rfl⟩;go_wp2;go_ret3;exact⟨ay,i⟩
def gz:Ay []=none:=af
def jb(n:Nat)(R:Au)(p:A7)(w:World)(o:A8 (fun _=>True) n w R p)(k:Dw 1000000 p.head)(q:Gr w):Calls prog 68 #[C3 R] w fun e C=>e=.returned (.bool (Jf p))/\Below w.heap.size w C:=by
 cases n with
 |zero=>exact o.elim
 |succ n=>
 obtain⟨h,b,m,P⟩:=p;obtain⟨⟨d,f,g⟩,B,M,⟨s,t,u⟩⟩:=R;obtain⟨rfl,rfl,i,_⟩:=o;simp only[C3,A9,A7.head]at i k|-;have G:=fun W j=>Sg (.slice d f g) h Rc W j (k.ok ae) ae
 simp only[Sz h cF]at G;have H:=AE (show Jf (.mk h B M P)=match Aj h C2 with
  |none=>false
  |some v=>match Ay v with
   |none=>false
   |some (m,_)=>m==Qz from rfl)
 have c:=fun x(h:Aj _ C2=some x)=>Mc (n:=1000000) k h
 unfold C2 at G H c;unfold Rc at G;generalize Aj h _=r at G H c;have D:(r.getD []).length<=1000000:=by
  cases r with
  |none=>simp
  |some x=>have:=c x rfl;simp;omega
 have H:=AE (show Jf (.mk h B M P)=match Ay (r.getD [])with
   |none=>false
   |some (m,_)=>m==Qz from by
  rw[H.o];cases r with
  |none=>simp only[EH,gz]
  |some x=>rfl)
 generalize r.getD []=x at G H D;generalize r.isSome=ok at G;have A:=(AG w.heap.size w).alloc (AF _) (.cells #[.slice d f g,B,M,.slice s t u] 44);have E:=A0.new w #[.slice d f g,B,M,.slice s t u] 44;have F:=q.next A;have y:=i.rd.next A;have L:=E.cell;have G:=G _ y;have K:=fun W j=>Sy x W aa j
 generalize Ay x=N at H K;clear i y q c;go_enter func68,ntmps68;go_wp2_with fail;with_reducible refine G.mono ?_
 rintro e O⟨rfl,a⟩;have I:=(F.next a).g;go_wp2_with fail;with_reducible refine(K _ I).mono ?_
 rintro e Q⟨J,z⟩;rcases J with⟨m,l,v,rfl,rfl,_⟩|⟨rfl,rfl⟩
 ·have H:=AE (show Jf (.mk h B M P)=(m==Qz)from H.o);go_wp2;go_ret;exact⟨Bm bu,A.trans ((a.trans (z.mono a.size)).mono ah)⟩
 have H:=AE (show Jf (.mk h B M P)=false from H.o);go_wp2;go_ret;exact⟨Bm H.o.symm,A.trans ((a.trans (z.mono a.size)).mono ah)⟩
def cG:Bs:=[99,111,110,116,101,110,116,45,108,111,99,97,116,105,111,110]
def jc:A2 cG=A2 O2:=ae
def pF(base:A3)(v:Value)(l:List A4)(w:World)(D:Cq w v l)(E:Dw 1000000 l)(Q:base.len<=1000000)(F:Gr w):Calls prog 57 #[base.val,v] w fun e S=>e=.returned (E3 base l).val/\Below w.heap.size w S:=by
 have G:=fun W m=>Sg v l cG W m (E.ok ae) ae
 simp only[Sz l jc]at G;have N:=AE (show E3 base l=match Aj l O2 with
  |none=>base
  |some v=>match Be v with
   |none=>base
   |some a=>Cn (Ar base a)from rfl)
 have g:=fun x(h:Aj l O2=some x)=>Mc (n:=1000000) E h
 unfold O2 at G N g;unfold cG at G;generalize Aj l _=r at G N g;have d:=((AG w.heap.size w).alloc (AF _) (.cells base.cells 36)).alloc ah (.cells Bg 36);have b:=(A0.new w base.cells 36).alloc (.cells Bg 36);have H:=A0.new (w.alloc (.cells base.cells 36)) Bg 36;rw[AX]at H;have o:=F.next d;have p:=D.next d;have T:((w.alloc (.cells base.cells 36)).alloc (.cells Bg 36)).heap.size=w.heap.size+1+1:=ah
 clear D F;go_enter func57,ntmps57;go_wp2_with fail;generalize World.alloc _ _=W1 at d b H o p T|-;with_reducible refine(G _ p).mono ?_
 rintro e U⟨rfl,B⟩;have b:=b.next B b.lt;have H:=H.next B H.lt;have q:=d.trans (B.mono aa);have I:=o.next B;have a0:=B.size;clear G B d o p;cases r with
 |none=>
  have N:=AE (show E3 base l=base from N.o);simp only[EH,FB];have K:=b.cell;have k:=H.cell;have J:=H.free;go_wp2_with fail;refine AO (v:=base.val) ny rfl ⟨fo,?_⟩;go_grown
 |some x=>
  have hx:=g x rfl;have R:=U5 x U aa;have N:=AE (show E3 base l=match Be x with
   |none=>base
   |some a=>Cn (Ar base a)from N.o)
  have i:=fun a(h:Be x=some a)=>Iv h
  unfold N6 at R;clear g;generalize Be x=V at R N i;simp only[DA,EE];go_wp2_with fail;with_reducible refine R.mono ?_
  rintro e s⟨rfl,c⟩;have b:=b.next c b.lt;have H:=H.next c H.lt;have f:=q.trans (c.mono q.size);have L:=I.next c;have a1:=c.size;clear R c I q;cases V with
  |none=>
   have N:=AE (show E3 base l=base from N.o);have b:=b.alloc (.cells A3.zero.cells 36);have H:=H.alloc (.cells A3.zero.cells 36);have j:=f.alloc f.size (.cells A3.zero.cells 36);simp only[A3.zero]at b H j|-;have K:=b.cell;have k:=H.cell;have J:=H.free;go_wp2_with fail;refine AO (v:=base.val) ny rfl ⟨fo,?_⟩;go_grown
  |some a=>
   have i:=i a rfl;have N:=AE (show E3 base l=Cn (Ar base a)from N.o);have X:=Nw base a;have t:=fun W m=>Zy base a W (by unfold A3.len at Q;omega) (by unfold A3.len at i;omega) m
   generalize Ar base a=y at t N X;have M:y.len<=10000000:=aa
   have u:=fun W=>jL y W me me
   generalize Cn y=z at u N;have O:=A0.new s a.cells 36;have b:=b.alloc (.cells a.cells 36);have H:=H.alloc (.cells a.cells 36);have j:=f.alloc f.size (.cells a.cells 36);have Y:=L.next ((AG s.heap.size s).alloc (AF _) (.cells a.cells 36));have K:=b.cell;have Z:=O.cell;clear L f;go_wp2_with fail;with_reducible refine(t _ Y.g).mono ?_
   rintro e w5⟨rfl,A⟩;have H:=H.next A H.lt;have P:=j.trans (A.mono j.size);clear t A K Z b O;go_wp2_with fail;with_reducible refine(u _).mono ?_
   rintro e w6⟨rfl,C⟩;have H:=H.next C H.lt;have B6:=P.trans (C.mono P.size);have k:=H.cell;have J:=H.free;clear u C;go_wp2_with fail;refine AO (v:=z.val) ny rfl ⟨fo,?_⟩;go_grown
end Go.Proofs.YtignjjnflcpiiaaGreatDoor
