/- The number that parts a part's pieces, in the document's -/
import Derived.Test.YtignjjnflcpiiaaGreatDoorV38
set_option maxHeartbeats 16000000
set_option maxRecDepth 100000 set_option linter.all false
namespace Go.Proofs.YtignjjnflcpiiaaGreatDoor
open Go Go.RowKit Proofs.Tryz Lib
variable {n k qc hc pb pc P lb d L z:Nat}{l Q:List Bs}{p body:Bs}{w w0:World}{h:List A4}{m:Bool}{qa ha pa:Option Go.Addr}{ac:Act}
def tw(H:k<l.length)(h:contains l[k] (p++itoa (n:Int))=true):Dv p l n=true:=by
 unfold Dv;rw[KQ];exact⟨_,AQ H,h⟩
def tx(h:∀i(H:i<l.length),contains l[i] (p++itoa (n:Int))=false):Dv p l n=false:=by
 unfold Dv;rw[List.any_eq_false];intro x a;obtain⟨i,H,rfl⟩:=JM.1 a;rw[h i H];simp
theorem tz{a0:Ending->World->Prop}{x3:Value}
  (a1:Ho 250 [(3,.pointer (some ⟨pb,0,none⟩)),(9,m),(11,.slice qa Q.length qc)] ac) (c:A0 w pb #[.slice ha h.length hc,body,m,x3] 44) (s:Cq w (.slice ha h.length hc) h) (a2:Az h<=120000) (a3:body.length<=40000000)
  (u:F9 1 Bl w (.slice qa Q.length qc) Q) (c5:Q.length<=100) (v:∀x∈Q,x.length<=3900000000) (D:Gz w)
  (hR:∀y,Below w.heap.size w y->a0 (.returned (.tuple #[Uy h body m (Cu Q) Q,.int .i64 0])) y):
  Code.wp prog Re (bodyPost prog f127 a0) ac w:=by
 obtain⟨fr,rfl⟩:=a1.op;clear a1;simp only[Fp,↓reduceIte,Nat.reduceAdd,Nat.reduceEqDiff];have R:=AE hR;have a4:=AE v;have b3:=Ud v;have E:=aZ Q aa (fun x hx=>AV (v x hx) ae);have b5:=Uf (Cu Q) Q;have a5:=AE (fun(k:Nat)(d:∀j,j<k->Dv [45,45,98] Q j=true)(h2:Dv [45,45,98] Q k=false)=>show Cu Q=98::itoa (k:Int)from by
  unfold Cu;rw[iP d h2])
 have z:(Eo (Cu Q) Q).length<=1000000000000:=by
  have d:Q.length*3900000000<=390000000000:=aa
  have h2:Q.length*((Cu Q).length+6)<=Q.length*28:=Nat.mul_le_mul_left _ aa;omega
 have K:=AE c;have F:=AE s;have G:=AE u;have b6:Bk Q<=3900000000000:=aa
 clear hR v b5 c s u;obtain⟨c6,c7,b7,a6⟩:=G.o.opens By;injection b7 with e1 e2 e3;subst e1 e3;have a7:=AE a6;clear a6 e2;generalize b8:bodyPost prog f127 _=QQ;delta Re Pw f127;dsimp only[Ak,Option.getD];subst b8;go_upto_block 2 with fail;go_cut[16] (fun N f=>∃n:Nat,N=n/\n<=1000000000000000/\Hid (Cu Q=98::itoa (n:Int))/\Below w.heap.size w f)
 case first=>
  clear R K F z E a2 a3;go_wp2_with fail;go_loopw[16,17] (fun N I wr=>∃n k:Nat,N=n/\I=k/\k<=Q.length/\Hid (∀j,j<n->Dv [45,45,98] Q j=true)/\Hid (∀i(a:i<Q.length),i<k->contains Q[i] ([45,45,98]++itoa (n:Int))=false)/\Below w.heap.size w wr) (fun N I _=>(20*(Bk Q+Q.length+1)-(intOf N).toNat)*(Q.length+2)+(Q.length-(intOf I).toNat))
  case atStart=>exact⟨0,0,rfl,rfl,aa,AE (fun j hj=>aa),AE (fun i a h=>aa),AG _ _⟩
  obtain⟨n,k,rfl,rfl,c8,H,C,B⟩:=hrel;have hn:=Tt _ _ n H.o;by_cases J:k<Q.length
  ·obtain⟨g,rfl,a8,d⟩:=a7.o k J;have L:wr.cell? ⟨g,k,none⟩=some (Q[k]):=by
    have:=(B.cell (p:=⟨g,k*1+0,none⟩) a8).trans (d 0 ae);simpa[Bl]using this
   have A:=D.next B;have hI:=fun W P=>Fj (n:Int) aa aa W P
   have S:=BE (n:Int) aa aa;have b9:¬9223372036854775807<3+(itoa (n:Int)).length:=aa
   have c0:=a4.o _ (AQ J);have Y:=AE (fun(h:contains Q[k] ([45,45,98]++itoa (n:Int))=true)=>show∀j,j<n+1->Dv [45,45,98] Q j=true from fun j hj=>by
    rcases CL j n with l|l
    ·exact H.o j l
    obtain rfl:j=n:=aa
    exact tw J h)
   have O:=AE (fun(h:contains Q[k] ([45,45,98]++itoa (n:Int))=false)=>show∀i(a:i<Q.length),i<k+1->contains Q[i] ([45,45,98]++itoa (n:Int))=false from fun i a c9=>by
    rcases CL i k with l|l
    ·exact C.o i a l
    obtain rfl:i=k:=aa
    exact h)
   have a9:(20*(Bk Q+Q.length+1)-(n+1))*(Q.length+2)+Q.length<(20*(Bk Q+Q.length+1)-n)*(Q.length+2)+(Q.length-k):=by
    obtain⟨M,hM⟩:∃M,20*(Bk Q+Q.length+1)-n=M+1:=⟨20*(Bk Q+Q.length+1)-n-1,aa⟩;rw[hM,show 20*(Bk Q+Q.length+1)-(n+1)=M by omega,DL];omega
   have b0:=AE a9;have b1:=B.size;clear d C a9;have b2:[45,45,98]++itoa (n:Int)=45::45::98::itoa (n:Int):=rfl;rw[b2]at Y O;clear b2;have T:=A.next ((AG wr.heap.size wr).drew);have c1:g<wr.drew.heap.size:=BN a8 b1;have U:wr.drew.cell? ⟨g,k,none⟩=some (Q[k]):=L;have o:=fun W P=>Qq (Q[k]) (45::45::98::itoa (n:Int)) W aa P
   generalize hq:contains (Q[k]) (45::45::98::itoa (n:Int))=q at o Y O;generalize Q[k]=x at L U o c0;generalize itoa (n:Int)=ib at hI S o b9;clear hq;go_upto_region 20 with fail;go_cut[125] (fun t f=>t=q/\Below wr.heap.size wr f)
   case first=>
    clear Y O b0 H;have HG:=AE T;go_region_law((first
     |(go_simp;with_reducible refine(o _ ((HG.o.next K1.o).r.g)).mono ?_;rintro r w4⟨rfl,c2⟩;obtain rfl:=c2.symm)
     |(go_simp;with_reducible refine(hI _ T).mono ?_;rintro r w3⟨rfl,V⟩;have K1:=AE V;have K0:=AE (Bp V (w0:=wr) ((AG wr.heap.size wr).drew));have d0:=(V.cell (p:=⟨g,k,none⟩) c1).trans U)))
    all_goals
     go_wp2;go_meet;exact⟨rfl,K0.o⟩
   case rest=>
   obtain⟨rfl,b4⟩:=hcut;obtain⟨w4,rfl⟩:∃x:World,x=wc:=⟨_,rfl⟩;have B4:=B.trans (b4.mono b1);clear hI o L U b4 T A;cases q with
   |true=>
    have X:=AE (Y.o rfl);clear Y O H;go_wp2;go_roundw
    case rel=>exact⟨n+1,0,aj,aj,aa,X,AE (fun i a h=>aa),B4⟩
    have:=b0.o;simp[intOf];omega
   |false=>
    have c3:=AE (O.o rfl);clear Y O;go_wp2;go_roundw
    case rel=>exact⟨n,k+1,rfl,aj,aa,H,c3,B4⟩
    simp[intOf];omega
  obtain rfl:k=Q.length:=aa
  have X:=AE (a5.o n H.o (tx fun i a=>C.o i a a));clear C H;go_wp2;go_meet;exact⟨n,rfl,aa,X,B⟩
 case rest=>
 obtain⟨n,rfl,hn,H,B⟩:=hcut;obtain⟨w1,rfl⟩:∃x:World,x=wc:=⟨_,rfl⟩;have hI:=Fj (n:Int) aa aa w1 (D.next B);have S:=BE (n:Int) aa aa;have c:=K.o.next B K.o.lt;have s:=F.o.next B;have u:=G.o.next B;have A:=D.next B;rw[H.o]at z E;have Z:=R.o;rw[H.o]at Z;have R:=AE Z;generalize itoa (n:Int)=ib at hI S R z E;clear Z a7 a5 K F G H a4 b3 b6;go_upto_region 24 with(with_reducible refine hI.mono ?_;rintro e w2⟨rfl,b⟩);go_cut[20] (fun t f=>t=false/\f=w2)
 case first=>
  go_wp2;go_meet;exact⟨rfl,bo⟩
 case rest=>
 obtain⟨rfl,c4⟩:=hcut;obtain rfl:=c4.symm;apply_assumption;exact mb ⟨_,rfl,rfl,rfl⟩ (c.next b c.lt) (s.next b) a2 a3 (u.next b) z aa aa (A.next b).r (fun y hb=>R.o y (B.trans ((b.trans (hb.mono b.size)).mono B.size)))
def V7(lb l:Nat)(r:Except Int (Bs×Nat))(e:Ending)(w':World):Prop:=(∃s n,r=.ok (s,n)/\n<l/\s.length<=(l-n)*100000000/\e=.returned (.tuple #[.string ⟨s.toArray⟩,.int .i64 0])/\A0 w' lb #[.int .i64 (40-(n:Int))] 3)\/(∃c,r=.error c/\1<=c/\e=.returned (.tuple #[.string ⟨#[]⟩,.int .i64 c]))
def vb(h:List A4)(body:Bs)(m:Bool)(q:List Bs)(l n:Nat)(w:Az h<=120000)(d:body.length<=40000000)(e:n+q.length<=l)(f:l<=40)(s:Bk q<=(l-n)*100000000)(b:∀x∈q,x.length<=3900000000):(Uy h body m (Cu q) q).length<=(l+1-n)*100000000:=by
 have g:=aZ q aa (fun x c=>AV (b x c) ae);have t:=Uf (Cu q) q;have i:q.length*((Cu q).length+6)<=q.length*28:=Nat.mul_le_mul_left _ aa;have j:=pV m false (Cu q) h;have E:(l+1-n)*100000000=(l-n)*100000000+100000000:=by
  rw[show l+1-n=(l-n)+1 by omega,DL]
 unfold Uy;cases m with
 |true=>
  have a:((D7 (D0 true false (Cu q) h)).getD []).length<=7*Az (D0 true false (Cu q) h)+2:=Xt fun o H=>Sr H
  simp only[DK,AJ,AK,BG];omega
 |false=>
  have a:((D7 (D0 false false (Cu q) h++[(Bn,(Cv body).1)])).getD []).length<=7*Az (D0 false false (Cu q) h++[(Bn,(Cv body).1)])+2:=Xt fun o H=>Sr H
  rw[Qm]at a;have k:Az [(Bn,(Cv body).1)]=Bn.length+(Cv body).1.length+1:=by simp[Az]
  have p:Bn.length=25:=ae
  have r:=(mE body).1;have u:=mI body;simp only[CC,DM,AJ];omega
def vd{f:Int}{ps:List A7}{raws:List Au}{R:Except Int (Bs×Nat)}
  (a9:Ho 250 [(1,f),(2,.pointer (some ⟨lb,0,none⟩)),(3,.pointer (some ⟨P,0,none⟩)),(9,m),(11,.slice none 0 0)] ac) (b0:Hid (f=4-((d+1:Nat):Int))) (d9:d+1<=4) (hl:L+1<=40) (b5:8<lb) (e0:lb<w0.heap.size) (Z:A5 lb w0.heap.size w0 w) (e1:w0.heap.size<=P)
  (C:A0 w P #[.slice ha h.length hc,body,m,.slice pa ps.length pc] 44) (hH:Ba 2 Bc (fun b=>b≠lb) w (.slice ha h.length hc) h) (a0:Az h<=120000) (a1:body.length<=40000000)
  (b6:Ba 4 Dk (fun b=>b≠lb) w (.slice pa ps.length pc) raws) (e2:raws.length=ps.length) (b7:Hid (∀k(h1:k<raws.length)(D:k<ps.length),A8 (fun b=>b≠lb) z w raws[k] ps[k])) (b8:Hid (∀p∈ps,He z p))
  (H:A0 w lb #[.int .i64 (40-(L:Int))] 3) (hg:Gz w) (e3:ps.length<=1000000)
  (ih:∀(F:Nat)(t:Au)(p:A7)(f bg:Int)(w:World),Hid (f=4-(d:Int))->Hid (bg=40-(F:Int))->F<=40->Gz w->A0 w lb #[bg] 3->A8 (fun b=>b≠lb) z w t p->He z p->Calls prog 127 #[C3 t,f,.pointer (some ⟨lb,0,none⟩)] w fun e g=>V7 lb F (Bh d F p) e g/\A5 lb w.heap.size w g)
  (hR:Hid (∀r,Bz (Bh d) L ps=r->R=match r with
   | .error e=>.error e
   | .ok (l,n)=>.ok (R2 h body m l,n))):
  Code.wp prog Pw (bodyPost prog f127 (fun e g=>V7 lb (L+1) R e g/\A5 lb w0.heap.size w0 g)) ac w:=by
 obtain⟨fr,rfl⟩:=a9.op;clear a9;simp only[Fp,↓reduceIte,Nat.reduceAdd,Nat.reduceEqDiff];generalize b9:bodyPost prog f127 _=QQ;have b1:=Z.size;have kc:=C.cell;have c4:=C.lt;delta Pw f127;dsimp only[Ak,Option.getD];subst b9;have c5:P≠lb:=aa
 go_upto_block 0 with fail;go_cut[11] (fun vp G=>∃(n:Nat)(q:List Bs)(Q:Option Go.Addr)(u:Nat),vp=.slice Q q.length u/\Do G w.heap.size (.slice Q q.length u) q/\n+q.length<=L/\Bk q<=(L-n)*100000000/\Hid (∀x∈q,x.length<=3900000000)/\Hid (Bz (Bh d) L ps=.ok (q,n))/\A0 G lb #[.int .i64 (40-(n:Int))] 3/\Gz G/\A5 lb w.heap.size w G)
 case first=>
  have HR:=AE (fun c(D:Bz (Bh d) L ps=.error c)=>show R=.error c from hR.o _ D);clear hR hH a0 a1 C c4 kc;go_wp2_with fail;go_loopw[11,92] (fun vp iv wr=>∃(k n:Nat)(q:List Bs),iv=k/\k<=ps.length/\q.length=k/\n+q.length<=L/\Bk q<=(L-n)*100000000/\Do wr w.heap.size vp q/\Hid (∀x∈q,x.length<=3900000000)/\Hid (N9 q (Bz (Bh d) n (ps.drop k))=Bz (Bh d) L ps)/\A0 wr lb #[.int .i64 (40-(n:Int))] 3/\Gz wr/\A5 lb w.heap.size w wr) (fun _ iv _=>ps.length-(intOf iv).toNat)
  case atStart=>exact⟨0,L,[],rfl,aa,rfl,ah,uh,A1.nil _ _ _ _ _,AE ah,AE (by rw[DR,Wz]),H,hg,A5.refl _ _ _⟩
  clear H hg;obtain⟨k,n,q,rfl,e4,e5,a2,I,a,X,i,H,a3,B⟩:=hrel;by_cases J:k<ps.length
  ·obtain⟨K,rfl,M,S,v⟩:=b6.at Dx k aa;have T:=(b7.o k aa J).Ai B ah;have a4:=b8.o _ (AQ J);have c0:=(B.cell (p:=⟨K,k*4+0,none⟩) S M).trans (v 0 ae);have c1:=(B.cell (p:=⟨K,k*4+1,none⟩) S M).trans (v 1 ae);have c2:=(B.cell (p:=⟨K,k*4+2,none⟩) S M).trans (v 2 ae);have c3:=(B.cell (p:=⟨K,k*4+3,none⟩) S M).trans (v 3 ae);have E:=AE (fun c(h:Bh d n ps[k]=.error c)=>X0 J h q);have O:=AE (fun y m(h:Bh d n ps[k]=.ok (y,m))=>X1 J h q);clear v;generalize ps[k]=p at T a4 E O;generalize raws[k]' aa=t at T c0 c1 c2 c3;have hI:=fun W h1 D h3=>ih n t p (f+1) (40-(n:Int)) W (AE (by have:=b0.o;omega)) (AE rfl) aa h1 D h3 a4
   obtain⟨⟨ra,rn,a5⟩,rb,rm,⟨a6,a7,a8⟩⟩:=t;simp only[C3,A9,Dk,BI,AU,AR]at c0 c1 c2 c3 hI;have kt:=A0.new wr #[.slice ra rn a5,rb,rm,.slice a6 a7 a8] 44;have A:=(AG wr.heap.size wr).alloc (AF _) (.cells #[.slice ra rn a5,rb,rm,.slice a6 a7 a8] 44);have H:=H.next A H.lt;have a:=A1.next a A;have j:=a3.next A;have B1:=B.next A B.size;have hI:=hI _ j H (T.next A);have c6:(wr.alloc (.cells #[.slice ra rn a5,rb,rm,.slice a6 a7 a8] 44)).heap.size=wr.heap.size+1:=ah
   have e6:0<=f/\f<=3:=by have:=b0.o;omega
   generalize Bh d n p=rx at hI E O;have b2:=kt.cell;have e7:=B.size;clear A a3 B T a4 H;go_wp2_with fail;generalize World.alloc _ _=W1 at a j B1 hI c6 b2 kt|-;with_reducible refine hI.mono ?_
   rintro e w8⟨hh,U⟩;have e8:=U.size;have a:=A1.Ai a U aa;have c7:=j.Ai U b5;have V:=B1.trans (U.mono aa);clear hI c0 c1 c2 c3 j B1 kt b2;rcases hh with⟨s,m',rfl,hm,c8,rfl,H⟩|⟨c,rfl,b3,rfl⟩
   case inr=>
    have N:=AE (HR.o c (i.o.symm.trans (E.o c rfl)));have c9:=AE b3;have e9:¬c=0:=aa
    clear E O i HR b3;go_wp2;go_ret2;exact⟨Or.inr ⟨c,N.o,c9.o,rfl⟩,Z.trans (V.mono b1)⟩
   have N:=AE (Eq.trans (O.o s m' rfl).symm i.o);have d0:s.length<=3900000000:=by
    have:(n-m')*100000000<=39*100000000:=CV _ aa;omega
   have d1:=AE (show∀x∈q++[s],x.length<=3900000000 from fun x o=>by
    rcases BY.1 o with o|o
    ·exact X.o x o
    simp at o;rw[o];exact d0)
   clear E O i;go_wp2_with(at_builtin;refine Mt rfl _ _ rfl w.heap.size _ q s w8.heap.size 1 rfl (A1.alloc a _) rfl (Il _ _ _) aa (by have:=V.size;simp;omega) ?_;intro v' w9 d2 d3 Y d4);have A:=(AG w8.heap.size w8).alloc (AF _) (.cells #[s] 9);have H:=(H.next A H.lt).next Y aa;have d5:Gz w9:=(c7.next A).keep fun b f0=>Y.block b aa
   have B9:A5 lb w.heap.size w w9:=(V.next A V.size).trans (A5.of Y);clear A d3 Y d4 a;go_wp2;go_roundw
   case rel=>exact⟨k+1,m',q++[s],aj,aa,ag,ag,nO I c8 aa aa,d2,d1,N,H,d5,B9⟩
   simp[intOf];omega
  obtain rfl:k=ps.length:=aa
  have N:=AE (show Bz (Bh d) L ps=.ok (q,n)from i.o.symm.trans (X2 q));obtain⟨Q,u,d6,_⟩:=A1.rd ae By a;subst d6;clear i HR;go_wp2;go_meet;exact⟨n,q,Q,u,rfl,a,a2,I,X,N,H,a3,B⟩
 case rest=>
 obtain⟨n,q,Q,u,rfl,a,a2,I,X,N,b4,j,B⟩:=hcut;obtain⟨w1,rfl⟩:∃x:World,x=wc:=⟨_,rfl⟩;have d7:=hR.o _ N.o;have d8:=C.Ai B c5;apply_assumption;refine tz ⟨_,rfl,rfl,rfl⟩ d8 (hH.Ai B ah).rd a0 a1 (A1.rd ae By a) aa X.o j (fun g hb=>?_);rw[pU];refine⟨Or.inl ⟨_,n,d7,aa,?_,rfl,b4.next hb b4.lt⟩,(Z.trans (B.mono b1)).next hb (by have:=B.size;omega)⟩;have:=vb h body m q L n a0 a1 a2 aa I X.o;rw[pU]at this;exact this
def Xw:Option (Option Bs)->Bool
 |some (some _)=>true
 |_=>false
def T4:Option (Option Bs)->Int
 |none=>3
 |_=>0
def vf(r:Option (Option Bs)):∃B:Bs,Ur r=.tuple #[B,.bool (Xw r),.int .i64 (T4 r)]:=by
 rcases r with _|_|b
 ·exact⟨[],rfl⟩
 ·exact⟨[],rfl⟩
 exact⟨b,rfl⟩
def vg(r:Option (Option Bs)):T4 r=3\/T4 r=0:=by rcases r with _|_|b<;>simp[T4]
def qL(h:List A4)(body:Bs)(m:Bool)(n:Nat):Nb h body m n=(Ck h&&((T4 (Bo h)==0)&&((Xw (Bo h)==m)&&(!(m&&!body.isEmpty)&&!(!m&&decide (0<n)))))):=by
 unfold Nb;rcases Bo h with _|_|b
 ·rfl
 ·cases m<;>rfl
 cases m<;>rfl
def vh(H:Nb h body m n=true):Xw (Bo h)=m:=by
 rw[qL]at H;simp only[BR,BL]at H;exact H.2.2.1
def qM(H p:Option Go.Addr)(n c P d:Nat)(body:Bs)(m:Bool)(lb:Nat)(a b:Int)(w:World)(f:A0 w lb #[b] 3)(l:0<=b/\b<=40)(g:0<=a/\a<=4)(h:a=4\/b=40):Calls prog 127 #[.agg #[.slice H n c,body,m,.slice p P d],a,.pointer (some ⟨lb,0,none⟩)] w fun e W=>e=.returned (.tuple #[.string ⟨#[]⟩,.int .i64 4])/\A5 lb w.heap.size w W:=by
 have k:=f.cell 0;have i:=f.lt;have j:w.heap.size≠lb:=aa
 have B:A5 lb w.heap.size w (w.alloc (.cells #[.slice H n c,body,m,.slice p P d] 44)):=A5.of ((AG _ _).alloc (AF _) _);by_cases h0:(40:Int)<=b
 ·go_enter func127,ntmps127;go_wp2;go_ret2;exact⟨rfl,B⟩
 have o:(4:Int)<=a:=aa
 clear h;go_enter func127,ntmps127;go_wp2;go_ret2;exact⟨rfl,B⟩
def vj(d L N:Nat)(s C:Option Go.Addr)(i D:Nat)(body:Bs)(m:Bool)(h:List A4)(ps:List A7)(raws:List Au)(lb:Nat)(A g:Int)(w:World)(a1:Hid (A=4-((d+1:Nat):Int)))(b5:d+1<=4)(a2:Hid (g=40-((L+1:Nat):Int)))(hl:L+1<=40)(hg:Gz w)(a3:8<lb)(u:A0 w lb #[g] 3)
  (a4:Ba 2 Bc (fun b=>b≠lb) w (.slice s h.length i) h) (a5:Az h<=120000) (b6:body.length<=40000000) (b7:ps.length<=1000000)
  (a6:Ba 4 Dk (fun b=>b≠lb) w (.slice C ps.length D) raws) (b8:raws.length=ps.length) (a7:Hid (∀k(v:k<raws.length)(y:k<ps.length),A8 (fun b=>b≠lb) N w raws[k] ps[k])) (a8:Hid (∀p∈ps,He N p))
  (ih:∀(I:Nat)(a9:Au)(p:A7)(A g:Int)(w:World),Hid (A=4-(d:Int))->Hid (g=40-(I:Int))->I<=40->Gz w->A0 w lb #[g] 3->A8 (fun b=>b≠lb) N w a9 p->He N p->Calls prog 127 #[C3 a9,A,.pointer (some ⟨lb,0,none⟩)] w fun e E=>V7 lb I (Bh d I p) e E/\A5 lb w.heap.size w E):
  Calls prog 127 #[.agg #[.slice s h.length i,body,m,.slice C ps.length D],A,.pointer (some ⟨lb,0,none⟩)] w fun e E=>V7 lb (L+1) (Bh (d+1) (L+1) (.mk h body m ps)) e E/\A5 lb w.heap.size w E:=by
 have P:=AE (ZQ d L h body m ps);have c8:0<=g/\g<=39:=uv
 have c9:0<=A/\A<=3:=by have:=a1.o;omega
 have b9:=AE (uv:g+1=40-(L:Int));have c0:=u.lt;have d0:w.heap.size≠lb:=aa
 have b0:=(F1 a5).mono (m:=1000000) ae;have kc:=u.cell 0;have kf:=u.free 0;have c1:(w.setCell ⟨lb,0,none⟩ (.int .i64 (g+1))).cell? ⟨lb,0,none⟩=some (.int .i64 (g+1)):=(u.set 0 _).cell 0;have BO:A5 lb w.heap.size w (w.setCell ⟨lb,0,none⟩ (.int .i64 (g+1))):=(A5.refl _ _ _).set _;have z:=(AG (w.setCell ⟨lb,0,none⟩ (.int .i64 (g+1))).heap.size (w.setCell ⟨lb,0,none⟩ (.int .i64 (g+1)))).alloc (AF _) (.cells #[.slice s h.length i,body,m,.slice C ps.length D] 44);have c:A0 (w.setCell ⟨lb,0,none⟩ (.int .i64 (g+1))) lb #[.int .i64 (g+1)] 3:=u.set 0 _;have c:=c.next z c.lt;have H:=A0.new (w.setCell ⟨lb,0,none⟩ (.int .i64 (g+1))) #[.slice s h.length i,body,m,.slice C ps.length D] 44;rw[ER]at H;have F:=BO.next z ah;have J:=(a4.set (a:=⟨lb,0,none⟩) (.int .i64 (g+1)) (fun h=>h rfl)).next z;have S:=(a6.set (a:=⟨lb,0,none⟩) (.int .i64 (g+1)) (fun h=>h rfl)).next z;have T:=AE (fun k v y=>((a7.o k v y).set (a:=⟨lb,0,none⟩) (.int .i64 (g+1)) (fun h=>h rfl)).next z);have O:=hg.Ai F a3;have c2:((w.setCell ⟨lb,0,none⟩ (.int .i64 (g+1))).alloc (.cells #[.slice s h.length i,body,m,.slice C ps.length D] 44)).heap.size=w.heap.size+1:=ah
 have G:=fun W U hG=>pE (.slice s h.length i) h W U b0 hG
 have f:=fun W U=>jN (.slice s h.length i) h W U (b0.ok ae)
 have K:=AE (qL h body m ps.length);have M:=AE (fun i=>vh (h:=h) (body:=body) (m:=m) (n:=ps.length) i);obtain⟨bs,b1⟩:=vf (Bo h);have V:=vg (Bo h);rw[b1]at G;generalize Nb h body m ps.length=ck at P K M;generalize Xw (Bo h)=Q at G K M;generalize T4 (Bo h)=er at G K V;generalize Ck h=rf at f K;have j:=H.cell;clear u a4 a6 a7 hg b1 z;go_enter func127,ntmps127;go_wp2_with fail;generalize World.alloc _ _=W1 at c H F J S T O c2 j|-;clear kc kf c1 BO;with_reducible refine(G _ J.rd O.r).mono ?_
 rintro e w2⟨rfl,o⟩;have c:=c.next o c.lt;have H:=H.next o H.lt;have R:=J.next o;have X:=S.next o;have Y:=AE (fun k v y=>(T.o k v y).next o);have b2:=O.next o;have Z:=F.next o F.size;have d1:=o.size;have j:=H.cell;clear G o O F J S T;have f:=f _ R.rd;go_upto_region 5 with fail;go_cut[88] (fun t wx=>t=.bool (!ck)/\Below w2.heap.size w2 wx)
 case first=>
  clear P M R X Y a8 ih;cases rf with
  |false=>
   go_wp2_with fail;with_reducible refine f.mono ?_
   rintro e q⟨rfl,B⟩;go_wp2;go_meet;exact⟨uo,B⟩
  |true=>
   rcases V with rfl|rfl
   ·go_wp2_with fail;with_reducible refine f.mono ?_
    rintro e q⟨rfl,B⟩;go_wp2;go_meet;exact⟨uo,B⟩
   cases m with
   |true=>
    cases Q with
    |false=>
     go_wp2_with fail;with_reducible refine f.mono ?_
     rintro e q⟨rfl,B⟩;have j:=(H.next B H.lt).cell;go_wp2;go_meet;exact⟨uo,B⟩
    |true=>
     generalize d2:body.isEmpty=be at K;cases be with
     |false=>
      go_wp2_with fail;with_reducible refine f.mono ?_
      rintro e q⟨rfl,B⟩;have j:=(H.next B H.lt).cell;go_wp2;go_meet;exact⟨uo,B⟩
     |true=>
      go_wp2_with fail;with_reducible refine f.mono ?_
      rintro e q⟨rfl,B⟩;have j:=(H.next B H.lt).cell;go_wp2;go_meet;exact⟨uo,B⟩
   |false=>
    cases Q with
    |true=>
     go_wp2_with fail;with_reducible refine f.mono ?_
     rintro e q⟨rfl,B⟩;have j:=(H.next B H.lt).cell;go_wp2;go_meet;exact⟨uo,B⟩
    |false=>
     by_cases b3:0<ps.length
     ·have a0:=AE (BH b3);have c3:(0:Int)<ps.length:=by omega
      go_wp2_with fail;with_reducible refine f.mono ?_
      rintro e q⟨rfl,B⟩;have j:=(H.next B H.lt).cell;go_wp2;go_meet;exact⟨by rw[K.o,a0.o];rfl,B⟩
     have a0:=AE (AY b3);have c3:¬(0:Int)<ps.length:=aa
     go_wp2_with fail;with_reducible refine f.mono ?_
     rintro e q⟨rfl,B⟩;have j:=(H.next B H.lt).cell;go_wp2;go_meet;exact⟨by rw[K.o,a0.o];rfl,B⟩
 case rest=>
 obtain⟨rfl,B⟩:=hcut;obtain⟨q,rfl⟩:∃x:World,x=wc:=⟨_,rfl⟩;have c:=c.next B c.lt;have H:=H.next B H.lt;have c4:=R.next B;have c5:=X.next B;have c6:=AE (fun k v y=>(Y.o k v y).next B);have c7:=b2.next B;have B3:=Z.next B Z.size;clear f B b2 Z R X Y j K V;cases ck with
 |false=>
  have HN:=AE (by rw[P.o,AN rfl]:Bh (d+1) (L+1) (.mk h body m ps)=.error 1);clear P M;go_wp2;go_ret2;exact⟨Or.inr ⟨1,HN.o,ae,rfl⟩,B3⟩
 |true=>
  obtain rfl:=M.o rfl;have HR:Hid (∀r,Bz (Bh d) L ps=r->Bh (d+1) (L+1) (.mk h body Q ps)=match r with
   | .error e=>.error e
   | .ok (l,n)=>.ok (R2 h body Q l,n)):=AE (fun r hr=>by subst hr;rw[P.o,AL ae];cases Bz (Bh d) L ps<;>rfl)
  rw[b9.o]at c;clear P M;go_upto_region 7 with fail;go_cut[11] (fun t wx=>t=.slice none 0 0/\wx=q)
  case first=>
   go_wp2;go_meet;exact⟨rfl,bo⟩
  case rest=>
  obtain⟨rfl,b4⟩:=hcut;obtain rfl:=b4.symm;clear b4;apply_assumption;exact vd ⟨_,rfl,rfl,rfl⟩ a1 b5 hl a3 c0 B3 (AF _) H c4 a5 b6 c5 b8 c6 a8 c c7 b7 ih HR
def vk(lb:Nat)(F:8<lb)(d:Nat):∀(n l:Nat)(r:Au)(p:A7)(A B:Int)(w:World),Hid (A=4-(d:Int))->d<=4->Hid (B=40-(l:Int))->l<=40->Gz w->A0 w lb #[B] 3->A8 (fun b=>b≠lb) n w r p->He n p->Calls prog 127 #[C3 r,A,.pointer (some ⟨lb,0,none⟩)] w fun e W=>V7 lb l (Bh d l p) e W/\A5 lb w.heap.size w W:=by
 induction d with
 |zero=>
  intro n l r p A B w H _ g u v q s x;obtain⟨⟨f,i,j⟩,y,m,⟨P,k,o⟩⟩:=r;refine(qM f P i j k o y m lb A B w q (by have:=g.o;omega) iw (Or.inl iw)).mono ?_;rintro e W⟨rfl,t⟩;exact⟨Or.inr ⟨4,rfl,ae,rfl⟩,t⟩
 |succ d ih=>
  intro n l r p A B w H G g u v q s x;cases l with
  |zero=>
   obtain⟨⟨f,i,j⟩,y,m,⟨P,k,o⟩⟩:=r;refine(qM f P i j k o y m lb A B w q (by have:=g.o;omega) iw (Or.inr (by have:=g.o;omega))).mono ?_;rintro e W⟨rfl,t⟩;exact⟨Or.inr ⟨4,rfl,ae,rfl⟩,t⟩
  |succ L=>
   cases n with
   |zero=>exact s.elim
   |succ n=>
    obtain⟨h,b,m,z⟩:=p;obtain⟨⟨f,i,j⟩,y,M,⟨P,k,o⟩⟩:=r;obtain⟨rfl,rfl,C,R,D,E,I⟩:=s;obtain⟨J,K,N,O⟩:=x;have Q:i=h.length:=by
     obtain⟨a,c,e,_⟩:=C;injection e
    have S:k=z.length:=by
     obtain⟨a,c,e,_⟩:=D;injection e with _ e _;exact e.trans E
    subst Q S;exact vj d L n f P j o y M h z R lb A B w H G g u v F q C J K N D E (AE I) (AE O) (fun l r p A B w T U V X Y Z a7=>ih n l r p A B w T aa U V X Y Z a7)
def Xx(r:Except Int Bs)(e:Ending):Prop:=(∃s,r=.ok s/\s.length<=20000/\e=.returned (.tuple #[.string ⟨s.toArray⟩,.int .i64 0]))\/(∃c,r=.error c/\1<=c/\e=.returned (.tuple #[.string ⟨#[]⟩,.int .i64 c]))
def vl(o:Nat)(R:Au)(p:A7)(w:World)(d:A8 (fun _=>True) o w R p)(z:He o p)(q:Gz w):Calls prog 75 #[C3 R] w fun e A=>Xx (Iu p) e/\Below w.heap.size w A:=by
 have J:=q.size;have H:=AE (show Iu p=match Bh 4 40 p with
  | .error e=>.error e
  | .ok (s,_)=>if 20000<s.length then .error 4 else .ok s from rfl)
 have hI:=fun W C a D=>vk (w.heap.size+1) aa 4 o 40 R p 0 0 W (AE rfl) ae (AE rfl) ae C a D z
 have d:=A8.Ac (Q:=fun b=>b≠w.heap.size+1) (fun b _ h=>aa) d;obtain⟨⟨f,g,i⟩,B,m,⟨P,j,k⟩⟩:=R;simp only[C3,A9]at hI|-;have l:=((AG w.heap.size w).alloc (AF _) (.cells #[.slice f g i,B,m,.slice P j k] 44)).alloc ah (.cells #[.int .i64 0] 3);have v:=(A0.new w #[.slice f g i,B,m,.slice P j k] 44).alloc (.cells #[.int .i64 0] 3);have t:=A0.new (w.alloc (.cells #[.slice f g i,B,m,.slice P j k] 44)) #[.int .i64 0] 3;rw[AX]at t;have hI:=hI _ (q.next l) t (d.next l);have E:((w.alloc (.cells #[.slice f g i,B,m,.slice P j k] 44)).alloc (.cells #[.int .i64 0] 3)).heap.size=w.heap.size+1+1:=ah
 have K:=v.cell;clear d q;generalize Bh 4 40 p=r at hI H;go_enter func75,ntmps75;go_wp2_with fail;generalize World.alloc _ _=L at hI l v t E K|-;with_reducible refine hI.mono ?_
 rintro e M⟨F,x⟩;have u:=l.trans ((x.mono (B':=w.heap.size) aa).shut aa);clear hI x K;rcases F with⟨s,n,rfl,_,_,rfl,_⟩|⟨c,rfl,y,rfl⟩
 ·by_cases a:20000<s.length
  ·have N:=AE (by rw[H.o];simp only;rw[AN a]:Iu p=.error 4);have a:(20000:Int)<s.length:=by omega
   clear H;go_wp2;go_ret2;exact⟨Or.inr ⟨4,N.o,ae,rfl⟩,u⟩
  have N:=AE (by rw[H.o];simp only;rw[AL a]:Iu p=.ok s);have G:s.length<=20000:=aa
  have a:¬(20000:Int)<s.length:=aa
  clear H;go_wp2;go_ret2;exact⟨Or.inl ⟨s,N.o,G,rfl⟩,u⟩
 have N:=AE (show Iu p=.error c from H.o);have I:=AE y;have O:¬c=0:=aa
 clear H y;go_wp2;go_ret2;exact⟨Or.inr ⟨c,N.o,I.o,rfl⟩,u⟩
end Go.Proofs.YtignjjnflcpiiaaGreatDoor
