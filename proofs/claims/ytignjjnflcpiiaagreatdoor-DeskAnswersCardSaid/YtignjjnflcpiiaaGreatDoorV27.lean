/- (part.writer).write of a part with parts. Condition: what -/
import Derived.Test.YtignjjnflcpiiaaGreatDoorV22
set_option maxHeartbeats 16000000
set_option maxRecDepth 100000 set_option linter.all false
namespace Go.Proofs.YtignjjnflcpiiaaGreatDoor
open Go Go.RowKit Proofs.Tryz Lib
def nM(d L:Nat)(h:List A4)(body:Bs)(ps:List A7):Bh (d+1) (L+1) (.mk h body true ps)=if Ck h=false then .error 1 else match Bo h with
  |none=>.error 1
  |some o=>if o.isSome=false then .error 1 else if body≠[]then .error 1 else match Bz (Bh d) L ps with
   | .error e=>.error e
   | .ok (l,n)=>match Pj h l with
    |none=>.error 1
    |some s=>.ok (s,n):=by
 conv=>lhs;unfold Bh
 split
 ·rfl
 cases Bo h with
 |none=>rfl
 |some o=>cases o<;>cases body<;>rfl
variable {B e size k n m:Nat}{b s:Bs}{l:List A4}
def A1.grown{α:Type}{cs:α->List Value}{w w':World}{v:Value}{xs:List α}{r:Option Nat}(h:A1 e size cs w B v xs)(H:w.grownBy w' r)(a:∀g,v.ownBlock=some g->r≠some g):A1 e size cs w' B v xs:=World.ownsRow.kept h H (by
  cases b:v.ownBlock with
  |none=>exact Or.inl rfl
  |some g=>exact Or.inr (fun e=>a g b e.symm))
def nN(xs:List Bs):xs.flatMap Bl=xs.map fun x=>Value.string ⟨x.toArray⟩:=by
 induction xs with
 |nil=>rfl
 |cons x xs ih=>rw[BV,CD,ih];rfl
def Cp.Ai{w w':World}{B lb:Nat}{v:Value}{xs:List Bs}(h:Cp w B v xs)(b:A5 lb w.heap.size w w')(l:lb<B):Cp w' B v xs:=by
 have H:=A1.Ai (Cp.t h) b l;unfold A1 at H;rw[nN]at H;exact H
def Cp.A6{w:World}{B:Nat}{v:Value}{xs:List Bs}(h:Cp w B v xs){a:Go.Addr}(b:a.block<B)(u:Value):Cp (w.setCell a u) B v xs:=by
 have H:=A1.A6 (Cp.t h) b u;unfold A1 at H;rw[nN]at H;exact H
def YS(H:k<l.length)(h:(A2 l[k].1==A2 C2)=false)(s:Eg l b=l.take k++Eg (l.drop k) b):Eg l b=l.take (k+1)++Eg (l.drop (k+1)) b:=by
 rw[s,AH H];conv=>lhs;rw[Eg,AL ek]
 rw[AZ H,AP];rfl
def YT(H:k<l.length)(h:(A2 l[k].1==A2 C2)=true)(s:Eg l b=l.take k++Eg (l.drop k) b):Eg l b=l.set k ((l[k]).1,Fa (l[k]).2 b):=by
 rw[s,AH H];conv=>lhs;rw[Eg,AN ek]
 rw[FG,AN H]
def nO{q:List Bs}{l:Nat}(h:Bk q<=(l-n)*100000000)(H:s.length<=(n-m)*100000000)(a:m<n)(b:n<=l):Bk (q++[s])<=(l-m)*100000000:=by
 have e:Bk (q++[s])=Bk q+s.length:=uh
 have E:(l-n)*100000000+(n-m)*100000000=(l-m)*100000000:=by rw[<-Nat.add_mul];congr 1;omega
 omega
def YU(d u n0:Nat)(ha pa:Option Go.Addr)(hc pc:Nat)(h:List A4)(body:Bs)(ps:List A7)(raws:List Au)(j:Nat)(X A:Int)(w:World)(e2:Hid (X=5-((d+1:Nat):Int)))(j9:d+1<=4)(e3:Hid (A=((u+1:Nat):Int)))(hl:u+1<=40)(hg:Gz w)(e4:8<j)(M:A0 w j #[.int .i64 A] 172)
  (G:Ba 2 Bc (fun b=>b≠j) w (.slice ha h.length hc) h) (e5:Az h<=120000) (k0:ps.length<=1000000)
  (e6:Ba 4 Dk (fun b=>b≠j) w (.slice pa ps.length pc) raws) (k1:raws.length=ps.length) (e7:Hid (∀k(h1:k<raws.length)(h2:k<ps.length),A8 (fun b=>b≠j) n0 w raws[k] ps[k])) (e8:Hid (∀p∈ps,He n0 p))
  (ih:∀(a9:Nat)(a2:Au)(p:A7)(X A:Int)(w:World),Hid (X=5-(d:Int))->Hid (A=(a9:Int))->a9<=40->Gz w->A0 w j #[.int .i64 A] 172->A8 (fun b=>b≠j) n0 w a2 p->He n0 p->Calls prog 106 #[.pointer (some ⟨j,0,none⟩),C3 a2,.int .i64 X] w fun e w'=>X8 j a9 (Bh d a9 p) e w'/\A5 j w.heap.size w w'):
  Calls prog 106 #[.pointer (some ⟨j,0,none⟩),.agg #[.slice ha h.length hc,.string ⟨body.toArray⟩,.bool true,.slice pa ps.length pc],.int .i64 X] w fun e w'=>X8 j (u+1) (Bh (d+1) (u+1) (.mk h body true ps)) e w'/\A5 j w.heap.size w w':=by
 have P:=AE (nM d u h body ps);have k2:1<=A/\A<=40:=by have:=e3.o;omega
 have k3:1<=X/\X<=4:=by have:=e2.o;omega
 have g3:=AE (by have:=e3.o;omega:A-1=(u:Int));have kc:=M.cell 0;have kf:=M.free 0;have g4:(w.setCell ⟨j,0,none⟩ (.int .i64 (A-1))).cell? ⟨j,0,none⟩=some (.int .i64 (A-1)):=(M.set 0 _).cell 0;have k4:=M.lt;have k5:w.heap.size≠j:=aa
 have BO:A5 j w.heap.size w (w.setCell ⟨j,0,none⟩ (.int .i64 (A-1))):=(A5.refl _ _ _).set _;have h0:¬A-1<0:=aa
 have D:=(AG (w.setCell ⟨j,0,none⟩ (.int .i64 (A-1))).heap.size (w.setCell ⟨j,0,none⟩ (.int .i64 (A-1)))).alloc (AF _) (.cells #[.slice ha h.length hc,.string ⟨body.toArray⟩,.bool true,.slice pa ps.length pc] 44);have H:A0 (w.setCell ⟨j,0,none⟩ (.int .i64 (A-1))) j #[.int .i64 (A-1)] 172:=M.set 0 _;have H:=H.next D H.lt;have C:=A0.new (w.setCell ⟨j,0,none⟩ (.int .i64 (A-1))) #[.slice ha h.length hc,.string ⟨body.toArray⟩,.bool true,.slice pa ps.length pc] 44;rw[ER]at C;have a3:=BO.next D ah;have G:=(G.set (a:=⟨j,0,none⟩) (.int .i64 (A-1)) (fun h=>h rfl)).next D;have Y:=hg.Ai a3 e4;have g5:((w.setCell ⟨j,0,none⟩ (.int .i64 (A-1))).alloc (.cells #[.slice ha h.length hc,.string ⟨body.toArray⟩,.bool true,.slice pa ps.length pc] 44)).heap.size=w.heap.size+1:=ah
 have b0:=(F1 e5).mono (m:=1000000) ae;have hR:=Yj _ h _ G.rd (b0.ok ae);generalize g6:Ck h=rf at hR P;clear g6 BO D hg M;go_enter func106,ntmps106;go_wp2_with fail;generalize World.alloc _ _=W1 at H C a3 G Y g5 hR|-;clear kc kf g4 h0;have kp:=C.cell;with_reducible refine hR.mono ?_
 rintro e w2⟨rfl,b2⟩;have H:=H.next b2 H.lt;have C:=C.next b2 C.lt;have G:=G.next b2;have c6:=Y.next b2;have B2:=a3.next b2 a3.size;have k6:=b2.size;clear hR b2 Y a3 kp;cases rf with
 |false=>
  have N:=AE (show Bh (d+1) (u+1) (.mk h body true ps)=.error 1 from P.o);clear P;go_wp2_with fail;go_ret2;exact⟨Or.inr ⟨1,_,_,N.o,rfl,Or.inl rfl⟩,B2⟩
 |true=>
 have P:=AE (show Bh (d+1) (u+1) (.mk h body true ps)=match Bo h with
  |none=>.error 1
  |some ob=>if ob.isSome=false then .error 1 else if body≠[]then .error 1 else match Bz (Bh d) u ps with
   | .error e=>.error e
   | .ok (l,n)=>match Pj h l with
    |none=>.error 1
    |some s=>.ok (s,n)from P.o)
 have hB:=aU _ h w2 G.rd b0 c6.r;generalize Bo h=rb at hB P;have kp:=C.cell;go_wp2_with fail;with_reducible refine hB.mono ?_
 rintro e w3⟨hh,b3⟩;have H:=H.next b3 H.lt;have C:=C.next b3 C.lt;have G:=G.next b3;have a4:=c6.next b3;have B3:=B2.next b3 B2.size;have k7:=b3.size;have kp:=C.cell;clear hB b3 c6 B2;rcases hh with⟨k8,rfl,rfl⟩|⟨rfl,rfl⟩|⟨rfl,rfl⟩
 case inr.inl=>
  have N:=AE (show Bh (d+1) (u+1) (.mk h body true ps)=.error 1 from P.o);clear P;go_wp2_with fail;go_ret2;exact⟨Or.inr ⟨1,_,_,N.o,rfl,Or.inl rfl⟩,B3⟩
 case inr.inr=>
  have N:=AE (show Bh (d+1) (u+1) (.mk h body true ps)=.error 1 from P.o);clear P;go_wp2_with fail;go_ret2;exact⟨Or.inr ⟨1,_,_,N.o,rfl,Or.inl rfl⟩,B3⟩
 by_cases h0:body=[]
 case neg=>
  have N:=AE (by rw[P.o];simp[h0]:Bh (d+1) (u+1) (.mk h body true ps)=.error 1);have h1:body.isEmpty=false:=ed
  clear P h0;go_wp2_with fail;go_ret2;exact⟨Or.inr ⟨1,_,_,N.o,rfl,Or.inl rfl⟩,B3⟩
 subst h0;have P:=AE (show∀r,Bz (Bh d) u ps=r->Bh (d+1) (u+1) (.mk h [] true ps)=match r with
  | .error e=>.error e
  | .ok (l,n)=>match Pj h l with
   |none=>.error 1
   |some s=>.ok (s,n)from fun r hr=>by rw[<-hr,P.o];simp)
 have e9:=lX _ h w3 G.rd (by have:=b0.1;omega);go_wp2_with fail;with_reducible refine e9.mono ?_
 rintro e w4⟨v4,rfl,i,b4⟩;have H:=H.next b4 H.lt;have C:=C.next b4 C.lt;have c7:=a4.next b4;have B4:=B3.next b4 B3.size;have hD:=mR v4 h w3.heap.size w4 i (b0.ok ae) c7.r wu b4.size;have k9:=C.lt;have l0:=b4.size;clear e9 b4 i;go_wp2_with fail;with_reducible refine hD.mono ?_
 rintro e R⟨v5,rfl,i,b5⟩;have H:=H.next b5 aa;have C:=C.next b5 aa;have f0:Gz R:=c7.keep fun b g7=>b5.block b wu
 have B5:A5 j w.heap.size w R:=B4.trans (A5.of (b5.mono aa));have l1:=b5.size;have kp:=C.cell;have f1:=A1.Dj i;have f2:=X7 h;rw[g3.o]at H;clear hD b5 c7 B4 G;go_wp2_with fail;go_loopw[14,105] (fun vp I wr=>∃(k n:Nat)(q:List Bs),I=.int .i64 k/\k<=ps.length/\q.length=k/\n+q.length<=u/\Bk q<=(u-n)*100000000/\Cp wr R.heap.size vp q/\Hid (∀x∈q,x.length<=3900000000)/\Hid (N9 q (Bz (Bh d) n (ps.drop k))=Bz (Bh d) u ps)/\A0 wr j #[.int .i64 (n:Int)] 172/\Bt wr w3.heap.size v5 (C8 h)/\Gz wr/\A5 j w.heap.size w wr/\R.heap.size<=wr.heap.size) (fun _ I _=>ps.length-(intOf I).toNat)
 case atStart=>exact⟨0,u,[],rfl,aa,rfl,ah,uh,IC _ _ _ _,AE ah,AE (by rw[DR,Wz]),H,i,f0,B5,AF _⟩
 clear H i f0 B5 kp C;obtain⟨k,n,q,rfl,hk,g8,g9,f3,z,HX,a0,H,i,J,B,h4⟩:=hrel;by_cases E:k<ps.length
 ·obtain⟨pb,rfl,b1,b8,Z⟩:=e6.at Dx k aa;have b9:=(e7.o k aa E).Ai B ah;have c8:=e8.o _ (AQ E);have S:=(B.cell (p:=⟨pb,k*4+0,none⟩) b8 b1).trans (Z 0 ae);have O:=(B.cell (p:=⟨pb,k*4+1,none⟩) b8 b1).trans (Z 1 ae);have c2:=(B.cell (p:=⟨pb,k*4+2,none⟩) b8 b1).trans (Z 2 ae);have c3:=(B.cell (p:=⟨pb,k*4+3,none⟩) b8 b1).trans (Z 3 ae);have HE:=AE (fun c(h:Bh d n ps[k]=.error c)=>X0 E h q);have HO:=AE (fun y m(h:Bh d n ps[k]=.ok (y,m))=>X1 E h q);clear Z;generalize ps[k]=p at b9 c8 HE HO;generalize raws[k]' aa=a2 at b9 S O c2 c3;have hI:=fun W h1 h2 h3=>ih n a2 p (X+1) n W (AE (by have:=e2.o;omega)) (AE rfl) aa h1 h2 h3 c8
  obtain⟨⟨ra,rn,c9⟩,rb,rm,⟨d0,d1,d2⟩⟩:=a2;simp only[C3,A9,Dk,BI,AU,AR]at S O c2 c3 hI;have kt:=A0.new wr #[.slice ra rn c9,.string ⟨rb.toArray⟩,.bool rm,.slice d0 d1 d2] 44;have D:=(AG wr.heap.size wr).alloc (AF _) (.cells #[.slice ra rn c9,.string ⟨rb.toArray⟩,.bool rm,.slice d0 d1 d2] 44);have H:=H.next D H.lt;have i:=A1.next i D;have z:=Lz z D;have Y:=J.next D;have B1:=B.next D B.size;have hI:=hI _ Y H (b9.next D);have h5:(wr.alloc (.cells #[.slice ra rn c9,.string ⟨rb.toArray⟩,.bool rm,.slice d0 d1 d2] 44)).heap.size=wr.heap.size+1:=ah
  generalize Bh d n p=rx at hI HE HO;have f4:=kt.cell;clear D J B b9 c8 H;go_wp2_with fail;generalize World.alloc _ _=W1 at i z Y B1 hI h5 f4 kt|-;with_reducible refine hI.mono ?_
  rintro e w8⟨hh,a5⟩;have l2:=a5.size;have i:=i.Ai a5 aa;have z:=Cp.Ai z a5 aa;have c0:=Y.Ai a5 e4;have T:=B1.trans (a5.mono aa);clear hI S O c2 c3 Y B1 kt f4;rcases hh with⟨s,m,rfl,hm,h6,rfl,H⟩|⟨c,s,v,rfl,rfl,hv⟩
  case inr=>
   have N:=AE (show Bh (d+1) (u+1) (.mk h [] true ps)=.error c from P.o _ (a0.o.symm.trans (HE.o c rfl)));obtain⟨t,x,rfl⟩:=hv.some;clear HE HO a0 P;go_wp2_with fail;go_ret2;exact⟨Or.inr ⟨c,_,_,N.o,rfl,hv⟩,T⟩
  have N:=AE (Eq.trans (HO.o s m rfl).symm a0.o);have h7:s.length<=3900000000:=by
   have:(n-m)*100000000<=39*100000000:=CV _ aa;omega
  have h8:=AE (show∀x∈q++[s],x.length<=3900000000 from fun x F=>by
   rcases BY.1 F with F|F
   ·exact HX.o x F
   simp at F;rw[F];exact h7)
  have f5:=A1.Ha (Cp.t z);clear HE HO a0;go_wp2_with(at_builtin;refine Gv rfl _ _ rfl R.heap.size _ q s w8.heap.size rfl (GV z _) rfl (aV _ _ _) aa ag ?_;intro v' w9 h9 c1 a6);have D:=(AG w8.heap.size w8).alloc (AF _) (.cells #[.string ⟨s.toArray⟩] 9);have H:=(H.next D H.lt).next a6 aa;have i:=(A1.next i D).grown c1 (fun g hg e=>by have h1:=f1 g hg;have h2:=f5 g e;omega);have i0:Gz w9:=(c0.next D).keep fun b g7=>a6.block b wu
  have B9:A5 j w.heap.size w w9:=(T.next D T.size).trans (A5.of (a6.mono aa));have i1:=a6.size;rw[AX]at i1;clear D f5 c1 a6 z;go_wp2_with fail;go_roundw
  case rel=>exact⟨k+1,m,q++[s],aj,aa,ag,ag,nO f3 h6 aa aa,h9,h8,N,H,i,i0,B9,aa⟩
  simp[intOf];omega
 obtain rfl:k=ps.length:=aa
 have P:=AE (show Bh (d+1) (u+1) (.mk h [] true ps)=match Pj h q with
  |none=>.error 1
  |some s=>.ok (s,n)from P.o _ (a0.o.symm.trans (X2 q)))
 have l3:q.length<=1000000:=aa
 clear a0 e7 e8 e6 g8;have U:=AE (ca:Pj h q=(D7 (Eg (C8 h) (Cu q))).map (·++(Eo (Cu q) q++45::45::(Cu q++[45,45,13,10]))));have d3:=WU _ q wr (A1.rd ae By (Cp.t z)) aa (fun x F=>AV (HX.o x F) ae) J;have i2:=aZ q aa (fun x F=>AV (HX.o x F) ae);obtain⟨ua,uc,i3⟩:=Cp.shape z;subst i3;generalize Cu q=b at d3 i2 U;go_wp2_with fail;with_reducible refine d3.mono ?_
 rintro e w6⟨rfl,b6⟩;have H:=H.next b6 H.lt;have i:=A1.next i b6;have z:=Lz z b6;have f6:=J.next b6;have B6:=B.next b6 B.size;have l4:=b6.size;have i4:=S4 (C8 h);have d4:=AE (ah:Eg (C8 h) b=(C8 h).take 0++Eg ((C8 h).drop 0) b);have d5:=AE ((F1 (AV f2 e5)).mono (m:=1000000) ae).2;have c4:=aY b (C8 h);clear d3 b6 J B;generalize f7:C8 h=L at i d4 d5 U i4 f2 c4;have f7:=AE f7;obtain⟨la,lc,i5⟩:∃a c,v5=.slice a L.length c:=by
  obtain⟨a,c,h,_⟩:=A1.rd ae Af i;exact⟨a,c,h⟩
 subst i5;go_upto_block 2 with fail;go_cut[20] (fun _ wx=>Bt wx w3.heap.size (.slice la L.length lc) (Eg L b)/\Cp wx R.heap.size (.slice ua q.length uc) q/\Gz wx/\A0 wx j #[.int .i64 (n:Int)] 172/\A5 j w.heap.size w wx)
 case first=>
  clear P U HX f3 g9 c4;go_wp2_with fail;go_loopw[129] (fun I wr=>∃k:Nat,I=.int .i64 k/\k<=L.length/\Bt wr w3.heap.size (.slice la L.length lc) L/\Cp wr R.heap.size (.slice ua q.length uc) q/\Hid (Eg L b=L.take k++Eg (L.drop k) b)/\Gz wr/\A0 wr j #[.int .i64 (n:Int)] 172/\A5 j w.heap.size w wr/\R.heap.size<=wr.heap.size) (fun I _=>L.length-(intOf I).toNat)
  case atStart=>exact⟨0,rfl,aa,i,z,d4,f6,H,B6,aa⟩
  clear i z d4 f6 H B6;obtain⟨k,rfl,hk,i,z,HS,J,H,B,h4⟩:=hrel;by_cases E:k<L.length
  ·obtain⟨g,i6⟩:∃g,la=some ⟨g,0,none⟩:=by
    obtain⟨a,c,h,h2⟩:=Cq.open (A1.rd ae Af i);injection h with h _ _;obtain⟨b,h3,_⟩:=h2 k E;exact⟨b,h.trans h3⟩
   subst i6;have O:=A1.cellAt Af i k E 0 ae;have l5:=A1.Ha i g rfl;have i7:=A1.Dj i g rfl;have hf:=d5.o _ (AQ E);have HG:=AE (fun h=>YS (b:=b) E h HS.o);have V:=AE (fun h=>YT (b:=b) E h HS.o);have a7:=AE (show∀W,Bt W w3.heap.size (.slice (some ⟨g,0,none⟩) L.length lc) L->W.cell? ⟨g,k*2+1,none⟩=some (.string ⟨((L[k]).2).toArray⟩)from fun W h=>A1.cellAt Af h k E 1 ae);have a8:=AE (fun(W:World)(y:Bs)(h:Bt W w3.heap.size (.slice (some ⟨g,0,none⟩) L.length lc) L)=>A1.X5 h k E y);simp only[Bc,BI,AU]at O;generalize L[k]=f at O hf HG V a7 a8;obtain⟨x,y⟩:=f;simp only at O hf HG V a7 a8;have S:wr.cell? ⟨2,0,none⟩=some (.string ⟨#[67,111,110,116,101,110,116,45,84,121,112,101]⟩):=J.r.ours 0 ae;have d6:=fun W=>Gw x W aa
   have d7:=fun W=>Gw [67,111,110,116,101,110,116,45,84,121,112,101] W ae
   have d8:=AE (ca:A2 [67,111,110,116,101,110,116,45,84,121,112,101]=A2 C2);have i8:2<wr.heap.size:=ri
   have l6:(0:Int)<=k:=aa
   have l7:(k:Int)<L.length:=aa
   go_upto_region 28 with fail;go_cut[141] (fun t wx=>t=.bool (A2 x==A2 C2)/\Below wr.heap.size wr wx)
   case first=>
    clear HG V a7 a8 HS d5;generalize f8:A2 x=lx at d6;have i9:=AE f8;generalize j0:A2 [67,111,110,116,101,110,116,45,84,121,112,101]=ly at d7 d8;clear f8 j0;have j1:wr.drew.cell? ⟨g,k*2,none⟩=some (.string ⟨x.toArray⟩):=O;have j2:wr.drew.cell? ⟨2,0,none⟩=some (.string ⟨#[67,111,110,116,101,110,116,45,84,121,112,101]⟩):=S;have K0:=(AG wr.heap.size wr).drew;go_region_held3(fun W=>W.cell? ⟨g,k*2,none⟩=some (.string ⟨x.toArray⟩)/\W.cell? ⟨2,0,none⟩=some (.string ⟨#[67,111,110,116,101,110,116,45,84,121,112,101]⟩)/\Below wr.heap.size wr W)
     (first
      |with_reducible exact⟨j1,j2,K0⟩
      |with_reducible exact⟨(K.cell (p:=⟨g,k*2,none⟩) i7).trans O,(K.cell (p:=⟨2,0,none⟩) i8).trans S,K⟩)
     ((
      first
      |(go_at_call 42;go_split_ands;with_reducible refine(d6 _).mono ?_;rintro e j3⟨rfl,M⟩;have K:=Bp M (w0:=wr) ax)
      |(go_at_call 42;go_split_ands;with_reducible refine(d7 _).mono ?_;rintro e j3⟨rfl,M⟩;have K:=Bp M (w0:=wr) ax)))
    all_goals go_split_ands
    all_goals
     go_wp2_with fail;go_meet;exact⟨by rw[i9.o,<-d8.o],ax⟩
   case rest=>
   obtain⟨rfl,b7⟩:=hcut;obtain⟨w7,rfl⟩:∃x:World,x=wc:=⟨_,rfl⟩;have i:=A1.next i b7;have z:=Lz z b7;have H:=H.next b7 H.lt;have a1:=J.next b7;have B7:=B.next b7 B.size;have l8:=b7.size;clear d6 d7 d8 S O b7 J B;generalize(A2 x==A2 C2)=j4 at HG V|-;cases j4 with
   |false=>
    have j5:=AE (HG.o rfl);clear V HS HG;go_wp2_with fail;go_roundw
    case rel=>exact⟨k+1,aj,aa,i,z,j5,a1,H,B7,aa⟩
    simp[intOf];omega
   |true=>
    have j6:=AE (V.o rfl);have f9:=WV y b w7 hf.2 aa a1.r;have c2:=a7.o w7 i;clear HG HS a7 V;go_wp2_with fail;with_reducible refine f9.mono ?_
    rintro e w8⟨rfl,Q⟩;have i:=A1.next i Q;have z:=Lz z Q;have H:=H.next Q H.lt;have c0:=a1.next Q;have T:=B7.next Q B7.size;have l9:=A1.free i;have g0:=a8.o w8 (Fa y b) i;rw[<-j6.o]at g0;have c3:=A1.cellAt Af i k E 1 ae;simp only[Bc,AU,AR]at c3;have H:=H.A6 (a:=⟨g,k*2+1,none⟩) ai (.string ⟨(Fa y b).toArray⟩);have c1:Gz (w8.setCell ⟨g,k*2+1,none⟩ (.string ⟨(Fa y b).toArray⟩)):=c0.keep fun c hc=>D3 _ _ _ c (by have:=a4.size;simp only;omega)
    have B9:=T.own (p:=⟨g,k*2+1,none⟩) ai (.string ⟨(Fa y b).toArray⟩);have m0:=f1 g rfl;have z:Cp (w8.setCell ⟨g,k*2+1,none⟩ (.string ⟨(Fa y b).toArray⟩)) R.heap.size (.slice ua q.length uc) q:=Cp.A6 z ai _;clear f9 c2 Q i c0 T a8;go_wp2_with fail;go_meet;exact⟨g0,z,c1,H,B9⟩
  obtain rfl:k=L.length:=aa
  have V:=AE (by rw[HS.o,CY,AS];simp[Eg]:Eg L b=L);clear HS;go_wp2_with fail;go_meet;exact⟨by rw[V.o];exact i,z,J,H,B⟩
 case rest=>
 obtain⟨i,z,a1,H,B7⟩:=hcut;obtain⟨w7,rfl⟩:∃x:World,x=wc:=⟨_,rfl⟩;have g1:=A1.Dq ae By (Cp.t z);have m1:Bk q<=3900000000:=by
  have:(u-n)*100000000<=39*100000000:=CV _ aa;omega
 have m2:q.length<=39:=aa
 have j7:=AE (show∀k,(Eo b (q.take k)).length<=5000000000 from fun k=>by
  rw[Uf];have h1:Bk (q.take k)<=Bk q:=by
   have e:Bk q=Bk (q.take k)+Bk (q.drop k):=by
    unfold Bk;rw[<-List.sum_append,<-FJ,CE]
   omega
  have h2:(q.take k).length*(b.length+6)<=39*28:=Nat.mul_le_mul uy aa;omega)
 have hW:=eI _ _ w7 (A1.rd ae Af i) ((F1 (AV c4 (show _<=730000 by omega))).mono (m:=1000000) ae).1 ((F1 (AV c4 (show _<=730000 by omega))).mono (m:=1000000) ae).2 a1.r.g;have c5:=fun o(h:D7 (Eg L b)=some o)=>Sr h
 clear i z a1;generalize D7 (Eg L b)=ro at hW c5 U;go_wp2_with fail;go_loop[12,156] (fun tv I=>∃k:Nat,I=.int .i64 k/\k<=q.length/\tv=.string ⟨(Eo b (q.take k)).toArray⟩) (fun _ I=>q.length-(intOf I).toNat)
 case atStart=>exact⟨0,rfl,aa,rfl⟩
 obtain⟨k,rfl,hk,rfl⟩:=hrel;have d9:=j7.o k;by_cases E:k<q.length
 ·obtain⟨pb,rfl,_,_,Z⟩:=g1.at By k E;have S:w7.cell? ⟨pb,k,none⟩=some (.string ⟨(q[k]).toArray⟩):=by have:=Z 0 ae;simpa[Bl]using this
  have F:=HX.o _ (AQ E);have e0:=AE (show Eo b (q.take (k+1))=Eo b (q.take k)++45::45::(b++13::10::(q[k]++[13,10]))from by
   rw[AZ E];unfold Eo;rw[CZ];simp)
  clear Z;generalize q[k]=x at S F e0;generalize Eo b (q.take k)=pk at d9 e0;clear hW;go_wp2_with fail
  go_round
  case rel=>exact⟨k+1,aj,aa,by rw[e0.o];try simp⟩
  simp[intOf];omega
 obtain rfl:k=q.length:=aa
 rw[CY]at d9|-;have e1:=Uf b q;have m3:q.length*(b.length+6)<=39*28:=Nat.mul_le_mul aa aa;rw[e1]at d9;generalize g2:Eo b q=pt at e1 U|-;have m4:=AE g2;have m5:pt.length<=Bk q+39*28:=aa
 clear g2 e1 g1;go_wp2_with fail;with_reducible refine hW.mono ?_
 rintro e w8⟨hh,Q⟩;have H:=H.next Q H.lt;have T:=B7.next Q B7.size;clear hW Q B7;rcases hh with⟨o,rfl,rfl⟩|⟨v,rfl,rfl,hv⟩
 ·have m6:=c5 o rfl;have N:=AE (by rw[P.o,U.o];rfl:Bh (d+1) (u+1) (.mk h [] true ps)=.ok (o++(pt++45::45::(b++[45,45,13,10])),n));clear P U c5;go_wp2_with fail;go_ret2;refine⟨Or.inl ⟨_,_,N.o,aa,?_,rfl,H⟩,T⟩;have j8:(u+1-n)*100000000=(u-n)*100000000+100000000:=by rw[show u+1-n=(u-n)+1 by omega,DL]
  rw[j8];simp only[AJ,AK,BG];omega
 have N:=AE (by rw[P.o,U.o];rfl:Bh (d+1) (u+1) (.mk h [] true ps)=.error 1);obtain⟨t,x,rfl⟩:=(hv.n ae).some;clear P U c5;go_wp2_with fail;go_ret2;exact⟨Or.inr ⟨1,_,_,N.o,rfl,hv.n ae⟩,T⟩
def YV(W:Nat)(A:8<W)(d:Nat):∀(n L:Nat)(r:Au)(p:A7)(D l:Int)(w:World),Hid (D=5-(d:Int))->d<=4->Hid (l=(L:Int))->L<=40->Gz w->A0 w W #[l] 172->A8 (fun b=>b≠W) n w r p->He n p->Calls prog 106 #[.pointer (some ⟨W,0,none⟩),C3 r,D] w fun e s=>X8 W L (Bh d L p) e s/\A5 W w.heap.size w s:=by
 induction d with
 |zero=>
  intro n L r p D l w H _ i t u k v C;obtain⟨⟨f,o,g⟩,B,m,⟨P,q,j⟩⟩:=r;refine(mS f P o g q j B m W D l w k (by have:=i.o;omega) iw (Or.inl iw)).mono ?_;rintro e s⟨rfl,x⟩;exact⟨Or.inr ⟨4,_,_,rfl,rfl,Or.inl rfl⟩,x⟩
 |succ d ih=>
  intro n L r p D l w H E i t u k v C;cases L with
  |zero=>
   obtain⟨⟨f,o,g⟩,B,m,⟨P,q,j⟩⟩:=r;refine(mS f P o g q j B m W D l w k (by have:=i.o;omega) iw (Or.inr (by have:=i.o;omega))).mono ?_;rintro e s⟨rfl,x⟩;exact⟨Or.inr ⟨4,_,_,rfl,rfl,Or.inl rfl⟩,x⟩
  |succ F=>
   cases n with
   |zero=>exact v.elim
   |succ n=>
    obtain⟨h,b,m,y⟩:=p;obtain⟨⟨f,o,g⟩,B,M,⟨P,q,j⟩⟩:=r;obtain⟨rfl,rfl,z,R,G,I,K⟩:=v;obtain⟨J,N,O,Q⟩:=C;have S:o=h.length:=by
     obtain⟨a,c,e,_⟩:=z;injection e
    have T:q=y.length:=by
     obtain⟨a,c,e,_⟩:=G;injection e with _ e _;exact e.trans I
    subst S T;cases M with
    |false=>exact WY d F f P g j h B y W D l w H E i t u A k z J N
    |true=>exact YU d F n f P g j h B y R W D l w H E i t u A k z J O G I (AE K) (AE Q) (fun L r p D l w U V X Y Z a6 a7=>ih n L r p D l w U aa V X Y Z a6 a7)
def nP(r:Except Int Bs)(e:Ending):Prop:=(∃s,r=.ok s/\s.length<=20000/\e=.returned (.tuple #[.string ⟨s.toArray⟩,.nilIface]))\/(∃c,r=.error c/\e=.returned (.tuple #[.string ⟨#[]⟩,.iface 30 (.int .i64 c)]))
def YW(q:Nat)(R:Au)(p:A7)(w:World)(d:A8 (fun _=>True) q w R p)(E:He q p)(g:Gz w):Calls prog 47 #[C3 R] w fun e F=>nP (Iu p) e/\Below w.heap.size w F:=by
 have V:=g.size;have H:=AE (show Iu p=match Bh 4 40 p with
  | .error e=>.error e
  | .ok (s,_)=>if 20000<s.length then .error 4 else .ok s from rfl)
 have hI:=fun W G a I=>YV (w.heap.size+1) aa 4 q 40 R p 1 40 W (AE rfl) ae (AE rfl) ae G a I E
 have d:=A8.Ac (Q:=fun b=>b≠w.heap.size+1) (fun b _ h=>aa) d;obtain⟨⟨f,i,j⟩,y,m,⟨P,k,l⟩⟩:=R;simp only[C3,A9]at hI|-;have B:=((AG w.heap.size w).alloc (AF _) (.cells #[.slice f i j,y,m,.slice P k l] 44)).alloc ah (.cells #[.int .i64 40] 172);have A:=(A0.new w #[.slice f i j,y,m,.slice P k l] 44).alloc (.cells #[.int .i64 40] 172);have u:=A0.new (w.alloc (.cells #[.slice f i j,y,m,.slice P k l] 44)) #[.int .i64 40] 172;rw[AX]at u;have hI:=hI _ (g.next B) u (d.next B);have J:((w.alloc (.cells #[.slice f i j,y,m,.slice P k l] 44)).alloc (.cells #[.int .i64 40] 172)).heap.size=w.heap.size+1+1:=ah
 have C:=g.next B;have K:=A.cell;clear d g;generalize Bh 4 40 p=r at hI H;go_enter func47,ntmps47;go_wp2_with fail;generalize World.alloc _ _=X at hI B A u J C K|-;with_reducible refine hI.mono ?_
 rintro e L⟨M,z⟩;have o:=B.trans ((z.mono (B':=w.heap.size) aa).shut aa);have O:=C.Ai z aa;clear hI z K;rcases M with⟨s,n,rfl,_,_,rfl,_⟩|⟨c,s,v,rfl,rfl,D⟩
 ·by_cases a:20000<s.length
  ·have N:=AE (by rw[H.o];simp only;rw[AN a]:Iu p=.error 4);have a:(20000:Int)<s.length:=by omega
   clear H;go_wp2;go_ret2;exact⟨Or.inr ⟨4,N.o,rfl⟩,o⟩
  have N:=AE (by rw[H.o];simp only;rw[AL a]:Iu p=.ok s);have S:s.length<=20000:=aa
  have a:¬(20000:Int)<s.length:=aa
  clear H;go_wp2;go_ret2;exact⟨Or.inl ⟨s,N.o,S,rfl⟩,o⟩
 have N:=AE (show Iu p=.error c from H.o);have T:=U6 v c L D.v O.r;obtain⟨t,x,rfl⟩:=D.some;clear H;go_wp2_with fail;with_reducible refine T.mono ?_
 rintro e Y⟨rfl,U⟩;go_wp2;go_ret2;exact⟨Or.inr ⟨c,N.o,rfl⟩,o.trans (U.mono o.size)⟩
end Go.Proofs.YtignjjnflcpiiaaGreatDoor
