/- (part.writer).write of a part with parts. Condition: what -/
import Derived.Test.YtignjjnflcpiiaaGreatDoorS29
set_option linter.all false
set_option maxHeartbeats 16000000
set_option maxRecDepth 100000
namespace Go.Proofs.YtignjjnflcpiiaaGreatDoor
open Go Go.RowKit Proofs.Tryz Lib
theorem gG(d L:Nat)(h:List A4)(body:Bs)(ps:List A8):Bh (d+1) (L+1) (.mk h body true ps)=if Ca h=false then .error 1 else match Bg h with
  |none=>.error 1
  |some o=>if o.isSome=false then .error 1 else if body≠[]then .error 1 else match By (Bh d) L ps with
   | .error e=>.error e
   | .ok (l,n)=>match Mq h l with
    |none=>.error 1
    |some s=>.ok (s,n):=by
 conv=>lhs;unfold Bh
 split
 ·rfl
 cases Bg h with
 |none=>rfl
 |some o=>cases o<;>cases body<;>rfl
variable {B e size k n m cap:Nat}{w w':World}{b s:Bs}{l:List A4}
theorem A0.grown{α:Type}{cs:α→List Value}{v:Value}{xs:List α}{r:Option Nat}(h:A0 e size cs w B v xs)(H:w.grownBy w' r)(a:∀g,v.ownBlock=some g→r≠some g):A0 e size cs w' B v xs:=World.ownsRow.kept h H (by
  cases b:v.ownBlock with
  |none=>exact Or.inl rfl
  |some g=>exact Or.inr (fun e=>a g b e.symm))
theorem gH(xs:List Bs):xs.flatMap Bi=xs.map fun x=>Value.string ⟨x.toArray⟩:=by
 induction xs with
 |nil=>rfl
 |cons x xs ih=>rw[BT,DM,ih];rfl
theorem Cg.Ag{w w':World}{B lb:Nat}{v:Value}{xs:List Bs}(h:Cg w B v xs)(b:A5 lb w.heap.size w w')(l:lb<B):Cg w' B v xs:=by
 have H:=A0.Ag (Cg.t h) b l;unfold A0 at H;rw[gH]at H;exact H
theorem Cg.A6{w:World}{B:Nat}{v:Value}{xs:List Bs}(h:Cg w B v xs){a:Go.Addr}(b:a.block<B)(u:Value):Cg (w.setCell a u) B v xs:=by
 have H:=A0.A6 (Cg.t h) b u;unfold A0 at H;rw[gH]at H;exact H
theorem SR(H:k<l.length)(h:(A2 l[k].1==A2 Bu)=false)(s:Dr l b=l.take k++Dr (l.drop k) b):Dr l b=l.take (k+1)++Dr (l.drop (k+1)) b:=by
 rw[s,AE H];conv=>lhs;rw[Dr,AI (by simpa using h)]
 rw[AU H,AJ];rfl
theorem SS(H:k<l.length)(h:(A2 l[k].1==A2 Bu)=true)(s:Dr l b=l.take k++Dr (l.drop k) b):Dr l b=l.set k ((l[k]).1,El (l[k]).2 b):=by
 rw[s,AE H];conv=>lhs;rw[Dr,AM (by simpa using h)]
 rw[GB,AM H]
theorem gJ{q:List Bs}{l:Nat}(h:Bd q≤(l-n)*100000000)(H:s.length≤(n-m)*100000000)(a:m<n)(b:n≤l):Bd (q++[s])≤(l-m)*100000000:=by
 have e:Bd (q++[s])=Bd q+s.length:=by simp[Bd]
 have E:(l-n)*100000000+(n-m)*100000000=(l-m)*100000000:=by rw[←Nat.add_mul];congr 1;omega
 omega
theorem SU(d u n0:Nat)(ha pa:Option Go.Addr)(hc pc:Nat)(h:List A4)(body:Bs)(ps:List A8)(raws:List Ao)(j:Nat)(X A:Int)(w:World)(e2:Hid (X=5-((d+1:Nat):Int)))(j9:d+1≤4)(e3:Hid (A=((u+1:Nat):Int)))(hl:u+1≤40)(hg:Gz w)(e4:8<j)(M:A1 w j #[.int .i64 A] 172)
  (G:Aq 2 Au (fun b=>b≠j) w (.slice ha h.length hc) h) (e5:Av h≤120000) (k0:ps.length≤1000000)
  (e6:Aq 4 D5 (fun b=>b≠j) w (.slice pa ps.length pc) raws) (k1:raws.length=ps.length) (e7:Hid (∀k(h1:k<raws.length)(h2:k<ps.length),A7 (fun b=>b≠j) n0 w raws[k] ps[k])) (e8:Hid (∀p∈ps,Ft n0 p))
  (ih:∀(a9:Nat)(a2:Ao)(p:A8)(X A:Int)(w:World),Hid (X=5-(d:Int))→Hid (A=(a9:Int))→a9≤40→Gz w→A1 w j #[.int .i64 A] 172→A7 (fun b=>b≠j) n0 w a2 p→Ft n0 p→Calls prog 106 #[.pointer (some ⟨j,0,none⟩),Bm a2,.int .i64 X] w fun e w'=>Tr j a9 (Bh d a9 p) e w'∧A5 j w.heap.size w w'):
  Calls prog 106 #[.pointer (some ⟨j,0,none⟩),.agg #[.slice ha h.length hc,.string ⟨body.toArray⟩,.bool true,.slice pa ps.length pc],.int .i64 X] w fun e w'=>Tr j (u+1) (Bh (d+1) (u+1) (.mk h body true ps)) e w'∧A5 j w.heap.size w w':=by
 have P:=AB (gG d u h body ps);have k2:1≤A∧A≤40:=by have:=e3.o;omega
 have k3:1≤X∧X≤4:=by have:=e2.o;omega
 have g3:=AB (by have:=e3.o;omega:A-1=(u:Int));have kc:=M.cell 0;have kf:=M.free 0;have g4:(w.setCell ⟨j,0,none⟩ (.int .i64 (A-1))).cell? ⟨j,0,none⟩=some (.int .i64 (A-1)):=(M.set 0 _).cell 0;have k4:=M.lt;have k5:w.heap.size≠j:=by omega
 have BO:A5 j w.heap.size w (w.setCell ⟨j,0,none⟩ (.int .i64 (A-1))):=(A5.refl _ _ _).set _;have h0:¬A-1<0:=by omega
 have D:=(AD (w.setCell ⟨j,0,none⟩ (.int .i64 (A-1))).heap.size (w.setCell ⟨j,0,none⟩ (.int .i64 (A-1)))).alloc (AC _) (.cells #[.slice ha h.length hc,.string ⟨body.toArray⟩,.bool true,.slice pa ps.length pc] 44);have H:A1 (w.setCell ⟨j,0,none⟩ (.int .i64 (A-1))) j #[.int .i64 (A-1)] 172:=M.set 0 _;have H:=H.next D H.lt;have C:=A1.new (w.setCell ⟨j,0,none⟩ (.int .i64 (A-1))) #[.slice ha h.length hc,.string ⟨body.toArray⟩,.bool true,.slice pa ps.length pc] 44;rw[EL]at C;have a3:=BO.next D (by simp);have G:=(G.set (a:=⟨j,0,none⟩) (.int .i64 (A-1)) (fun h=>h rfl)).next D;have Y:=hg.Ag a3 e4;have g5:((w.setCell ⟨j,0,none⟩ (.int .i64 (A-1))).alloc (.cells #[.slice ha h.length hc,.string ⟨body.toArray⟩,.bool true,.slice pa ps.length pc] 44)).heap.size=w.heap.size+1:=by simp
 have b0:=(Em e5).mono (m:=1000000) (by decide);have hR:=Va _ h _ G.rd (b0.ok (by decide));generalize g6:Ca h=rf at hR P;clear g6 BO D hg M;go_enter func106,ntmps106;go_wp2_with fail;generalize World.alloc _ _=W1 at H C a3 G Y g5 hR⊢;clear kc kf g4 h0;have kp:=C.cell;with_reducible refine hR.mono ?_
 rintro e w2⟨rfl,b2⟩;have H:=H.next b2 H.lt;have C:=C.next b2 C.lt;have G:=G.next b2;have c6:=Y.next b2;have B2:=a3.next b2 a3.size;have k6:=b2.size;clear hR b2 Y a3 kp;cases rf with
 |false=>
  have N:=AB (show Bh (d+1) (u+1) (.mk h body true ps)=.error 1 from P.o);clear P;go_wp2_with fail;go_ret2;exact⟨Or.inr ⟨1,_,_,N.o,rfl,Or.inl rfl⟩,B2⟩
 |true=>
 have P:=AB (show Bh (d+1) (u+1) (.mk h body true ps)=match Bg h with
  |none=>.error 1
  |some ob=>if ob.isSome=false then .error 1 else if body≠[]then .error 1 else match By (Bh d) u ps with
   | .error e=>.error e
   | .ok (l,n)=>match Mq h l with
    |none=>.error 1
    |some s=>.ok (s,n)from P.o)
 have hB:=Wr _ h w2 G.rd b0 c6.r;generalize Bg h=rb at hB P;have kp:=C.cell;go_wp2_with fail;with_reducible refine hB.mono ?_
 rintro e w3⟨hh,b3⟩;have H:=H.next b3 H.lt;have C:=C.next b3 C.lt;have G:=G.next b3;have a4:=c6.next b3;have B3:=B2.next b3 B2.size;have k7:=b3.size;have kp:=C.cell;clear hB b3 c6 B2;rcases hh with⟨k8,rfl,rfl⟩|⟨rfl,rfl⟩|⟨rfl,rfl⟩
 case inr.inl=>
  have N:=AB (show Bh (d+1) (u+1) (.mk h body true ps)=.error 1 from P.o);clear P;go_wp2_with fail;go_ret2;exact⟨Or.inr ⟨1,_,_,N.o,rfl,Or.inl rfl⟩,B3⟩
 case inr.inr=>
  have N:=AB (show Bh (d+1) (u+1) (.mk h body true ps)=.error 1 from P.o);clear P;go_wp2_with fail;go_ret2;exact⟨Or.inr ⟨1,_,_,N.o,rfl,Or.inl rfl⟩,B3⟩
 by_cases h0:body=[]
 case neg=>
  have N:=AB (by rw[P.o];simp[h0]:Bh (d+1) (u+1) (.mk h body true ps)=.error 1);have h1:body.isEmpty=false:=by rw[AP];simpa using h0
  clear P h0;go_wp2_with fail;go_ret2;exact⟨Or.inr ⟨1,_,_,N.o,rfl,Or.inl rfl⟩,B3⟩
 subst h0;have P:=AB (show∀r,By (Bh d) u ps=r→Bh (d+1) (u+1) (.mk h [] true ps)=match r with
  | .error e=>.error e
  | .ok (l,n)=>match Mq h l with
   |none=>.error 1
   |some s=>.ok (s,n)from fun r hr=>by rw[←hr,P.o];simp)
 have e9:=eU _ h w3 G.rd (by have:=b0.1;omega);go_wp2_with fail;with_reducible refine e9.mono ?_
 rintro e w4⟨v4,rfl,i,b4⟩;have H:=H.next b4 H.lt;have C:=C.next b4 C.lt;have c7:=a4.next b4;have B4:=B3.next b4 B3.size;have hD:=gD v4 h w3.heap.size w4 i (b0.ok (by decide)) c7.r (by have:=a4.size;omega) b4.size;have k9:=C.lt;have l0:=b4.size;clear e9 b4 i;go_wp2_with fail;with_reducible refine hD.mono ?_
 rintro e R⟨v5,rfl,i,b5⟩;have H:=H.next b5 (by omega);have C:=C.next b5 (by omega);have f0:Gz R:=c7.keep fun b g7=>b5.block b (by have:=a4.size;omega)
 have B5:A5 j w.heap.size w R:=B4.trans (A5.of (b5.mono (by omega)));have l1:=b5.size;have kp:=C.cell;have f1:=A0.Do i;have f2:=Tq h;rw[g3.o]at H;clear hD b5 c7 B4 G;go_wp2_with fail;go_loopw[14,105] (fun vp I wr=>∃(k n:Nat)(q:List Bs),I=.int .i64 k∧k≤ps.length∧q.length=k∧n+q.length≤u∧Bd q≤(u-n)*100000000∧Cg wr R.heap.size vp q∧Hid (∀x∈q,x.length≤3900000000)∧Hid (Ku q (By (Bh d) n (ps.drop k))=By (Bh d) u ps)∧A1 wr j #[.int .i64 (n:Int)] 172∧Bk wr w3.heap.size v5 (Bz h)∧Gz wr∧A5 j w.heap.size w wr∧R.heap.size≤wr.heap.size) (fun _ I _=>ps.length-(intOf I).toNat)
 case atStart=>exact⟨0,u,[],rfl,by omega,rfl,by simp,by simp[Bd],GG _ _ _ _,AB (by simp),AB (by rw[DP,Te]),H,i,f0,B5,AC _⟩
 clear H i f0 B5 kp C;obtain⟨k,n,q,rfl,hk,g8,g9,f3,z,HX,a0,H,i,J,B,h4⟩:=hrel;by_cases E:k<ps.length
 ·obtain⟨pb,rfl,b1,b8,Z⟩:=e6.at Db k (by omega);have b9:=(e7.o k (by omega) E).Ag B (by simp);have c8:=e8.o _ (AN E);have S:=(B.cell (p:=⟨pb,k*4+0,none⟩) b8 b1).trans (Z 0 (by decide));have O:=(B.cell (p:=⟨pb,k*4+1,none⟩) b8 b1).trans (Z 1 (by decide));have c2:=(B.cell (p:=⟨pb,k*4+2,none⟩) b8 b1).trans (Z 2 (by decide));have c3:=(B.cell (p:=⟨pb,k*4+3,none⟩) b8 b1).trans (Z 3 (by decide));have HE:=AB (fun c(h:Bh d n ps[k]=.error c)=>Tf E h q);have HO:=AB (fun y m(h:Bh d n ps[k]=.ok (y,m))=>Tg E h q);clear Z;generalize ps[k]=p at b9 c8 HE HO;generalize raws[k]'(by omega)=a2 at b9 S O c2 c3;have hI:=fun W h1 h2 h3=>ih n a2 p (X+1) n W (AB (by have:=e2.o;omega)) (AB rfl) (by omega) h1 h2 h3 c8
  obtain⟨⟨ra,rn,c9⟩,rb,rm,⟨d0,d1,d2⟩⟩:=a2;simp only[Bm,A9,D5,BI,AR,AT]at S O c2 c3 hI;have kt:=A1.new wr #[.slice ra rn c9,.string ⟨rb.toArray⟩,.bool rm,.slice d0 d1 d2] 44;have D:=(AD wr.heap.size wr).alloc (AC _) (.cells #[.slice ra rn c9,.string ⟨rb.toArray⟩,.bool rm,.slice d0 d1 d2] 44);have H:=H.next D H.lt;have i:=A0.next i D;have z:=Jr z D;have Y:=J.next D;have B1:=B.next D B.size;have hI:=hI _ Y H (b9.next D);have h5:(wr.alloc (.cells #[.slice ra rn c9,.string ⟨rb.toArray⟩,.bool rm,.slice d0 d1 d2] 44)).heap.size=wr.heap.size+1:=by simp
  generalize Bh d n p=rx at hI HE HO;have f4:=kt.cell;clear D J B b9 c8 H;go_wp2_with fail;generalize World.alloc _ _=W1 at i z Y B1 hI h5 f4 kt⊢;with_reducible refine hI.mono ?_
  rintro e w8⟨hh,a5⟩;have l2:=a5.size;have i:=i.Ag a5 (by omega);have z:=Cg.Ag z a5 (by omega);have c0:=Y.Ag a5 e4;have T:=B1.trans (a5.mono (by omega));clear hI S O c2 c3 Y B1 kt f4;rcases hh with⟨s,m,rfl,hm,h6,rfl,H⟩|⟨c,s,v,rfl,rfl,hv⟩
  case inr=>
   have N:=AB (show Bh (d+1) (u+1) (.mk h [] true ps)=.error c from P.o _ (a0.o.symm.trans (HE.o c rfl)));obtain⟨t,x,rfl⟩:=hv.some;clear HE HO a0 P;go_wp2_with fail;go_ret2;exact⟨Or.inr ⟨c,_,_,N.o,rfl,hv⟩,T⟩
  have N:=AB (Eq.trans (HO.o s m rfl).symm a0.o);have h7:s.length≤3900000000:=by
   have:(n-m)*100000000≤39*100000000:=EM _ (by omega);omega
  have h8:=AB (show∀x∈q++[s],x.length≤3900000000 from fun x F=>by
   rcases BP.1 F with F|F
   ·exact HX.o x F
   simp at F;rw[F];exact h7)
  have f5:=A0.Fp (Cg.t z);clear HE HO a0;go_wp2_with(at_builtin;refine G3 rfl _ _ rfl R.heap.size _ q s w8.heap.size rfl (FY z _) rfl (Ws _ _ _) (by omega) (by simp;omega) ?_;intro v' w9 h9 c1 a6);have D:=(AD w8.heap.size w8).alloc (AC _) (.cells #[.string ⟨s.toArray⟩] 9);have H:=(H.next D H.lt).next a6 (by omega);have i:=(A0.next i D).grown c1 (fun g hg e=>by have h1:=f1 g hg;have h2:=f5 g e;omega);have i0:Gz w9:=(c0.next D).keep fun b g7=>a6.block b (by have:=a4.size;omega)
  have B9:A5 j w.heap.size w w9:=(T.next D T.size).trans (A5.of (a6.mono (by omega)));have i1:=a6.size;rw[AV]at i1;clear D f5 c1 a6 z;go_wp2_with fail;go_roundw
  case rel=>exact⟨k+1,m,q++[s],by go_num,by omega,by simp;omega,by simp;omega,gJ f3 h6 (by omega) (by omega),h9,h8,N,H,i,i0,B9,by omega⟩
  simp[intOf];omega
 obtain rfl:k=ps.length:=by omega
 have P:=AB (show Bh (d+1) (u+1) (.mk h [] true ps)=match Mq h q with
  |none=>.error 1
  |some s=>.ok (s,n)from P.o _ (a0.o.symm.trans (Th q)))
 have l3:q.length≤1000000:=by omega
 clear a0 e7 e8 e6 g8;have U:=AB (by rfl:Mq h q=(D0 (Dr (Bz h) (Cj q))).map (·++(Dw (Cj q) q++45::45::(Cj q++[45,45,13,10]))));have d3:=SF _ q wr (A0.rd (by decide) Cw (Cg.t z)) (by omega) (fun x F=>BC (HX.o x F) (by decide)) J;have i2:=X4 q (by omega) (fun x F=>BC (HX.o x F) (by decide));obtain⟨ua,uc,i3⟩:=Cg.shape z;subst i3;generalize Cj q=b at d3 i2 U;go_wp2_with fail;with_reducible refine d3.mono ?_
 rintro e w6⟨rfl,b6⟩;have H:=H.next b6 H.lt;have i:=A0.next i b6;have z:=Jr z b6;have f6:=J.next b6;have B6:=B.next b6 B.size;have l4:=b6.size;have i4:=Qo (Bz h);have d4:=AB (by simp:Dr (Bz h) b=(Bz h).take 0++Dr ((Bz h).drop 0) b);have d5:=AB ((Em (BC f2 e5)).mono (m:=1000000) (by decide)).2;have c4:=X3 b (Bz h);clear d3 b6 J B;generalize f7:Bz h=L at i d4 d5 U i4 f2 c4;have f7:=AB f7;obtain⟨la,lc,i5⟩:∃a c,v5=.slice a L.length c:=by
  obtain⟨a,c,h,_⟩:=A0.rd (by decide) Ah i;exact⟨a,c,h⟩
 subst i5;go_upto_block 2 with fail;go_cut[20] (fun _ wx=>Bk wx w3.heap.size (.slice la L.length lc) (Dr L b)∧Cg wx R.heap.size (.slice ua q.length uc) q∧Gz wx∧A1 wx j #[.int .i64 (n:Int)] 172∧A5 j w.heap.size w wx)
 case first=>
  clear P U HX f3 g9 c4;go_wp2_with fail;go_loopw[129] (fun I wr=>∃k:Nat,I=.int .i64 k∧k≤L.length∧Bk wr w3.heap.size (.slice la L.length lc) L∧Cg wr R.heap.size (.slice ua q.length uc) q∧Hid (Dr L b=L.take k++Dr (L.drop k) b)∧Gz wr∧A1 wr j #[.int .i64 (n:Int)] 172∧A5 j w.heap.size w wr∧R.heap.size≤wr.heap.size) (fun I _=>L.length-(intOf I).toNat)
  case atStart=>exact⟨0,rfl,by omega,i,z,d4,f6,H,B6,by omega⟩
  clear i z d4 f6 H B6;obtain⟨k,rfl,hk,i,z,HS,J,H,B,h4⟩:=hrel;by_cases E:k<L.length
  ·obtain⟨g,i6⟩:∃g,la=some ⟨g,0,none⟩:=by
    obtain⟨a,c,h,h2⟩:=C7.open (A0.rd (by decide) Ah i);injection h with h _ _;obtain⟨b,h3,_⟩:=h2 k E;exact⟨b,h.trans h3⟩
   subst i6;have O:=A0.cellAt Ah i k E 0 (by decide);have l5:=A0.Fp i g rfl;have i7:=A0.Do i g rfl;have hf:=d5.o _ (AN E);have HG:=AB (fun h=>SR (b:=b) E h HS.o);have V:=AB (fun h=>SS (b:=b) E h HS.o);have a7:=AB (show∀W,Bk W w3.heap.size (.slice (some ⟨g,0,none⟩) L.length lc) L→W.cell? ⟨g,k*2+1,none⟩=some (.string ⟨((L[k]).2).toArray⟩)from fun W h=>A0.cellAt Ah h k E 1 (by decide));have a8:=AB (fun(W:World)(y:Bs)(h:Bk W w3.heap.size (.slice (some ⟨g,0,none⟩) L.length lc) L)=>A0.Tn h k E y);simp only[Au,BI,AR]at O;generalize L[k]=f at O hf HG V a7 a8;obtain⟨x,y⟩:=f;simp only at O hf HG V a7 a8;have S:wr.cell? ⟨2,0,none⟩=some (.string ⟨#[67,111,110,116,101,110,116,45,84,121,112,101]⟩):=J.r.ours 0 (by decide);have d6:=fun W=>G0 x W (by omega)
   have d7:=fun W=>G0 [67,111,110,116,101,110,116,45,84,121,112,101] W (by decide)
   have d8:=AB (by rfl:A2 [67,111,110,116,101,110,116,45,84,121,112,101]=A2 Bu);have i8:2<wr.heap.size:=by have:=J.size;omega
   have l6:(0:Int)≤k:=by omega
   have l7:(k:Int)<L.length:=by omega
   go_upto_region 28 with fail;go_cut[141] (fun t wx=>t=.bool (A2 x==A2 Bu)∧Below wr.heap.size wr wx)
   case first=>
    clear HG V a7 a8 HS d5;generalize f8:A2 x=lx at d6;have i9:=AB f8;generalize j0:A2 [67,111,110,116,101,110,116,45,84,121,112,101]=ly at d7 d8;clear f8 j0;have j1:wr.drew.cell? ⟨g,k*2,none⟩=some (.string ⟨x.toArray⟩):=O;have j2:wr.drew.cell? ⟨2,0,none⟩=some (.string ⟨#[67,111,110,116,101,110,116,45,84,121,112,101]⟩):=S;have K0:=(AD wr.heap.size wr).drew;go_region_held3(fun W=>W.cell? ⟨g,k*2,none⟩=some (.string ⟨x.toArray⟩)∧W.cell? ⟨2,0,none⟩=some (.string ⟨#[67,111,110,116,101,110,116,45,84,121,112,101]⟩)∧Below wr.heap.size wr W)
     (first
      |with_reducible exact⟨j1,j2,K0⟩
      |with_reducible exact⟨(K.cell (p:=⟨g,k*2,none⟩) i7).trans O,(K.cell (p:=⟨2,0,none⟩) i8).trans S,K⟩)
     ((
      first
      |(go_at_call 42;go_split_ands;with_reducible refine(d6 _).mono ?_;rintro e j3⟨rfl,M⟩;have K:=C4 M (w0:=wr) (by assumption))
      |(go_at_call 42;go_split_ands;with_reducible refine(d7 _).mono ?_;rintro e j3⟨rfl,M⟩;have K:=C4 M (w0:=wr) (by assumption))))
    all_goals go_split_ands
    all_goals
     go_wp2_with fail;go_meet;exact⟨by rw[i9.o,←d8.o],by assumption⟩
   case rest=>
   obtain⟨rfl,b7⟩:=hcut;obtain⟨w7,rfl⟩:∃x:World,x=wc:=⟨_,rfl⟩;have i:=A0.next i b7;have z:=Jr z b7;have H:=H.next b7 H.lt;have a1:=J.next b7;have B7:=B.next b7 B.size;have l8:=b7.size;clear d6 d7 d8 S O b7 J B;generalize(A2 x==A2 Bu)=j4 at HG V⊢;cases j4 with
   |false=>
    have j5:=AB (HG.o rfl);clear V HS HG;go_wp2_with fail;go_roundw
    case rel=>exact⟨k+1,by go_num,by omega,i,z,j5,a1,H,B7,by omega⟩
    simp[intOf];omega
   |true=>
    have j6:=AB (V.o rfl);have f9:=SG y b w7 hf.2 (by omega) a1.r;have c2:=a7.o w7 i;clear HG HS a7 V;go_wp2_with fail;with_reducible refine f9.mono ?_
    rintro e w8⟨rfl,Q⟩;have i:=A0.next i Q;have z:=Jr z Q;have H:=H.next Q H.lt;have c0:=a1.next Q;have T:=B7.next Q B7.size;have l9:=A0.free i;have g0:=a8.o w8 (El y b) i;rw[←j6.o]at g0;have c3:=A0.cellAt Ah i k E 1 (by decide);simp only[Au,AR,AT]at c3;have H:=H.A6 (a:=⟨g,k*2+1,none⟩) (by simp only;omega) (.string ⟨(El y b).toArray⟩);have c1:Gz (w8.setCell ⟨g,k*2+1,none⟩ (.string ⟨(El y b).toArray⟩)):=c0.keep fun c hc=>Gp _ _ _ c (by have:=a4.size;simp only;omega)
    have B9:=T.own (p:=⟨g,k*2+1,none⟩) (by simp only;omega) (.string ⟨(El y b).toArray⟩);have m0:=f1 g rfl;have z:Cg (w8.setCell ⟨g,k*2+1,none⟩ (.string ⟨(El y b).toArray⟩)) R.heap.size (.slice ua q.length uc) q:=Cg.A6 z (by simp only;omega) _;clear f9 c2 Q i c0 T a8;go_wp2_with fail;go_meet;exact⟨g0,z,c1,H,B9⟩
  obtain rfl:k=L.length:=by omega
  have V:=AB (by rw[HS.o,CQ,AQ];simp[Dr]:Dr L b=L);clear HS;go_wp2_with fail;go_meet;exact⟨by rw[V.o];exact i,z,J,H,B⟩
 case rest=>
 obtain⟨i,z,a1,H,B7⟩:=hcut;obtain⟨w7,rfl⟩:∃x:World,x=wc:=⟨_,rfl⟩;have g1:=A0.Dn (by decide) Cw (Cg.t z);have m1:Bd q≤3900000000:=by
  have:(u-n)*100000000≤39*100000000:=EM _ (by omega);omega
 have m2:q.length≤39:=by omega
 have j7:=AB (show∀k,(Dw b (q.take k)).length≤5000000000 from fun k=>by
  rw[R9];have h1:Bd (q.take k)≤Bd q:=by
   have e:Bd q=Bd (q.take k)+Bd (q.drop k):=by
    unfold Bd;rw[←List.sum_append,←ID,BQ]
   omega
  have h2:(q.take k).length*(b.length+6)≤39*28:=Nat.mul_le_mul (by rw[BV];omega) (by omega);omega)
 have hW:=Zi _ _ w7 (A0.rd (by decide) Ah i) ((Em (BC c4 (show _≤730000 by omega))).mono (m:=1000000) (by decide)).1 ((Em (BC c4 (show _≤730000 by omega))).mono (m:=1000000) (by decide)).2 a1.r.g;have c5:=fun o(h:D0 (Dr L b)=some o)=>Pl h
 clear i z a1;generalize D0 (Dr L b)=ro at hW c5 U;go_wp2_with fail;go_loop[12,156] (fun tv I=>∃k:Nat,I=.int .i64 k∧k≤q.length∧tv=.string ⟨(Dw b (q.take k)).toArray⟩) (fun _ I=>q.length-(intOf I).toNat)
 case atStart=>exact⟨0,rfl,by omega,rfl⟩
 obtain⟨k,rfl,hk,rfl⟩:=hrel;have d9:=j7.o k;by_cases E:k<q.length
 ·obtain⟨pb,rfl,_,_,Z⟩:=g1.at Cw k E;have S:w7.cell? ⟨pb,k,none⟩=some (.string ⟨(q[k]).toArray⟩):=by have:=Z 0 (by decide);simpa[Bi]using this
  have F:=HX.o _ (AN E);have e0:=AB (show Dw b (q.take (k+1))=Dw b (q.take k)++45::45::(b++13::10::(q[k]++[13,10]))from by
   rw[AU E];unfold Dw;rw[CR];simp)
  clear Z;generalize q[k]=x at S F e0;generalize Dw b (q.take k)=pk at d9 e0;clear hW;go_wp2_with fail
  go_round
  case rel=>exact⟨k+1,by go_num,by omega,by rw[e0.o];try simp⟩
  simp[intOf];omega
 obtain rfl:k=q.length:=by omega
 rw[CQ]at d9⊢;have e1:=R9 b q;have m3:q.length*(b.length+6)≤39*28:=Nat.mul_le_mul (by omega) (by omega);rw[e1]at d9;generalize g2:Dw b q=pt at e1 U⊢;have m4:=AB g2;have m5:pt.length≤Bd q+39*28:=by omega
 clear g2 e1 g1;go_wp2_with fail;with_reducible refine hW.mono ?_
 rintro e w8⟨hh,Q⟩;have H:=H.next Q H.lt;have T:=B7.next Q B7.size;clear hW Q B7;rcases hh with⟨o,rfl,rfl⟩|⟨v,rfl,rfl,hv⟩
 ·have m6:=c5 o rfl;have N:=AB (by rw[P.o,U.o];rfl:Bh (d+1) (u+1) (.mk h [] true ps)=.ok (o++(pt++45::45::(b++[45,45,13,10])),n));clear P U c5;go_wp2_with fail;go_ret2;refine⟨Or.inl ⟨_,_,N.o,by omega,?_,rfl,H⟩,T⟩;have j8:(u+1-n)*100000000=(u-n)*100000000+100000000:=by rw[show u+1-n=(u-n)+1 by omega,DN]
  rw[j8];simp only[AH,AO,BN];omega
 have N:=AB (by rw[P.o,U.o];rfl:Bh (d+1) (u+1) (.mk h [] true ps)=.error 1);obtain⟨t,x,rfl⟩:=(hv.n (by decide)).some;clear P U c5;go_wp2_with fail;go_ret2;exact⟨Or.inr ⟨1,_,_,N.o,rfl,hv.n (by decide)⟩,T⟩
theorem SV(W:Nat)(A:8<W)(d:Nat):∀(n L:Nat)(r:Ao)(p:A8)(D l:Int)(w:World),Hid (D=5-(d:Int))→d≤4→Hid (l=(L:Int))→L≤40→Gz w→A1 w W #[.int .i64 l] 172→A7 (fun b=>b≠W) n w r p→Ft n p→Calls prog 106 #[.pointer (some ⟨W,0,none⟩),Bm r,.int .i64 D] w fun e s=>Tr W L (Bh d L p) e s∧A5 W w.heap.size w s:=by
 induction d with
 |zero=>
  intro n L r p D l w H _ i t u k v C;obtain⟨⟨f,o,g⟩,B,m,⟨P,q,j⟩⟩:=r;refine(gE f P o g q j B m W D l w k (by have:=i.o;omega) (by have:=H.o;omega) (Or.inl (by have:=H.o;omega))).mono ?_;rintro e s⟨rfl,x⟩;exact⟨Or.inr ⟨4,_,_,rfl,rfl,Or.inl rfl⟩,x⟩
 |succ d ih=>
  intro n L r p D l w H E i t u k v C;cases L with
  |zero=>
   obtain⟨⟨f,o,g⟩,B,m,⟨P,q,j⟩⟩:=r;refine(gE f P o g q j B m W D l w k (by have:=i.o;omega) (by have:=H.o;omega) (Or.inr (by have:=i.o;omega))).mono ?_;rintro e s⟨rfl,x⟩;exact⟨Or.inr ⟨4,_,_,rfl,rfl,Or.inl rfl⟩,x⟩
  |succ F=>
   cases n with
   |zero=>exact v.elim
   |succ n=>
    obtain⟨h,b,m,y⟩:=p;obtain⟨⟨f,o,g⟩,B,M,⟨P,q,j⟩⟩:=r;obtain⟨rfl,rfl,z,R,G,I,K⟩:=v;obtain⟨J,N,O,Q⟩:=C;have S:o=h.length:=by
     obtain⟨a,c,e,_⟩:=z;injection e
    have T:q=y.length:=by
     obtain⟨a,c,e,_⟩:=G;injection e with _ e _;exact e.trans I
    subst S T;cases M with
    |false=>exact SL d F f P g j h B y W D l w H E i t u A k z J N
    |true=>exact SU d F n f P g j h B y R W D l w H E i t u A k z J O G I (AB K) (AB Q) (fun L r p D l w U V X Y Z a6 a7=>ih n L r p D l w U (by omega) V X Y Z a6 a7)
def gK(r:Except Int Bs)(e:Ending):Prop:=(∃s,r=.ok s∧s.length≤20000∧e=.returned (.tuple #[.string ⟨s.toArray⟩,.nilIface]))∨(∃c,r=.error c∧e=.returned (.tuple #[.string ⟨#[]⟩,.iface 30 (.int .i64 c)]))
theorem SW(q:Nat)(R:Ao)(p:A8)(w:World)(d:A7 (fun _=>True) q w R p)(E:Ft q p)(g:Gz w):Calls prog 47 #[Bm R] w fun e F=>gK (Ig p) e∧Below w.heap.size w F:=by
 have X:=g.size;have H:=AB (show Ig p=match Bh 4 40 p with
  | .error e=>.error e
  | .ok (s,_)=>if 20000<s.length then .error 4 else .ok s from rfl)
 have I:=fun W G a J=>SV (w.heap.size+1) (by omega) 4 q 40 R p 1 40 W (AB rfl) (by decide) (AB rfl) (by decide) G a J E
 have d:=A7.Ad (Q:=fun b=>b≠w.heap.size+1) (fun b _ h=>by omega) d;obtain⟨⟨f,i,j⟩,y,m,⟨P,k,l⟩⟩:=R;simp only[Bm,A9]at I⊢;have B:=((AD w.heap.size w).alloc (AC _) (.cells #[.slice f i j,.string ⟨y.toArray⟩,.bool m,.slice P k l] 44)).alloc (by simp) (.cells #[.int .i64 40] 172);have A:=(A1.new w #[.slice f i j,.string ⟨y.toArray⟩,.bool m,.slice P k l] 44).alloc (.cells #[.int .i64 40] 172);have u:=A1.new (w.alloc (.cells #[.slice f i j,.string ⟨y.toArray⟩,.bool m,.slice P k l] 44)) #[.int .i64 40] 172;rw[AV]at u;have I:=I _ (g.next B) u (d.next B);have L:((w.alloc (.cells #[.slice f i j,.string ⟨y.toArray⟩,.bool m,.slice P k l] 44)).alloc (.cells #[.int .i64 40] 172)).heap.size=w.heap.size+1+1:=by simp
 have C:=g.next B;have K:=A.cell;clear d g;generalize Bh 4 40 p=r at I H;go_enter func47,ntmps47;go_wp2_with fail;generalize World.alloc _ _=Y at I B A u L C K⊢;with_reducible refine I.mono ?_
 rintro e M⟨O,z⟩;have o:=B.trans ((z.mono (B':=w.heap.size) (by omega)).shut (by omega));have S:=C.Ag z (by omega);clear I z K;rcases O with⟨s,n,rfl,_,_,rfl,_⟩|⟨c,s,v,rfl,rfl,D⟩
 ·by_cases a:20000<s.length
  ·have N:=AB (by rw[H.o];simp only;rw[AM a]:Ig p=.error 4);have a:(20000:Int)<s.length:=by omega
   clear H;go_wp2_with fail;go_ret2;exact⟨Or.inr ⟨4,N.o,rfl⟩,o⟩
  have N:=AB (by rw[H.o];simp only;rw[AI a]:Ig p=.ok s);have T:s.length≤20000:=by omega
  have a:¬(20000:Int)<s.length:=by omega
  clear H;go_wp2_with fail;go_ret2;exact⟨Or.inl ⟨s,N.o,T,rfl⟩,o⟩
 have N:=AB (show Ig p=.error c from H.o);have U:=Qz v c M D.v S.r;obtain⟨t,x,rfl⟩:=D.some;clear H;go_wp2_with fail;with_reducible refine U.mono ?_
 rintro e Z⟨rfl,V⟩;go_wp2_with fail;go_ret2;exact⟨Or.inr ⟨c,N.o,rfl⟩,o.trans (V.mono o.size)⟩
theorem SX(x y X Y:Bs)(w:World):(Op.equalIn 10000 92 (.agg #[.string ⟨x.toArray⟩,.string ⟨y.toArray⟩]) (.agg #[.string ⟨X.toArray⟩,.string ⟨Y.toArray⟩])).run prog w=.ok (decide (x=X∧y=Y)) w:=by
 have u:=underlying9;have t:=isAgg9;have z:=sizeOf9;have h:prog.underlying 92=some (.struct (prog.fieldsOf 92)):=by kernel_rfl
 have H:prog.stoodInHeld 92=false:=by kernel_rfl
 rw[(by rfl:(10000:Nat)=9999+1),run_equalIn_agg w 9999 92 _ _ h H];simp only[Program.fieldsOf,underlying92];go_simp;repeat' split
 all_goals simp[*]
@[go_sem high]theorem ZQ(x y X Y:Bs)(w:World):(binOp .neq 92 (.agg #[.string ⟨x.toArray⟩,.string ⟨y.toArray⟩]) (.agg #[.string ⟨X.toArray⟩,.string ⟨Y.toArray⟩])).run prog w=.ok (.bool (!decide (x=X∧y=Y))) w:=by
 rw[run_neq_struct,SX];rfl
theorem SY:prog.eqGuardType prog.depth 92=false:=by kernel_rfl
theorem SZ(x X:Bs)(n N:Int)(w:World):(Op.equalIn 10000 64 (.agg #[.string ⟨x.toArray⟩,.int .i64 n]) (.agg #[.string ⟨X.toArray⟩,.int .i64 N])).run prog w=.ok (decide (x=X∧n=N)) w:=by
 have u:=underlying9;have t:=isAgg9;have z:=sizeOf9;have U:=underlying3;have T:=isAgg3;have Z:=sizeOf3;have h:prog.underlying 64=some (.struct (prog.fieldsOf 64)):=by kernel_rfl
 have H:prog.stoodInHeld 64=false:=by kernel_rfl
 rw[(by rfl:(10000:Nat)=9999+1),run_equalIn_agg w 9999 64 _ _ h H];simp only[Program.fieldsOf,underlying64];go_simp;repeat' split
 all_goals simp[*]
@[go_sem high]theorem ZR(x X:Bs)(n N:Int)(w:World):(binOp .neq 64 (.agg #[.string ⟨x.toArray⟩,.int .i64 n]) (.agg #[.string ⟨X.toArray⟩,.int .i64 N])).run prog w=.ok (.bool (!decide (x=X∧n=N))) w:=by
 rw[run_neq_struct,SZ];rfl
theorem TA:prog.eqGuardType prog.depth 64=false:=by kernel_rfl
theorem C7.gL{a:Option Go.Addr}(h:C7 w (.slice a n cap) l):n=l.length∧∀k(d:k<l.length),∃b,a=some ⟨b,0,none⟩∧b<w.heap.size∧w.cell? ⟨b,k*2,none⟩=some (.string ⟨(l[k]).1.toArray⟩)∧w.cell? ⟨b,k*2+1,none⟩=some (.string ⟨(l[k]).2.toArray⟩):=by
 obtain⟨A,C,H,c⟩:=h.open;injection H with e E f;subst e E;exact⟨rfl,c⟩
theorem TB(V:Nat):∀(N u:Nat)(R j:Ao)(p:A8)(w:World),A7 (fun _=>True) V w R p→A7 (fun _=>True) N w j p→Ft u p→Calls prog 25 #[Bm R,Bm j] w fun e w'=>e=.returned (.bool true)∧Below w.heap.size w w':=by
 induction V with
 |zero=>intro N u R j p w h;exact h.elim
 |succ V ih=>
  intro N u R j p w h1 h2 h3;cases N with
  |zero=>exact h2.elim
  |succ N=>
  cases u with
  |zero=>exact h3.elim
  |succ u=>
  obtain⟨h,b,m,P⟩:=p;obtain⟨⟨X,hn,Y⟩,c4,m',⟨Z,pn,pc⟩⟩:=R;obtain⟨⟨a0,c5,a1⟩,v,M,⟨a2,a9,a3⟩⟩:=j;obtain⟨rfl,rfl,I,b0,J,b1,b3⟩:=h1;obtain⟨L,a4,O,b4,Q,b5,b6⟩:=h2;simp only at L a4 I O J Q;subst L a4;obtain⟨a5,_,c6,b7⟩:=h3;have c7:=(Em a5).1;clear a5;simp only[A9]at I O J Q;obtain⟨rfl,a6⟩:=C7.gL I.rd;obtain⟨rfl,a7⟩:=C7.gL O.rd;have b8:pn=P.length:=by
   obtain⟨a,c,e,_⟩:=J;injection e with _ e _;exact e.trans b1
  have b9:a9=P.length:=by
   obtain⟨a,c,e,_⟩:=Q;injection e with _ e _;exact e.trans b5
  subst b8 b9;have c1:=AB a6;have c2:=AB a7;clear a6 a7 I O;simp only[Bm,A9];have z:=(A1.new w #[.slice X h.length Y,.string ⟨v.toArray⟩,.bool M,.slice Z P.length pc] 44).alloc (.cells #[.slice a0 h.length a1,.string ⟨v.toArray⟩,.bool M,.slice a2 P.length a3] 44);have H:=A1.new (w.alloc (.cells #[.slice X h.length Y,.string ⟨v.toArray⟩,.bool M,.slice Z P.length pc] 44)) #[.slice a0 h.length a1,.string ⟨v.toArray⟩,.bool M,.slice a2 P.length a3] 44;have S:=((AD w.heap.size w).alloc (AC _) (.cells #[.slice X h.length Y,.string ⟨v.toArray⟩,.bool M,.slice Z P.length pc] 44)).alloc (by simp) (.cells #[.slice a0 h.length a1,.string ⟨v.toArray⟩,.bool M,.slice a2 P.length a3] 44);rw[AV]at H;have E:=z.cell;have F:=H.cell;go_enter func25,ntmps25;go_wp2_with fail;generalize World.alloc (World.alloc _ _) _=T at z H S E F⊢;have a8:=S.size;go_loopw[40] (fun i wr=>∃k:Nat,i=.int .i64 k∧k≤h.length∧Below T.heap.size T wr) (fun i _=>h.length-(intOf i).toNat)
  case atStart=>exact⟨0,rfl,by omega,AD _ _⟩
  clear E F;obtain⟨k,rfl,hk,B⟩:=hrel;have g:=S.trans (B.mono a8);have E:=(z.next B z.lt).cell;have F:=(H.next B H.lt).cell;by_cases A:k<h.length
  ·obtain⟨G,rfl,l,C,n⟩:=c1.o k A;obtain⟨o,rfl,q,D,s⟩:=c2.o k A;have C:=(g.cell (p:=⟨G,k*2,none⟩) l).trans C;have n:=(g.cell (p:=⟨G,k*2+1,none⟩) l).trans n;have D:=(g.cell (p:=⟨o,k*2,none⟩) q).trans D;have s:=(g.cell (p:=⟨o,k*2+1,none⟩) q).trans s;generalize h[k]=f at C n D s;obtain⟨x,y⟩:=f;simp only at C n D s;have c8:=SY;go_upto_region 6 with fail;go_cut[53] (fun t wx=>t=.bool false∧Below wr.heap.size wr wx)
   case first=>
    go_quiet(fail);go_wp2_with fail;go_meet;exact⟨by simp,CB (AD _ _) _⟩
   case rest=>
   obtain⟨rfl,b2⟩:=hcut;obtain⟨w2,rfl⟩:∃x:World,x=wc:=⟨_,rfl⟩;have B2:=B.trans (b2.mono B.size);go_wp2_with fail;go_roundw
   case rel=>exact⟨k+1,by go_num,by omega,B2⟩
   simp[intOf];omega
  obtain rfl:k=h.length:=by omega
  obtain⟨wa,rfl⟩:∃x:World,x=wr:=⟨_,rfl⟩;go_wp2_with fail;go_loopw[58] (fun i wr=>∃k:Nat,i=.int .i64 k∧k≤P.length∧Below T.heap.size T wr) (fun i _=>P.length-(intOf i).toNat)
  case atStart=>exact⟨0,rfl,by omega,B⟩
  clear E F g B;obtain⟨k,rfl,hk,B⟩:=hrel;have g:=S.trans (B.mono a8);have E:=(z.next B z.lt).cell;have F:=(H.next B H.lt).cell;by_cases A:k<P.length
  ·obtain⟨G,rfl,_,l,c⟩:=J.at Db k (by omega);obtain⟨o,rfl,_,q,d⟩:=Q.at Db k (by omega);have q1:=b3 k (by omega) A;have q2:=b6 k (by omega) A;have q3:=b7 _ (AN A);have c0:=(g.cell (p:=⟨G,k*4+0,none⟩) l).trans (c 0 (by decide));have C:=(g.cell (p:=⟨G,k*4+1,none⟩) l).trans (c 1 (by decide));have n:=(g.cell (p:=⟨G,k*4+2,none⟩) l).trans (c 2 (by decide));have c3:=(g.cell (p:=⟨G,k*4+3,none⟩) l).trans (c 3 (by decide));have d0:=(g.cell (p:=⟨o,k*4+0,none⟩) q).trans (d 0 (by decide));have D:=(g.cell (p:=⟨o,k*4+1,none⟩) q).trans (d 1 (by decide));have s:=(g.cell (p:=⟨o,k*4+2,none⟩) q).trans (d 2 (by decide));have d3:=(g.cell (p:=⟨o,k*4+3,none⟩) q).trans (d 3 (by decide));clear c d;generalize P[k]=p at q1 q2 q3;generalize b0[k]'(by omega)=R at q1 c0 C n c3;generalize b4[k]'(by omega)=j at q2 d0 D s d3;have U:=fun W(hW:Below wr.heap.size wr W)=>ih N u R j p W (q1.next (g.trans (hW.mono g.size))) (q2.next (g.trans (hW.mono g.size))) q3
   obtain⟨⟨ra,rn,rc⟩,rb,rm,⟨c9,d1,d2⟩⟩:=R;obtain⟨⟨sa,sn,sc⟩,sb,sm,⟨d4,d5,d6⟩⟩:=j;simp only[D5,Bm,A9,BI,AR,AT]at c0 C n c3 d0 D s d3 U;have U:=U wr.drew (AD _ _).drew;go_upto_region 12 with fail;go_cut[72] (fun t wx=>t=.bool false∧Below wr.heap.size wr wx)
   case first=>
    go_region_law((go_simp;with_reducible refine U.mono ?_;rintro r w2⟨rfl,L⟩;have K:=AB (C4 L (w0:=wr) ((AD wr.heap.size wr).drew))));all_goals
     go_wp2_with fail;go_meet;exact⟨rfl,K.o⟩
   case rest=>
   obtain⟨rfl,b2⟩:=hcut;obtain⟨w2,rfl⟩:∃x:World,x=wc:=⟨_,rfl⟩;have B2:=B.trans (b2.mono B.size);go_wp2_with fail;go_roundw
   case rel=>exact⟨k+1,by go_num,by omega,B2⟩
   simp[intOf];omega
  obtain rfl:k=P.length:=by omega
  go_wp2_with fail;go_ret;exact⟨rfl,g⟩
end Go.Proofs.YtignjjnflcpiiaaGreatDoor
