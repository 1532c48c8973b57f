/- (bundle.Bundle).Leads. Condition: what the variables hold -/
import Derived.Deep.RegionHeldLaw
import Derived.Test.YtignjjnflcpiiaaGreatDoorS32
import Derived.Test.YtignjjnflcpiiaaGreatDoorS33
set_option linter.all false
set_option maxHeartbeats 16000000
set_option maxRecDepth 100000
namespace Go.Proofs.YtignjjnflcpiiaaGreatDoor
open Go Go.RowKit Proofs.Tryz Lib
abbrev Fw:=Bs×Int
def Hp(x:Fw):List Value:=[.string ⟨x.1.toArray⟩,.int .i64 x.2]
theorem Jp(x:Fw):(Hp x).length=2:=rfl
theorem Xf(x:Fw):∀u∈Hp x,u.oneCell'=true:=fun u h=>by
 simp[Hp]at h;rcases h with rfl|rfl<;>rfl
theorem iD:(prog.info? 46).map (fun i=>(i.zero,i.size,i.bytes))=some (some (.agg #[.string ByteArray.empty,.int .i64 0]),2,24):=by kernel_rfl
abbrev Xg(w:World)(B:Nat)(v:Value)(l:List Fw):Prop:=A0 46 2 Hp w B v l
theorem Ty(w:World)(x:Fw)(t:TypeId)(b:Nat)(H:b=w.heap.size):∀j u,([x].flatMap Hp)[j]?=some u→(w.alloc (.cells #[.string ⟨x.1.toArray⟩,.int .i64 x.2] t)).cell? ((⟨b,0,none⟩:Go.Addr).add j)=some u:=fun j u h=>by
 subst H;rw[Dz,(A1.new w #[.string ⟨x.1.toArray⟩,.int .i64 x.2] t).cell]
 match j,h with
 |0,h=>exact h
 |1,h=>exact h
 |j+2,h=>simp[Hp]at h
def Tz(B:Nat)(r:Option (List Fw))(e:Ending)(w':World):Prop:=(∃l v,r=some l∧e=.returned (.tuple #[v,.nilIface])∧Xg w' B v l)∨(r=none∧e=.returned (.tuple #[.slice none 0 0,.iface 30 (.int .i64 2)]))
variable {q p:A8}{n b B k e size M:Nat}{x X i j m z v:Value}{w w0 w':World}{r:Ao}{P:Nat → Prop}{α:Type}{s:Bs}{h l:List A4}
theorem Fe.part(h:Fe (n+1) p)(H:q∈p.parts):Fe n q:=by
 obtain⟨a,b,c,d⟩:=p;exact h.2.2.2 q H
theorem Fe.head:∀{n:Nat}{p:A8},Fe n p→Av p.head≤20000∧p.body.length≤60002∧p.parts.length≤20002
 |0,_,h=>h.elim
 |_+1,.mk _ _ _ _,⟨H,a,b,_⟩=>⟨H,a,b⟩
theorem A7.parts{P:Nat→Prop}{n:Nat}{w:World}{r:Ao}{p:A8}(h:A7 P (n+1) w r p):∃R:List Ao,Aq 4 D5 P w (A9 r.2.2.2) R∧R.length=p.parts.length∧∀k(g:k<R.length)(i:k<p.parts.length),A7 P n w R[k] p.parts[k]:=by
 obtain⟨a,b,c,d⟩:=p;obtain⟨_,_,_,R,H,e,f⟩:=h;exact⟨R,H,e,f⟩
theorem A7.body{P:Nat→Prop}{n:Nat}{w:World}{r:Ao}{p:A8}(h:A7 P (n+1) w r p):r.2.1=p.body:=by
 obtain⟨a,b,c,d⟩:=p;exact h.1
theorem A1.iE{t:TypeId}{k l n:Value}(h:A1 w b #[x,X,i,j,k,l,m,n] t)(y Y a c d e f g:Value):A1 ((((((((w.setCell ⟨b,0,none⟩ y).setCell ⟨b,1,none⟩ Y).setCell ⟨b,2,none⟩ a).setCell ⟨b,3,none⟩ c).setCell ⟨b,4,none⟩ d).setCell ⟨b,5,none⟩ e).setCell ⟨b,6,none⟩ f).setCell ⟨b,7,none⟩ g) b #[y,Y,a,c,d,e,f,g] t:=by
 have H:=(((((((h.set 0 y).set 1 Y).set 2 a).set 3 c).set 4 d).set 5 e).set 6 f).set 7 g;simpa using H
theorem iF(h:Below B w0 w)(H:B≤b)(y Y a c d e f g:Value):Below B w0 ((((((((w.setCell ⟨b,0,none⟩ y).setCell ⟨b,1,none⟩ Y).setCell ⟨b,2,none⟩ a).setCell ⟨b,3,none⟩ c).setCell ⟨b,4,none⟩ d).setCell ⟨b,5,none⟩ e).setCell ⟨b,6,none⟩ f).setCell ⟨b,7,none⟩ g):=(((((((h.setCell H y).setCell H Y).setCell H a).setCell H c).setCell H d).setCell H e).setCell H f).setCell H g
theorem iG(P:Nat→Prop)(bp:Nat)(b:Aw)(i:Int)(w:World)(h:Er P w bp b)(a0:Iq b)(hg:Gr w)(i1:-9223372036854775808≤i)(i2:i≤9223372036854775807):Calls prog 16 #[.pointer (some ⟨bp,0,none⟩),.int .i64 i] w fun e w'=>Tz w.heap.size (D1 b i) e w'∧Below w.heap.size w w':=by
 have hb:=Er.Ad (Q:=fun _=>True) (fun _ _ _=>trivial) h;have HB:=AB hb;obtain⟨b1,sa,si,_,g,c7,a1,_⟩:=hb;obtain⟨s0,sn,sc⟩:=sa;have e7:sn=b.places.length:=by
  obtain⟨a,c,e,_⟩:=a1;injection e
 subst e7;have e8:=a0.places;have c8:=a0.whole;have i3:=c8.head.2.2;obtain⟨e9,a2,a3,c9⟩:=c7.parts;obtain⟨⟨ra,rn,rc⟩,rb,rm,⟨i4,f0,i5⟩⟩:=b1;have f1:f0=b.whole.parts.length:=by
  obtain⟨a,c,e,_⟩:=a2;injection e with _ e _;exact e.trans a3
 subst f1;unfold Gi at g;simp only[A9]at g a1 a2;have kb:=g.cell;clear h c7;by_cases h0:i<0
 ·have H:=AB (by unfold D1;rw[AM h0]:D1 b i=none);go_enter func16,ntmps16;go_wp2_with fail;go_ret2;exact⟨Or.inr ⟨H.o,rfl⟩,AD _ _⟩
 by_cases i6:i<b.places.length
 case neg=>
  have H:=AB (by unfold D1;rw[AI h0,CW (by omega)]:D1 b i=none);have i7:(b.places.length:Int)≤i:=by omega
  go_enter func16,ntmps16;go_wp2_with fail;go_ret2;exact⟨Or.inr ⟨H.o,rfl⟩,AD _ _⟩
 obtain⟨k,rfl⟩:∃k:Nat,i=k:=⟨i.toNat,by omega⟩;have hk:k<b.places.length:=by omega
 have b2:k<b.whole.parts.length:=by omega
 have H:=AB (show D1 b (k:Int)=some (Fb b b.whole.parts[k] b.places[k])from by
  unfold D1;rw[AI h0];simp[hk,b2])
 obtain⟨pb,rfl,_,f2,l⟩:=a2.at Db k (by omega);obtain⟨ab,rfl,_,f3,b3⟩:=a1.at Jo k hk;have M:=c9 k (by omega) b2;have a4:=c8.part (AN b2);have d0:=a0.placeL _ (AN hk);have D:=l 0 (by decide);have C:=l 1 (by decide);have E:=l 2 (by decide);have G:=l 3 (by decide);clear l c9;generalize b.whole.parts[k]=p at H M a4;generalize b.places[k]=A at H d0 b3;generalize e9[k]'(by omega)=b1 at M D C E G;have d1:=M.body;obtain⟨⟨qa,qn,qc⟩,qb,qm,⟨f4,f5,f6⟩⟩:=b1;simp only at d1;subst d1;simp only[D5,A9,BI,AR,AT]at D C E G;have a5:=TZ 3 ((qa,qn,qc),p.body,qm,(f4,f5,f6)) p w M ((Em a4.head.1).mono (by decide)) hg;simp only[Bm,A9]at a5;have N:=AB (by rfl:Fb b p A=if I4 p then(Bf p.body).map fun x=>Fr b A x.2.2 else[]);have b4:=fun W q=>Wx p.body W q (by have:=a4.head.2.1;omega)
 have b5:=Rb p.body;have f7:=(Jb p.body).2;have i8:=a4.head.2.1;generalize Bf p.body=L at N b4 b5 f7;generalize I4 p=ht at a5 N;have i9:(0:Int)≤k:=by omega
 have dk:decide ((k:Int)<0)=false:=by rw[EB];omega
 have j0:(k:Int)<b.places.length:=by omega
 have j1:(k:Int)<b.whole.parts.length:=by omega
 clear M h0 a2 a1;go_enter func16,ntmps16;go_wp2_with fail;with_reducible refine a5.mono ?_
 rintro e w1⟨rfl,s⟩;cases ht with
 |false=>
  have H:=AB (by rw[H.o,N.o];rfl:D1 b (k:Int)=some []);go_wp2_with fail;go_ret2;exact⟨Or.inl ⟨[],_,H.o,rfl,A0.nil _ _ _ _ _⟩,s⟩
 |true=>
 have H:=AB (by rw[H.o,N.o];rfl:D1 b (k:Int)=some (L.map fun x=>Fr b A x.2.2));have f8:=(g.next s g.lt).cell;have f9:=(s.cell (p:=⟨pb,k*4+1,none⟩) f2).trans C;have b6:=hg.next s;have d2:=s.size;clear a5 N D C E G kb;go_wp2_with fail;with_reducible refine(b4 _ b6).mono ?_
 rintro e I⟨v2,rfl,d3,b7⟩;have d4:=A0.Dn (by decide) Gq d3;obtain⟨la,lc,g0,_⟩:=d4.rd;subst g0;have O:=s.trans (b7.mono d2);have g1:=b6.next b7;have b8:=O.size;have g2:=AB b5;clear b4 b7 f8 f9 b6 d3 b5 s;have g3:=AB b3;have j2:=AB e8;have g4:b.places.length≤1000000:=by omega
 have g5:b.ids.length≤1000000:=by have:=a0.ids;omega
 have g6:=AB (HB.o.next O);have d5:=g.next O g.lt;clear b3 g HB d2;go_wp2_with fail;go_loopw[6,44] (fun ov iv wr=>∃(j:Nat)(o:List Fw),iv=.int .i64 j∧j≤L.length∧o.length=j∧Xg wr I.heap.size ov o∧Hid (o++(L.drop j).map (fun x=>Fr b A x.2.2)=L.map fun x=>Fr b A x.2.2)∧Below I.heap.size I wr) (fun _ iv _=>L.length-(intOf iv).toNat)
 case atStart=>exact⟨0,[],rfl,by omega,rfl,A0.nil _ _ _ _ _,AB (by simp),AD _ _⟩
 obtain⟨j,o,rfl,hj,j3,n,a6,B⟩:=hrel;by_cases b9:j<L.length
 ·obtain⟨lb,rfl,_,c0,l⟩:=d4.at Gq j b9;have d6:=g2.o _ (AN b9);have S:=AB (show∀y,Fr b A (L[j]).2.2=y→(o++[y])++(L.drop (j+1)).map (fun x=>Fr b A x.2.2)=L.map fun x=>Fr b A x.2.2 from fun y hy=>by
   rw[←a6.o,AE b9,DM,hy];simp)
  have e0:=(B.cell (p:=⟨lb,j*3+0,none⟩) c0).trans (l 0 (by decide));have e1:=(B.cell (p:=⟨lb,j*3+1,none⟩) c0).trans (l 1 (by decide));have e2:=(B.cell (p:=⟨lb,j*3+2,none⟩) c0).trans (l 2 (by decide));clear l a6;generalize L[j]=x at d6 S e0 e1 e2;obtain⟨x1,x2,X⟩:=x;simp only[Hm,BI,AR,AT]at d6 S e0 e1 e2;have K:=A1.new wr #[.int .i64 (x1:Int),.int .i64 (x2:Int),.string ⟨X.toArray⟩] 96;have d:=(AD wr.heap.size wr).alloc (AC _) (.cells #[.int .i64 (x1:Int),.int .i64 (x2:Int),.string ⟨X.toArray⟩] 96);have n:=A0.next n d;have R:=B.trans (d.mono B.size);have a7:=g1.next R;have hR:=fun W q=>W7 X W (by omega) q
  unfold Sw at hR;have U:=AB (show Fr b A X=match Cl X with
   |none=>(X,-1)
   |some a=>(Kl (Be A a),Ec b (Be A a))from rfl)
  have a3:=fun a(h:Cl X=some a)=>My h
  generalize Cl X=ra at hR U a3;have c1:=K.cell;have g7:(wr.alloc (.cells #[.int .i64 (x1:Int),.int .i64 (x2:Int),.string ⟨X.toArray⟩] 96)).heap.size=wr.heap.size+1:=by simp
  have j4:=B.size;clear d B;go_wp2_with fail;generalize World.alloc _ _=W1 at K n R a7 c1 g7⊢;with_reducible refine(hR _ a7.g).mono ?_
  rintro e t⟨rfl,J⟩;have K:=K.next J K.lt;have n:=A0.next n J;have u:=R.trans (J.mono R.size);have c2:=a7.next J;have j5:=J.size;clear hR J a7 R e0 e1 e2 c1;cases ra with
  |none=>
   have T:=AB (S.o (X,-1) U.o);have d:=(AD t.heap.size t).alloc (AC _) (.cells A3.zero.cells 36);have K:=K.next d K.lt;have n:=A0.next n d;have m:=u.trans (d.mono u.size);have g8:=d.size;simp only[A3.zero]at K n m g8⊢;have c1:=K.cell;clear d c2 u S U;go_wp2_with(at_builtin;refine Kt (α:=Fw) (cs:=Hp) (size:=2) (z:=.agg #[.string ByteArray.empty,.int .i64 0]) Jp Xf iD rfl (by decide) underlying39 rfl _ _ rfl I.heap.size _ o [(X,-1)] ⟨_,0,none⟩ 1 1 rfl rfl (A0.alloc n _) rfl (Ty _ (X,-1) _ _ (by simp)) (by simp;omega) (by unfold maxLen;simp;omega) (by have:=m.size;simp at*;omega) ?_;intro v' w6 g9 j6 a8 j7);go_wp2_with fail;go_roundw
   case rel=>exact⟨j+1,o++[(X,-1)],by go_num,by omega,by simp;omega,g9,T,(m.alloc m.size _).trans a8⟩
   simp[intOf];omega
  |some a=>
   have h1:=a3 a rfl;have j8:=Qx A a;have d7:=AB (show Fr b A X=(Kl (Be A a),Ec b (Be A a))from U.o);have T:=AB (S.o _ d7.o);have d:=(AD t.heap.size t).alloc (AC _) (.cells a.cells 36);have k9:=A1.new t a.cells 36;have c3:=fun W q=>cQ A a W (by unfold A3.len at d0;omega) (by unfold A3.len at h1;omega) q
   clear S U d7;go_upto_region 12 with fail;generalize World.alloc _ _=V at k9 d⊢;have m:=u.trans (d.mono u.size);have kd:=A1.drew (d5.next m d5.lt);have Y:=A1.drew k9;have d8:Cb V.drew:=(c2.next d.drew).g;have f:=fun i hi=>((O.trans (m.mono b8)).drew.cell (p:=⟨ab,k*8+i,none⟩) f3).trans (g3.o i hi)
   have D:=f 0 (by decide);have C:=f 1 (by decide);have E:=f 2 (by decide);have G:=f 3 (by decide);have d9:=f 4 (by decide);have e3:=f 5 (by decide);have e4:=f 6 (by decide);have e5:=f 7 (by decide);simp only[Fv,BI,AR,AT]at D C E G d9 e3 e4 e5;clear f;have a9:=fun W=>sJ (Be A a) W (by omega)
   have b0:=fun W q=>Xc (fun _=>True) bp b (Be A a) W q (by omega) g4 g5
   generalize Be A a=r at c3 T a9 b0;go_cut[70] (fun _ wx=>A1 wx t.heap.size r.cells 36∧Below t.heap.size V wx)
   case first=>
    have j9:=kd.cell;have k0:=Y.cell;have k1:=Y.free;have h2:=d.size;clear a9 b0;go_region_law((go_simp;with_reducible refine(c3 _ d8).mono ?_;rintro e w6⟨rfl,a8⟩;have c4:=Y.next a8 Y.lt;have k2:=c4.cell;have k3:=c4.free;have K6:=C4 a8 (w0:=V) ((AD V.heap.size V).drew)));all_goals
     go_wp2_with fail;go_meet;exact⟨A1.iE c4 _ _ _ _ _ _ _ _,iF (K6.mono h2) (AC _) _ _ _ _ _ _ _ _⟩
   case rest=>
   obtain⟨h3,K7⟩:=hcut;obtain⟨Z,rfl⟩:∃x:World,x=wc:=⟨_,rfl⟩;have c5:=d.trans K7;have n:=A0.next n c5;have B7:=u.trans (c5.mono u.size);have h4:=AB (g6.o.next B7);have c6:=A1.drew h3;have k4:=c6.cell;have k5:=B7.size;clear c3 K7 d c5 m kd k9 Y d8 D C E G d9 e3 e4 e5 c2;generalize Ec b r=F at b0 T;generalize Kl r=v at a9 T;have q1:=AB (by simp;omega:(o.length+[(v,F)].length)*24≤140737488355328);have q2:=AB (by unfold maxLen;simp;omega:o.length+[(v,F)].length≤maxLen);go_upto_region 13 with fail;go_region_law((first
    |(refine Ns (α:=Fw) (cs:=Hp) (size:=2) (z:=.agg #[.string ByteArray.empty,.int .i64 0]) Jp Xf iD rfl (by decide) underlying39 rfl _ _ rfl I.heap.size _ o [(v,F)] ⟨w9.heap.size,0,none⟩ 1 1 rfl (by decide) rfl h5 rfl h6 q1.o q2.o h7.o ?_;intro v' k6 h8 k7 h9)
    |(go_simp;with_reducible refine(b0 _ (h4.o.next K8.o)).mono ?_;rintro e w9⟨rfl,i0⟩;have K9:=AB (C4 i0 (w0:=Z) K8.o);have h5:=A0.alloc (A0.next (w:=Z) n K9.o) (.cells #[.string ⟨v.toArray⟩,.int .i64 F] 46);have h6:=Ty w9 (v,F) 46 _ rfl;have h7:=AB (by have:=K9.o.size;simp at this⊢;omega:I.heap.size≤(w9.alloc (.cells #[.string ⟨v.toArray⟩,.int .i64 F] 46)).heap.size))
    |(go_simp;with_reducible refine(a9 _).mono ?_;rintro e w8⟨rfl,e6⟩;have k8:=(c6.next e6 c6.lt).cell;have K8:=AB (C4 e6 (w0:=Z) ((AD Z.heap.size Z).drew)))))
   all_goals
    go_wp2_with fail;go_roundw
    case rel=>exact⟨j+1,o++[(v,F)],by go_num,by omega,by simp;omega,h8,T,((B7.trans (K9.o.mono B7.size)).alloc (BC B7.size K9.o.size) _).trans h9⟩
    simp[intOf];omega
 obtain rfl:j=L.length:=by omega
 have HD:=AB (by rw[H.o,←a6.o,AQ];simp:D1 b (k:Int)=some o);clear a6 H;go_wp2_with fail;go_ret2;exact⟨Or.inl ⟨o,_,HD.o,rfl,A0.mono n b8⟩,O.trans (B.mono b8)⟩
theorem A7.hd(h:A7 P (n+1) w r p):Aq 2 Au P w (A9 r.1) p.head:=by
 obtain⟨a,b,c,d⟩:=p;exact h.2.2.1
theorem A7.mn(h:A7 P (n+1) w r p):r.2.2.1=p.many:=by
 obtain⟨a,b,c,d⟩:=p;exact h.2.1
theorem UW(g C:Nat)(F:∀A w,(callFunc g A).run prog w=.ok (.enter g A) w)(p:A4→Bool)(v:Value)(l:List A4)(w:World)(r:C7 w v l)(I:l.length≤1000000000000)
  (j:∀x∈l,∀W,Below w.heap.size w W→Calls prog g #[.agg #[.string ⟨x.1.toArray⟩,.string ⟨x.2.toArray⟩],.pointer (some ⟨C,0,none⟩)] W fun e c=>e=.returned (.bool (p x))∧Below W.heap.size W c):
  Calls prog 180 #[v,.func (.func g) #[] #[.pointer (some ⟨C,0,none⟩)]] w fun e c=>e=.returned (.int .i64 (Di p l 0))∧Below w.heap.size w c:=by
 obtain⟨a,J,rfl,m⟩:=r.open;have D:=AB m;have P:=AB j;clear m r j;go_enter func180,ntmps180;go_wp2_with fail;go_loopw[8] (fun i wr=>∃k:Nat,i=.int .i64 k∧k≤l.length∧Hid (Di p l 0=Di p (l.drop k) k)∧Below w.heap.size w wr) (fun i _=>l.length-(intOf i).toNat)
 case atStart=>exact⟨0,rfl,by omega,AB (by simp),AD _ _⟩
 obtain⟨k,rfl,K,d,B⟩:=hrel;by_cases t:k<l.length
 ·obtain⟨b,rfl,n,o,q⟩:=D.o k t;have H:=AB (by rw[AE t];rfl:Di p (l.drop k) k=if p l[k]then(k:Int)else Di p (l.drop (k+1)) (k+1));have s:=(B.cell (p:=⟨b,k*2,none⟩) n).trans o;have u:=(B.cell (p:=⟨b,k*2+1,none⟩) n).trans q;have h:=P.o _ (AN t) wr B;clear o q;generalize l[k]=f at H s u h;obtain⟨x,y⟩:=f;simp only at H s u h;generalize p (x,y)=E at h H;go_wp2_with fail;with_reducible refine h.mono ?_
  rintro e L⟨rfl,z⟩;have B:=B.trans (z.mono B.size);clear z h;cases E with
  |true=>
   have G:=AB (by rw[d.o,H.o];rfl:Di p l 0=(k:Int));go_wp2_with fail;go_ret;exact⟨Es (by rw[G.o]),B⟩
  |false=>
   have G:=AB (by rw[d.o,H.o];rfl:Di p l 0=Di p (l.drop (k+1)) (k+1));go_wp2_with fail;go_roundw
   case rel=>exact⟨k+1,by go_num,by omega,G,B⟩
   simp[intOf];omega
 obtain rfl:k=l.length:=by omega
 have G:=AB (by rw[d.o,AQ];rfl:Di p l 0=-1);go_wp2_with fail;go_ret;exact⟨Es (by rw[G.o]),B⟩
theorem UX(g c:Nat)(E:∀A w,(callFunc g A).run prog w=.ok (.enter g A) w)(p:A4→Bool)(v:Value)(l:List A4)(w:World)(h:C7 w v l)(n:l.length≤1000000000000)
  (H:∀x∈l,∀W,Below w.heap.size w W→Calls prog g #[.agg #[.string ⟨x.1.toArray⟩,.string ⟨x.2.toArray⟩],.pointer (some ⟨c,0,none⟩)] W fun e a=>e=.returned (.bool (p x))∧Below W.heap.size W a):
  Calls prog 95 #[v,.func (.func g) #[] #[.pointer (some ⟨c,0,none⟩)]] w fun e a=>e=.returned (.bool (l.any p))∧Below w.heap.size w a:=by
 have I:=UW g c E p v l w h n H;have N:=AB (Tm p l 0);generalize Di p l 0=k at I N;clear H E h;go_enter func95,ntmps95;go_wp2_with fail;with_reducible refine I.mono ?_
 rintro e d⟨rfl,b⟩;go_wp2_with fail;go_ret;exact⟨Ba (by rw[←N.o]),b⟩
abbrev RP:=Ao×A8
def O1(x:RP):List Value:=D5 x.1
theorem UY(x:RP):(O1 x).length=4:=rfl
theorem UZ(g C:Nat)(I:∀A w,(callFunc g A).run prog w=.ok (.enter g A) w)(p:RP→Bool)(v:Value)(l:List RP)(w:World)(r:E7 4 O1 w v l)(J:l.length≤1000000000000)
  (m:∀x∈l,∀W,Below w.heap.size w W→Calls prog g #[Bm x.1,.pointer (some ⟨C,0,none⟩)] W fun e d=>e=.returned (.bool (p x))∧Below W.heap.size W d):
  Calls prog 181 #[v,.func (.func g) #[] #[.pointer (some ⟨C,0,none⟩)]] w fun e d=>e=.returned (.int .i64 (Di p l 0))∧Below w.heap.size w d:=by
 obtain⟨a,K,rfl,n⟩:=r.opens UY;have E:=AB n;have P:=AB m;clear n r m;go_enter func181,ntmps181;go_wp2_with fail;go_loopw[8] (fun i wr=>∃k:Nat,i=.int .i64 k∧k≤l.length∧Hid (Di p l 0=Di p (l.drop k) k)∧Below w.heap.size w wr) (fun i _=>l.length-(intOf i).toNat)
 case atStart=>exact⟨0,rfl,by omega,AB (by simp),AD _ _⟩
 obtain⟨k,rfl,L,j,B⟩:=hrel;by_cases t:k<l.length
 ·obtain⟨b,rfl,c,h⟩:=E.o k t;have D:=AB (by rw[AE t];rfl:Di p (l.drop k) k=if p l[k]then(k:Int)else Di p (l.drop (k+1)) (k+1));have o:=(B.cell (p:=⟨b,k*4+0,none⟩) c).trans (h 0 (by decide));have s:=(B.cell (p:=⟨b,k*4+1,none⟩) c).trans (h 1 (by decide));have u:=(B.cell (p:=⟨b,k*4+2,none⟩) c).trans (h 2 (by decide));have y:=(B.cell (p:=⟨b,k*4+3,none⟩) c).trans (h 3 (by decide));have H:=P.o _ (AN t) wr B;clear h;generalize l[k]=f at D o s u y H;obtain⟨⟨⟨R,M,N⟩,O,Q,⟨S,T,U⟩⟩,q⟩:=f;simp only[O1,D5,Bm,A9,BI,AR,AT]at o s u y H;generalize p _=F at H D;go_wp2_with fail;with_reducible refine H.mono ?_
  rintro e V⟨rfl,z⟩;have B:=B.trans (z.mono B.size);clear z H;cases F with
  |true=>
   have G:=AB (by rw[j.o,D.o];rfl:Di p l 0=(k:Int));go_wp2_with fail;go_ret;exact⟨Es (by rw[G.o]),B⟩
  |false=>
   have G:=AB (by rw[j.o,D.o];rfl:Di p l 0=Di p (l.drop (k+1)) (k+1));go_wp2_with fail;go_roundw
   case rel=>exact⟨k+1,by go_num,by omega,G,B⟩
   simp[intOf];omega
 obtain rfl:k=l.length:=by omega
 have G:=AB (by rw[j.o,AQ];rfl:Di p l 0=-1);go_wp2_with fail;go_ret;exact⟨Es (by rw[G.o]),B⟩
theorem VA(g c:Nat)(E:∀A w,(callFunc g A).run prog w=.ok (.enter g A) w)(p:RP→Bool)(v:Value)(l:List RP)(w:World)(h:E7 4 O1 w v l)(n:l.length≤1000000000000)
  (H:∀x∈l,∀W,Below w.heap.size w W→Calls prog g #[Bm x.1,.pointer (some ⟨c,0,none⟩)] W fun e a=>e=.returned (.bool (p x))∧Below W.heap.size W a):
  Calls prog 97 #[v,.func (.func g) #[] #[.pointer (some ⟨c,0,none⟩)]] w fun e a=>e=.returned (.bool (l.any p))∧Below w.heap.size w a:=by
 have I:=UZ g c E p v l w h n H;have N:=AB (Tm p l 0);generalize Di p l 0=k at I N;clear H E h;go_enter func97,ntmps97;go_wp2_with fail;with_reducible refine I.mono ?_
 rintro e d⟨rfl,b⟩;go_wp2_with fail;go_ret;exact⟨Ba (by rw[←N.o]),b⟩
theorem VB(x y s:Bs)(c:Nat)(w:World)(a:y.length<4294967281)(h:w.cell? ⟨c,0,none⟩=some (.string ⟨s.toArray⟩))(g:Gr w):Calls prog 96 #[.agg #[.string ⟨x.toArray⟩,.string ⟨y.toArray⟩],.pointer (some ⟨c,0,none⟩)] w fun e W=>e=.returned (.bool (contains y s))∧Below w.heap.size w W:=by
 have b:c<w.heap.size:=AY w _ h;have k:=A1.new w #[.string ⟨x.toArray⟩,.string ⟨y.toArray⟩] 92;have B:=(AD w.heap.size w).alloc (AC _) (.cells #[.string ⟨x.toArray⟩,.string ⟨y.toArray⟩] 92);have H:=Nm y s (w.alloc (.cells #[.string ⟨x.toArray⟩,.string ⟨y.toArray⟩] 92)) a (g.next B).g;have d:=(B.cell (p:=⟨c,0,none⟩) b).trans h;have K:=k.cell;generalize contains y s=q at H;clear k h;go_enter func96,ntmps96;go_wp2_with fail;with_reducible refine H.mono ?_
 rintro e f⟨rfl,rfl⟩;go_wp2_with fail;go_ret;exact⟨rfl,B⟩
def Gu(s:Bs)(p:A8):Bool:=contains p.body s||p.head.any fun f=>contains f.2 s
theorem VC(n:Nat)(d:Ao)(p:A8)(s:Bs)(c:Nat)(w:World)(g:A7 (fun _=>True) (n+1) w d p)(t:p.body.length<4294967281)(u:p.head.length≤1000000000000)(i:∀f∈p.head,f.2.length<4294967281)
  (j:w.cell? ⟨c,0,none⟩=some (.string ⟨s.toArray⟩)) (v:Gr w):
  Calls prog 94 #[Bm d,.pointer (some ⟨c,0,none⟩)] w fun e F=>e=.returned (.bool (Gu s p))∧Below w.heap.size w F:=by
 have y:c<w.heap.size:=AY w _ j;have h:=g.hd.rd;have z:=g.body;clear g;obtain⟨⟨R,a,b⟩,r,m,⟨k,l,o⟩⟩:=d;simp only at z;subst z;simp only[Bm,A9]at h⊢;have H:=AB (by rfl:Gu s p=(contains p.body s||p.head.any fun f=>contains f.2 s));generalize p.body=r at t H;generalize p.head=A at h u i H;have K:=A1.new w #[.slice R a b,.string ⟨r.toArray⟩,.bool m,.slice k l o] 44;have B:=(AD w.heap.size w).alloc (AC _) (.cells #[.slice R a b,.string ⟨r.toArray⟩,.bool m,.slice k l o] 44);have C:=Nm r s (w.alloc (.cells #[.slice R a b,.string ⟨r.toArray⟩,.bool m,.slice k l o] 44)) t (v.next B).g;have G:=(B.cell (p:=⟨c,0,none⟩) y).trans j;have D:=UX 96 c (enters_of func96 (by kernel_rfl) rfl) (fun f=>contains f.2 s) (.slice R a b) A _ (h.next B) u (fun x I W E=>VB x.1 x.2 s c W (i x I) ((E.cell (p:=⟨c,0,none⟩) (CG y B.size)).trans G) ((v.next B).next E));have L:=K.cell;generalize contains r s=q at C H;generalize(A.any fun f=>contains f.2 s)=Q at D H;clear K j i h;go_enter func94,ntmps94;go_wp2_with fail;with_reducible refine C.mono ?_
 rintro e M⟨rfl,rfl⟩;cases q with
 |true=>
  go_wp2_with fail;go_ret;exact⟨Ba (by rw[H.o];rfl),B⟩
 |false=>
  go_wp2_with fail;with_reducible refine D.mono ?_
  rintro e N⟨rfl,J⟩;go_wp2_with fail;go_ret;exact⟨Ba (by rw[H.o];rfl),B.trans (J.mono B.size)⟩
theorem Xh{cs:α→List Value}{t:Nat}(l:∀x,(cs x).length=size)(F:∀x,∀u∈cs x,u.oneCell'=true)
  (m:(prog.info? e).map (fun i=>(i.zero,i.size,i.bytes))=some (some z,size,k)) (G:z.cells.size=size) (I:0<size) (p:prog.underlying t=some (.slice e))
  {Q:Exit→Act→World→Prop} {O:Array Oper} {rest:List Oper} {o:Oper} {a:Act} (q:o.guard=none) (s x:Operand)
  (r:o.op=.call {callee:=.builtin .append,args:=#[s,x],argTypes:=#[t,t]}) (B:Nat) (v:Value) (xs y:List α) (S:Option Go.Addr) (n c:Nat)
  (A:a.eval s=v) (f:A0 e size cs w B v xs) (C:a.eval x=.slice S n c) (J:E7 size cs w (.slice S n c) y) (K:(xs.length+y.length)*k≤140737488355328) (L:xs.length+y.length≤maxLen) (M:B≤w.heap.size)
  (h:∀V W,A0 e size cs W B V (xs++y)→w.grownBy W v.ownBlock→Below B w W→(V.ownBlock=v.ownBlock∨V.ownBlock=some w.heap.size)→wpList prog O Q rest (a.put o.dst V) W):wpList prog O Q (o::rest) a w:=by
 obtain⟨a',a1,N,D⟩:=J;injection N with P R T;subst P R T;cases S with
 |none=>
  have H:y=[]:=by
   rcases GA y.length with h|h
   ·exact DI.1 h
   obtain⟨b,h,_⟩:=D h;cases h
  subst H;obtain⟨U,X,_⟩:=FQ m;exact hY q s x t r B e U size c p X v xs.length _ A f C (by rw[BM]at h;exact h v w f ⟨rfl,rfl,rfl,AC _,fun _ _ _=>rfl⟩ (AD _ _) (Or.inl rfl))
 |some Y=>
  refine Kt l F m G I p q s x r B v xs y Y y.length c rfl A f C (fun j u E=>?_) K L M h;have d:=(CM.1 E).1;rw[Ix l]at d;have Z:0<y.length:=by
   rcases GA y.length with H|H
   ·rw[H]at d;simp at d
   exact H
  obtain⟨b,g,_,a0⟩:=D Z;have g:=CS g;subst g;rw[Dz,a0 j d];exact E
theorem iH(w:World)(r R:Option Go.Addr)(n c a b:Nat)(d:Bs)(m:Bool):F3 (w.alloc (.cells #[.slice r n c,.string ⟨d.toArray⟩,.bool m,.slice R a b] 44)) w.heap.size (.slice (some ⟨w.heap.size,0,none⟩) 1 1) [((r,n,c),d,m,(R,a,b))]:=⟨rfl,Or.inr ⟨w.heap.size,1,#[.slice r n c,.string ⟨d.toArray⟩,.bool m,.slice R a b],rfl,AC _,IT w _,AC _,by decide,rfl,rfl⟩⟩
theorem iI(w:A8)(n:Nat):Dd [64,98] (Ep w) n=(w::w.parts).any (Gu (64::98::itoa n)):=by
 show(Ep w).any (fun s=>contains s (64::98::itoa n))=_;unfold Ep;rw[List.any_flatMap];generalize(64::98::itoa (n:Int):Bs)=t;have h:(fun p:A8=>(p.body::p.head.map (·.2)).any fun s=>contains s t)=Gu t:=by
  funext p;rw[FH,List.any_map];rfl
 rw[h]
theorem VD(H:k<h.length)(n:A2 (h[k]).1≠A2 Bu)(a:D2 h s=h.take k++D2 (h.drop k) s):D2 h s=h.take (k+1)++D2 (h.drop (k+1)) s:=by
 rw[a,AE H];conv=>lhs;rw[D2,AI n]
 rw[AU H,AJ];rfl
theorem VE(H:k<h.length)(n:A2 (h[k]).1=A2 Bu)(a:D2 h s=h.take k++D2 (h.drop k) s):D2 h s=h.set k ((h[k]).1,Ik (h[k]).2 s):=by
 rw[a,AE H];conv=>lhs;rw[D2,AM n]
 rw[GB,AM H]
theorem VF(H:D2 h s=h.take h.length++D2 (h.drop h.length) s):D2 h s=h:=by
 rw[H,CQ,AQ];simp[D2]
theorem A0.below{cs:α→List Value}{xs:List α}(h:A0 e size cs w B v xs)(b:Below M w w')(l:∀g,v.ownBlock=some g→g<M):A0 e size cs w' B v xs:=by
 rcases h with⟨c,H⟩;refine⟨c,?_⟩;rcases H with H|⟨g,C,d,a,f,i,r⟩
 ·exact Or.inl H
 exact Or.inr ⟨g,C,d,a,f,(b.block g (l g (by rw[a];rfl))).trans i,r⟩
theorem A0.one{cs:α→List Value}(H:0<size)(s:∀x,(cs x).length=size){xs:List α}{y:α}(h:A0 e size cs w B v (xs++[y])):∃a c,v=.slice a (xs.length+1) c∧E7 size cs w (.slice a (xs.length+1) c) (xs++[y]):=by
 obtain⟨a,c,b,d⟩:=A0.rd H s h;have E:(xs++[y]).length=xs.length+1:=by simp
 exact⟨a,c,by rw[b,E],a,c,by rw[E],d⟩
theorem Qh.get{n:Int}{r:Option Bs}{e:Ending}(h:Qh n r e w'):∃E,e=.returned (.tuple #[.string ⟨(r.getD []).toArray⟩,E]):=by
 rcases h with⟨o,rfl,rfl⟩|⟨E,rfl,rfl,_⟩
 ·exact⟨_,rfl⟩
 exact⟨_,rfl⟩
theorem VG(Z:Nat)(E:Option Go.Addr)(F:Nat)(h:List A4)(x1 x2 x3:Value)(s:Bs)(B:Nat)(w:World)(hk:A1 w Z #[.slice E h.length F,x1,x2,x3] 44)(d8:Bk w B (.slice E h.length F) h)
  (g3:3<B) (b9:∀g,E=some ⟨g,0,none⟩→g≠Z) (hn:Dh 100000 h) (hs:s.length≤100000) (hg:Gr w):
  Calls prog 46 #[.pointer (some ⟨Z,0,none⟩),.string ⟨s.toArray⟩] w fun e w'=>e=.returned (.tuple #[])∧Bk w' B (.slice E h.length F) (D2 h s)∧(Below w.heap.size w w'∨∃g,E=some ⟨g,0,none⟩∧A5 g w.heap.size w w'):=by
 have kc:=hk.cell;have g4:=hn.1;have c0:=AB (by simp:D2 h s=h.take 0++D2 (h.drop 0) s);have HN:=AB hn;have g5:=AB b9;clear hn b9;go_enter func46,ntmps46;go_wp2_with fail;go_loopw[17] (fun i wr=>∃k:Nat,i=.int .i64 k∧k≤h.length∧Hid (D2 h s=h.take k++D2 (h.drop k) s)∧Below w.heap.size w wr) (fun i _=>h.length-(intOf i).toNat)
 case atStart=>exact⟨0,rfl,by omega,c0,AD _ _⟩
 clear c0;obtain⟨k,rfl,g6,S,M⟩:=hrel;have t:=A0.next d8 M;by_cases v:k<h.length
 ·obtain⟨g,d9⟩:∃g,E=some ⟨g,0,none⟩:=by
   obtain⟨a,c,h,h2⟩:=C7.open (A0.rd (by decide) Ah t);injection h with h _ _;obtain⟨b,h3,_⟩:=h2 k v;exact⟨b,h.trans h3⟩
  subst d9;have C:=A0.cellAt Ah t k v 0 (by decide);have c2:=A0.cellAt Ah t k v 1 (by decide);have g7:=A0.Fp t g rfl;have g8:=A0.Do t g rfl;have H:=HN.o.2 _ (AN v);have G:=AB (fun e=>VD (s:=s) v e S.o);have D:=AB (fun e=>VE (s:=s) v e S.o);have a0:=AB (fun(W:World)(o:Bk W B (.slice (some ⟨g,0,none⟩) h.length F) h)(yy:Bs)=>o.Tn k v yy);have a1:=AB (fun(W:World)(o:Bk W B (.slice (some ⟨g,0,none⟩) h.length F) h)=>A0.cellAt Ah o k v 1 (by decide));simp only[Au,BI,AR,AT]at C c2 a1;generalize h[k]=f at C c2 H G D a0 a1;obtain⟨x,y⟩:=f;simp only at C c2 H G D a0 a1;have A:=(AD wr.heap.size wr).alloc (AC _) (.cells #[.string ⟨x.toArray⟩,.string ⟨y.toArray⟩] 92);have K:=A1.new wr #[.string ⟨x.toArray⟩,.string ⟨y.toArray⟩] 92;have a5:=fun W=>G0 x W (by omega)
  have a6:=fun W=>G0 [67,111,110,116,101,110,116,45,84,121,112,101] W (by decide)
  generalize A2 x=lx at a5 G D;generalize c1:A2 [67,111,110,116,101,110,116,45,84,121,112,101]=ly at a6;rw[show A2 Bu=ly from c1]at G D;clear c1;have a7:=K.cell;go_upto_region 3 with fail;generalize World.alloc _ _=w2 at A K a7⊢;go_wp2_with fail;with_reducible refine(a5 _).mono ?_
  rintro e w3⟨rfl,b3⟩;go_wp2_with fail;with_reducible refine(a6 _).mono ?_
  rintro e w4⟨rfl,c3⟩;have a8:=b3.trans (c3.mono b3.size);have K:=K.next a8 K.lt;have A:=A.trans (a8.mono A.size);have B4:=M.trans (A.mono M.size);have c4:=A0.next t A;have a7:=K.cell;clear a5 a6 b3 c3 a8;by_cases N:lx=ly
  ·have e0:=AB (D.o N);clear D;subst N;have HB:(lx==lx)=true:=EJ _;have a9:=hg.next B4;have hK:=P0 y w4 (by omega) a9.g;have V:=AB (by rfl:Ik y s=(Cz ((Ay y).getD ([],[])).1 ((((Ay y).getD ([],[])).2.filter fun f=>!(f.1==Bq))++[(Bq,F4 s)])).getD []);clear G S;go_wp2_with fail;with_reducible refine hK.mono ?_
   rintro e l⟨hh,T⟩;obtain⟨m,P,kv,g9,rfl,c5,c6,h0,I,_⟩:=hh.get;rw[c6]at V;simp only at V;clear hh hK c6;have I:=I.mono (show y.length≤100000 by omega);have B5:=B4.trans (T.mono B4.size);have c7:=A0.next c4 T;have c8:=a9.next T;have h4:=T.size;have h5:g<l.heap.size:=by have:=A.size;omega
   clear c4 t a9 K a7 T C c2 HB A M;obtain⟨h6,h7,e9,b0⟩:=A0.Dn (by decide) Ah c5;subst e9;have b0:=(A0.Dn (by decide) Ah c5);have h8:=I.1;obtain⟨wo,rfl⟩:∃x:World,x=wr:=⟨_,rfl⟩;go_wp2_with fail;go_loopw[9,36] (fun pv iv d=>∃(j:Nat)(O:List A4),iv=.int .i64 j∧j≤P.length∧O.length≤j∧J2 d l.heap.size pv O∧Hid (O++(P.drop j).filter (fun f=>!(f.1==Bq))=P.filter fun f=>!(f.1==Bq))∧Below l.heap.size l d) (fun _ iv _=>P.length-(intOf iv).toNat)
   case atStart=>exact⟨0,[],rfl,by omega,by simp,A0.nil _ _ _ _ _,AB (by simp),AD _ _⟩
   obtain⟨j,O,rfl,hj,h9,J,a2,n⟩:=hrel;obtain⟨d,rfl⟩:∃x:World,x=wr:=⟨_,rfl⟩;by_cases c9:j<P.length
   ·obtain⟨qb,rfl,_,d0,b1⟩:=b0.at Ah j c9;have d1:=(n.cell (p:=⟨qb,j*2+0,none⟩) d0).trans (b1 0 (by decide));have C:=(n.cell (p:=⟨qb,j*2+1,none⟩) d0).trans (b1 1 (by decide));have R:=AB (show∀q,P[j]=q→(O++(if !(q.1==Bq)then q::(P.drop (j+1)).filter (fun f=>!(f.1==Bq))else(P.drop (j+1)).filter (fun f=>!(f.1==Bq))))=P.filter fun f=>!(f.1==Bq)from fun q hq=>by
     rw[←a2.o,AE c9,hq,DA])
    have R:=AB (R.o _ rfl);clear b1 a2;generalize P[j]=q at d1 C R;obtain⟨Q,r⟩:=q;simp only[Au,BI,AR,AT]at d1 C R;have BB:=(AD d.heap.size d).alloc (AC _) (.cells #[.string ⟨Q.toArray⟩,.string ⟨r.toArray⟩] 119);have d2:=A1.new d #[.string ⟨Q.toArray⟩,.string ⟨r.toArray⟩] 119;have e1:=d2.cell;have b2:=A0.next J BB;have a3:=n.trans (BB.mono n.size);have U:=a3.size;by_cases L:Q=Bq
    ·have X:=AB (by rw[←R.o,L];simp:O++(P.drop (j+1)).filter (fun f=>!(f.1==Bq))=P.filter fun f=>!(f.1==Bq));have e2:(Q==[115,116,97,114,116])=true:=by rw[BG];exact L
     clear R L J;go_wp2_with fail;go_roundw
     case rel=>exact⟨j+1,O,by go_num,by omega,by omega,b2,X,a3⟩
     simp[intOf];omega
    have X:=AB (show(O++[(Q,r)])++(P.drop (j+1)).filter (fun f=>!(f.1==Bq))=P.filter fun f=>!(f.1==Bq)from by
     rw[←R.o,(by rw[AG];exact L:(Q==Bq)=false)];simp)
    have e2:(Q==[115,116,97,114,116])=false:=by rw[AG];exact L
    clear R L J;go_upto_region 9 with fail;generalize World.alloc _ _=wa at BB d2 e1 b2 a3 U⊢;have e3:=A0.alloc b2 (.cells #[.string ⟨Q.toArray⟩,.string ⟨r.toArray⟩] 119);go_wp2_with(at_builtin;refine Qs rfl _ _ rfl l.heap.size _ O (Q,r) wa.heap.size 1 rfl e3 rfl (Gl wa (Q,r) _) (by omega) (by simp;omega) ?_;intro v' w9 e4 i0 e5);go_wp2_with fail;go_roundw
    case rel=>exact⟨j+1,O++[(Q,r)],by go_num,by omega,by simp;omega,e4,X,(a3.alloc U _).trans e5⟩
    simp[intOf];omega
   obtain rfl:j=P.length:=by omega
   have HO:=AB (by rw[←a2.o,AQ];simp:P.filter (fun f=>!(f.1==Bq))=O);have Y:Dh 100000 O:=by
    rw[←HO.o];exact⟨BC (IF _ _) I.1,fun f H=>I.2 f (DL.1 H).1⟩
   have b4:Dh 1000000 (O++[([115,116,97,114,116],60::(s++[62]))]):=by
    refine⟨by have:=Y.1;simp;omega,fun f H=>?_⟩;rcases BP.1 H with H|H
    ·have:=Y.2 f H;omega
    simp only[CP]at H;subst H;simp;omega
   have V:=AB (by rw[V.o,HO.o];rfl:Ik y s=(Cz m (O++[([115,116,97,114,116],60::(s++[62]))])).getD []);have hW:=fun W d3(h1:C7 W d3 (O++[([115,116,97,114,116],60::(s++[62]))]))(h3:Cb W)=>dH m d3 _ W h1 (by omega) b4.1 b4.2 h3
   generalize e6:Cz m _=wk at hW V;clear e6 a2 HO;have BX:=B5.trans (n.mono B5.size);have e7:=A0.next c7 n;have b5:=hk.next BX hk.lt;have d4:=c8.next n;have i1:=b5.cell;have e8:Z<l.heap.size:=by have:=hk.lt;have:=B5.size;omega
   have U:=n.size;have f0:=B5.size;obtain⟨pa,i2,f1,_⟩:=A0.rd (by decide) Ah J;subst f1;have Q:=AB (by have:=Y.1;simp;omega:(O.length+[(([115,116,97,114,116]:Bs),(60::(s++[62]):Bs))].length)*32≤140737488355328);have r:=AB (by have:=Y.1;unfold maxLen;simp;omega:O.length+[(([115,116,97,114,116]:Bs),(60::(s++[62]):Bs))].length≤maxLen);have f2:=A0.next (A0.alloc J (.cells #[.string ⟨([115,116,97,114,116]:Bs).toArray⟩,.string ⟨(60::(s++[62]):Bs).toArray⟩] 119)) (AD _ _).drew;have f3:∀j u,([(([115,116,97,114,116]:Bs),(60::(s++[62]):Bs))].flatMap Au)[j]?=some u→(d.alloc (.cells #[.string ⟨([115,116,97,114,116]:Bs).toArray⟩,.string ⟨(60::(s++[62]):Bs).toArray⟩] 119)).drew.cell? ((⟨d.heap.size,0,none⟩:Go.Addr).add j)=some u:=Gl d ([115,116,97,114,116],60::(s++[62])) _;have KA:=AB (((AD l.heap.size d).alloc U (.cells #[.string ⟨([115,116,97,114,116]:Bs).toArray⟩,.string ⟨(60::(s++[62]):Bs).toArray⟩] 119)).drew);have f4:=AB KA.o.size;have f5:=AB (show l.heap.size≤(d.alloc (.cells #[.string ⟨([115,116,97,114,116]:Bs).toArray⟩,.string ⟨(60::(s++[62]):Bs).toArray⟩] 119)).drew.heap.size from BC U f4.o);have d5:=(b5.alloc (.cells #[.string ⟨([115,116,97,114,116]:Bs).toArray⟩,.string ⟨(60::(s++[62]):Bs).toArray⟩] 119)).drew;have i3:=d5.cell;have i4:=b5.drew.cell;have s1:¬9223372036854775807<1+s.length:=by omega
   have s2:¬9223372036854775807<s.length+1+1:=by omega
   have f6:=AB d4;have f7:=AB (show∀b,(Value.slice (some ⟨g,0,none⟩) h.length F).ownBlock=some b→b<l.heap.size from fun b e=>by injection e with e;simp only at e;omega);have i5:(0:Int)≤k:=by omega
   have i6:(k:Int)<h.length:=by omega
   clear b0 I n d4 c8 J c7 Y b4;go_upto_region 12 with fail;go_region_law((first
    |(refine Ns (α:=A4) (cs:=Au) (size:=2) (z:=.agg #[.string ByteArray.empty,.string ByteArray.empty]) Ah Ju aU rfl (by decide) underlying79 rfl _ _ rfl l.heap.size _ O [([115,116,97,114,116],60::(s++[62]))] ⟨d.heap.size,0,none⟩ 1 1 rfl (by decide) rfl f2 rfl f3 Q.o r.o f5.o ?_;intro v' i7 f8 i8 d6;have a4:=AB (KA.o.trans d6);have b6:=d5.next d6 e8;have i9:=b6.cell;obtain⟨j0,j1,f9,d7⟩:=A0.one Nat.two_pos Ah f8;have g0:=AB d7;clear d7;subst f9)
    |(go_simp;with_reducible refine(hW _ _ g0.o (f6.o.below (by omega) a4.o).g).mono ?_;rintro e j2⟨g1,b7⟩;have g2:=AB (a4.o.trans (b7.mono (B':=l.heap.size) (by have:=a4.o.size;omega)));have j3:=(b6.next b7 b6.lt).cell;have b8:=A0.next (A0.below e7 a4.o f7.o) b7;have j4:=A0.free b8;have j5:=a1.o _ b8;obtain⟨ev,rfl⟩:=g1.get)))
   all_goals
    go_wp2_with fail;first|go_end0|(simp only[Exit.inBlock,Exit.then];refine AL (II rfl _ _ _) rfl ?_)|refine AL (II rfl _ _ _) rfl ?_
    refine⟨rfl,?_,Or.inr ⟨g,rfl,?_⟩⟩
    ·rw[e0.o,V.o];exact a0.o _ b8 _
    exact(A5.of (BX.trans (g2.o.mono f0))).set _
  have G:=AB (G.o N);have HB:(lx==ly)=false:=by rw[AG];exact N
  clear D S a0 N;go_wp2_with fail;go_roundw
  case rel=>exact⟨k+1,by go_num,by omega,G,B4⟩
  simp[intOf];omega
 obtain rfl:k=h.length:=by omega
 have X:=AB (VF S.o);clear S;go_wp2_with fail
 go_end0
 exact⟨rfl,by rw[X.o];exact t,Or.inl M⟩
def Dt(base:A3)(s:Bs):Bool→Nat→List A3→List Bs→Nat→List A8→Except Int (Nat×List A3×List Bs)
 |_,r,p,i,_,[]=>.ok (r,p,i)
 |L,r,p,i,k,q::l=>
  if q.many then .error 13
  else if L&&(s !=[]&&s==F4 (Fa q.head))then Dt base s false k (p++[Dp base q.head]) (i++[Fa q.head]) (k+1) l
  else Dt base s L r (p++[Dp base q.head]) (i++[Fa q.head]) (k+1) l
theorem Rh(base:A3)(s:Bs):∀(l:List A8)(L:Bool)(r:Nat)(p:List A3)(i:List Bs)(k:Nat),Dt base s L r p i k l=if l.any A8.many then .error 13
   else .ok ((if L=true∧s≠[]then M5 s (l.map fun q:A8=>Fa q.head) k else none).getD r,p++l.map (fun q:A8=>Dp base q.head),i++l.map (fun q:A8=>Fa q.head))
 |[],L,r,p,i,k=>by simp[Dt,M5]
 |q::l,L,r,p,i,k=>by
  unfold Dt;cases h:q.many with
  |true=>simp[h]
  |false=>
   rw[Rh base s l,Rh base s l];cases H:l.any A8.many with
   |true=>simp[h,H]
   |false=>
    cases L with
    |false=>simp[h,H]
    |true=>
     by_cases a:s=[]
     ·simp[h,H,a]
     by_cases e:s=F4 (Fa q.head)
     ·have b:(s !=[]&&s==F4 (Fa q.head))=true:=by simp[←e,a]
      simp only[b,FH,h,H,DM];simp[M5,←e,a]
     have b:(s==F4 (Fa q.head))=false:=by simpa using e
     simp[b,h,H,M5,e,a]
theorem iJ(p:A8)(H:(Kc p.head).1=Jl)(a:p.parts≠[]):Ij p=(Dt (Dp A3.zero p.head) ((C5 (Kc p.head).2 Bq).getD []) (C5 (Kc p.head).2 Bq).isSome 0 [] [] 0 p.parts).map fun x=>⟨p,x.1,x.2.1,x.2.2⟩:=by
 unfold Ij;rw[Rh,AI (by simpa using H),AI a];cases b:p.parts.any A8.many with
 |true=>simp[Except.map]
 |false=>
  cases C5 (Kc p.head).2 Bq with
  |none=>simp[Except.map]
  |some s=>
   by_cases h:s=[]
   ·simp[Except.map,h]
   simp[Except.map,h]
theorem U0{base:A3}(h:Dh n l):(Dp base l).len≤2*base.len+6*n+4:=by
 unfold Dp;cases g:Ai l Li with
 |none=>simp only;omega
 |some v=>
  have b:=Jw h g;cases H:Cl v with
  |none=>simp only[H];omega
  |some a=>
   have c:=My H;have d:=Qx base a;have e:=uG (Be base a);simp only[H];omega
theorem Xi(h:Dh n l):(Fa l).length≤n:=BC (TX _) (Re h)
theorem iK{b:Aw}(h:Cx s=.ok b):Iq b:=by
 unfold Cx at h;cases r:E8 s with
 |error e=>rw[r]at h;cases h
 |ok p=>
  rw[r]at h;have f:=Xa r;simp only[Ij]at h;split at h
  ·cases h
  split at h
  ·cases h
  split at h
  ·cases h
  cases h;obtain⟨P,l,m,k⟩:=p;have w:=Em f.1;have n:A3.zero.len=0:=rfl;have o:=U0 (base:=A3.zero) w;have H:∀q∈k,Dh 20000 q.head:=fun q H=>by
   have:=f.2.2.2 q H;obtain⟨a,c,d,e⟩:=q;exact Em this.1
  refine⟨f,by simp[A8.parts],by simp[A8.parts],fun a i=>?_,fun x j=>?_⟩
  ·simp only[A8.parts,DY]at i;obtain⟨q,g,rfl⟩:=i;have:=U0 (base:=Dp A3.zero P) (H q g);simp only[A8.head]at*;omega
  simp only[A8.parts,DY]at j;obtain⟨q,g,rfl⟩:=j;have:=Xi (H q g);omega
end Go.Proofs.YtignjjnflcpiiaaGreatDoor
