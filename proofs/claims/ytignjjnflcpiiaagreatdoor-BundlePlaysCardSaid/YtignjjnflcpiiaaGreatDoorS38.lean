/- bundle.sign, and the names that Bind gives. Condition: wh -/
import Derived.Test.YtignjjnflcpiiaaGreatDoorS36
set_option linter.all false
set_option maxHeartbeats 16000000
set_option maxRecDepth 100000
namespace Go.Proofs.YtignjjnflcpiiaaGreatDoor
open Go Go.RowKit Proofs.Tryz Lib
theorem iL{α:Type}{f:α→List Bs}{M:Nat}:∀{l:List α},(∀x∈l,(f x).length≤M)→(l.flatMap f).length≤l.length*M
 |[],_=>by simp
 |x::l,h=>by
  have a:=h x (by simp);have b:=iL (l:=l) fun y H=>h y (by simp[H])
  rw[BT,AH,AO,DN];omega
variable {p:A8}{n B g cap size i k:Nat}{ps:List A8}{raws:List Ao}{v U L M P S T X Y Z a0 a1 p1 p2 p3 p4 p5 a2 a3 a4 a5 a6 a7 a8 a9 b0 b1 b2 b3 b4 b5 b6 b7 b8 b9 c0 c1 c2 c3 c4 c5 c6 c7 c8 c9 d0 d1 d2 d3 d4 d5 d6 d7 d8 d9 e0 e1 e2 e3 e4 e5 e6 e7 e8 e9 f0 f1 f2 f3 f4 f5 f6 f7 f8 f9 g0 g1 g2 g3 g4 g5 p6 p7 p8 p9 q0 q1 q2 q3 q4 q5 q6 q7 q8 q9 r0 r1 r2 r3 r4 r5 r6 r7 r8 r9 s0 s1 s2 s3 s4 s5 s6 s7 s8 s9 t0 t1 t2 t3 t4 g6 g7 g8 g9 h0 h1 h2 h3 h4 h5 h6 h7 h8 h9 i0 i1 i2 i3 i4 i5 i6 i7 i8 i9 j0 ov u1 u2 u3 u4 u5 u9 t5 t6 t7 t8 t9 u0 u6 u7 u8 v0 v1 v2 v3 v4 v5 v6 v7 v8 v9 w0 w2 w3 w4 w5 w6 w7 w8 w9 x0 x1 x2 x4 x5 x6 x7 x8 x9 y0 y1 y2 y3 y4 y5 y6 y7 y8 y9 z0 z1 z2 z3 z4 z5 z6 z7 z8 z9 a' b':Value}{w w':World}{α β γ:Type}{b:Aw}{s m e:Bs}
theorem Fe.fl(h:Fe n p):Dh 20000 p.head∧p.body.length≤60002:=by
 cases n with
 |zero=>exact h.elim
 |succ n=>exact⟨Em h.head.1,h.head.2.1⟩
theorem Xl(h:Fe (n+1) p):∀q∈p::p.parts,Dh 20000 q.head∧q.body.length≤60002:=fun q H=>by
 rcases CF.1 H with rfl|H
 ·exact h.fl
 exact(h.part H).fl
theorem Xm(h:Fe (n+1) p):(Ep p).length≤400080003∧Bd (Ep p)≤30000000000000:=by
 have a:=Xl h;have b:(Ep p).length≤(p::p.parts).length*20001:=by
  unfold Ep;refine iL fun q m=>?_
  have:=(a q m).1.1;simp only[AO,DS];omega
 have d:Bd (Ep p)≤(Ep p).length*60002:=by
  refine R8 fun x H=>?_
  unfold Ep at H;obtain⟨q,m,H⟩:=FD.1 H;rcases CF.1 H with rfl|H
  ·exact(a q m).2
  obtain⟨f,c,rfl⟩:=DY.1 H;have:=((a q m).1.2 f c).2;omega
 have e:=h.head.2.2;simp only[AO]at b;refine⟨by omega,by omega⟩
theorem VL(h:E7 4 D5 w v raws)(l:raws.length=ps.length):E7 4 O1 w v (raws.zip ps):=by
 obtain⟨a,C,d,f⟩:=h;have e:(raws.zip ps).length=raws.length:=by rw[EU];omega
 have E:(raws.zip ps).flatMap O1=raws.flatMap D5:=by
  have:(raws.zip ps).flatMap O1=((raws.zip ps).map Prod.fst).flatMap D5:=by rw[List.flatMap_map];rfl
  rw[this,List.map_fst_zip (by omega)]
 refine⟨a,C,by rw[d,e],fun H=>?_⟩;rw[e]at H;obtain⟨b,g,i,k⟩:=f H;exact⟨b,g,i,fun j c=>by rw[E];exact k j (by rw[e]at c;exact c)⟩
theorem VM(s:Bs)(h:raws.length=ps.length):((raws.zip ps).any fun x:RP=>Gu s x.2)=ps.any (Gu s):=by
 have:((raws.zip ps).any fun x:RP=>Gu s x.2)=((raws.zip ps).map Prod.snd).any (Gu s):=by rw[List.any_map];rfl
 rw[this,List.map_snd_zip (by omega)]
theorem VN(r:Ao)(p:A8)(w:World)(P:A7 (fun _=>True) 4 w r p)(m:Fe 4 p)(hg:Gz w):Calls prog 39 #[Bm r] w fun e w'=>e=.returned (.string ⟨(Fc p).toArray⟩)∧Below w.heap.size w w':=by
 have b0:=Xm m;have b1:=AB (Xl m);obtain⟨raws,Q,o,a0⟩:=P.parts;have b2:=m.head.2.2;have Z:=AB (show∀x∈(r::raws).zip (p::p.parts),A7 (fun _=>True) 4 w x.1 x.2∧x.2∈p::p.parts from fun x H=>by
  rw[List.zip_cons_cons]at H;rcases CF.1 H with rfl|H
  ·exact⟨P,by simp⟩
  obtain⟨k,hk,rfl⟩:=IL.1 H;rw[EU]at hk;rw[GI];exact⟨(a0 k (by omega) (by omega)).up,CA _ (AN _)⟩)
 have S:=AB (by rfl:Hy [64,98] (Ep p)=Hj (fun n=>!Dd [64,98] (Ep p) n) (20*(Bd (Ep p)+(Ep p).length+1)) 0);have a1:=AB (by rfl:Fc p=64::98::itoa (Hy [64,98] (Ep p)));have a2:=AB (iI p);have a3:=AB (fun s=>VM s (raws:=r::raws) (ps:=p::p.parts) (by simp[o]));have b3:((r::raws).zip (p::p.parts)).length=raws.length+1:=by rw[EU];simp[o]
 have F:=AB (fun(W:World)(v:Value)(h:E7 4 D5 W v (r::raws))=>VL h (ps:=p::p.parts) (by simp[o]));generalize(r::raws).zip (p::p.parts)=L at Z a3 b3 F;have c7:raws.length≤20002:=by omega
 generalize hT:Ep p=T at b0 S a1 a2;clear P a0 hT m o b2;obtain⟨⟨t,u,y⟩,A,C,⟨R,c,d⟩⟩:=r;simp only[Bm,A9]at Q⊢;have b:=(AD w.heap.size w).alloc (AC _) (.cells #[.slice t u y,.string ⟨A.toArray⟩,.bool C,.slice R c d] 44);have g:=A1.new w #[.slice t u y,.string ⟨A.toArray⟩,.bool C,.slice R c d] 44;go_enter func39,ntmps39;go_upto_region 1 with fail;generalize World.alloc _ _=D at b g⊢;have U:=b;have a4:=Q.rd.next b;have k1:=g.cell;have a5:=iH D t R u y c d A C;have E:=(AD D.heap.size D).alloc (AC _) (.cells #[.slice t u y,.string ⟨A.toArray⟩,.bool C,.slice R c d] 44);have a6:=a4.next E;have b5:=(g.next E g.lt).cell;clear b Q a4;go_wp2_with(at_builtin;refine Xh (α:=Ao) (cs:=D5) (size:=4) (z:=.agg #[.slice none 0 0,.string ByteArray.empty,.bool false,.slice none 0 0]) Db Wp Wq rfl (by decide) underlying33 rfl _ _ rfl D.heap.size _ _ raws R c d rfl a5 rfl a6 (by simp;omega) (by unfold maxLen;simp;omega) (by simp) ?_;intro v3 w3 V b7 a7 b8);obtain⟨sa,sc,a8,_⟩:=A0.rd (by decide) Db V;rw[IE,AO]at a8;subst a8;have G:=U.trans ((E.trans a7).mono U.size);have b9:=AB (F.o _ _ (A0.rd (by decide) Db V));have c0:=G.size;have a9:=hg.next G;have c1:=AB (fun x H=>((Z.o x H).1.next G));clear a5 g k1 b5 a6 a7 b7 b8 E U V F;go_wp2_with fail;go_loopw[4] (fun i wr=>∃k f:Nat,i=.int .i64 k∧k+f=20*(Bd T+T.length+1)∧Hid (Hy [64,98] T=Hj (fun n=>!Dd [64,98] T n) f k)∧Hid (∀j,j<k→Dd [64,98] T j=true)∧Below w3.heap.size w3 wr) (fun i _=>20*(Bd T+T.length+1)-(intOf i).toNat)
 case atStart=>exact⟨0,_,rfl,by omega,S,AB (fun j h=>by omega),AD _ _⟩
 clear S;obtain⟨k,f,rfl,c8,F,J,B⟩:=hrel;have hk:=Qn _ _ k J.o;obtain⟨f,rfl⟩:∃n,f=n+1:=⟨f-1,by omega⟩;have X:=Mz (k:Int) (by omega) (by omega) wr (a9.next B);have c2:=CJ (k:Int) (by omega) (by omega);have Y:=AB ((a2.o k).trans (a3.o _).symm);have O:=AB (show Dd [64,98] T k=false→Fc p=64::98::itoa (k:Int)from fun h=>by
  rw[a1.o,F.o,aD (by rw[h];rfl)])
 generalize itoa (k:Int)=I at X c2 Y O;go_wp2_with fail;with_reducible refine X.mono ?_
 rintro e a⟨rfl,b4⟩;have B4:=B.trans (b4.mono B.size);have K:=A1.new a #[.string ⟨(64::98::I).toArray⟩] 9;have b:=(AD a.heap.size a).alloc (AC _) (.cells #[.string ⟨(64::98::I).toArray⟩] 9);have l:=B4.trans (b.mono B4.size);have c3:=a9.next l;have M:=VA 94 a.heap.size (enters_of func94 (by kernel_rfl) rfl) (fun x=>Gu (64::98::I) x.2) (.slice sa (raws.length+1) sc) L (a.alloc (.cells #[.string ⟨(64::98::I).toArray⟩] 9)) (b9.o.next l) (by omega) (fun x H W hW=>by
  have h1:=b1.o _ (Z.o x H).2;exact VC 3 x.1 x.2 (64::98::I) a.heap.size W (((c1.o x H).next l).next hW) (by omega) (by have:=h1.1.1;omega) (fun f hf=>by have:=(h1.1.2 f hf).2;omega) ((K.next hW K.lt).cell 0) ((c3.next hW).r))
 rw[←Y.o]at M;generalize hb:Dd [64,98] T k=q at M O;have N:=AB hb;have c4:=K.cell;clear hb Y X b4 b;go_wp2_with fail;with_reducible refine M.mono ?_
 rintro e w6⟨rfl,b6⟩;have c5:=K.next b6 K.lt;have B6:=l.trans (b6.mono l.size);have c9:=c5.cell;clear M b6 c4;cases q with
 |true=>
  have HN:=AB (by rw[F.o,aC (by rw[N.o];rfl)]:Hy [64,98] T=Hj (fun n=>!Dd [64,98] T n) f (k+1));have c6:=AB (show∀j,j<k+1→Dd [64,98] T j=true from fun j h=>by
   rcases CN j k with h'|h'
   ·exact J.o j h'
   obtain rfl:j=k:=by omega
   exact N.o)
  clear F J O N;go_wp2_with fail;go_roundw
  case rel=>exact⟨k+1,f,by go_num,by omega,HN,c6,B6⟩
  simp[intOf];omega
 |false=>
  have HN:=AB (O.o rfl);clear F J O N;go_wp2_with fail;go_ret;exact⟨by rw[HN.o];rfl,G.trans (B6.mono c0)⟩
theorem Xn(i:Int)(e:Bs)(c:Nat)(w:World)(h:-9223372036854775808≤i)(H:i≤9223372036854775807)(a:w.cell? ⟨c,0,none⟩=some (.string ⟨e.toArray⟩))(q:e.length≤1000000000000)(g:Gz w):Calls prog 40 #[.int .i64 i,.pointer (some ⟨c,0,none⟩)] w fun r f=>r=.returned (.string ⟨(Ce e i).toArray⟩)∧Below w.heap.size w f:=by
 have j:c<w.heap.size:=AY w _ a;have I:=fun W k=>Mz i h H W k
 have l:=CJ i h H;have N:=AB (by rfl:Ce e i=112::97::114::116::(itoa i++e));generalize itoa i=b at I l N;have m:=g.next ((AD w.heap.size w).drew);have n:=AB (show c<w.drew.heap.size from j);have z:¬9223372036854775807<4+b.length:=by omega
 have Z:¬9223372036854775807<b.length+1+1+1+1+e.length:=by omega
 have o:w.drew.cell? ⟨c,0,none⟩=some (.string ⟨e.toArray⟩):=a;go_enter func40,ntmps40;go_upto_region 1 with fail;go_region_law((go_simp;with_reducible refine(I _ m).mono ?_;rintro r s⟨rfl,d⟩;have K:=AB (C4 d (w0:=w) ((AD w.heap.size w).drew));have t:=(d.cell (p:=⟨c,0,none⟩) n.o).trans o));all_goals
  go_wp2_with fail;go_ret;exact⟨Gx N.o.symm,K.o⟩
theorem iM{α:Type}{size:Nat}{cs:α→List Value}(H:∀x,(cs x).length=size)(j:Nat)(u:Value)(y:α)(b:j<size):∀(Y:List α)(i:Nat)(a:i<Y.length),cs y=(cs Y[i]).set j u→(Y.flatMap cs).set (i*size+j) u=(Y.set i y).flatMap cs
 |[],_,a,_=>by simp at a
 |x::Y,0,_,h=>by
  simp only[List.getElem_cons_zero]at h;rw[BT,Nat.zero_mul,EX,List.set_cons_zero,BT,h,List.set_append_left _ _ (by rw[H];exact b)]
 |x::Y,i+1,a,h=>by
  have ih:=iM H j u y b Y i (by simpa using a) h;rw[IX,BT,BT,←ih,FI _ _ (by rw[H,DN];omega),H,(by rw[DN];omega:(i+1)*size+j-size=i*size+j)]
theorem A0.iN{e:Nat}{cs:α→List Value}(s:∀x,(cs x).length=size){Y:List α}(h:A0 e size cs w B (.slice (some ⟨g,0,none⟩) n cap) Y)(i j:Nat)(a:i<Y.length)(b:j<size)(u:Value)(y:α)(c:cs y=(cs Y[i]).set j u):A0 e size cs (w.setCell ⟨g,i*size+j,none⟩ u) B (.slice (some ⟨g,0,none⟩) n cap) (Y.set i y):=by
 obtain⟨_,_,d,_⟩:=h.row;subst d;unfold A0 at h⊢;have H:=(FR h (i*size+j) u).1;rw[iM s j u y b Y i a c]at H;rw[EV];exact H
theorem A0.Ll{e:Nat}{cs:α→List Value}{xs:List α}(h:A0 e size cs w B v xs)(k:∀g,v.ownBlock=some g→w'.heap[g]?=w.heap[g]?):A0 e size cs w' B v xs:=by
 rcases h with⟨b,H⟩;refine⟨b,?_⟩;rcases H with H|⟨g,c,C,a,d,f,r⟩
 ·exact Or.inl H
 exact Or.inr ⟨g,c,C,a,d,(k g (by rw[a];rfl)).trans f,r⟩
theorem VO:(prog.info? 9).map (fun i=>(i.zero,i.size,i.bytes))=some (some (.string ByteArray.empty),1,16):=by kernel_rfl
theorem VP(s:Bs):∀u∈Bi s,u.oneCell'=true:=fun u h=>by
 simp[Bi]at h;subst h;rfl
theorem Kz(w:World)(x:Bs)(t:TypeId):∀j u,([x].flatMap Bi)[j]?=some u→(w.alloc (.cells #[.string ⟨x.toArray⟩] t)).cell? ((⟨w.heap.size,0,none⟩:Go.Addr).add j)=some u:=fun j u h=>by
 rw[Dz,(A1.new w #[.string ⟨x.toArray⟩] t).cell]
 match j,h with
 |0,h=>exact h
 |j+1,h=>simp[Bi]at h
theorem L0{Q:Exit→Act→World→Prop}{O:Array Oper}{rest:List Oper}{o:Oper}{a:Act}(H:o.guard=none)(s x:Operand)
  (d:o.op=.call {callee:=.builtin .append,args:=#[s,x],argTypes:=#[55,55]}) (B:Nat) (v:Value) (xs:List Bs) (y:Bs) (b c:Nat)
  (e:a.eval s=v) (n:E9 w B v xs) (f:a.eval x=.slice (some ⟨b,0,none⟩) 1 c) (g:∀j u,([y].flatMap Bi)[j]?=some u→w.cell? ((⟨b,0,none⟩:Go.Addr).add j)=some u) (k:xs.length+1≤1000000000001) (i:B≤w.heap.size)
  (h:∀V W,E9 W B V (xs++[y])→w.grownBy W v.ownBlock→Below B w W→(V.ownBlock=v.ownBlock∨V.ownBlock=some w.heap.size)→wpList prog O Q rest (a.put o.dst V) W):wpList prog O Q (o::rest) a w:=
 Kt (α:=Bs) (cs:=Bi) (size:=1) (z:=.string ByteArray.empty) Cw VP VO rfl (by decide) underlying55 H s x d B v xs [y] ⟨b,0,none⟩ 1 c rfl e n f g (by simp;omega) (by unfold maxLen;simp;omega) i h
def O3:Code→Code
 | .seq c _=>c
 |c=>c
def Mb:Code→Code
 | .block _ c=>c
 | .loop c=>c
 |c=>c
noncomputable def Ri:Code:=Mb (O3 (E5 (E5 (Mb (Mb (E5 (O3 (E5 (E5 (E5 (E5 ((f11.body).getD .skip))))))))))))
noncomputable def U1:Code:=E5 (E5 (E5 (E5 (E5 Ri))))
noncomputable def iO:Code:=Mb (O3 (E5 (E5 (Mb (Mb (E5 (O3 (E5 (E5 (E5 U1))))))))))
theorem VQ{O:Value}(Q:Exit→Act→World→Prop)(c lb y lc K z kc j B:Nat)(x1 x2:Nat)(x:Bs)(d:Int)(e:Bs)(out:List Bs)(w:World)
  (u0:j<y) (u1:j<z) (o0:w.cell? ⟨lb,j*2+1,none⟩=some (.int .i64 d)) (t5:w.cell? ⟨K,j*3,none⟩=some (.int .i64 (x1:Int))) (t6:w.cell? ⟨K,j*3+1,none⟩=some (.int .i64 (x2:Int))) (t7:w.cell? ⟨K,j*3+2,none⟩=some (.string ⟨x.toArray⟩))
  (u2:c<B) (u3:lb<B) (hB:B≤w.heap.size) (o1:w.cell? ⟨c,0,none⟩=some (.string ⟨e.toArray⟩)) (u4:e.length≤1000) (u5:x.length≤1000000) (o2:-9223372036854775808≤d) (o3:d≤9223372036854775807) (n:E9 w B ov out) (u6:out.length≤1000000000) (hg:Gz w)
  (hN:∀(j1 j2 j3 j4 j5 j6 j7 j8 j9 k0 k1 k2 k3 k4 k5 k6 k7 k8 k9 l0 l1 l2 l3 l4 l5 l6 l7 l8 l9 m0 m1 m2 m3 m4 m5 m6 m7 m8 m9 n0 n1 n2 n3 n4:Value)(v:Value)(g:World),E9 g B v (out++[Ed e x d])→Below B w g→Q .normal ⟨List.toArray (U::L::M::O::P::S::.func (.func 40) #[] #[.pointer (some ⟨c,0,none⟩)]::T::X::Y::Z::a0::.slice (some ⟨lb,0,none⟩) y lc::a1::v::j1::j2::j3::j4::j5::a2::a3::a4::a5::a6::a7::a8::a9::b0::b1::b2::b3::b4::b5::b6::b7::b8::b9::c0::c1::c2::c3::c4::c5::c6::c7::c8::c9::d0::d1::d2::d3::d4::d5::d6::d7::d8::d9::e0::e1::e2::e3::e4::e5::e6::e7::e8::e9::f0::f1::f2::f3::f4::f5::f6::f7::f8::f9::g0::g1::g2::g3::.slice (some ⟨K,0,none⟩) z kc::g4::.int .i64 (j:Int)::g5::j6::j7::j8::j9::k0::k1::k2::k3::k4::k5::k6::k7::k8::k9::l0::l1::l2::l3::l4::l5::l6::l7::l8::l9::m0::m1::m2::m3::m4::m5::m6::m7::m8::m9::n0::n1::n2::n3::n4::g6::g7::g8::g9::h0::h1::h2::h3::h4::h5::h6::h7::h8::h9::i0::i1::i2::i3::i4::i5::i6::i7::i8::i9::j0::[]),[]⟩ g)
  (hX:∀(j1 j2 j3 j4 j5 j6 j7 j8 j9 k0 k1 k2 k3 k4 k5 k6 k7 k8 k9 l0 l1 l2 l3 l4 l5 l6 l7 l8 l9 m0 m1 m2 m3 m4 m5 m6 m7 m8 m9 n0 n1 n2 n3 n4:Value)(v:Value)(g:World),E9 g B v (out++[Ed e x d])→Below B w g→Q (.exit 5) ⟨List.toArray (U::L::M::O::P::S::.func (.func 40) #[] #[.pointer (some ⟨c,0,none⟩)]::T::X::Y::Z::a0::.slice (some ⟨lb,0,none⟩) y lc::a1::v::j1::j2::j3::j4::j5::a2::a3::a4::a5::a6::a7::a8::a9::b0::b1::b2::b3::b4::b5::b6::b7::b8::b9::c0::c1::c2::c3::c4::c5::c6::c7::c8::c9::d0::d1::d2::d3::d4::d5::d6::d7::d8::d9::e0::e1::e2::e3::e4::e5::e6::e7::e8::e9::f0::f1::f2::f3::f4::f5::f6::f7::f8::f9::g0::g1::g2::g3::.slice (some ⟨K,0,none⟩) z kc::g4::.int .i64 (j:Int)::g5::j6::j7::j8::j9::k0::k1::k2::k3::k4::k5::k6::k7::k8::k9::l0::l1::l2::l3::l4::l5::l6::l7::l8::l9::m0::m1::m2::m3::m4::m5::m6::m7::m8::m9::n0::n1::n2::n3::n4::g6::g7::g8::g9::h0::h1::h2::h3::h4::h5::h6::h7::h8::h9::i0::i1::i2::i3::i4::i5::i6::i7::i8::i9::j0::[]),[]⟩ g):
  Code.wp prog iO Q ⟨List.toArray (U::L::M::O::P::S::.func (.func 40) #[] #[.pointer (some ⟨c,0,none⟩)]::T::X::Y::Z::a0::.slice (some ⟨lb,0,none⟩) y lc::a1::ov::p1::p2::p3::p4::p5::a2::a3::a4::a5::a6::a7::a8::a9::b0::b1::b2::b3::b4::b5::b6::b7::b8::b9::c0::c1::c2::c3::c4::c5::c6::c7::c8::c9::d0::d1::d2::d3::d4::d5::d6::d7::d8::d9::e0::e1::e2::e3::e4::e5::e6::e7::e8::e9::f0::f1::f2::f3::f4::f5::f6::f7::f8::f9::g0::g1::g2::g3::.slice (some ⟨K,0,none⟩) z kc::g4::.int .i64 (j:Int)::g5::p6::p7::p8::p9::q0::q1::q2::q3::q4::q5::q6::q7::q8::q9::r0::r1::r2::r3::r4::r5::r6::r7::r8::r9::s0::s1::s2::s3::s4::s5::s6::s7::s8::s9::t0::t1::t2::t3::t4::g6::g7::g8::g9::h0::h1::h2::h3::h4::h5::h6::h7::h8::h9::i0::i1::i2::i3::i4::i5::i6::i7::i8::i9::j0::[]),[]⟩ w:=by
 have A:=AB hN;have HX:=AB hX;clear hN hX;have H:=AB (show Ed e x d=if d<0 then x else 99::105::100::58::(Ce e d++(match Cl x with
  |none=>[]
  |some a=>if a.hasFrag then 35::a.frag else[]))from rfl)
 generalize Ed e x d=V at A HX H;have b:=(AD w.heap.size w).alloc (AC _) (.cells #[.int .i64 (x1:Int),.int .i64 (x2:Int),.string ⟨x.toArray⟩] 96);have k:=A1.new w #[.int .i64 (x1:Int),.int .i64 (x2:Int),.string ⟨x.toArray⟩] 96;have u7:(0:Int)≤j:=by omega
 have u8:(j:Int)<y:=by omega
 have u9:(j:Int)<z:=by omega
 have o4:=(b.cell (p:=⟨lb,j*2+1,none⟩) (by simp only;omega)).trans o0;have n5:=(b.cell (p:=⟨c,0,none⟩) (by simp only;omega)).trans o1;have n:=A0.next n b;have C:=hg.next b;have t8:=b.size;have D:=b.mono hB;delta iO U1 Ri f11;dsimp only[E5,O3,Mb,Option.getD];go_upto_region 22 with fail;generalize World.alloc _ _=E at b k o4 n5 n C t8 D⊢;clear t5 t6 t7 o0 o1 b hg;have o5:=k.cell;have o6:B≤E.heap.size:=by omega
 by_cases o7:d<0
 ·have H:=AB (by rw[H.o,AM o7]:V=x);have i:=A0.alloc n (.cells #[.string ⟨x.toArray⟩] 9);go_wp2_with(at_builtin;refine L0 rfl _ _ rfl B _ out x E.heap.size 1 rfl i rfl (Kz E x _) (by omega) (by simp;omega) ?_;intro v w2 l n6 m n7);go_wp2_with fail;exact HX.o _ _ _ _ _ _ _ _ _ _ _ _ _ _ _ _ _ _ _ _ _ _ _ _ _ _ _ _ _ _ _ _ _ _ _ _ _ _ _ _ _ _ _ _ _ _ (by rw[H.o];exact l) ((D.alloc o6 _).trans m)
 have H:=AB (show V=99::105::100::58::(Ce e d++(match Cl x with
  |none=>[]
  |some a=>if a.hasFrag then 35::a.frag else[]))from by rw[H.o,AI o7])
 have t9:(Ce e d).length≤1100:=by
  have:=CJ d o2 o3;unfold Ce;simp;omega
 have n8:=Xn d e c E o2 o3 n5 (by omega) C;generalize Ce e d=N at H t9 n8;have R:=fun W hW=>W7 x W (by omega) hW
 unfold Sw at R;have o8:=fun a(h:Cl x=some a)=>My h
 generalize Cl x=ra at R H o8;go_wp2_with fail;with_reducible refine n8.mono ?_
 rintro r w2⟨rfl,s⟩;have B2:=D.trans (s.mono o6);have k:=k.next s k.lt;have o5:=k.cell;have n:=A0.next n s;have o9:=C.next s;have v0:=s.size;clear n8 o4 n5 D s C;go_wp2_with fail;with_reducible refine(R _ o9.r.g).mono ?_
 rintro r t⟨rfl,F⟩;have G:=B2.trans (F.mono (by omega));have n:=A0.next n F;have v1:=F.size;clear R k o5 B2 F o9;cases ra with
 |none=>
  have H:=AB (by rw[H.o];simp:V=99::105::100::58::N);have b:=(AD t.heap.size t).alloc (AC _) (.cells A3.zero.cells 36);have u:=A1.new t A3.zero.cells 36;have n:=A0.next n b;have o:=G.trans (b.mono (by omega));have I:=b.size;simp only[A3.zero]at u n o I⊢;have n9:=u.cell;clear b G;go_upto_region 26 with fail;generalize World.alloc _ _=q at u n o I n9⊢;have i:=A0.alloc n (.cells #[.string ⟨(99::105::100::58::N:Bs).toArray⟩] 9);go_wp2_with(at_builtin;refine L0 rfl _ _ rfl B _ out (99::105::100::58::N) q.heap.size 1 rfl i rfl (Kz q (99::105::100::58::N) _) (by omega) (by simp;omega) ?_;intro v w5 l n6 m n7);go_wp2_with fail;exact A.o _ _ _ _ _ _ _ _ _ _ _ _ _ _ _ _ _ _ _ _ _ _ _ _ _ _ _ _ _ _ _ _ _ _ _ _ _ _ _ _ _ _ _ _ _ _ (by rw[H.o];exact l) ((o.alloc (by omega) _).trans m)
 |some a=>
  have p0:=o8 a rfl;obtain⟨sc,ha,au,pt,hq,qu,J,f⟩:=a;have v2:f.length≤3000000:=by unfold A3.len at p0;simp only at p0;omega
  have H:=AB (show V=99::105::100::58::(N++if J then 35::f else[])from H.o);have b:=(AD t.heap.size t).alloc (AC _) (.cells (A3.cells ⟨sc,ha,au,pt,hq,qu,J,f⟩) 36);have u:=A1.new t (A3.cells ⟨sc,ha,au,pt,hq,qu,J,f⟩) 36;have n:=A0.next n b;have o:=G.trans (b.mono (by omega));have I:=b.size;have n9:=u.cell;clear b G;go_upto_region 26 with fail;generalize World.alloc _ _=q at u n o I n9⊢;cases J with
  |false=>
   have H:=AB (by rw[H.o];simp:V=99::105::100::58::N);have i:=A0.alloc n (.cells #[.string ⟨(99::105::100::58::N:Bs).toArray⟩] 9);go_wp2_with(at_builtin;refine L0 rfl _ _ rfl B _ out (99::105::100::58::N) q.heap.size 1 rfl i rfl (Kz q (99::105::100::58::N) _) (by omega) (by simp;omega) ?_;intro v w5 l n6 m n7);go_wp2_with fail;exact A.o _ _ _ _ _ _ _ _ _ _ _ _ _ _ _ _ _ _ _ _ _ _ _ _ _ _ _ _ _ _ _ _ _ _ _ _ _ _ _ _ _ _ _ _ _ _ (by rw[H.o];exact l) ((o.alloc (by omega) _).trans m)
  |true=>
   have H:=AB (by rw[H.o];simp:V=99::105::100::58::(N++35::f));have i:=A0.alloc n (.cells #[.string ⟨(99::105::100::58::(N++35::f):Bs).toArray⟩] 9);go_wp2_with(at_builtin;refine L0 rfl _ _ rfl B _ out (99::105::100::58::(N++35::f)) q.heap.size 1 rfl i rfl (Kz q (99::105::100::58::(N++35::f)) _) (by omega) (by simp;omega) ?_;intro v w5 l n6 m n7);go_wp2_with fail;exact A.o _ _ _ _ _ _ _ _ _ _ _ _ _ _ _ _ _ _ _ _ _ _ _ _ _ _ _ _ _ _ _ _ _ _ _ _ _ _ _ _ _ _ _ _ _ _ (by rw[H.o];exact l) ((o.alloc (by omega) _).trans m)
theorem VR(f:α×β→γ)(L:List α)(M:List β)(j:Nat)(a:j<L.length)(b:j<M.length)(out:List γ)(h:out++((L.zip M).drop j).map f=(L.zip M).map f):(out++[f (L[j],M[j])])++((L.zip M).drop (j+1)).map f=(L.zip M).map f:=by
 have H:j<(L.zip M).length:=by rw[EU];omega
 rw[←h,AE H,DM,GI];simp
theorem Xo(b:Aw)(p:A8)(a:A3):Fb b p a=[]∨(Fb b p a).length=(Bf p.body).length:=by
 unfold Fb;split
 ·right;rw[DS]
 left;rfl
def Pn(e:Bs)(x:Aj×Fw):Bs:=Ed e x.1.2.2 x.2.2
theorem iP(e v:Bs)(d:Int)(h:-9223372036854775808≤d)(H:d≤9223372036854775807):(Ed e v d).length≤3*v.length+e.length+30:=by
 unfold Ed;split
 ·omega
 have i:=CJ d h H;cases r:Cl v with
 |none=>
  simp only[Ce,AO,AH,BN];omega
 |some a=>
  have:=My r;unfold A3.len at this;simp only[Ce,AO,AH];split
  ·simp only[AO];omega
  simp only[BN];omega
theorem VS(Q:Exit→Act→World→Prop)(A g i k cap B:Nat)(b:Aw)(q:A8)(R:List Ao)(e:Bs)(w:World)
  (q1:Er (fun _=>True) w A b) (P:Iq b) (hk:k<b.whole.parts.length) (hq:b.whole.parts[k]=q) (g7:k<R.length) (g8:(R[k]).2.1=q.body)
  (C:F3 w B (.slice (some ⟨g,0,none⟩) R.length cap) R) (q2:w.cell? ⟨i,0,none⟩=some (.string ⟨e.toArray⟩)) (c':e.length≤1000) (hg:Gz w) (S:∀a,∀x∈Fb b q a,-9223372036854775808≤x.2∧x.2≤9223372036854775807)
  (T:∀(g9 h0 h1 h2 h3 h4 h5 h6 h7 h8 h9 i0 i1 i2 i3 i4 i5 i6 i7 i8 i9 j0 j1 j2 j3 j4 j5 j6 j7 j8 j9 k0 k1 k2 k3 k4 k5 k6 k7 k8 k9 l0 l1 l2 l3 l4 l5 l6 l7 l8 l9 m0 m1 m2 m3 m4 m5 m6 m7 m8 m9 n0 n1 n2 n3 n4 n5 n6 n7 n8 n9 o0 o1 o2 o3 o4 o5:Value)(t:World),F3 t B (.slice (some ⟨g,0,none⟩) R.length cap) (R.set k ((R[k]).1,Ho e q.body ((D1 b (k:Int)).getD []),(R[k]).2.2))→A5 g w.heap.size w t→Q .normal ⟨List.toArray (.pointer (some ⟨A,0,none⟩)::u1::u2::u3::u4::u5::.func (.func 40) #[] #[.pointer (some ⟨i,0,none⟩)]::.int .i64 (k:Int)::.pointer (some ⟨g,k*4,none⟩)::u9::a4::a5::g9::h0::h1::h2::h3::h4::h5::h6::a6::a7::a8::a9::b0::b1::b2::b3::b4::b5::b6::b7::b8::b9::c0::c1::c2::c3::c4::c5::c6::c7::c8::c9::d0::d1::d2::d3::d4::d5::d6::d7::d8::d9::e0::e1::e2::e3::e4::e5::e6::e7::e8::e9::f0::f1::f2::f3::f4::h7::h8::h9::i0::i1::i2::i3::i4::i5::i6::i7::i8::i9::j0::j1::j2::j3::j4::j5::j6::j7::j8::j9::k0::k1::k2::k3::k4::k5::k6::k7::k8::k9::l0::l1::l2::l3::l4::l5::l6::l7::l8::l9::m0::m1::m2::m3::m4::m5::m6::m7::m8::m9::n0::n1::n2::n3::n4::n5::n6::n7::n8::n9::o0::o1::o2::o3::o4::o5::f5::f6::f7::f8::f9::g0::g1::g2::g3::g4::g5::g6::[]),[]⟩ t)
  (U:∀(g9 h0 h1 h2 h3 h4 h5 h6 h7 h8 h9 i0 i1 i2 i3 i4 i5 i6 i7 i8 i9 j0 j1 j2 j3 j4 j5 j6 j7 j8 j9 k0 k1 k2 k3 k4 k5 k6 k7 k8 k9 l0 l1 l2 l3 l4 l5 l6 l7 l8 l9 m0 m1 m2 m3 m4 m5 m6 m7 m8 m9 n0 n1 n2 n3 n4 n5 n6 n7 n8 n9 o0 o1 o2 o3 o4 o5:Value)(t:World),F3 t B (.slice (some ⟨g,0,none⟩) R.length cap) (R.set k ((R[k]).1,Ho e q.body ((D1 b (k:Int)).getD []),(R[k]).2.2))→A5 g w.heap.size w t→Q (.exit 1) ⟨List.toArray (.pointer (some ⟨A,0,none⟩)::u1::u2::u3::u4::u5::.func (.func 40) #[] #[.pointer (some ⟨i,0,none⟩)]::.int .i64 (k:Int)::.pointer (some ⟨g,k*4,none⟩)::u9::a4::a5::g9::h0::h1::h2::h3::h4::h5::h6::a6::a7::a8::a9::b0::b1::b2::b3::b4::b5::b6::b7::b8::b9::c0::c1::c2::c3::c4::c5::c6::c7::c8::c9::d0::d1::d2::d3::d4::d5::d6::d7::d8::d9::e0::e1::e2::e3::e4::e5::e6::e7::e8::e9::f0::f1::f2::f3::f4::h7::h8::h9::i0::i1::i2::i3::i4::i5::i6::i7::i8::i9::j0::j1::j2::j3::j4::j5::j6::j7::j8::j9::k0::k1::k2::k3::k4::k5::k6::k7::k8::k9::l0::l1::l2::l3::l4::l5::l6::l7::l8::l9::m0::m1::m2::m3::m4::m5::m6::m7::m8::m9::n0::n1::n2::n3::n4::n5::n6::n7::n8::n9::o0::o1::o2::o3::o4::o5::f5::f6::f7::f8::f9::g0::g1::g2::g3::g4::g5::g6::[]),[]⟩ t):
  Code.wp prog U1 Q ⟨List.toArray (.pointer (some ⟨A,0,none⟩)::u1::u2::u3::u4::u5::.func (.func 40) #[] #[.pointer (some ⟨i,0,none⟩)]::.int .i64 (k:Int)::.pointer (some ⟨g,k*4,none⟩)::u9::a4::a5::r7::r8::r9::s0::s1::s2::s3::s4::a6::a7::a8::a9::b0::b1::b2::b3::b4::b5::b6::b7::b8::b9::c0::c1::c2::c3::c4::c5::c6::c7::c8::c9::d0::d1::d2::d3::d4::d5::d6::d7::d8::d9::e0::e1::e2::e3::e4::e5::e6::e7::e8::e9::f0::f1::f2::f3::f4::s5::s6::s7::s8::s9::t0::t1::t2::t3::t4::t5::t6::t7::t8::t9::u0::u6::u7::u8::v0::v1::v2::v3::v4::v5::v6::v7::v8::v9::w0::w2::w3::w4::w5::w6::w7::w8::w9::x0::x1::x2::x4::x5::x6::x7::x8::x9::y0::y1::y2::y3::y4::y5::y6::y7::y8::y9::z0::z1::z2::z3::z4::z5::z6::z7::z8::z9::a'::b'::f5::f6::f7::f8::f9::g0::g1::g2::g3::g4::g5::g6::[]),[]⟩ w:=by
 have N:=AB T;have X:=AB U;have o6:=P.whole.part (AN hk);rw[hq]at o6;have d':k<b.places.length:=by rw[P.places];exact hk
 have HL:=AB (show D1 b (k:Int)=some (Fb b q (b.places[k]))from by
  unfold D1;rw[AI (by omega)];simp[hk,d',hq])
 have V:=iG (fun _=>True) A b (k:Int) w q1 P hg.r (by omega) (by have:=P.whole.head.2.2;omega);rw[HL.o]at V;rw[HL.o]at T U;have N:=AB T;have X:=AB U;have D:=Xo b q (b.places[k]);have S:=S (b.places[k]);generalize Fb b q (b.places[k])=c at V N X D S;simp only[CT]at N X;have C':=A0.Fp C g rfl;have e':=A0.Do C g rfl;have D':=A0.free C;have E:=A0.cellAt Db C k g7 1 (by decide);have q3:=fun(W:World)(o:F3 W B (.slice (some ⟨g,0,none⟩) R.length cap) R)(y:Bs)=>A0.iN Db o k 1 g7 (by decide) (.string ⟨y.toArray⟩) ((R[k]).1,y,(R[k]).2.2) rfl
 have f':=AB q3;have q4:=AB (show R.set k ((R[k]).1,q.body,(R[k]).2.2)=R from by
  rw[←g8];exact List.set_getElem_self g7)
 simp only[D5,AR,AT]at E;rw[g8]at E;have g':=o6.fl.2;have Y:=fun W hW=>Wx q.body W hW (by omega)
 have q5:=(Jb q.body).2;have o7:=AB (Rb q.body);have H:=AB (by rfl:Ho e q.body c=if c=[]then q.body else(Gt q.body (((Bf q.body).zip c).map (Pn e))).getD []);generalize Bf q.body=L at Y q5 o7 H D;generalize Ho e q.body c=Z at N X H;generalize q.body=F at E g' Y q5 o7 H q4;clear T U HL q1 hq o6 q3 g8;have E':(0:Int)≤k:=by omega
 delta U1 Ri f11;dsimp only[E5,O3,Mb,Option.getD];go_wp2_with fail;with_reducible refine V.mono ?_
 rintro r w1⟨hh,m⟩;obtain⟨F',rfl,o8⟩:∃v,r=.returned (.tuple #[v,.nilIface])∧Xg w1 w.heap.size v c:=by
  rcases hh with⟨l,v,G,h',i'⟩|⟨G,_⟩
  ·injection G with G;subst G;exact⟨v,h',i'⟩
  cases G
 clear hh V;have I:=A0.Dn (by decide) Jp o8;obtain⟨la,lc,rfl,_⟩:=I.rd;have o9:=hg.next m;have j':=m.size;have p0:=A0.next C m;have p1:=(m.cell (p:=⟨i,0,none⟩) (AY w _ q2)).trans q2;have q6:=(m.cell (p:=⟨g,k*4+1,none⟩) e').trans E;by_cases u:c=[]
 ·have HB:=AB (by rw[H.o,AM u]:Z=F);have k':((c.length:Int)==0)=true:=by rw[u];rfl
  have l':=AB (by rw[HB.o,q4.o];exact p0:F3 w1 B (.slice (some ⟨g,0,none⟩) R.length cap) (R.set k ((R[k]).1,Z,(R[k]).2.2)));clear o8 I D;go_wp2_with fail;exact X.o _ _ _ _ _ _ _ _ _ _ _ _ _ _ _ _ _ _ _ _ _ _ _ _ _ _ _ _ _ _ _ _ _ _ _ _ _ _ _ _ _ _ _ _ _ _ _ _ _ _ _ _ _ _ _ _ _ _ _ _ _ _ _ _ _ _ _ _ _ _ _ _ _ _ _ _ _ _ l'.o (A5.of m)
 have m':c.length=L.length:=by
  rcases D with h|h
  ·exact absurd h u
  exact h
 have k':((c.length:Int)==0)=false:=by
  rw[AG];have:=BE.2 u;omega
 have G':c.length≤L.length:=by omega
 have H':L.length≤c.length:=by omega
 clear m';have n':0<c.length:=BE.2 u;have H:=AB (by rw[H.o,AI u]:Z=(Gt F ((L.zip c).map (Pn e))).getD []);clear D X o8;obtain⟨lb,rfl,_,I',_⟩:=I.at Jp 0 n';go_wp2_with fail;with_reducible refine(Y _ o9.r).mono ?_
 rintro r n⟨J',rfl,q7,s⟩;have p2:=A0.Dn (by decide) Gq q7;obtain⟨ka,kc,rfl,_⟩:=p2.rd;obtain⟨kb,rfl,_,p3,_⟩:=p2.at Gq 0 (by omega);have q8:=o9.next s;have K':=s.size;have o':=A0.next p0 s;have q9:=(s.cell (p:=⟨i,0,none⟩) (AY w1 _ p1)).trans p1;have p':=(s.cell (p:=⟨g,k*4+1,none⟩) (by simp only;omega)).trans q6;have q':=I.next s;have B2:=m.trans (s.mono j');have r0:i<n.heap.size:=AY n _ q9;clear Y I q7 s m p1 q6 p0 o9 E;go_wp2_with fail;go_loopw[14,84] (fun ov iv wr=>∃(j:Nat)(O:List Bs),iv=.int .i64 j∧j≤L.length∧O.length≤j∧E9 wr n.heap.size ov O∧Hid (O++((L.zip c).drop j).map (Pn e)=(L.zip c).map (Pn e))∧Hid (∀x∈O,x.length≤1000000)∧Below n.heap.size n wr) (fun _ iv _=>L.length-(intOf iv).toNat)
 case atStart=>exact⟨0,[],rfl,by omega,by simp,A0.nil _ _ _ _ _,AB (by simp),AB (fun x h=>by cases h),AD _ _⟩
 obtain⟨j,O,rfl,hj,L',r1,a0,HO,f⟩:=hrel;by_cases a1:j<L.length
 ·have p4:j<c.length:=by omega
  obtain⟨M',J,_,_,r2⟩:=q'.at Jp j p4;obtain⟨N',K,_,_,a2⟩:=p2.at Gq j a1;injection J with J;injection J with J;injection K with K;injection K with K;subst J K;have p5:=(f.cell (p:=⟨lb,j*2+1,none⟩) (by simp only;omega)).trans (r2 1 (by decide));have p6:=(f.cell (p:=⟨kb,j*3+0,none⟩) p3).trans (a2 0 (by decide));have p7:=(f.cell (p:=⟨kb,j*3+1,none⟩) p3).trans (a2 1 (by decide));have p8:=(f.cell (p:=⟨kb,j*3+2,none⟩) p3).trans (a2 2 (by decide));have r3:=o7.o _ (AN a1);have z:=S _ (AN p4);have a3:=AB (VR (Pn e) L c j a1 p4 O a0.o);clear r2 a2 a0;generalize L[j]=x at p6 p7 p8 r3 a3;generalize c[j]=y at p5 z a3;obtain⟨r',s',x3⟩:=x;obtain⟨O',d⟩:=y;simp only[Hp,Hm,BI,AR,AT]at p5 p6 p7 p8 r3 z a3;have t':=(f.cell (p:=⟨i,0,none⟩) r0).trans q9;have P':=iP e x3 d z.1 z.2;have u':=q8.next f;have v':=AB (show∀x∈O++[Ed e x3 d],x.length≤1000000 from fun x M=>by
   rcases BP.1 M with M|M
   ·exact HO.o x M
   rw[CP.1 M];omega)
  have w':=f.size;have x':lb<n.heap.size:=by omega
  go_upto_block 5 with fail;refine wp_block (VQ _ i lb c.length lc kb L.length kc j n.heap.size r' s' x3 d e O wr (by omega) a1 p5 p6 p7 p8 r0 x' w' t' c' (by omega) z.1 z.2 r1 (by omega) u' ?_ ?_);all_goals
   intros
   rename_i y' wz ho hb;simp only[Exit.inBlock,Exit.then,DC];go_wp2_with fail;go_roundw
   case rel=>exact⟨y',_,_,_,_,_,.int .i64 ((j:Int)+1),⟨j+1,by go_num,by omega,O++[Ed e x3 d],by simp;omega,ho,AB (by rw[←List.map_drop];exact a3.o),v',f.trans hb⟩,rfl,rfl,rfl,rfl,rfl,rfl,rfl⟩
   simp[intOf];omega
 obtain rfl:j=L.length:=by omega
 have HF:=AB (show O=(L.zip c).map (Pn e)from by
  have:=a0.o;rw[List.drop_eq_nil_of_le (by rw[EU];omega),List.map_nil,BM]at this;exact this)
 have HB:=AB (by rw[H.o,HF.o]:Z=(Gt F O).getD []);have r4:=A0.rd (by decide) Cw r1;have p9:=TI F O _ wr (q8.next f).r (by omega) r4 (by omega) HO.o;obtain⟨ta,tc,z',_⟩:=r4;subst z';generalize A':Gt F O=wk at p9 HB;have r5:=(f.cell (p:=⟨g,k*4+1,none⟩) (by simp only;omega)).trans p';clear A' HF a0;go_wp2_with fail;with_reducible refine p9.mono ?_
 rintro r Q'⟨hh,q0⟩;obtain⟨ev,rfl⟩:=hh.get;have r6:=A0.next (A0.next o' f) q0;have R':=A0.free r6;have B':=f.size;have S':=(q0.cell (p:=⟨g,k*4+1,none⟩) (by simp only;omega)).trans r5;have B3:=B2.trans ((f.trans (q0.mono B')).mono (by omega:w.heap.size≤n.heap.size));clear p9 r5;go_wp2_with fail;exact N.o _ _ _ _ _ _ _ _ _ _ _ _ _ _ _ _ _ _ _ _ _ _ _ _ _ _ _ _ _ _ _ _ _ _ _ _ _ _ _ _ _ _ _ _ _ _ _ _ _ _ _ _ _ _ _ _ _ _ _ _ _ _ _ _ _ _ _ _ _ _ _ _ _ _ _ _ _ _ (by rw[HB.o];exact f'.o _ r6 _) ((A5.of B3).set _)
theorem Mc(b:Aw)(e:Bs):∀(l:List A8)(i:Nat),(Ev b e i l).length=l.length
 |[],_=>rfl
 |_::l,i=>by simp[Ev,Mc b e l]
theorem Xp(b:Aw)(e:Bs):∀(l:List A8)(i k:Nat)(h:k<l.length),(Ev b e i l)[k]?=some (I5 b e (i+k) l[k])
 |p::l,i,0,_=>rfl
 |p::l,i,k+1,h=>by
  have:=Xp b e l (i+1) k (by simpa using h);rw[(by omega:i+1+k=i+(k+1))]at this;exact this
theorem Xq{α:Type}[DecidableEq α](x:α):∀(l:List α)(k:Nat),-1≤Bj x l k∧Bj x l k≤(l.length:Int)+k
 |[],k=>by
  simp only[Bj,BN];omega
 |y::l,k=>by
  unfold Bj;split
  ·simp;omega
  have:=Xq x l (k+1);simp;omega
theorem VT(h:Iq b)(a:A3):-9223372036854775808≤Ec b a∧Ec b a≤9223372036854775807:=by
 have H:=h.whole.head.2.2;have c:=Xq (Cd a).path b.ids 0;have d:=Xq (Cd a) b.places 0;have e:=h.ids;have f:=h.places;unfold Ec;simp only;split
 ·split<;>omega
 split
 ·omega
 omega
theorem Xr(H:Iq b)(p:A8)(a:A3):∀x∈Fb b p a,-9223372036854775808≤x.2∧x.2≤9223372036854775807:=fun x h=>by
 unfold Fb at h;split at h
 ·obtain⟨y,_,rfl⟩:=DY.1 h;unfold Fr;cases Cl y.2.2 with
  |none=>simp
  |some r=>exact VT H _
 cases h
theorem iQ(s:Bs):∀(l:List Bs)(k r:Nat),M5 s l k=some r→r<k+l.length
 |[],_,_,h=>by cases h
 |x::l,k,r,h=>by
  unfold M5 at h;split at h
  ·cases h;simp
  have:=iQ s l (k+1) r h;simp;omega
theorem VU(h:Cx s=.ok b):b.root≤20002:=by
 have n:=iK h;have a:=n.whole.head.2.2;unfold Cx at h;cases H:E8 s with
 |error e=>rw[H]at h;cases h
 |ok p=>
  rw[H]at h;simp only[Ij]at h;split at h
  ·cases h
  split at h
  ·cases h
  split at h
  ·cases h
  cases h;simp only at a⊢;cases C5 (Kc p.head).2 Bq with
  |none=>simp
  |some S=>
   simp only;split
   ·simp
   cases o:M5 S (p.parts.map fun q:A8=>Fa q.head) 0 with
   |none=>simp
   |some r=>
    have:=iQ _ _ _ _ o;simp at this⊢;omega
theorem Xs{w:A8}(h:Fe (n+1) w):(Fc w).length≤23:=by
 have H:=Xm h;have a:=aF [64,98] (Ep w);have b:=CJ (Hy [64,98] (Ep w):Int) (by omega) (by omega);unfold Fc;simp;omega
theorem U2(e:Bs)(i:Nat)(h:i≤9223372036854775807):(Ce e i).length≤e.length+25:=by
 have H:=CJ (i:Int) (by omega) (by omega);unfold Ce;simp;omega
theorem VV(p:A4)(H:Ae p.1=true)(x:Bs)(h:Gd p=some x):x.length≤4*(p.1.length+p.2.length+1):=by
 have e:1≤p.1.length:=by
  cases a:p.1 with
  |nil=>rw[a]at H;cases H
  |cons c l=>simp
 unfold Gd at h;split at h
 ·cases h;have:=fY p.2;simp;omega
 cases h
theorem iR:∀(l:List A4)(o:Bs),Dq l=some o→o.length≤4*Av l
 |[],o,h=>by cases h;simp
 |p::l,o,h=>by
  unfold Dq at h;cases H:Gd p with
  |none=>rw[H]at h;cases h
  |some x=>
   rw[H]at h;simp only[BH]at h;obtain⟨O,a,rfl⟩:=h;have d:=iR l _ a;have b:Ae p.1=true:=by
    unfold Gd at H;split at H
    ·rename_i c;simp only[BL]at c;exact c.1.1
    cases H
   have e:=VV p b x H;rw[AH,Ge];omega
theorem VW{o:Bs}{l:List A4}(h:Cz m l=some o):o.length≤m.length+4*Av l:=by
 unfold Cz at h;simp only at h;split at h
 ·simp only[BH]at h;obtain⟨O,H,rfl⟩:=h;have:=iR _ _ H;simp;omega
 cases h
theorem VX(v s:Bs):(Ik v s).length≤5*v.length+4*(s.length+8):=by
 have b:=fX v;unfold Ik;simp only;cases H:Cz ((Ay v).getD ([],[])).1 ((((Ay v).getD ([],[])).2.filter fun f=>!(f.1==Bq))++[(Bq,F4 s)])with
 |none=>simp
 |some o=>
  have h:=VW H;have c:=Tp (fun f=>!(f.1==Bq)) ((Ay v).getD ([],[])).2;rw[Nk]at h;have a:Av [(Bq,F4 s)]=s.length+8:=by
   simp[Av,Bq,F4];omega
  rw[a]at h;simp only[CT];omega
theorem iS(s:Bs):∀l:List A4,Av (D2 l s)≤5*Av l+4*(s.length+8)
 |[]=>by simp[D2,Av]
 |f::l=>by
  unfold D2;split
  ·have:=VX f.2 s;rw[Ge,Ge];simp only;omega
  have:=iS s l;rw[Ge,Ge];omega
theorem VY(e:Bs)(i:Nat)(H:i≤9223372036854775807)(h:List A4):Av (Kw e i h)≤Av h+e.length+40:=by
 have b:=Tp (fun f=>!(A2 f.1==A2 C3)) h;have c:=U2 e i H;unfold Kw;rw[Nk];have a:Av [(C3,F4 (Ce e i))]=(Ce e i).length+13:=by
  simp[Av,C3,F4];omega
 rw[a];omega
theorem iT(s:Bs):∀(l:List (Aj×Bs))(i j:Nat),Bt i (l.map (·.1)) j→(F9 s l i).length≤(s.length-i)+(l.map fun x=>6*x.2.length+2).sum
 |[],i,_,_=>by simp[F9]
 |x::l,i,j,h=>by
  have a:=fG (Kv s x.1) x.2;have H:=h.1;have b:=iT s l (x.1.1+x.1.2.1) j h.2;unfold F9;simp only[AH,BV,AS,DM,IS]at H⊢;omega
theorem iU{e:Bs}(b:e.length≤23):∀(L:List Aj)(l:List (Bs×Int)),(∀x∈l,-9223372036854775808≤x.2∧x.2≤9223372036854775807)→(∀x∈L,x.2.2.length≤x.2.1)→((L.zip ((L.zip l).map fun x=>Ed e x.1.2.2 x.2.2)).map fun x=>6*x.2.length+2).sum≤18*(L.map fun x=>x.2.1).sum+320*L.length
 |[],_,_,_=>by simp
 |_::_,[],_,_=>by simp
 |x::L,y::l,H,v=>by
  have ih:=iU b L l (fun x h=>H x (CA _ h)) (fun x h=>v x (CA _ h));have a:=H y (CD ..);have c:=v x (CD ..);have d:=iP e x.2.2 y.2 a.1 a.2;simp only[List.zip_cons_cons,DM,IS,AO];omega
theorem VZ{a:A3}(j:Iq b)(k:e.length≤23)(m:Fe n p):(Ho e p.body (Fb b p a)).length≤40000000:=by
 have o:=m.fl.2;have c:=Xr j p a;unfold Ho;split
 ·omega
 rename_i q;have H:(Fb b p a).length=(Bf p.body).length:=by
  rcases Xo b p a with h|h
  ·exact absurd h q
  exact h
 generalize Fb b p a=l at c H;have d:=TH p.body;have v:=gM p.body;have i:=(Jb p.body).1;have f:=(Jb p.body).2;unfold Gt;generalize p.body=s at o H d v i f⊢;generalize Bf s=L at H d v i f⊢;have r:=iU k L l c v;have g:((L.zip l).map fun x=>Ed e x.1.2.2 x.2.2).length=L.length:=by rw[DS,EU];omega
 generalize((L.zip l).map fun x=>Ed e x.1.2.2 x.2.2)=V at r g⊢;rw[AM g.symm,CT];have t:=iT s (L.zip V) 0 s.length (by rw[List.map_fst_zip (by omega)];exact i);omega
theorem Fe.par(h:Fe (n+1) p):∀q∈p.parts,Ft n q:=fun _ H=>(h.part H).in
theorem WA(c:e.length≤23)(d:i≤1000000)(h:Fe n p)(H:∃l,D1 b (i:Int)=some l∧(Ho e p.body l).length≤40000000):Ft n (I5 b e i p):=by
 cases n with
 |zero=>exact h.elim
 |succ n=>
  have f:=VY e i (by omega) p.head;have g:=h.head;obtain⟨l,H,a⟩:=H;unfold I5;rw[H];exact⟨by omega,a,by omega,h.par⟩
theorem iV(h:k<b.whole.parts.length)(H:k<b.places.length):D1 b (k:Int)=some (Fb b b.whole.parts[k] b.places[k]):=by
 unfold D1;rw[AI (by omega)];simp[h,H]
theorem WB(h:Iq b)(a:e.length≤23)(H:k<b.whole.parts.length):Ft 3 (I5 b e k b.whole.parts[k]):=by
 have p:=h.whole.part (AN H);have c:=h.whole.head.2.2;exact WA a (by omega) p ⟨_,iV H (by rw[h.places];exact H),VZ h a p⟩
theorem iW(H:Iq b)(r:b.root≤1000000):Ft 4 (Lj b):=by
 have e:=Xs H.whole;have f:=H.whole.head;have g:=iS (Ce (Fc b.whole) b.root) b.whole.head;have j:=U2 (Fc b.whole) b.root (by omega);unfold Lj;refine⟨by omega,by omega,by rw[Mc];omega,fun q c=>?_⟩;obtain⟨k,h,rfl⟩:=IL.1 c;rw[Mc]at h;have a:=Xp b (Fc b.whole) b.whole.parts 0 k h;rw[EX]at a;have d:(Ev b (Fc b.whole) 0 b.whole.parts)[k]'(by rw[Mc];exact h)=I5 b (Fc b.whole) k b.whole.parts[k]:=by
  have:=AZ (l:=Ev b (Fc b.whole) 0 b.whole.parts) (i:=k) (by rw[Mc];exact h);rw[this]at a;exact CS a
 rw[d];exact WB H e h
end Go.Proofs.YtignjjnflcpiiaaGreatDoor
