/- Bind's round with a part. Condition: what the variables h -/
import Derived.Test.YtignjjnflcpiiaaGreatDoorS38
set_option linter.all false
set_option maxHeartbeats 16000000
set_option maxRecDepth 100000
namespace Go.Proofs.YtignjjnflcpiiaaGreatDoor
open Go Go.RowKit Proofs.Tryz Lib
theorem WN{u1 u2 u3 u5 u7 u8 u9 a4 s0 s1 s2 s3 s4 s5 s6 s7 s8 a5 a6 a7 a8 a9 b0 b1 b2 b3 b4 b5 b6 s9 t0 t1 t2 t3 t4 t5 t6 t7 t8 t9 u0 u4 u6 v0 v1 v2 v3 v4 v5 v6 v7 v8 v9 w0 w1 w2 w3 w6 w7 w8 x0 x1 x2 x3 x4 x5 x6 x7 x8 x9 y0 y1 y2 y3 y4 y5 y6 y7 y8 y9 z0 z1 z2 z3 z4 z5 z6 z7 z8 z9 a' b' c' d' e' f' g' h' i' j' k' l' m' n' o' p' q' r' s' t' u' v' w' x' y' z' A' B' C' D' E' F' G' H' I' J' K' L' M' N' O' P' Q' R' b7 b8 b9 c0 c1 c2 c3 c4 c5 c6 c7 c8:Value}(Q:Exit→Act→World→Prop)(J N g i k cap B:Nat)(b:Aw)(q:A8)(R:List Ao)(qa:Option Go.Addr)(qc:Nat)(m:Bool)(t:H7)(e:Bs)(S' T' U':Value)(w:World)
  (q5:Er (fun c=>c≠g) w J b) (c9:Iq b) (hk:k<b.whole.parts.length) (hq:b.whole.parts[k]=q) (E:k<R.length) (P:R[k]=((qa,q.head.length,qc),q.body,m,t))
  (q6:A1 w N #[S',T',U',.slice (some ⟨g,0,none⟩) R.length cap] 44) (F:F3 w B (.slice (some ⟨g,0,none⟩) R.length cap) R) (d0:Aq 2 Au (fun c=>c≠g) w (.slice qa q.head.length qc) q.head)
  (d1:w.cell? ⟨i,0,none⟩=some (.string ⟨e.toArray⟩)) (V':i≠g) (W':e.length≤1000) (hg:Gz w) (hgB:8<B) (q7:∀a,∀x∈Fb b q a,-9223372036854775808≤x.2∧x.2≤9223372036854775807)
  (hN:∀(d2 d3 d4 d5 d6 d7 d8 d9 e0 e1 e2 e3 e4 e5 e6 e7 e8 e9 f0 f1 f2 f3 f4 f5 f6 f7 f8 f9 g0 g1 g2 g3 g4 g5 g6 g7 g8 g9 h0 h1 h2 h3 h4 h5 h6 h7 h8 h9 i0 i1 i2 i3 i4 i5 i6 i7 i8 i9 j0 j1 j2 j3 j4 j5 j6 j7 j8 j9 k0 k1 k2 k3 k4 k5 k6 k7 k8 k9 l0 l1 l2 l3 l4 l5 l6 l7 l8 l9 m0 m1 m2 m3 m4 m5 m6 m7 m8 m9 n0 n1 n2 n3 n4 n5 n6 n7 n8 n9 o0 o1 o2 o3 o4 o5 o6 o7 o8:Value)(u:World)(v:H7),F3 u B (.slice (some ⟨g,0,none⟩) R.length cap) (R.set k (v,Ho e q.body ((D1 b (k:Int)).getD []),m,t))→Aq 2 Au (fun c=>w.heap.size≤c) u (A9 v) (Kw e k q.head)→A5 g w.heap.size w u→Q .normal ⟨List.toArray (.pointer (some ⟨J,0,none⟩)::u1::u2::u3::.pointer (some ⟨N,0,none⟩)::u5::.func (.func 40) #[] #[.pointer (some ⟨i,0,none⟩)]::d2::d3::d4::a4::d5::d6::d7::d8::d9::e0::e1::e2::e3::a5::a6::a7::a8::a9::b0::b1::b2::b3::b4::b5::.int .i64 (k:Int)::b6::e4::e5::e6::e7::e8::e9::f0::f1::f2::f3::f4::f5::f6::f7::f8::f9::g0::g1::g2::g3::g4::g5::g6::g7::g8::g9::h0::h1::h2::h3::h4::h5::h6::h7::h8::h9::i0::i1::i2::i3::i4::i5::i6::i7::i8::i9::j0::j1::j2::j3::j4::j5::j6::j7::j8::j9::k0::k1::k2::k3::k4::k5::k6::k7::k8::k9::l0::l1::l2::l3::l4::l5::l6::l7::l8::l9::m0::m1::m2::m3::m4::m5::m6::m7::m8::m9::n0::n1::n2::n3::n4::n5::n6::n7::n8::n9::o0::o1::o2::o3::o4::o5::o6::o7::o8::b7::b8::b9::c0::c1::c2::c3::c4::c5::c6::c7::c8::[]),[]⟩ u)
  (hX:∀(d2 d3 d4 d5 d6 d7 d8 d9 e0 e1 e2 e3 e4 e5 e6 e7 e8 e9 f0 f1 f2 f3 f4 f5 f6 f7 f8 f9 g0 g1 g2 g3 g4 g5 g6 g7 g8 g9 h0 h1 h2 h3 h4 h5 h6 h7 h8 h9 i0 i1 i2 i3 i4 i5 i6 i7 i8 i9 j0 j1 j2 j3 j4 j5 j6 j7 j8 j9 k0 k1 k2 k3 k4 k5 k6 k7 k8 k9 l0 l1 l2 l3 l4 l5 l6 l7 l8 l9 m0 m1 m2 m3 m4 m5 m6 m7 m8 m9 n0 n1 n2 n3 n4 n5 n6 n7 n8 n9 o0 o1 o2 o3 o4 o5 o6 o7 o8:Value)(u:World)(v:H7),F3 u B (.slice (some ⟨g,0,none⟩) R.length cap) (R.set k (v,Ho e q.body ((D1 b (k:Int)).getD []),m,t))→Aq 2 Au (fun c=>w.heap.size≤c) u (A9 v) (Kw e k q.head)→A5 g w.heap.size w u→Q (.exit 1) ⟨List.toArray (.pointer (some ⟨J,0,none⟩)::u1::u2::u3::.pointer (some ⟨N,0,none⟩)::u5::.func (.func 40) #[] #[.pointer (some ⟨i,0,none⟩)]::d2::d3::d4::a4::d5::d6::d7::d8::d9::e0::e1::e2::e3::a5::a6::a7::a8::a9::b0::b1::b2::b3::b4::b5::.int .i64 (k:Int)::b6::e4::e5::e6::e7::e8::e9::f0::f1::f2::f3::f4::f5::f6::f7::f8::f9::g0::g1::g2::g3::g4::g5::g6::g7::g8::g9::h0::h1::h2::h3::h4::h5::h6::h7::h8::h9::i0::i1::i2::i3::i4::i5::i6::i7::i8::i9::j0::j1::j2::j3::j4::j5::j6::j7::j8::j9::k0::k1::k2::k3::k4::k5::k6::k7::k8::k9::l0::l1::l2::l3::l4::l5::l6::l7::l8::l9::m0::m1::m2::m3::m4::m5::m6::m7::m8::m9::n0::n1::n2::n3::n4::n5::n6::n7::n8::n9::o0::o1::o2::o3::o4::o5::o6::o7::o8::b7::b8::b9::c0::c1::c2::c3::c4::c5::c6::c7::c8::[]),[]⟩ u):
  Code.wp prog Ri Q ⟨List.toArray (.pointer (some ⟨J,0,none⟩)::u1::u2::u3::.pointer (some ⟨N,0,none⟩)::u5::.func (.func 40) #[] #[.pointer (some ⟨i,0,none⟩)]::u7::u8::u9::a4::s0::s1::s2::s3::s4::s5::s6::s7::s8::a5::a6::a7::a8::a9::b0::b1::b2::b3::b4::b5::.int .i64 (k:Int)::b6::s9::t0::t1::t2::t3::t4::t5::t6::t7::t8::t9::u0::u4::u6::v0::v1::v2::v3::v4::v5::v6::v7::v8::v9::w0::w1::w2::w3::w6::w7::w8::x0::x1::x2::x3::x4::x5::x6::x7::x8::x9::y0::y1::y2::y3::y4::y5::y6::y7::y8::y9::z0::z1::z2::z3::z4::z5::z6::z7::z8::z9::a'::b'::c'::d'::e'::f'::g'::h'::i'::j'::k'::l'::m'::n'::o'::p'::q'::r'::s'::t'::u'::v'::w'::x'::y'::z'::A'::B'::C'::D'::E'::F'::G'::H'::I'::J'::K'::L'::M'::N'::O'::P'::Q'::R'::b7::b8::b9::c0::c1::c2::c3::c4::c5::c6::c7::c8::[]),[]⟩ w:=by
 have HN:=AB hN;have HX:=AB hX;have X':=AB q5;have Y':=AB q7;have HQ:=AB hq;have o9:=c9.whole.part (AN hk);rw[hq]at o9;have p0:=o9.fl.1;have hqb:=o9.fl.2;have HH:=AB (by rfl:Kw e k q.head=(q.head.filter fun f=>!(A2 f.1==A2 C3))++[(C3,F4 (Ce e k))]);have hge:=A0.Fp F g rfl;have a05:=A0.Do F g rfl;have p1:=A0.cellAt Db F k E 0 (by decide);have q8:=A0.cellAt Db F k E 1 (by decide);have S:=AB (fun(W:World)(o:F3 W B (.slice (some ⟨g,0,none⟩) R.length cap) R)(s:H7)=>A0.iN Db o k 0 E (by decide) (A9 s) (s,(R[k]).2) rfl);have T:=AB (fun(W:World)(o:F3 W B (.slice (some ⟨g,0,none⟩) R.length cap) R)=>A0.cellAt Db o k E 0 (by decide));simp only[P]at S T p1 q8;simp only[D5,A9,AR,AT,BI]at p1 q8 T S;have hkw:=q6.cell;have hk0:(0:Int)≤k:=by omega
 have hk1:(k:Int)<R.length:=by omega
 have Z':=AB P;have HK:=AB hk;have HBC:=AB q6;have hkb:k≤20002:=by have:=c9.whole.head.2.2;omega
 have q9:=AY w _ d1;generalize r0:q.head=H at d0 p0 HH p1 P Z' S T;have HHE:=AB r0;clear r0 hN hX q5 q7 hq P;have hhl:=p0.1;have HQW:=AB p0;delta Ri f11;dsimp only[E5,O3,Mb,Option.getD];go_wp2_with fail;go_loopw[9,43] (fun pv iv wr=>∃(j:Nat)(O:List A4),iv=.int .i64 j∧j≤H.length∧O.length≤j∧Bk wr w.heap.size pv O∧Hid (O++(H.drop j).filter (fun f=>!(A2 f.1==A2 C3))=H.filter fun f=>!(A2 f.1==A2 C3))∧Below w.heap.size w wr) (fun _ iv _=>H.length-(intOf iv).toNat)
 case atStart=>exact⟨0,[],rfl,by omega,by simp,A0.nil _ _ _ _ _,AB (by simp),AD _ _⟩
 obtain⟨j,O,rfl,hj,hol,U,X,z⟩:=hrel;have r1:=z.size;by_cases p2:j<H.length
 ·obtain⟨qb,rfl,_,r2,p3⟩:=d0.at Ah j p2;have p4:=(z.cell (p:=⟨qb,j*2+0,none⟩) r2).trans (p3 0 (by decide));have p5:=(z.cell (p:=⟨qb,j*2+1,none⟩) r2).trans (p3 1 (by decide));have Y:=HQW.o.2 _ (AN p2);have l:=AB (show∀f,H[j]=f→(O++(if !(A2 f.1==A2 C3)then f::(H.drop (j+1)).filter (fun f=>!(A2 f.1==A2 C3))else(H.drop (j+1)).filter (fun f=>!(A2 f.1==A2 C3))))=H.filter fun f=>!(A2 f.1==A2 C3)from fun f Y=>by
   rw[←X.o,AE p2,Y,DA])
  have l:=AB (l.o _ rfl);clear p3 X;generalize H[j]=f at p4 p5 l Y;obtain⟨x,y⟩:=f;simp only[Au,BI,AR,AT]at p4 p5 l Y;have G:=(AD wr.heap.size wr).alloc (AC _) (.cells #[.string ⟨x.toArray⟩,.string ⟨y.toArray⟩] 92);have K:=A1.new wr #[.string ⟨x.toArray⟩,.string ⟨y.toArray⟩] 92;have p6:=fun W=>G0 x W (by omega)
  have p7:=fun W=>G0 [67,111,110,116,101,110,116,45,73,68] W (by decide)
  have Z:=AB (by rfl:A2 C3=A2 [67,111,110,116,101,110,116,45,73,68]);generalize A2 [67,111,110,116,101,110,116,45,73,68]=L at p7 Z;rw[show A2 C3=L from Z.o]at l;generalize r3:A2 x=lx at p6 l;have HLX:=AB r3;clear r3;have r4:=K.cell;have M:=A0.next U G;go_upto_region 12 with fail;generalize World.alloc _ _=a06 at G K r4 M⊢;go_wp2_with fail;with_reducible refine(p6 _).mono ?_
  rintro r a07⟨rfl,p8⟩;go_wp2_with fail;with_reducible refine(p7 _).mono ?_
  rintro r w4⟨rfl,r5⟩;have a0:=p8.trans (r5.mono p8.size);have K:=K.next a0 K.lt;have G:=G.trans (a0.mono G.size);have B4:=z.trans (G.mono r1);have M:=A0.next M a0;have r4:=K.cell;have hs4:=B4.size;clear p6 p7 p8 r5 a0 U z p4 p5;by_cases I:lx=L
  ·have D:=AB (by rw[←l.o,I];simp:O++(H.drop (j+1)).filter (fun f=>!(A2 f.1==L))=H.filter fun f=>!(A2 f.1==L));have D:=AB (by rw[Z.o];exact D.o:O++(H.drop (j+1)).filter (fun f=>!(A2 f.1==A2 C3))=H.filter fun f=>!(A2 f.1==A2 C3));have he2:(lx==L)=true:=by rw[BG];exact I
   clear l I;go_wp2_with fail;go_roundw
   case rel=>exact⟨j+1,O,by go_num,by omega,by omega,M,D,B4⟩
   simp[intOf];omega
  have D:=AB (show(O++[(x,y)])++(H.drop (j+1)).filter (fun f=>!(A2 f.1==L))=H.filter fun f=>!(A2 f.1==L)from by
   rw[←l.o,(by rw[AG];exact I:(lx==L)=false)];simp)
  have D:=AB (by rw[Z.o];exact D.o:(O++[(x,y)])++(H.drop (j+1)).filter (fun f=>!(A2 f.1==A2 C3))=H.filter fun f=>!(A2 f.1==A2 C3));have he2:(lx==L)=false:=by rw[AG];exact I
  have a00:=A0.alloc M (.cells #[.string ⟨x.toArray⟩,.string ⟨y.toArray⟩] 92);clear l I;go_wp2_with(at_builtin;refine Ng rfl _ _ rfl w.heap.size _ O (x,y) w4.heap.size 1 rfl a00 rfl (Gl w4 (x,y) _) (by omega) (by simp;omega) ?_;intro a01 w9 a1 hg9 p9);go_wp2_with fail;go_roundw
  case rel=>exact⟨j+1,O++[(x,y)],by go_num,by omega,by simp;omega,a1,D,(B4.alloc hs4 _).trans p9⟩
  simp[intOf];omega
 obtain rfl:j=H.length:=by omega
 have HF:=AB (by rw[←X.o,AQ];simp:(H.filter fun f=>!(A2 f.1==A2 C3))=O);have a2:=AB (by rw[HH.o,HF.o]:Kw e k H=O++[(C3,F4 (Ce e k))]);have r6:=(z.cell (p:=⟨i,0,none⟩) q9).trans d1;have q0:=Xn (k:Int) e i wr (by omega) (by omega) r6 (by omega) (hg.next z);have hnl:(Ce e (k:Int)).length≤1100:=by
  have:=CJ (k:Int) (by omega) (by omega);unfold Ce;simp;omega
 have a3:=AB (show∀n,Ce e (k:Int)=n→Kw e k H=O++[([67,111,110,116,101,110,116,45,73,68],60::(n++[62]))]from fun n hn=>by rw[a2.o,hn];rfl);have a3:=AB (a3.o _ rfl);generalize Ce e (k:Int)=nm at q0 hnl a3;clear a2 HF X HH r6;go_upto_region 15 with fail;go_cut[]from 57 to 68 (fun wx=>∃sv:H7,F3 wx B (.slice (some ⟨g,0,none⟩) R.length cap) (R.set k (sv,q.body,m,t))∧Aq 2 Au (fun c=>w.heap.size≤c) wx (A9 sv) (Kw e k H)∧A5 g w.heap.size w wx)
 case first=>
  go_wp2_with fail;with_reducible refine q0.mono ?_
  rintro r w5⟨rfl,q1⟩;have hq5:=A0.next U q1;have B5:=z.trans (q1.mono r1);have hs5:=B5.size;have hqA:=A0.alloc hq5 (.cells #[.string ⟨([67,111,110,116,101,110,116,45,73,68]:Bs).toArray⟩,.string ⟨(60::(nm++[62]):Bs).toArray⟩] 92);have r7:=fun W(hb:Below w.heap.size w W)=>A0.below F hb (fun b e=>by injection e with e;simp only at e;omega)
  have HOG:=AB r7;clear r7 q0 q1 U z F d0;go_wp2_with(at_builtin;refine Ng rfl _ _ rfl w.heap.size _ O ([67,111,110,116,101,110,116,45,73,68],60::(nm++[62])) w5.heap.size 1 rfl hqA rfl (Gl w5 ([67,111,110,116,101,110,116,45,73,68],60::(nm++[62])) _) (by omega) (by simp;omega) ?_;intro a01 w9 a1 hg9 p9;have K9:=AB ((B5.alloc hs5 (.cells #[.string ⟨([67,111,110,116,101,110,116,45,73,68]:Bs).toArray⟩,.string ⟨(60::(nm++[62]):Bs).toArray⟩] 92)).trans p9);have q2:=HOG.o _ K9.o;have hf9:=A0.free q2;have cl9:=T.o _ q2;obtain⟨V,d,hve,_⟩:=A0.rd Nat.two_pos Ah a1;subst hve);go_wp2_with fail;go_meet;have q3:=S.o _ q2 (V,O.length+1,d);have A:A5 g w.heap.size w (w9.setCell ⟨g,k*4,none⟩ (.slice V (O.length+1) d)):=(A5.of K9.o).set _;refine⟨(V,O.length+1,d),q3,?_,A⟩;rw[a3.o];refine Aq.set ?_ _ (by simp only;omega);have r8:=(A0.Dn (by decide) Ah a1).Ad (Q:=fun c=>w.heap.size≤c) (fun c h _=>h.1);simp only[AH,ES]at r8;exact r8
 case rest=>
 rename_i hK;obtain⟨⟨V,C,d⟩,q3,a02,A⟩:=hcut;obtain⟨wy,rfl⟩:∃x:World,x=wc:=⟨_,rfl⟩;have q4:(R.set k ((V,C,d),q.body,m,t)).length=R.length:=by simp
 have a03:(R.set k ((V,C,d),q.body,m,t))[k]'(by rw[q4];exact E)=((V,C,d),q.body,m,t):=by simp
 have a04:wy.cell? ⟨i,0,none⟩=some (.string ⟨e.toArray⟩):=(A.cell (p:=⟨i,0,none⟩) q9 (by simp only;exact V')).trans d1;have a2:=HHE.o;subst a2;refine hK _ _ ?_;refine VS _ J g i k cap B b q (R.set k ((V,C,d),q.body,m,t)) e _ (Er.Ad (fun _ _ _=>trivial) (X'.o.keep A.size (fun c hP hlt=>A.block c hlt hP))) c9 HK.o HQ.o (by rw[q4];exact E) (by rw[a03]) (by rw[q4];exact q3) a04 W' (hg.Ag A (by omega)) Y'.o ?_ ?_;all_goals
  intros
  rename_i wz ho hb;have HO:=AB ho;have BZ:=A.trans (hb.mono A.size);have r9:=a02.Ag hb (by omega);clear ho;have HO:=AB (show F3 wz B (.slice (some ⟨g,0,none⟩) R.length cap) (R.set k ((V,C,d),Ho e q.body ((D1 b (k:Int)).getD []),m,t))from by
   have:=HO.o;simp only[IG,List.set_set,EV]at this;exact this)
  first
   |exact HN.o _ _ _ _ _ _ _ _ _ _ _ _ _ _ _ _ _ _ _ _ _ _ _ _ _ _ _ _ _ _ _ _ _ _ _ _ _ _ _ _ _ _ _ _ _ _ _ _ _ _ _ _ _ _ _ _ _ _ _ _ _ _ _ _ _ _ _ _ _ _ _ _ _ _ _ _ _ _ _ _ _ _ _ _ _ _ _ _ _ _ _ _ _ _ _ _ _ _ _ _ _ _ _ _ _ _ _ _ _ _ _ _ _ _ _ _ _ wz (V,C,d) HO.o r9 BZ
   |exact HX.o _ _ _ _ _ _ _ _ _ _ _ _ _ _ _ _ _ _ _ _ _ _ _ _ _ _ _ _ _ _ _ _ _ _ _ _ _ _ _ _ _ _ _ _ _ _ _ _ _ _ _ _ _ _ _ _ _ _ _ _ _ _ _ _ _ _ _ _ _ _ _ _ _ _ _ _ _ _ _ _ _ _ _ _ _ _ _ _ _ _ _ _ _ _ _ _ _ _ _ _ _ _ _ _ _ _ _ _ _ _ _ _ _ _ _ _ _ wz (V,C,d) HO.o r9 BZ
def O5(P:Nat→Prop)(w:World)(b:Aw)(e:Bs)(raws r:List Ao)(k:Nat):Prop:=r.length=raws.length∧(∀j(h:j<r.length)(H:j<b.whole.parts.length),j<k→A7 P 3 w r[j] (I5 b e j b.whole.parts[j]))∧∀j,k≤j→r[j]?=raws[j]?
variable {P:Nat → Prop}{k lb B p:Nat}{raws R:List Ao}{e Z s:Bs}
theorem O5.next{w w':World}{b:Aw}{r:List Ao}(h:O5 P w b e raws r k)(H:A5 lb w.heap.size w w')(l:¬P lb):O5 P w' b e raws r k:=⟨h.1,fun j a c d=>(h.2.1 j a c d).Ag H l,h.2.2⟩
theorem O5.step{w:World}{b:Aw}(h:O5 P w b e raws R k)(f:k<b.whole.parts.length)(r:Ao)(a:A7 P 3 w r (I5 b e k b.whole.parts[k])):O5 P w b e raws (R.set k r) (k+1):=by
 refine⟨by rw[EV];exact h.1,fun j H c d=>?_,fun j d=>?_⟩
 ·rw[EV]at H;by_cases e:j=k
  ·subst e;rw[IG];exact a
  rw[List.getElem_set_ne (fun x=>e x.symm)];exact h.2.1 j H c (by omega)
 rw[List.getElem?_set_ne (by omega)];exact h.2.2 j (by omega)
theorem WO(P:Nat→Prop)(bp:Nat)(b:Aw)(w:World)(h:Er P w bp b)(p:Iq b)(f1:b.root≤1000000)(I:Gz w):Calls prog 11 #[.pointer (some ⟨bp,0,none⟩)] w fun e w'=>gK (R6 b) e∧Below w.heap.size w w':=by
 have J:=Er.Ad (Q:=fun c=>c<w.heap.size) (fun b _ h=>h) h;have f2:=AB J;obtain⟨Z,sa,si,f3,O,c1,_⟩:=J;have HN:=AB (by rfl:R6 b=Ig (Lj b));have f4:=AB (iW p f1);have HW:=AB (by rfl:Lj b=.mk (D2 b.whole.head (Ce (Fc b.whole) b.root)) b.whole.body b.whole.many (Ev b (Fc b.whole) 0 b.whole.parts));have hC:=iA 3 Z b.whole w (A7.Ad (fun _ _ _=>trivial) c1) p.whole.in;have f5:=Xs p.whole;have f6:=I.size;obtain⟨⟨xa,xn,xc⟩,xb,xm,⟨k1,k2,k3⟩⟩:=Z;unfold Gi at O;simp only[A9]at O;simp only[Bm,A9]at hC;have kb:=O.cell;have k4:=p.whole.head.2.2;have f7:=Em p.whole.head.1;clear h c1;go_enter func11,ntmps11;go_wp2_with fail;with_reducible refine hC.mono ?_
 rintro r W⟨⟨f8,rfl,c2⟩,b1⟩;have k5:=I.next b1;have f9:=b1.size;have c3:=c2.rd;obtain⟨⟨d,hn,H⟩,bd,mn,⟨u,pn,x⟩⟩:=f8;obtain⟨c4,c5,q,R,f,a0,a1,a9⟩:=c2;simp only[A9]at c4 c5 q f a1 a9;have g0:hn=b.whole.head.length:=by
  obtain⟨a,c,e,_⟩:=A0.rd (by decide) Ah q;injection e
 have g1:pn=R.length:=by
  obtain⟨a,c,e,_⟩:=A0.rd (by decide) Db f;injection e
 subst g0 g1;subst c4 c5;clear hC kb;have b0:=A0.Do q;have c6:=A0.Fp q;have c7:=A0.Do f;have g2:=A0.Fp f;have K:=A1.new W #[.slice d b.whole.head.length H,.string ⟨(b.whole.body).toArray⟩,.bool b.whole.many,.slice u R.length x] 44;have L:=(AD W.heap.size W).alloc (AC _) (.cells #[.slice d b.whole.head.length H,.string ⟨(b.whole.body).toArray⟩,.bool b.whole.many,.slice u R.length x] 44);have k6:R.length≤b.whole.parts.length:=JA a0;have k7:b.whole.parts.length≤R.length:=JA a0.symm;clear a0;go_upto_region 2 with fail;generalize World.alloc _ _=w2 at K L⊢;have B2:=b1.trans (L.mono f9);have hS:=VN ((d,b.whole.head.length,H),b.whole.body,b.whole.many,(u,R.length,x)) b.whole w2 (A7.Ad (fun _ _ _=>trivial) (c3.next L)) p.whole (I.next B2);simp only[Bm,A9]at hS;have c8:=K.cell;have g3:=L.size;generalize Fc b.whole=e at hS f5 HW;clear c3;go_wp2_with fail;with_reducible refine hS.mono ?_
 rintro r M⟨rfl,S⟩;have K:=K.next S K.lt;have B3:=B2.trans (S.mono B2.size);have b2:=L.trans (S.mono g3);have a2:=A1.new M #[.string ⟨e.toArray⟩] 9;have T:=(AD M.heap.size M).alloc (AC _) (.cells #[.string ⟨e.toArray⟩] 9);have k8:=S.size;go_upto_region 3 with fail;generalize World.alloc _ _=w4 at a2 T⊢;have K:=K.next T K.lt;have U:=B3.trans (T.mono B3.size);have a3:=b2.trans (T.mono b2.size);have k9:=T.size;have l0:=a3.size;have l1:=K.lt;have l2:=a2.lt;have c9:=U.size;clear hS S L b2 c8 B3 B2;have g4:∃G,(0<R.length→u=some ⟨G,0,none⟩∧G<W.heap.size)∧w.heap.size≤G∧(∀c,c<W.heap.size→(Value.slice u R.length x).ownBlock≠some c→c≠G)∧G≠W.heap.size∧G≠M.heap.size∧(Value.slice d b.whole.head.length H).ownBlock≠some G:=by
  rcases f.2 with⟨_,l3⟩|⟨g,l4,l5,hv,g5,_⟩
  ·refine⟨w4.heap.size,fun h=>by omega,c9,fun c H _=>by omega,by omega,by omega,fun e=>?_⟩;have:=b0 _ e;omega
  injection hv with hv _ _;subst hv;have y:=c7 g rfl;exact⟨g,fun _=>⟨rfl,y⟩,g5,fun c _ g6 e=>g6 (by rw[e];rfl),by omega,by omega,fun e=>a1 g e rfl⟩
 obtain⟨G,d0,g7,d1,d2,b3,d3⟩:=g4;have g8:=AB a9;have g9:=AB d0;have h0:=AB d1;have d4:=AB d3;have a4:=AB b0;have h1:=AB c6;have h2:=AB a1;have d5:=AB K;have d6:=A0.next f a3;have h3:=A0.next q a3;have h4:=AB f7;have c8:=K.cell;have d7:=I.next U;have b4:=O.next U f3;have h6:=AB (f2.o.next U);clear a9 d0 d1 d3 b0 c6 c7 g2 a1 f q K O;go_wp2_with fail;go_loopw[31] (fun iv wr=>∃(k:Nat)(o:List Ao),iv=.int .i64 k∧k≤b.whole.parts.length∧F3 wr w.heap.size (.slice u R.length x) o∧Hid (O5 (fun c=>w.heap.size≤c∧(Value.slice d b.whole.head.length H).ownBlock≠some c∧c≠G) wr b e R o k)∧A5 G w4.heap.size w4 wr) (fun iv _=>b.whole.parts.length-(intOf iv).toNat)
 case atStart=>exact⟨0,R,rfl,by omega,d6,AB ⟨rfl,fun j _ _ h=>by omega,fun _ _=>rfl⟩,A5.refl _ _ _⟩
 clear d6;obtain⟨k,o,rfl,hk,f,z,B⟩:=hrel;have d8:=B.size;by_cases b5:k<b.whole.parts.length
 ·obtain⟨h7,l6⟩:=g9.o (by omega);subst h7;have hL:=z.o.1;have d9:k<o.length:=by omega
  have e0:o[k]=R[k]'(by omega):=by
   have:=z.o.2.2 k (AC _);rw[AZ d9,AZ (by omega)]at this;exact CS this
  have A:=(((A7.Ad (Q:=fun c=>w.heap.size≤c∧(Value.slice d b.whole.head.length H).ownBlock≠some c∧c≠G) (fun c h H=>⟨h.1,h.2.1,h0.o c H h.2.2⟩) (g8.o k (by omega) b5)).next a3).Ag B (by omega));have J:=((Er.Ad (Q:=fun c=>c≠G∧c<w4.heap.size) (fun c(h:c<w.heap.size)_=>⟨by omega,by omega⟩) h6.o).keep d8 (fun c hP _=>B.block c hP.2 hP.1));have J:=Er.Ad (Q:=fun c=>c≠G) (fun c h _=>h.1) J;have V:=d5.o.Ag B (fun e=>d2 e.symm);have a5:=(a2.Ag B (fun e=>b3 e.symm)).cell 0;rw[←hL]at f V;have h8:=fun a=>Xr p b.whole.parts[k] a
  have i0:=AB (fun(X:World)(r:Ao)(hz:A5 G wr.heap.size wr X)(C:A7 (fun c=>w.heap.size≤c∧(Value.slice d b.whole.head.length H).ownBlock≠some c∧c≠G) 3 X r (I5 b e k b.whole.parts[k]))=>(z.o.next hz (by omega)).step b5 r C);rw[←e0]at A;have b6:=A.body;have b7:=A.mn;obtain⟨i1,a6,i2,e1⟩:=A.parts;have N:=A.hd;generalize i3:o[k]=Z at A b6 b7 a6 N;obtain⟨⟨qa,qn,qc⟩,qb,qm,qp⟩:=Z;simp only[A9]at b6 b7 a6 N;have i4:qn=(b.whole.parts[k]).head.length:=by
   obtain⟨a,c,e,_⟩:=N.rd;injection e
  subst b6 b7 i4;have i5:=AB a6;have i6:=AB e1;have a7:=d7.Ag B (by omega);have N:=N.Ad (Q:=fun c=>c≠G) (fun c h _=>h.2.2);have i7:=AB i3;clear a6 e1 A e0 z b4;go_upto_block 1 with fail;refine wp_block (WN _ bp W.heap.size G M.heap.size k x w.heap.size b b.whole.parts[k] o qa qc (b.whole.parts[k]).many qp e _ _ _ wr J p b5 rfl d9 i7.o V f N a5 (fun e=>b3 e.symm) (by omega) a7 f6 h8 ?_ ?_);all_goals
   intros
   rename_i X v ho e2 hb;have e3:A7 (fun c=>w.heap.size≤c∧(Value.slice d b.whole.head.length H).ownBlock≠some c∧c≠G) 3 X (v,Ho e (b.whole.parts[k]).body ((D1 b (k:Int)).getD []),(b.whole.parts[k]).many,qp) (I5 b e k b.whole.parts[k]):=by
    unfold I5;refine⟨rfl,rfl,e2.Ad (fun c h _=>⟨by omega,fun e=>by have:=a4.o c e;omega,by omega⟩),i1,i5.o.Ag hb (by omega),i2,fun j y t=>(i6.o j y t).Ag hb (by omega)⟩
   have i8:=AB (i0.o X _ hb e3);have BZ:=B.trans (hb.mono d8);rw[hL]at ho;clear e3 e2;simp only[Exit.inBlock,Exit.then,DC];go_wp2_with fail;go_roundw
   case rel=>exact⟨_,_,_,_,_,_,_,_,_,_,_,_,.int .i64 ((k:Int)+1),_,_,_,_,_,_,_,_,_,_,_,_,_,_,_,_,_,_,_,_,_,_,_,_,_,_,_,_,_,_,_,_,_,_,_,_,_,_,_,_,_,_,_,_,_,_,_,_,_,_,_,_,_,_,_,_,_,_,_,_,_,_,_,_,_,_,_,_,_,_,_,_,_,_,_,_,_,_,_,_,_,_,_,_,_,_,_,_,_,_,_,_,_,_,_,_,_,_,_,_,_,_,_,_,_,_,_,⟨k+1,o.set k (v,Ho e (b.whole.parts[k]).body ((D1 b (k:Int)).getD []),(b.whole.parts[k]).many,qp),by go_num,by omega,ho,i8,BZ⟩,rfl⟩
   simp[intOf];omega
 obtain rfl:k=b.whole.parts.length:=by omega
 have hL:=z.o.1;have l7:o.length≤b.whole.parts.length:=by omega
 have a7:=d7.Ag B (by omega);have i9:=(b4.Ag B (by omega)).cell;have a5:=(a2.Ag B (fun e=>b3 e.symm)).cell 0;have V:=d5.o.Ag B (fun e=>d2 e.symm);have b8:=Xn (b.root:Int) e M.heap.size wr (by omega) (by omega) a5 (by omega) a7;have j0:=U2 e b.root (by omega);generalize Ce e (b.root:Int)=nm at b8 j0 HW;have q:=h3.Ll (w':=wr) (fun c H=>B.block c (by have:=a4.o c H;omega) (fun e=>d4.o (e▸H)));clear hL;go_wp2_with fail;with_reducible refine b8.mono ?_
 rintro r Y⟨rfl,m⟩;have a8:=V.next m V.lt;have j1:=A0.next q m;have e4:=a7.next m;have e5:=VG W.heap.size d H b.whole.head _ _ _ nm w.heap.size Y a8 j1 (by omega) (fun g I e=>by subst I;have:=a4.o g rfl;omega) (h4.o.mono (by decide)) (by omega) e4.r;clear b8 i9 a5 b4;go_wp2_with fail;with_reducible refine e5.mono ?_
 rintro r D⟨rfl,e6,E⟩;clear e5;have hx:∃n,n≠W.heap.size∧n≠G∧w.heap.size≤n∧((Value.slice d b.whole.head.length H).ownBlock=some n∨D.heap.size≤n)∧A5 n Y.heap.size Y D:=by
  rcases E with E|⟨n,j2,E⟩
  ·refine⟨D.heap.size+G+1,?_,by omega,?_,Or.inr (by omega),A5.of E⟩
   ·have:=a8.lt;have:=E.size;omega
   have:=E.size;have:=m.size;omega
  subst j2;have y:=a4.o n rfl;exact⟨n,by omega,fun e=>d4.o (by rw[←e];rfl),h1.o n rfl,Or.inl rfl,E⟩
 obtain⟨n,j3,l8,j4,e7,F⟩:=hx;have e8:=a8.Ag F (fun e=>j3 e.symm);have j5:=e4.Ag F (by omega);have l9:=e8.cell;have e9:=((A0.next f m)).Ll (w':=D) (fun c H=>by
  have y:=A0.Do f c H;refine F.block c (by have:=m.size;omega) (fun e=>?_);subst e;rcases e7 with h|h
  ·exact h2.o _ h H
  have:=m.size;have:=F.size;omega)
 have f0:A7 (fun _=>True) 4 D ((d,b.whole.head.length,H),b.whole.body,b.whole.many,(u,R.length,x)) (Lj b):=by
  rw[HW.o];have m0:=m.size;have m1:=F.size;have a0:=z.o.1;refine⟨rfl,rfl,(A0.Dn (by decide) Ah e6).Ad (fun _ _ _=>trivial),o,(A0.Dn (by decide) Db e9).Ad (fun _ _ _=>trivial),by rw[Mc];omega,fun j y t=>?_⟩;rw[Mc]at t;have h5:=Xp b e b.whole.parts 0 j t;rw[EX]at h5;have j6:(Ev b e 0 b.whole.parts)[j]'(by rw[Mc];exact t)=I5 b e j b.whole.parts[j]:=by
   have:=AZ (l:=Ev b e 0 b.whole.parts) (i:=j) (by rw[Mc];exact t);rw[this]at h5;exact CS h5
  rw[j6];have j7:=(z.o.2.1 j y t t).next m;have j8:=A7.Ad (Q:=fun c=>(Value.slice d b.whole.head.length H).ownBlock≠some c∧c<Y.heap.size) (fun c h H=>⟨h.2.1,H⟩) j7;refine A7.Ad (fun _ _ _=>trivial) (j8.Ag F (fun h=>?_));rcases e7 with h9|h9
  ·exact h.1 h9
  have:=h.2;omega
 have b9:=SW 4 _ (Lj b) D f0 f4.o j5;rw[←HN.o]at b9;simp only[Bm,A9]at b9;have B6:Below w.heap.size w D:=(U.trans ((B.mono c9).shut g7)).trans (((m.mono (by omega)):Below w.heap.size wr Y).trans ((F.mono (by have:=m.size;omega)).shut j4));clear f0 e9 e6 e8 a8;go_wp2_with fail;with_reducible refine b9.mono ?_
 rintro r w7⟨hh,j9⟩;have B7:=B6.trans (j9.mono B6.size);rcases hh with⟨s,C,k0,rfl⟩|⟨c,C,rfl⟩
 ·have c0:=AB C;clear C;go_wp2_with fail;go_ret2;exact⟨Or.inl ⟨s,c0.o,k0,rfl⟩,B7⟩
 have c0:=AB C;clear C;go_wp2_with fail;go_ret2;exact⟨Or.inr ⟨c,c0.o,rfl⟩,B7⟩
def Xw(B:Nat)(r:Option (Bs×List A4))(e:Ending)(w':World):Prop:=(∃m l v,r=some (m,l)∧e=.returned (.tuple #[.string ⟨m.toArray⟩,v,.int .i64 0])∧J2 w' B v l)∨(r=none∧e=.returned (.tuple #[.string ⟨#[]⟩,.slice none 0 0,.int .i64 3]))
structure Hs(w0 w:World)(bb:Nat)(z:Bs)(q:Bool)(o:Value)(out:List A4):Prop where
 r:Gh w bb z q
 l:J2 w (bb+1) o out
 b:A5 bb w0.heap.size w0 w
theorem Hs.next{w0 w w':World}{z:Bs}{q Q:Bool}{o:Value}{out:List A4}(h:Hs w0 w B z q o out)(k:Gh w' B Z Q)(b:A5 B w.heap.size w w'):Hs w0 w' B Z Q o out:=⟨k,A0.Ag h.l b (by omega),h.b.trans (b.mono h.b.size)⟩
theorem Hs.more{w0 w w':World}{z:Bs}{q:Bool}{o:Value}{out:List A4}(h:Hs w0 w B z q o out)(b:Below w.heap.size w w'):Hs w0 w' B z q o out:=h.next (h.r.next b h.r.lt) (A5.of b)
theorem Hs.Ps{w0 w:World}{b:Nat}{z:Bs}{q:Bool}{o:Value}{out:List A4}(h:Hs w0 w b z q o out)(Q:Bool):Hs w0 (w.setCell ⟨b,1,none⟩ (.bool Q)) b z Q o out:=h.next (by have:=h.r.set 1 (.bool Q);simpa using this) ((A5.refl _ _ _).set _)
theorem Hs.Xx{w0 w:World}{b:Nat}{z:Bs}{q:Bool}{o:Value}{out:List A4}(h:Hs w0 w b z q o out)(H:b<p)(d:w0.heap.size≤b)(a:∀g,o.ownBlock=some g→g<p)(u:Value):Hs w0 (w.setCell ⟨p,1,none⟩ u) b z q o out:=⟨(Gp w ⟨p,1,none⟩ u b (DX H)).trans h.r,A0.Ll h.l fun g c=>Gp w ⟨p,1,none⟩ u g (DX (a g c)),h.b.own (by show w0.heap.size≤p;omega) u⟩
theorem WP(h:∀r,s≠34::r):Ii s=if s.takeWhile Ac=[]then none else some (s.takeWhile Ac,s.dropWhile Ac):=by
 unfold Ii;split
 ·rename_i r;exact absurd rfl (h r)
 rfl
theorem Rk(s:Bs)(w:World)(hl:s.length≤1000000000)(hg:Cb w):Calls prog 55 #[.string ⟨s.toArray⟩] w fun e J=>Xw w.heap.size (Ay s) e J∧Below w.heap.size w J:=by
 obtain⟨C,f,X,a8,b2⟩:=zE s;have R:=AB b2;clear b2;have b3:s.length=C.length+f.length:=by rw[X,AH]
 have a1:Calls prog 66 #[.string ⟨s.toArray⟩,.string ⟨#[59]⟩] w fun e J=>e=.returned (.int .i64 (if f=[]then-1 else(C.length:Int)))∧J=w:=by
  have h:=Tryz.strings_Index_one ⟨s.toArray⟩ 59 w;rcases a8 with⟨H,hn⟩|⟨r,H,hn⟩
  ·rw[(by simp:(⟨s.toArray⟩:ByteArray).data.toList=s),RF hn]at h;rw[AM H];exact h
  rw[(by rw[X,H]:(⟨s.toArray⟩:ByteArray).data.toList=C++59::r),RE hn]at h;rw[AI (by rw[H];simp)];exact h
 have c7:=AB (show s.take C.length=C by rw[X,List.take_left]);have c8:=AB (show s.drop C.length=f by rw[X,List.drop_left]);have b4:=AB (show f=[]∨∃r,f=59::r from a8.imp And.left fun⟨r,h,_⟩=>⟨r,h⟩);clear X a8;have a2:∀W,Calls prog 114 #[.string ⟨(s.take C.length).toArray⟩] W fun e J=>e=.returned (.string ⟨(trimS C [32,9]).toArray⟩)∧J=W:=by
  intro W;rw[c7.o];exact Sy C W (by omega)
 have e8:C.length≤s.length:=by omega
 have e9:f.length≤s.length:=by omega
 have c9:=AB b3;clear b3;have a3:=Oc C [32,9];go_enter func55,ntmps55;go_upto_if 13 with(go_at_call 66;with_reducible refine a1.mono ?_;rintro e w1⟨rfl,rfl⟩);go_cut[5] (fun k y=>k=.int .i64 (C.length:Int)∧y=w1)
 case first=>
  by_cases H:f=[]
  ·have Y:(if f=[]then-1 else(C.length:Int))=-1:=AM H;have d0:=AB (show s.length=C.length by rw[c9.o,H];rfl);rw[Y];clear H a1 Y a2;go_wp2_with fail;go_meet;exact⟨by rw[d0.o],rfl⟩
  have Y:(if f=[]then-1 else(C.length:Int))=(C.length:Int):=AI H;rw[Y];clear H a1 Y a2;go_wp2_with fail;go_meet;exact⟨rfl,rfl⟩
 case rest=>
 obtain⟨rfl,hw⟩:=hcut;obtain rfl:=hw.symm;clear a1;go_wp2_with fail;with_reducible refine(a2 _).mono ?_
 rintro e A⟨rfl,rfl⟩;clear a2;generalize trimS C [32,9]=t at a3 R⊢;go_wp2_with fail;with_reducible refine(I1 t _ (by omega)).mono ?_
 rintro e w3⟨rfl,B⟩;have b5:(A2 t).length≤1000000000:=by simp[A2];omega
 clear a3;generalize A2 t=m at b5 R⊢;have hM:=gU m w3 b5 (hg.next B);generalize Ji m=d1 at hM R;go_wp2_with fail;with_reducible refine hM.mono ?_
 rintro e w4⟨rfl,hb⟩;have B:=B.trans (hb.mono B.size);clear hb hM;cases d1 with
 |false=>
  have Z:=AB (by rw[R.o];rfl:Ay s=none);go_wp2_with fail;go_ret3;exact⟨Or.inr ⟨Z.o,rfl⟩,B⟩
 |true=>
  have Z:=AB (by rw[R.o];rfl:Ay s=(Hc true f.length f).map fun l=>(m,l));clear R;have d2:=B.size;generalize b6:w4.heap.size=a;have D:Gh (w4.alloc (.cells #[.string ⟨f.toArray⟩,.bool true] 189)) a f true:=by rw[←b6];exact A1.new w4 _ _
  have B0:A5 a A.heap.size A (w4.alloc (.cells #[.string ⟨f.toArray⟩,.bool true] 189)):=A5.of (B.alloc B.size _);have a0:A.heap.size≤a:=by omega
  go_wp2_with fail;rw[c8.o];generalize World.alloc _ _=w5 at D B0⊢;generalize b7:Hc true f.length f=a9 at Z;have b8:=AB (show(Hc true f.length f).map (([]:List A4)++·)=a9 by rw[b7];simp);clear b7;clear b6 d2 B;go_loopw[8] (fun o wr=>∃(q:Bool)(z:Bs)(F:Nat)(O:List A4),Gh wr a z q∧J2 wr (a+1) o O∧z.length≤F∧O.length+z.length≤1000000000∧Hid (q=true→z=[]∨∃r,z=59::r)∧Hid ((Hc q F z).map (O++·)=a9)∧A5 a A.heap.size A wr) (fun _ wr=>match wr.cell? ⟨a,0,none⟩with|some v=>I9 v|none=>0)
  case atStart=>exact⟨true,f,f.length,[],D,A0.nil _ _ _ _ _,AC _,by simp;omega,AB fun _=>b4.o,b8,B0⟩
  clear B0 D b8 b4;obtain⟨q,z,F,O,D,b0,b9,d3,HZ,a4,B⟩:=hrel;have kc:=D.cell;have M:=D.free;cases q with
  |false=>
   have HE:=AB (show Ay s=none by rw[Z.o,←a4.o];simp[Hc]);go_wp2_with fail;go_ret3;exact⟨Or.inr ⟨HE.o,rfl⟩,B.shut a0⟩
  |true=>
   by_cases hz:z=[]
   ·subst hz;have HE:=AB (show Ay s=some (m,O) by rw[Z.o,←a4.o];simp[Hc]);go_wp2_with fail;go_ret3;exact⟨Or.inl ⟨m,O,_,HE.o,rfl,b0.mono (by omega)⟩,B.shut a0⟩
   obtain⟨rest,rfl⟩:∃r,z=59::r:=(HZ.o rfl).resolve_left hz;clear hz HZ;obtain⟨F,rfl⟩:∃n,F=n+1:=⟨F-1,by simp at b9;omega⟩;simp only[AO]at b9 d3;have T:=R4 a (59::rest) true 59 59 rfl wr D (by simp;omega);have E:De 59 (59::rest)=(true,rest):=by simp[De]
   rw[E]at T;clear E;have S:Hs A wr a (59::rest) true _ O:=⟨D,b0,B⟩;have d4:=AB (show wr.cell? ⟨a,0,none⟩=some (.string ⟨(59::rest).toArray⟩) by rw[D.cell];rfl);clear D b0 B;go_wp2_with fail;with_reducible refine T.mono ?_
   rintro e w6⟨rfl,k,b⟩;have S1:=S.next k b;have M:=k.free;have d5:=k.cell;have S:=S1.Ps true;clear T kc k b S1;go_wp2_with fail;clear M d5;generalize World.setCell _ _ _=w7 at S⊢;with_reducible refine(T8 a rest true w7 S.r).mono ?_
   rintro e w8⟨rfl,k,b⟩;have S:=S.next k b;clear k b;have d6:=Ti rest;have j:=AB (fun(v G:Bs)(Q:Bool)(h:Nu ((De 61 (Af ((Af rest).dropWhile Ac))).1&&!((Af rest).takeWhile Ac).isEmpty) (Af (De 61 (Af ((Af rest).dropWhile Ac))).2) v G Q)=>zC F h);generalize Af rest=I at S d6 j;go_wp2_with fail;with_reducible refine(eJ a I true w8 S.r (by omega)).mono ?_
   rintro e w9⟨rfl,k,b⟩;have S:=S.next k b;clear k b;have a3:(I.takeWhile Ac).length≤I.length:=(FF _).length_le;have d7:(I.dropWhile Ac).length≤I.length:=(EG _).length_le;rw[FB]at S;generalize I.takeWhile Ac=t at S a3 j⊢;generalize I.dropWhile Ac=s3 at S d7 j;generalize(!t.isEmpty)=q3 at S j;go_wp2_with fail;with_reducible refine(I1 t _ (by omega)).mono ?_
   rintro e N⟨rfl,b⟩;have S:=S.more b;clear b;generalize A2 t=L at j⊢;have p:N.heap.size≠a:=Nat.ne_of_gt S.r.lt;have a5:a<N.heap.size:=S.r.lt;have HG:=AB (fun g(hg:u8.ownBlock=some g)=>S.l.Do g hg);have K:=A1.new N #[.string ⟨L.toArray⟩,.string ⟨#[]⟩] 119;have S:=S.more ((AD N.heap.size N).alloc (AC _) (.cells #[.string ⟨L.toArray⟩,.string ⟨#[]⟩] 119));go_wp2_with fail;generalize d8:N.heap.size=pb at K p a5 HG⊢;generalize World.alloc _ _=d9 at S K⊢;clear d8;with_reducible refine(T8 a s3 q3 d9 S.r).mono ?_
   rintro e e0⟨rfl,k,b⟩;have S:=S.next k b;have K:=K.Ag b p;clear k b;have e1:=Ti s3;generalize Af s3=s4 at S e1 j;have T:=R4 a s4 q3 61 61 rfl e0 S.r (by omega);have c0:=zD 61 s4;generalize De 61 s4=xs at T c0 j;obtain⟨x,s5⟩:=xs;simp only at T c0 j;go_upto_region 14 with fail;go_cut[] (fun y=>Hs A y a s5 (x&&q3) u8 O∧A1 y pb #[.string ⟨L.toArray⟩,.string ⟨#[]⟩] 119)
   case first=>
    clear j;go_wp2_with fail;with_reducible refine T.mono ?_
    rintro e c1⟨rfl,k,b⟩;have S:=S.next k b;have K:=K.Ag b p;have f0:=k.cell;have f1:=k.free;clear T k b;cases x with
    |true=>
     go_wp2_with fail;go_meet;exact⟨S.Ps q3,K.Ag ((A5.refl _ _ _).set _) p⟩
    |false=>
     go_wp2_with fail;go_meet;exact⟨S.Ps false,K.Ag ((A5.refl _ _ _).set _) p⟩
   case rest=>
   clear S K T;obtain⟨S,K⟩:=hcut;obtain⟨c1,rfl⟩:∃x:World,x=wc:=⟨_,rfl⟩;generalize(x&&q3)=u at S j;go_wp2_with fail;with_reducible refine(T8 a s5 u c1 S.r).mono ?_
   rintro e e2⟨rfl,k,b⟩;have S:=S.next k b;have K:=K.Ag b p;clear k b;have c2:=Ti s5;generalize Af s5=i at S c2 j;have T:=R4 a i u 34 34 rfl e2 S.r (by omega);go_upto_if 67 with(go_at_call 116;with_reducible refine T.mono ?_;rintro e c3⟨rfl,k,b⟩;have S:=S.next k b;have K:=K.Ag b p;clear k b T);go_cut[] (fun y=>∃(v G:Bs)(Q:Bool),Hs A y a G Q u8 O∧A1 y pb #[.string ⟨L.toArray⟩,.string ⟨v.toArray⟩] 119∧Hid (Nu u i v G Q)∧G.length≤i.length∧v.length≤i.length)
   case first=>
    clear j;by_cases a6:∃r,i=34::r
    ·obtain⟨r,rfl⟩:=a6;have E:De 34 (34::r)=(true,r):=by simp[De]
     rw[E]at S;simp only[AO]at c2;have P:=zA a r u c3 S.r (by omega);rw[E];clear E;go_wp2_with fail;with_reducible refine P.mono ?_
     rintro e b1⟨hq,b⟩;rcases hq with⟨v,r2,U,rfl,k⟩|⟨U,rfl,r2,k,e3⟩
     ·have e3:=Ru _ _ _ U;have V:=AB (show Nu u (34::r) v r2 u from⟨id,fun h=>by rw[(by rfl:Ii (34::r)=Bc r),U];exact⟨h,rfl,rfl⟩⟩);have S:=S.next k b;have K:=K.Ag b p;have kc:=K.cell;have M:=K.free;have ks:=K.set 1 (.string ⟨v.toArray⟩);clear P k b U;go_wp2_with fail;go_meet;exact⟨v,r2,u,S.Xx a5 a0 HG.o _,by simpa using ks,V,by simp;omega,by simp;omega⟩
     have V:=AB (show Nu u (34::r) [] r2 false from⟨fun _=>rfl,fun h=>by rw[(by rfl:Ii (34::r)=Bc r),U]⟩);have S:=S.next k b;have K:=K.Ag b p;have kc:=K.cell;have M:=K.free;have ks:=K.set 1 (.string ⟨([]:Bs).toArray⟩);clear P k b U;go_wp2_with fail;go_meet;exact⟨[],r2,false,S.Xx a5 a0 HG.o _,by simpa using ks,V,by simp;omega,by simp⟩
    have E:De 34 i=(false,i):=by
     cases i with
     |nil=>rfl
     |cons d r=>
      have:d≠34:=fun e=>a6 ⟨r,by rw[e]⟩
      simp[De,this]
    rw[E]at S;have V:=AB (show Nu u i (i.takeWhile Ac) (i.dropWhile Ac) (u&&!(i.takeWhile Ac).isEmpty)from⟨fun h=>by rw[h];rfl,fun h=>by
     rw[WP fun r e=>a6 ⟨r,e⟩];by_cases H:i.takeWhile Ac=[]
     ·rw[AM H];simp[H]
     rw[AI H,h];exact⟨by cases ht:i.takeWhile Ac<;>simp[ht]at H⊢,rfl,rfl⟩⟩)
    have e4:(i.dropWhile Ac).length≤i.length:=(EG _).length_le;have e5:(i.takeWhile Ac).length≤i.length:=(FF _).length_le;have P:=eJ a i u c3 S.r (by omega);rw[E];clear E a6;go_wp2_with fail;with_reducible refine P.mono ?_
    rintro e b1⟨rfl,k,b⟩;have S:=S.next k b;have K:=K.Ag b p;have kc:=K.cell;have M:=K.free;have ks:=K.set 1 (.string ⟨(i.takeWhile Ac).toArray⟩);clear P k b;go_wp2_with fail;go_meet;exact⟨_,_,_,S.Xx a5 a0 HG.o _,by simpa using ks,V,e4,e5⟩
   case rest=>
   obtain⟨v,G,Q,S,K,V,f2,f3⟩:=hcut;obtain⟨b1,rfl⟩:∃x:World,x=wc:=⟨_,rfl⟩;have HQ:=AB (j.o v G Q V.o);clear j V;go_wp2_with fail;with_reducible refine(T8 a G Q b1 S.r).mono ?_
   rintro e f4⟨rfl,k,b⟩;have S:=S.next k b;have K:=K.Ag b p;clear k b;have e6:=Ti G;generalize Af G=z at S e6 HQ;go_upto_region 20 with fail;go_cut[] (fun y=>Hs A y a z (Hb Q z) u8 O∧A1 y pb #[.string ⟨L.toArray⟩,.string ⟨v.toArray⟩] 119)
   case first=>
    have kc:=S.r.cell;have M:=S.r.free;cases Q with
    |false=>
     have S2:=S.Ps (Hb false z);clear S;go_wp2_with fail;go_meet;exact⟨S2,K.Ag ((A5.refl _ _ _).set _) p⟩
    |true=>
     cases z with
     |nil=>
      have S2:=S.Ps (Hb true []);clear S;go_wp2_with fail;go_meet;exact⟨S2,K.Ag ((A5.refl _ _ _).set _) p⟩
     |cons c r=>
      have E1:=AB (show Hb true (c::r)=((c.toNat:Int)==59)from by
       by_cases h:c=59
       ·subst h;rfl
       have:((c.toNat:Int)==59)=false:=by
        rw[AG];exact fun e=>h (BJ.1 (by simp;omega))
       rw[this];simp[Hb,h])
      have S2:=fun q=>S.Ps q
      clear S;go_wp2_with fail;go_meet;exact⟨by rw[E1.o];exact S2 _,K.Ag ((A5.refl _ _ _).set _) p⟩
   case rest=>
   clear S K;obtain⟨S,K⟩:=hcut;obtain⟨a7,rfl⟩:∃x:World,x=wc:=⟨_,rfl⟩;have HF:=AB (show(Hc (Hb Q z) F z).map ((O++[(L,v)])++·)=a9 by rw[←a4.o,HQ.o];cases Hc (Hb Q z) F z<;>simp);have c4:=AB (show Hb Q z=true→z=[]∨∃r,z=59::r from fun h=>by
    simp only[Hb,BL,EW,EF]at h;rcases h.2 with h|h
    ·exact Or.inl h
    cases z with
    |nil=>cases h
    |cons c r=>simp at h;exact Or.inr ⟨r,by rw[h]⟩)
   clear HQ a4 HG;generalize Hb Q z=q9 at S HF c4;have f5:=K.cell 0;have f6:=K.cell 1;have f7:=S.b.size;have f8:=S.r.lt;go_wp2_with(at_builtin;refine Qs rfl _ _ rfl (a+1) _ O (L,v) a7.heap.size 1 rfl (A0.alloc S.l _) rfl (aV a7 (L,v) _ _ rfl) (by omega) (by simp;omega) ?_;intro v' c5 e7 f9 c6);have Sa:=S.more ((AD a7.heap.size a7).alloc (AC _) (.cells #[.string ⟨L.toArray⟩,.string ⟨v.toArray⟩] 119));have S3:Hs A c5 a z q9 v' (O++[(L,v)]):=⟨(c6.block a (by omega)).trans Sa.r,e7,Sa.b.trans (A5.of (c6.mono (by omega)))⟩;go_wp2_with fail;refine⟨⟨q9,z,F,O++[(L,v)],S3.r,S3.l,by omega,by simp;omega,c4,HF,S3.b⟩,?_⟩;have k9:c5.cell? ⟨a,0,none⟩=some (.string ⟨z.toArray⟩):=by rw[S3.r.cell];rfl
   rw[d4.o,k9];simp;omega
end Go.Proofs.YtignjjnflcpiiaaGreatDoor
