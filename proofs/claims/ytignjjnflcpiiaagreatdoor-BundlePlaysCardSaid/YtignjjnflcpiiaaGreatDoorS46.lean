/- A kind with another start, in the document's answer's Bin -/
import Derived.Test.YtignjjnflcpiiaaGreatDoorS34
import Derived.Test.YtignjjnflcpiiaaGreatDoorS42
import Derived.Test.YtignjjnflcpiiaaGreatDoorS45
set_option linter.all false
set_option maxHeartbeats 16000000
set_option maxRecDepth 100000
namespace Go.Proofs.YtignjjnflcpiiaaGreatDoor
open Go Go.RowKit Proofs.Tryz Lib
noncomputable def N2:Code:=Ak (Ak (Ak (Ak (Ak (Ak (Ak ((f26.body).getD .skip)))))))
noncomputable def Rn:Code:=Ak N2
noncomputable def jM:Code:=Fs (Ga (Ak (Ak (Fs (Fs (Ak (Ga N2)))))))
noncomputable def jN:Code:=Ak (Ga (Ak jM))
noncomputable def U5:Code:=Fs (Ga (Ak (Ak (Fs (Fs (Ak (Ga Rn)))))))
noncomputable def jO:Code:=Ga (Ak (Ak U5))
noncomputable def jP:Code:=Ga (Ak (Ak (Ak (Ak (Ak (Ak U5))))))
variable {w w0:World}{x y b body p:Bs}{F g C s n qc hc pb pc lb d L z:Nat}{u0 u2 u3 u4 u5 u7 u8 u9 r8 r9 s0 s1 s2 a2 a3 a4 a5 a6 a7 a8 a9 b0 b1 b2 b3 b4 b5 b6 b7 b8 b9 c0 c1 c2 c3 c4 c5 c6 c7 c8 c9 d0 d1 d2 d3 d4 d5 d6 d7 d8 d9 e0 s3 s4 s5 s6 s7 s8 s9 t0 t1 t2 t3 t4 t5 t6 t7 t8 t9 u1 u6 v0 v1 v2 v3 v4 v5 v6 v7 v8 v9 w1 w2 w3 w4 w6 w7 w8 x0 x1 e1 e2 e3 e4 e5 e6 e7 e8 e9 f0 f1 f2 f3 f4 f5 f6 f7 f8 f9 g0 g1 g2 g3 g4 g5 g6 g7 g8 g9 h0 h1 h2 h3 h4 h5 h6 h7 h8 h9 i0 i1 i2 i3 i4 i5 i6 i7 i8 i9 j0 j1 j2 j3 j4 j5 j6 j7 j8 j9 k0 k1 k2 k3 k4 k5 k6 k7 k8 k9 l0 l1 l2 l3 l4 l5 l6 l7 l8 l9 m0 m1 m2 m3 m4 m5 m6 m7 m8 m9 n0 n1 n2 n3 n4 n5 n6 n7 n8 n9 o0 o1 o2 o3 o4 o5 o6 o7 o8 o9 p0 p1 p2 p3 p4 p5 p6 p7 e' p8 p9 q0 q1 q2 q3 q4 q5 q6 q7 q8 q9 r0 r1 r2 r3 r4 r5 r6 r7 w9 x2 x3 x4 x5 x6 x7 x8 x9 y0 y1 y2 y3 y4 y5 y6 y7 y8 y9 z0 z1 z2 z3 z4 z5 z6 z7 z8 z9 a' b' c' d' w5 f' g' h':Value}{h:List A4}{m:Bool}{qa ha pa:Option Go.Addr}{P a1:Ending → World → Prop}{l:List Bs}
theorem XS{a1 w0:Value}{Q:Exit→Act→World→Prop}{k r:Int}
  (K:A1 w F #[.string ⟨x.toArray⟩,.string ⟨y.toArray⟩] 92) (p8:w.cell? ⟨g,0,none⟩=some (.pointer (some ⟨s,0,none⟩))) (p9:w.cell? ⟨C,0,none⟩=some (.int .i64 k)) (q0:w.cell? ⟨s,4,none⟩=some (.int .i64 r))
  (hy:y.length≤100000) (q1:-9223372036854775808≤r) (q2:r≤9223372036854775807) (q3:-9223372036854775808≤k) (q4:k≤9223372036854775807) (t:Gz w)
  (hN:∀(L:World)(x2 x3 x4 x5 x6 x7 x8 x9 y0 y1 y2 y3 y4 y5 y6 y7 y8 y9 z0 z1 z2 z3 z4 z5 z6 z7 z8 z9 a' b' c' d' e' f' g' h' i' j' k' l' m' n' o' p':Value),A1 L F #[.string ⟨x.toArray⟩,.string ⟨(Ik y (Ce (64::98::itoa k) r)).toArray⟩] 92→A5 F w.heap.size w L→Q .normal ⟨List.toArray (u0::.pointer (some ⟨g,0,none⟩)::u2::u3::u4::u5::.func (.func 72) #[] #[.pointer (some ⟨C,0,none⟩)]::u7::.bool false::u9::.pointer (some ⟨F,0,none⟩)::x2::x3::x4::x5::a1::x6::a2::a3::a4::a5::a6::a7::a8::a9::b0::b1::b2::b3::b4::b5::b6::b7::b8::b9::c0::c1::c2::c3::c4::c5::c6::c7::c8::c9::d0::d1::d2::d3::d4::d5::d6::d7::d8::d9::e0::.bool true::x7::x8::x9::y0::y1::y2::y3::y4::y5::y6::y7::y8::y9::z0::z1::z2::z3::z4::z5::z6::z7::z8::z9::a'::b'::c'::d'::e'::f'::g'::h'::i'::j'::k'::l'::m'::n'::o'::p'::e1::e2::e3::e4::e5::e6::e7::e8::e9::f0::f1::f2::f3::f4::f5::f6::f7::f8::f9::g0::g1::g2::g3::g4::g5::g6::g7::g8::g9::h0::h1::h2::h3::h4::h5::h6::h7::h8::h9::i0::i1::i2::i3::i4::i5::i6::i7::i8::i9::j0::j1::j2::j3::j4::j5::j6::j7::j8::j9::k0::k1::k2::k3::k4::k5::k6::k7::k8::k9::l0::l1::l2::l3::l4::l5::l6::l7::l8::l9::m0::m1::m2::m3::m4::m5::m6::m7::m8::m9::n0::n1::n2::n3::n4::n5::n6::n7::n8::n9::o0::o1::o2::o3::o4::o5::o6::o7::o8::o9::p0::p1::p2::p3::p4::p5::p6::p7::[]),[]⟩ L):
  Code.wp prog jN Q ⟨List.toArray (u0::.pointer (some ⟨g,0,none⟩)::u2::u3::u4::u5::.func (.func 72) #[] #[.pointer (some ⟨C,0,none⟩)]::u7::u8::u9::.pointer (some ⟨F,0,none⟩)::r8::r9::s0::s1::a1::s2::a2::a3::a4::a5::a6::a7::a8::a9::b0::b1::b2::b3::b4::b5::b6::b7::b8::b9::c0::c1::c2::c3::c4::c5::c6::c7::c8::c9::d0::d1::d2::d3::d4::d5::d6::d7::d8::d9::e0::.bool true::s3::s4::s5::s6::s7::s8::s9::t0::t1::t2::t3::t4::t5::t6::t7::t8::t9::u1::u6::v0::v1::v2::v3::v4::v5::v6::v7::v8::v9::w0::w1::w2::w3::w4::w6::w7::w8::x0::x1::e1::e2::e3::e4::e5::e6::e7::e8::e9::f0::f1::f2::f3::f4::f5::f6::f7::f8::f9::g0::g1::g2::g3::g4::g5::g6::g7::g8::g9::h0::h1::h2::h3::h4::h5::h6::h7::h8::h9::i0::i1::i2::i3::i4::i5::i6::i7::i8::i9::j0::j1::j2::j3::j4::j5::j6::j7::j8::j9::k0::k1::k2::k3::k4::k5::k6::k7::k8::k9::l0::l1::l2::l3::l4::l5::l6::l7::l8::l9::m0::m1::m2::m3::m4::m5::m6::m7::m8::m9::n0::n1::n2::n3::n4::n5::n6::n7::n8::n9::o0::o1::o2::o3::o4::o5::o6::o7::o8::o9::p0::p1::p2::p3::p4::p5::p6::p7::[]),[]⟩ w:=by
 let D':=bodyPost prog f26 (fun _ _=>True);delta jN jM N2 f26;dsimp only[Ak,Ga,Fs,Option.getD];have q5:=AB hN;clear hN;have q':g<w.heap.size:=AY w _ p8;have r':C<w.heap.size:=AY w _ p9;have s':s<w.heap.size:=AY w _ q0;have hK:=Rk y w (by omega) t.r.g;have t':(Ce (64::98::itoa k) r).length≤1000:=by
  have E':=CJ k q3 q4;have F':=CJ r q1 q2;unfold Ce;simp;omega
 have M:=fun W hc t=>Xz r k C W q1 q2 q3 q4 hc t
 generalize Ce (64::98::itoa k) r=n at M t' q5;have H:=AB (by rfl:Ik y n=(Cz ((Ay y).getD ([],[])).1 ((((Ay y).getD ([],[])).2.filter fun f=>!(f.1==Bq))++[(Bq,F4 n)])).getD []);have kc:=K.cell;go_wp2_with fail;with_reducible refine hK.mono ?_
 rintro e d⟨i,u⟩;obtain⟨m,P,ka,G',er,rfl,u',q6,H',l⟩:=i.get;rw[q6]at H;have H:=AB (show Ik y n=(Cz m ((P.filter fun f=>!(f.1==Bq))++[(Bq,F4 n)])).getD []from H.o);have l:=l.mono (show y.length≤100000 by omega);have q7:=t.next u;have q8:=u.size;clear i hK q6 kc;have w':=A0.Dn (by decide) Ah u';have I':=l.1;have x':=AB l.2;clear l;go_wp2_with fail;go_loopw[14,66] (fun pv N wq=>∃(j:Nat)(o:List A4),N=.int .i64 j∧j≤P.length∧o.length≤j∧J2 wq d.heap.size pv o∧Hid (o++(P.drop j).filter (fun f=>!(f.1==Bq))=P.filter fun f=>!(f.1==Bq))∧Below d.heap.size d wq) (fun _ N _=>P.length-(intOf N).toNat)
 case atStart=>exact⟨0,[],rfl,by omega,by simp,A0.nil _ _ _ _ _,AB (by simp),AD _ _⟩
 obtain⟨j,o,rfl,hj,J',z,A,B⟩:=hrel;by_cases q9:j<P.length
 ·obtain⟨qb,rfl,_,r0,O⟩:=w'.at Ah j q9;have r1:=(B.cell (p:=⟨qb,j*2+0,none⟩) r0).trans (O 0 (by decide));have r2:=(B.cell (p:=⟨qb,j*2+1,none⟩) r0).trans (O 1 (by decide));have R:=AB (show(o++(if !(P[j].1==Bq)then P[j]::(P.drop (j+1)).filter (fun f=>!(f.1==Bq))else(P.drop (j+1)).filter (fun f=>!(f.1==Bq))))=P.filter fun f=>!(f.1==Bq)from by
   rw[←A.o,AE q9,DA])
  clear O A;generalize P[j]=q at r1 r2 R;obtain⟨a,b⟩:=q;simp only[Au,BI,AR,AT]at r1 r2 R;have S:=A0.next z ((AD wr.heap.size wr).alloc (AC _) (.cells #[.string ⟨a.toArray⟩,.string ⟨b.toArray⟩] 119));have D:=B.alloc B.size (.cells #[.string ⟨a.toArray⟩,.string ⟨b.toArray⟩] 119);have y':=(A1.new wr #[.string ⟨a.toArray⟩,.string ⟨b.toArray⟩] 119).cell;unfold Bq at R;go_upto_region 18 with fail;generalize World.alloc _ _=wa at S D y'⊢;generalize hq:(a==[115,116,97,114,116])=bq at R;cases bq with
  |true=>
   have T:=AB (show o++(P.drop (j+1)).filter (fun f=>!(f.1==Bq))=P.filter fun f=>!(f.1==Bq)from R.o);clear R;go_wp2_with fail;go_roundw
   case rel=>exact⟨j+1,o,by go_num,by omega,by omega,S,T,D⟩
   simp[intOf];omega
  |false=>
   have T:=AB (show(o++[(a,b)])++(P.drop (j+1)).filter (fun f=>!(f.1==Bq))=P.filter fun f=>!(f.1==Bq)from by
    have:=R.o;simp only[EH,DC]at this;rw[AJ];exact this)
   clear R;have z':=D.size;go_wp2_with(at_builtin;refine Qs rfl _ _ rfl d.heap.size _ o (a,b) wa.heap.size 1 rfl (A0.alloc S _) rfl (Gl wa (a,b) _) (by omega) (by simp;omega) ?_;intro v' w9 E r3 G);go_wp2_with fail;go_roundw
   case rel=>exact⟨j+1,o++[(a,b)],by go_num,by omega,by simp;omega,E,T,(D.alloc z' _).trans G⟩
   simp[intOf];omega
 obtain rfl:j=P.length:=by omega
 have U:=AB (by have:=A.o;simpa using this:o=P.filter fun f=>!(f.1==Bq));have I:=u.trans (B.mono q8);have V:=q7.next B;have K':=(I.cell (p:=⟨g,0,none⟩) q').trans p8;have A':=(I.cell (p:=⟨C,0,none⟩) r').trans p9;have L':=(I.cell (p:=⟨s,4,none⟩) s').trans q0;have r4:=M _ A' V;have M':=I.size;have N':¬9223372036854775807<1+n.length:=by omega
 have O':¬9223372036854775807<n.length+1+1:=by omega
 have X:=AB (fun(W:World)(v:Value)(h:J2 W d.heap.size v (o++[(Bq,F4 n)]))(hG:Cb W)=>jH m v _ W (A0.rd (by decide) Ah h) (by omega) (by simp;omega) (fun f c=>by
  rcases BP.1 c with c|c
  ·have:=x'.o f (by rw[U.o]at c;exact(DL.1 c).1);omega
  simp at c;subst c;exact⟨by show Bq.length≤1000000;decide,by simp[F4];omega⟩) hG)
 have H:=AB (by rw[H.o,U.o]:Ik y n=(Cz m (o++[(Bq,F4 n)])).getD []);unfold Bq F4 at X H;generalize Cz m (o++[([115,116,97,114,116],60::(n++[62]))])=P' at X H;clear A M U;go_wp2_with fail;with_reducible refine r4.mono ?_
 rintro e w5⟨rfl,J⟩;have z:=A0.next z J;have Y:=B.trans (J.mono B.size);have Q':=V.next J;clear r4 J V;go_wp2_with(at_builtin;refine Qs rfl _ _ rfl d.heap.size _ o ([115,116,97,114,116],60::(n++[62])) w5.heap.size 1 rfl (A0.alloc z _) rfl (Gl w5 ([115,116,97,114,116],60::(n++[62])) _) (by omega) (by have:=Y.size;simp;omega) ?_;intro v' w9 E r3 G;have Z:=(Y.alloc Y.size (.cells #[.string ⟨([115,116,97,114,116]:Bs).toArray⟩,.string ⟨(60::(n++[62]):Bs).toArray⟩] 119)).trans G;have r5:=X.o w9 v' E (q7.next Z).r.g);with_reducible refine r5.mono ?_
 rintro e B'⟨i,r6⟩;obtain⟨R',S',rfl⟩:=i.get;rw[←H.o];have r7:=u.trans ((Z.trans (r6.mono Z.size)).mono q8);have a0:=K.next r7 K.lt;have T':=a0.free;have U':=a0.cell;have C':A1 (B'.setCell ⟨F,1,none⟩ (.string ⟨(Ik y n).toArray⟩)) F #[.string ⟨x.toArray⟩,.string ⟨(Ik y n).toArray⟩] 92:=a0.set 1 _;clear i r5 r6 E r3 G;go_wp2_with fail;refine q5.o _ _ _ _ _ _ _ _ _ _ _ _ _ _ _ _ _ _ _ _ _ _ _ _ _ _ _ _ _ _ _ _ _ _ _ _ _ _ _ _ _ _ _ _ _ C' ?_;exact(A5.of r7).set _
def Ro(h:List A4)(body:Bs)(m:Bool)(b:Bs)(l:List Bs):Bs:=if m then((D0 (Ct m false b h)).getD [])++(Dw b l++45::45::(b++[45,45,13,10]))else((D0 (Ct m false b h++[(Bl,(Ck body).1)])).getD [])++(Ck body).2
theorem jQ(h:List A4)(body:Bs)(m:Bool)(l:List Bs):Ro h body m (Cj l) l=O0 h body m l:=(UO h body m l).symm
theorem jR(m n:Bool)(b:Bs)(l:List A4):Av (Ct m n b l)≤6*Av l+5*b.length:=by
 have h:=X3 b (Bz l);have H:=Tq l;unfold Ct;split<;>omega
theorem U6{r:Option Bs}(h:∀o,r=some o→o.length≤n):(r.getD []).length≤n:=by
 cases r with
 |none=>simp
 |some o=>simpa using h o rfl
theorem XT{w0:Value}{Q:List Bs}
  (U:A1 w pb #[.slice ha h.length hc,.string ⟨body.toArray⟩,.bool m,e'] 44) (hH:C7 w (.slice ha h.length hc) h) (f':Av h≤120000) (a5:body.length≤40000000)
  (hQ:E7 1 Bi w (.slice qa Q.length qc) Q) (a6:(Dw b Q).length≤1000000000000) (i:b.length≤1000) (a7:Q.length≤1000000) (hg:Gr w)
  (hR:∀a,Below w.heap.size w a→P (.returned (.tuple #[.string ⟨(Ro h body m b Q).toArray⟩,.int .i64 0])) a):
  Code.wp prog O9 (bodyPost prog f127 P) ⟨List.toArray (u0::u1::u2::.pointer (some ⟨pb,0,none⟩)::u4::u5::u6::u7::u8::.bool m::b4::.slice qa Q.length qc::b5::b6::b7::b8::b9::c0::.string ⟨b.toArray⟩::.slice none 0 0::.bool false::c3::c4::c5::c6::c7::c8::c9::d0::d1::d2::d3::d4::d5::d6::d7::d8::d9::e0::e1::e2::e3::e4::e5::e6::e7::e8::e9::f0::f1::f2::f3::f4::f5::f6::f7::f8::f9::g0::g1::g2::g3::g4::g5::g6::g7::g8::g9::h0::h2::h3::h4::h5::h6::h7::h8::h9::i0::i1::i2::i3::i4::i5::i6::i7::i8::i9::j0::j1::j2::j3::j4::j5::j6::j7::j8::j9::k0::k1::k2::k3::k4::k5::k6::k7::k8::k9::l0::l1::l2::l3::l4::l5::l6::l7::l8::l9::m0::m1::m2::m3::m4::m5::m6::m7::m8::m9::n0::n1::n2::n3::n4::n5::n6::n7::n8::n9::o0::o1::o2::o3::o4::o5::o6::o7::o8::o9::p0::p1::p2::p3::p4::p5::p6::p7::p8::p9::q0::q1::q2::q3::q4::q5::q6::q7::q8::q9::r0::r1::r2::r3::r4::r5::r6::r7::r8::r9::s0::s1::s2::s3::s4::s5::s6::s7::s8::s9::t0::t1::t2::t3::t4::t5::t6::t7::t8::t9::u3::u9::v0::v1::v2::v3::v4::v5::v6::v7::v8::v9::w0::w1::w2::w6::w7::w8::w9::x0::x1::x2::x3::x4::x5::x6::x7::x8::x9::y0::y1::y2::y3::y4::y5::y6::y7::y8::y9::z0::z1::z2::z3::z4::z5::z6::z7::z8::z9::a'::b'::c'::d'::[]),[]⟩ w:=by
 have R:=AB hR;have HL:=AB (by rfl:Ct m false b h=Ct m false b h);have g':=jR m false b h;have V:=Em f';have h':=AB V.2;have A':=V.1;clear hR V;have kc:=U.cell;obtain⟨B',C',i',a8⟩:=hH.open;injection i' with j' k' l';subst j' l';have HC:=AB a8;clear a8 hH k';generalize m':bodyPost prog f127 _=QQ;delta O9 O8 N1 f127;dsimp only[Ak,Option.getD];subst m';go_upto_block 4 with fail;go_cut[19] (fun X z=>∃(L:Option Go.Addr)(s:Nat),X=.slice L (Ct m false b h).length s∧Bk z w.heap.size (.slice L (Ct m false b h).length s) (Ct m false b h)∧Below w.heap.size w z)
 case first=>
  clear hQ a6 a7 a5 R;go_wp2_with fail;go_loopw[19,20,134] (fun X nv Z wr=>∃(k:Nat)(n:Bool)(O:List A4),nv=.bool n∧Z=.int .i64 k∧k≤h.length∧O.length≤k∧Bk wr w.heap.size X O∧Hid (O++Ct m n b (h.drop k)=Ct m false b h)∧Below w.heap.size w wr) (fun _ _ Z _=>h.length-(intOf Z).toNat)
  case atStart=>exact⟨0,false,[],rfl,rfl,by omega,by simp,A0.nil _ _ _ _ _,AB (by simp),AD _ _⟩
  obtain⟨k,n,O,rfl,rfl,D',E',H,A,B⟩:=hrel;by_cases a0:k<h.length
  ·obtain⟨g,rfl,a9,h1,C⟩:=HC.o k a0;have c1:=(B.cell (p:=⟨g,k*2,none⟩) a9).trans h1;have c2:=(B.cell (p:=⟨g,k*2+1,none⟩) a9).trans C;have D:=AE a0;have hf:=h'.o _ (AN a0);have j:=AB (fun(q:(A2 (h[k]).1==A2 Bl)=true)=>show O++Ct m n b (h.drop (k+1))=Ct m false b h from by
    rw[←A.o,D,UL q])
   have c:=AB (fun(q:(A2 (h[k]).1==A2 Bl)=false)(E:((m&&!n)&&(A2 (h[k]).1==A2 Bu))=false)=>show(O++[h[k]])++Ct m n b (h.drop (k+1))=Ct m false b h from by
    rw[←A.o,D,UM q E];simp)
   have d:=AB (fun(q:(A2 (h[k]).1==A2 Bl)=false)(E:((m&&!n)&&(A2 (h[k]).1==A2 Bu))=true)=>show(O++[((h[k]).1,El (h[k]).2 b)])++Ct m true b (h.drop (k+1))=Ct m false b h∧m=true∧n=false from by
    simp only[BL]at E;obtain⟨⟨n',o'⟩,p'⟩:=E;obtain rfl:n=false:=by cases n<;>simp at o'⊢
    subst n';refine⟨?_,rfl,rfl⟩;rw[←A.o,D,UN q p'];simp)
   clear A h1 C D;generalize h[k]=f at c1 c2 hf j c d;obtain⟨x,y⟩:=f;simp only at c1 c2 hf j c d;have F:=fun W=>I1 x W (by omega)
   have K:=A1.new wr #[.string ⟨x.toArray⟩,.string ⟨y.toArray⟩] 92;have BA:=(AD wr.heap.size wr).alloc (AC _) (.cells #[.string ⟨x.toArray⟩,.string ⟨y.toArray⟩] 92);have a1:=AB (A0.Do H);have H:=A0.next H BA;have G:=B.trans (BA.mono B.size);have q':=B.size;have u:=K.cell;have b0:A2 Bl=[99,111,110,116,101,110,116,45,116,114,97,110,115,102,101,114,45,101,110,99,111,100,105,110,103]:=by decide
   have b1:A2 Bu=[99,111,110,116,101,110,116,45,116,121,112,101]:=by decide
   rw[b0]at j c d;rw[b1]at c d;generalize A2 x=lx at F j c d;clear BA B b0 b1;go_wp2_with fail;generalize World.alloc _ _=F' at K H G u⊢;with_reducible refine(F _).mono ?_
   rintro e w3⟨rfl,I⟩;have K:=K.next I K.lt;have H:=A0.next H I;have J:=G.trans (I.mono G.size);have u:=K.cell;clear I G;cases M:(lx==[99,111,110,116,101,110,116,45,116,114,97,110,115,102,101,114,45,101,110,99,111,100,105,110,103])with
   |true=>
    have N:=AB (j.o M);clear j c d;go_wp2_with fail;go_roundw
    case rel=>exact⟨k+1,n,O,rfl,by go_num,by omega,by omega,H,N,J⟩
    simp[intOf];omega
   |false=>
   have c:=AB (c.o M);have d:=AB (d.o M);clear j;go_upto_region 29 with fail;go_cut[152] (fun t z=>t=.bool ((m&&!n)&&(lx==[99,111,110,116,101,110,116,45,116,121,112,101]))∧Below w3.heap.size w3 z)
   case first=>
    clear c d H K;cases m with
    |false=>
     go_wp2_with fail;go_meet;exact⟨rfl,AD _ _⟩
    |true=>
     cases n with
     |true=>
      go_wp2_with fail;go_meet;exact⟨rfl,AD _ _⟩
     |false=>
      go_wp2_with fail;with_reducible refine(F _).mono ?_
      rintro e w4⟨rfl,l⟩;go_wp2_with fail;go_meet;exact⟨rfl,l⟩
   case rest=>
   obtain⟨rfl,l⟩:=hcut;obtain⟨w4,rfl⟩:∃x:World,x=wc:=⟨_,rfl⟩;have K:=K.next l K.lt;have H:=A0.next H l;have r:=J.trans (l.mono J.size);have u:=K.cell;have r':=r.size;clear l J F M;cases S:((m&&!n)&&(lx==[99,111,110,116,101,110,116,45,116,121,112,101]))with
   |false=>
    have N:=AB (c.o S);clear c d S;go_wp2_with(at_builtin;refine Ng rfl _ _ rfl w.heap.size _ O (x,y) w4.heap.size 1 rfl (A0.alloc H _) rfl (Gl w4 (x,y) _) (by omega) (by simp;omega) ?_;intro v' s' a2 a3 v);have B9:=(r.alloc r.size (.cells #[.string ⟨x.toArray⟩,.string ⟨y.toArray⟩] 92)).trans v;clear a3 v;go_wp2_with fail;go_roundw
    case rel=>exact⟨k+1,n,O++[(x,y)],rfl,by go_num,by omega,by simp;omega,a2,N,B9⟩
    simp[intOf];omega
   |true=>
    obtain⟨b2,hm,t'⟩:=d.o S;have N:=AB b2;subst hm t';have u':=hg.next r;clear c d S b2;apply_assumption;have w':y.length≤1000000:=by have:=hf.2;omega
    have x':b.length≤1000000:=by omega
    refine XR K w' x' u' ?_;intro w5 G' H' I' J' K' L' M' N' O' P' Q' R' S' T' U' V' W' X' Y' Z' a00 a01 a02 a03 a04 a05 a06 a07 a08 a09 a10 a11 a12 a13 a14 a15 a16 a17 a18 a19 b3 a4;have H:=A0.Ll H fun g hv=>a4.block g (by have:=a1.o g hv;have:=K.lt;omega) (fun e=>by have:=a1.o g hv;omega)
    have B5:Below w.heap.size w w5:=((A5.of (lb:=wr.heap.size) r).trans (a4.mono r')).shut q';have u:=b3.cell;generalize El y b=Y at b3 u N;clear K a4 r a1;go_wp2_with(at_builtin;refine Ng rfl _ _ rfl w.heap.size _ O (x,Y) w5.heap.size 1 rfl (A0.alloc H _) rfl (Gl w5 (x,Y) _) (by omega) (by have:=B5.size;simp;omega) ?_;intro v' s' a2 a3 v);have B9:=(B5.alloc B5.size (.cells #[.string ⟨x.toArray⟩,.string ⟨Y.toArray⟩] 92)).trans v;clear a3 v;go_wp2_with fail;go_roundw
    case rel=>exact⟨k+1,true,O++[(x,Y)],rfl,by go_num,by omega,by simp;omega,a2,N,B9⟩
    simp[intOf];omega
  obtain rfl:k=h.length:=by omega
  have N:=AB (by have:=A.o;rw[AQ,UK,BM]at this;exact this:O=Ct m false b h);obtain⟨L,s,y',_⟩:=A0.rd (by decide) Ah H;subst y';go_wp2_with fail;go_meet;rw[N.o]at H;exact⟨L,s,by rw[N.o],H,B⟩
 case rest=>
 obtain⟨L,s,rfl,H,B⟩:=hcut;obtain⟨a20,rfl⟩:∃x:World,x=wc:=⟨_,rfl⟩;have T:=AB ((Em (BC g' (show 6*Av h+5*b.length≤1000000 by omega))));have hLl:(Ct m false b h).length≤1000000:=T.o.1;have z':=U.next B U.lt;apply_assumption;cases m with
 |true=>
  have R:=AB (fun a(i:Below w.heap.size w a)=>show P (.returned (.tuple #[.string ⟨((((D0 (Ct true false b h)).getD [])++(Dw b Q++45::45::(b++[45,45,13,10])))).toArray⟩,.int .i64 0])) a from R.o a i);exact XP (hQ.next B) (A0.rd (by decide) Ah H) ⟨T.o.1,T.o.2⟩ (U6 fun o ho=>by have:=Pl ho;omega) a6 i a7 (fun a i=>R.o a (B.trans (i.mono B.size)))
 |false=>
  have R:=AB (fun a(i:Below w.heap.size w a)=>show P (.returned (.tuple #[.string ⟨((((D0 (Ct false false b h++[(Bl,(Ck body).1)])).getD [])++(Ck body).2)).toArray⟩,.int .i64 0])) a from R.o a i);refine XQ z' H B.size ⟨?_,T.o.2⟩ a5 (fun hw hwl=>U6 fun o ho=>?_) (fun a i=>R.o a (B.trans i))
  ·have h1:(Ct false false b h).length≤Av (Ct false false b h):=Qo _;have C:Av (Ct false false b h)≤Av h:=Tq h;omega
  have:=Pl ho;rw[Nk]at this;have C:Av [(Bl,hw)]=Bl.length+hw.length+1:=by simp[Av]
  have a21:Bl.length=25:=by decide
  omega
theorem XU{k:Nat}(H:k<l.length)(h:contains l[k] (p++itoa (n:Int))=true):Dd p l n=true:=by
 unfold Dd;rw[JF];exact⟨_,AN H,h⟩
theorem XV(h:∀i(H:i<l.length),contains l[i] (p++itoa (n:Int))=false):Dd p l n=false:=by
 unfold Dd;rw[List.any_eq_false];intro x a;obtain⟨i,H,rfl⟩:=IL.1 a;rw[h i H];simp
theorem XW{Q:List Bs}
  (c:A1 w pb #[.slice ha h.length hc,.string ⟨body.toArray⟩,.bool m,d'] 44) (s:C7 w (.slice ha h.length hc) h) (a2:Av h≤120000) (a3:body.length≤40000000)
  (u:E7 1 Bi w (.slice qa Q.length qc) Q) (v':Q.length≤100) (v:∀x∈Q,x.length≤3900000000) (D:Gz w)
  (hR:∀y,Below w.heap.size w y→a1 (.returned (.tuple #[.string ⟨(Ro h body m (Cj Q) Q).toArray⟩,.int .i64 0])) y):
  Code.wp prog O8 (bodyPost prog f127 a1) ⟨List.toArray (u0::u1::u2::.pointer (some ⟨pb,0,none⟩)::u4::u5::u6::u7::u8::.bool m::b3::.slice qa Q.length qc::b5::b6::b7::b8::b9::c0::c1::c2::c3::c4::c5::c6::c7::c8::c9::d0::d1::d2::d3::d4::d5::d6::d7::d8::d9::e0::e1::e2::e3::e4::e5::e6::e7::e8::e9::f0::f1::f2::f3::f4::f5::f6::f7::f8::f9::g0::g1::g2::g3::g4::g5::g6::g7::g8::g9::h0::h1::h3::h4::h5::h6::h7::h8::h9::i0::i1::i2::i3::i4::i5::i6::i7::i8::i9::j0::j1::j2::j3::j4::j5::j6::j7::j8::j9::k0::k1::k2::k3::k4::k5::k6::k7::k8::k9::l0::l1::l2::l3::l4::l5::l6::l7::l8::l9::m0::m1::m2::m3::m4::m5::m6::m7::m8::m9::n0::n1::n2::n3::n4::n5::n6::n7::n8::n9::o0::o1::o2::o3::o4::o5::o6::o7::o8::o9::p0::p1::p2::p3::p4::p5::p6::p7::p8::p9::q0::q1::q2::q3::q4::q5::q6::q7::q8::q9::r0::r1::r2::r3::r4::r5::r6::r7::r8::r9::s0::s1::s2::s3::s4::s5::s6::s7::s8::s9::t0::t1::t2::t3::t4::t5::t6::t7::t8::t9::u3::u9::v0::v1::v2::v3::v4::v5::v6::v7::v8::v9::w1::w2::w3::w4::w5::w6::w7::w8::w9::x0::x1::x2::x3::x4::x5::x6::x7::x8::x9::y0::y1::y2::y3::y4::y5::y6::y7::y8::y9::z0::z1::z2::z3::z4::z5::z6::z7::z8::z9::a'::b'::c'::[]),[]⟩ w:=by
 have R:=AB hR;have a4:=AB v;have e':=R8 v;have E:=X4 Q (by omega) (fun x hx=>BC (v x hx) (by decide));have f':=R9 (Cj Q) Q;have a5:=AB (fun(k:Nat)(d:∀j,j<k→Dd [45,45,98] Q j=true)(h2:Dd [45,45,98] Q k=false)=>show Cj Q=98::itoa (k:Int)from by
  unfold Cj;rw[cD d h2])
 have z:(Dw (Cj Q) Q).length≤1000000000000:=by
  have d:Q.length*3900000000≤390000000000:=by omega
  have h2:Q.length*((Cj Q).length+6)≤Q.length*28:=Nat.mul_le_mul_left _ (by omega);omega
 have K:=AB c;have F:=AB s;have G:=AB u;have g':Bd Q≤3900000000000:=by omega
 clear hR v f' c s u;obtain⟨w',x',h',a6⟩:=G.o.opens Cw;injection h' with i' j' k';subst i' k';have a7:=AB a6;clear a6 j';generalize l':bodyPost prog f127 _=QQ;delta O8 N1 f127;dsimp only[Ak,Option.getD];subst l';go_upto_block 2 with fail;go_cut[16] (fun N f=>∃n:Nat,N=.int .i64 n∧n≤1000000000000000∧Hid (Cj Q=98::itoa (n:Int))∧Below w.heap.size w f)
 case first=>
  clear R K F z E a2 a3;go_wp2_with fail;go_loopw[16,17] (fun N J wr=>∃n k:Nat,N=.int .i64 n∧J=.int .i64 k∧k≤Q.length∧Hid (∀j,j<n→Dd [45,45,98] Q j=true)∧Hid (∀i(a:i<Q.length),i<k→contains Q[i] ([45,45,98]++itoa (n:Int))=false)∧Below w.heap.size w wr) (fun N J _=>(20*(Bd Q+Q.length+1)-(intOf N).toNat)*(Q.length+2)+(Q.length-(intOf J).toNat))
  case atStart=>exact⟨0,0,rfl,rfl,by omega,AB (fun j hj=>by omega),AB (fun i a h=>by omega),AD _ _⟩
  obtain⟨n,k,rfl,rfl,y',H,C,B⟩:=hrel;have hn:=Qn _ _ n H.o;by_cases L:k<Q.length
  ·obtain⟨g,rfl,a8,d⟩:=a7.o k L;have P:wr.cell? ⟨g,k,none⟩=some (.string ⟨(Q[k]).toArray⟩):=by
    have:=(B.cell (p:=⟨g,k*1+0,none⟩) a8).trans (d 0 (by decide));simpa[Bi]using this
   have A:=D.next B;have I:=fun W S=>Mz (n:Int) (by omega) (by omega) W S
   have T:=CJ (n:Int) (by omega) (by omega);have m':¬9223372036854775807<3+(itoa (n:Int)).length:=by omega
   have n':=a4.o _ (AN L);have Y:=AB (fun(h:contains Q[k] ([45,45,98]++itoa (n:Int))=true)=>show∀j,j<n+1→Dd [45,45,98] Q j=true from fun j hj=>by
    rcases CN j n with l|l
    ·exact H.o j l
    obtain rfl:j=n:=by omega
    exact XU L h)
   have O:=AB (fun(h:contains Q[k] ([45,45,98]++itoa (n:Int))=false)=>show∀i(a:i<Q.length),i<k+1→contains Q[i] ([45,45,98]++itoa (n:Int))=false from fun i a z'=>by
    rcases CN i k with l|l
    ·exact C.o i a l
    obtain rfl:i=k:=by omega
    exact h)
   have a9:(20*(Bd Q+Q.length+1)-(n+1))*(Q.length+2)+Q.length<(20*(Bd Q+Q.length+1)-n)*(Q.length+2)+(Q.length-k):=by
    obtain⟨M,hM⟩:∃M,20*(Bd Q+Q.length+1)-n=M+1:=⟨20*(Bd Q+Q.length+1)-n-1,by omega⟩;rw[hM,show 20*(Bd Q+Q.length+1)-(n+1)=M by omega,DN];omega
   have b0:=AB a9;have b1:=B.size;clear d C a9;have b2:[45,45,98]++itoa (n:Int)=45::45::98::itoa (n:Int):=rfl;rw[b2]at Y O;clear b2;have U:=A.next ((AD wr.heap.size wr).drew);have o':g<wr.drew.heap.size:=CG a8 b1;have V:wr.drew.cell? ⟨g,k,none⟩=some (.string ⟨(Q[k]).toArray⟩):=P;have o:=fun W S=>Nm (Q[k]) (45::45::98::itoa (n:Int)) W (by omega) S
   generalize hq:contains (Q[k]) (45::45::98::itoa (n:Int))=q at o Y O;generalize Q[k]=x at P V o n';generalize itoa (n:Int)=ib at I T o m';clear hq;go_upto_region 20 with fail;go_cut[125] (fun t f=>t=.bool q∧Below wr.heap.size wr f)
   case first=>
    clear Y O b0 H;have HG:=AB U;go_region_law((first
     |(go_simp;with_reducible refine(o _ ((HG.o.next K1.o).r.g)).mono ?_;rintro r p'⟨rfl,q'⟩;obtain rfl:=q'.symm)
     |(go_simp;with_reducible refine(I _ U).mono ?_;rintro r A'⟨rfl,X⟩;have K1:=AB X;have K0:=AB (C4 X (w0:=wr) ((AD wr.heap.size wr).drew));have B':=(X.cell (p:=⟨g,k,none⟩) o').trans V)))
    all_goals
     go_wp2_with fail;go_meet;exact⟨rfl,K0.o⟩
   case rest=>
   obtain⟨rfl,b4⟩:=hcut;obtain⟨p',rfl⟩:∃x:World,x=wc:=⟨_,rfl⟩;have B4:=B.trans (b4.mono b1);clear I o P V b4 U A;cases q with
   |true=>
    have Z:=AB (Y.o rfl);clear Y O H;go_wp2_with fail;go_roundw
    case rel=>exact⟨n+1,0,by go_num,by go_num,by omega,Z,AB (fun i a h=>by omega),B4⟩
    have:=b0.o;simp[intOf];omega
   |false=>
    have r':=AB (O.o rfl);clear Y O;go_wp2_with fail;go_roundw
    case rel=>exact⟨n,k+1,rfl,by go_num,by omega,H,r',B4⟩
    simp[intOf];omega
  obtain rfl:k=Q.length:=by omega
  have Z:=AB (a5.o n H.o (XV fun i a=>C.o i a a));clear C H;go_wp2_with fail;go_meet;exact⟨n,rfl,by omega,Z,B⟩
 case rest=>
 obtain⟨n,rfl,hn,H,B⟩:=hcut;obtain⟨s',rfl⟩:∃x:World,x=wc:=⟨_,rfl⟩;have I:=Mz (n:Int) (by omega) (by omega) s' (D.next B);have T:=CJ (n:Int) (by omega) (by omega);have c:=K.o.next B K.o.lt;have s:=F.o.next B;have u:=G.o.next B;have A:=D.next B;rw[H.o]at z E;have a0:=R.o;rw[H.o]at a0;have R:=AB a0;generalize itoa (n:Int)=ib at I T R z E;clear a0 a7 a5 K F G H a4 e' g';go_upto_region 24 with(with_reducible refine I.mono ?_;rintro e t'⟨rfl,b⟩);go_cut[20] (fun t f=>t=.bool false∧f=t')
 case first=>
  go_wp2_with fail;go_meet;exact⟨rfl,by first|rfl|trivial⟩
 case rest=>
 obtain⟨rfl,u'⟩:=hcut;obtain rfl:=u'.symm;apply_assumption;exact XT (c.next b c.lt) (s.next b) a2 a3 (u.next b) z (by omega) (by omega) (A.next b).r (fun y hb=>R.o y (B.trans ((b.trans (hb.mono b.size)).mono B.size)))
def Rp(lb l:Nat)(r:Except Int (Bs×Nat))(e:Ending)(w':World):Prop:=(∃s n,r=.ok (s,n)∧n<l∧s.length≤(l-n)*100000000∧e=.returned (.tuple #[.string ⟨s.toArray⟩,.int .i64 0])∧A1 w' lb #[.int .i64 (40-(n:Int))] 3)∨(∃c,r=.error c∧1≤c∧e=.returned (.tuple #[.string ⟨#[]⟩,.int .i64 c]))
theorem XX(h:List A4)(body:Bs)(m:Bool)(q:List Bs)(l n:Nat)(w:Av h≤120000)(d:body.length≤40000000)(e:n+q.length≤l)(f:l≤40)(s:Bd q≤(l-n)*100000000)(b:∀x∈q,x.length≤3900000000):(Ro h body m (Cj q) q).length≤(l+1-n)*100000000:=by
 have g:=X4 q (by omega) (fun x c=>BC (b x c) (by decide));have t:=R9 (Cj q) q;have i:q.length*((Cj q).length+6)≤q.length*28:=Nat.mul_le_mul_left _ (by omega);have j:=jR m false (Cj q) h;have E:(l+1-n)*100000000=(l-n)*100000000+100000000:=by
  rw[show l+1-n=(l-n)+1 by omega,DN]
 unfold Ro;cases m with
 |true=>
  have a:((D0 (Ct true false (Cj q) h)).getD []).length≤7*Av (Ct true false (Cj q) h)+2:=U6 fun o H=>Pl H
  simp only[DC,AH,AO,BN];omega
 |false=>
  have a:((D0 (Ct false false (Cj q) h++[(Bl,(Ck body).1)])).getD []).length≤7*Av (Ct false false (Cj q) h++[(Bl,(Ck body).1)])+2:=U6 fun o H=>Pl H
  rw[Nk]at a;have k:Av [(Bl,(Ck body).1)]=Bl.length+(Ck body).1.length+1:=by simp[Av]
  have p:Bl.length=25:=by decide
  have r:=(fQ body).1;have u:=fU body;simp only[BU,DJ,AH];omega
theorem XY{P:Nat}{f:Int}{ps:List A8}{raws:List Ao}{R:Except Int (Bs×Nat)}
  (b0:Hid (f=4-((d+1:Nat):Int))) (E':d+1≤4) (hl:L+1≤40) (i':8<lb) (F':lb<w0.heap.size) (a0:A5 lb w0.heap.size w0 w) (G':w0.heap.size≤P)
  (C:A1 w P #[.slice ha h.length hc,.string ⟨body.toArray⟩,.bool m,.slice pa ps.length pc] 44) (hH:Aq 2 Au (fun b=>b≠lb) w (.slice ha h.length hc) h) (a1:Av h≤120000) (a2:body.length≤40000000)
  (j':Aq 4 D5 (fun b=>b≠lb) w (.slice pa ps.length pc) raws) (H':raws.length=ps.length) (k':Hid (∀k(h1:k<raws.length)(D:k<ps.length),A7 (fun b=>b≠lb) z w raws[k] ps[k])) (l':Hid (∀p∈ps,Ft z p))
  (H:A1 w lb #[.int .i64 (40-(L:Int))] 3) (hg:Gz w) (I':ps.length≤1000000)
  (ih:∀(F:Nat)(t:Ao)(p:A8)(f bg:Int)(w:World),Hid (f=4-(d:Int))→Hid (bg=40-(F:Int))→F≤40→Gz w→A1 w lb #[.int .i64 bg] 3→A7 (fun b=>b≠lb) z w t p→Ft z p→Calls prog 127 #[Bm t,.int .i64 f,.pointer (some ⟨lb,0,none⟩)] w fun e g=>Rp lb F (Bh d F p) e g∧A5 lb w.heap.size w g)
  (hR:Hid (∀r,By (Bh d) L ps=r→R=match r with
   | .error e=>.error e
   | .ok (l,n)=>.ok (O0 h body m l,n))):
  Code.wp prog N1 (bodyPost prog f127 (fun e g=>Rp lb (L+1) R e g∧A5 lb w0.heap.size w0 g)) ⟨List.toArray (u0::.int .i64 f::.pointer (some ⟨lb,0,none⟩)::.pointer (some ⟨P,0,none⟩)::u4::u5::u6::u7::u8::.bool m::b5::.slice none 0 0::b6::b7::b8::b9::c4::c5::c6::c7::c8::c9::d0::d1::d2::d3::d4::d5::d6::d7::d8::d9::e0::e1::e2::e3::e4::e5::e6::e7::e8::e9::f0::f1::f2::f3::f4::f5::f6::f7::f8::f9::g0::g1::g2::g3::g4::g5::g6::g7::g8::g9::h0::h2::h3::h4::h5::h6::h7::h8::h9::i0::i1::i2::i3::i4::i5::i6::i7::i8::i9::j0::j1::j2::j3::j4::j5::j6::j7::j8::j9::k0::k1::k2::k3::k4::k5::k6::k7::k8::k9::l0::l1::l2::l3::l4::l5::l6::l7::l8::l9::m0::m1::m2::m3::m4::m5::m6::m7::m8::m9::n0::n1::n2::n3::n4::n5::n6::n7::n8::n9::o0::o1::o2::o3::o4::o5::o6::o7::o8::o9::p0::p1::p2::p3::p4::p5::p6::p7::p8::p9::q0::q1::q2::q3::q4::q5::q6::q7::q8::q9::r0::r1::r2::r3::r4::r5::r6::r7::r8::r9::s0::s1::s2::s3::s4::s5::s6::s7::s8::s9::t0::t1::t2::t3::t4::t5::t6::t7::t8::t9::u1::u2::u3::u9::v0::v1::v2::v3::v4::v5::v6::v7::v8::v9::w1::w2::w3::w4::w5::w6::w7::x0::x1::x2::x3::x4::x5::x6::x7::x8::x9::y0::y1::y2::y3::y4::y5::y6::y7::y8::y9::z0::z1::z2::z3::z4::z5::z6::z7::z8::z9::a'::b'::c'::d'::e'::f'::g'::h'::[]),[]⟩ w:=by
 generalize n':bodyPost prog f127 _=QQ;have b1:=a0.size;have kc:=C.cell;have o':=C.lt;delta N1 f127;dsimp only[Ak,Option.getD];subst n';have p':P≠lb:=by omega
 go_upto_block 0 with fail;go_cut[11] (fun vp G=>∃(n:Nat)(q:List Bs)(Q:Option Go.Addr)(u:Nat),vp=.slice Q q.length u∧E9 G w.heap.size (.slice Q q.length u) q∧n+q.length≤L∧Bd q≤(L-n)*100000000∧Hid (∀x∈q,x.length≤3900000000)∧Hid (By (Bh d) L ps=.ok (q,n))∧A1 G lb #[.int .i64 (40-(n:Int))] 3∧Gz G∧A5 lb w.heap.size w G)
 case first=>
  have HR:=AB (fun c(D:By (Bh d) L ps=.error c)=>show R=.error c from hR.o _ D);clear hR hH a1 a2 C o' kc;go_wp2_with fail;go_loopw[11,92] (fun vp iv wr=>∃(k n:Nat)(q:List Bs),iv=.int .i64 k∧k≤ps.length∧q.length=k∧n+q.length≤L∧Bd q≤(L-n)*100000000∧E9 wr w.heap.size vp q∧Hid (∀x∈q,x.length≤3900000000)∧Hid (Ku q (By (Bh d) n (ps.drop k))=By (Bh d) L ps)∧A1 wr lb #[.int .i64 (40-(n:Int))] 3∧Gz wr∧A5 lb w.heap.size w wr) (fun _ iv _=>ps.length-(intOf iv).toNat)
  case atStart=>exact⟨0,L,[],rfl,by omega,rfl,by simp,by simp[Bd],A0.nil _ _ _ _ _,AB (by simp),AB (by rw[DP,Te]),H,hg,A5.refl _ _ _⟩
  clear H hg;obtain⟨k,n,q,rfl,J',K',a3,J,a,X,i,H,a4,B⟩:=hrel;by_cases K:k<ps.length
  ·obtain⟨M,rfl,S,T,v⟩:=j'.at Db k (by omega);have U:=(k'.o k (by omega) K).Ag B (by simp);have a5:=l'.o _ (AN K);have c0:=(B.cell (p:=⟨M,k*4+0,none⟩) T S).trans (v 0 (by decide));have c1:=(B.cell (p:=⟨M,k*4+1,none⟩) T S).trans (v 1 (by decide));have c2:=(B.cell (p:=⟨M,k*4+2,none⟩) T S).trans (v 2 (by decide));have c3:=(B.cell (p:=⟨M,k*4+3,none⟩) T S).trans (v 3 (by decide));have E:=AB (fun c(h:Bh d n ps[k]=.error c)=>Tf K h q);have O:=AB (fun y m(h:Bh d n ps[k]=.ok (y,m))=>Tg K h q);clear v;generalize ps[k]=p at U a5 E O;generalize raws[k]'(by omega)=t at U c0 c1 c2 c3;have I:=fun W h1 D q'=>ih n t p (f+1) (40-(n:Int)) W (AB (by have:=b0.o;omega)) (AB rfl) (by omega) h1 D q' a5
   obtain⟨⟨ra,rn,a6⟩,rb,rm,⟨a7,a8,a9⟩⟩:=t;simp only[Bm,A9,D5,BI,AR,AT]at c0 c1 c2 c3 I;have kt:=A1.new wr #[.slice ra rn a6,.string ⟨rb.toArray⟩,.bool rm,.slice a7 a8 a9] 44;have A:=(AD wr.heap.size wr).alloc (AC _) (.cells #[.slice ra rn a6,.string ⟨rb.toArray⟩,.bool rm,.slice a7 a8 a9] 44);have H:=H.next A H.lt;have a:=A0.next a A;have j:=a4.next A;have B1:=B.next A B.size;have I:=I _ j H (U.next A);have r':(wr.alloc (.cells #[.slice ra rn a6,.string ⟨rb.toArray⟩,.bool rm,.slice a7 a8 a9] 44)).heap.size=wr.heap.size+1:=by simp
   have L':0≤f∧f≤3:=by have:=b0.o;omega
   generalize Bh d n p=rx at I E O;have b2:=kt.cell;have M':=B.size;clear A a4 B U a5 H;go_wp2_with fail;generalize World.alloc _ _=W1 at a j B1 I r' b2 kt⊢;with_reducible refine I.mono ?_
   rintro e w8⟨hh,V⟩;have N':=V.size;have a:=A0.Ag a V (by omega);have s':=j.Ag V i';have Y:=B1.trans (V.mono (by omega));clear I c0 c1 c2 c3 j B1 kt b2;rcases hh with⟨s,m',rfl,hm,t',rfl,H⟩|⟨c,rfl,b3,rfl⟩
   case inr=>
    have N:=AB (HR.o c (i.o.symm.trans (E.o c rfl)));have u':=AB b3;have O':¬c=0:=by omega
    clear E O i HR b3;go_wp2_with fail;go_ret2;exact⟨Or.inr ⟨c,N.o,u'.o,rfl⟩,a0.trans (Y.mono b1)⟩
   have N:=AB (Eq.trans (O.o s m' rfl).symm i.o);have v':s.length≤3900000000:=by
    have:(n-m')*100000000≤39*100000000:=EM _ (by omega);omega
   have w':=AB (show∀x∈q++[s],x.length≤3900000000 from fun x o=>by
    rcases BP.1 o with o|o
    ·exact X.o x o
    simp at o;rw[o];exact v')
   clear E O i;go_wp2_with(at_builtin;refine L0 rfl _ _ rfl w.heap.size _ q s w8.heap.size 1 rfl (A0.alloc a _) rfl (Kz _ _ _) (by omega) (by have:=Y.size;simp;omega) ?_;intro P' w9 x' y' Z z');have A:=(AD w8.heap.size w8).alloc (AC _) (.cells #[.string ⟨s.toArray⟩] 9);have H:=(H.next A H.lt).next Z (by omega);have A':Gz w9:=(s'.next A).keep fun b Q'=>Z.block b (by omega)
   have B9:A5 lb w.heap.size w w9:=(Y.next A Y.size).trans (A5.of Z);clear A y' Z z' a;go_wp2_with fail;go_roundw
   case rel=>exact⟨k+1,m',q++[s],by go_num,by omega,by simp;omega,by simp;omega,gJ J t' (by omega) (by omega),x',w',N,H,A',B9⟩
   simp[intOf];omega
  obtain rfl:k=ps.length:=by omega
  have N:=AB (show By (Bh d) L ps=.ok (q,n)from i.o.symm.trans (Th q));obtain⟨Q,u,B',_⟩:=A0.rd (by decide) Cw a;subst B';clear i HR;go_wp2_with fail;go_meet;exact⟨n,q,Q,u,rfl,a,a3,J,X,N,H,a4,B⟩
 case rest=>
 obtain⟨n,q,Q,u,rfl,a,a3,J,X,N,b4,j,B⟩:=hcut;obtain⟨R',rfl⟩:∃x:World,x=wc:=⟨_,rfl⟩;have C':=hR.o _ N.o;have D':=C.Ag B p';apply_assumption;refine XW D' (hH.Ag B (by simp)).rd a1 a2 (A0.rd (by decide) Cw a) (by omega) X.o j (fun g hb=>?_);rw[jQ];refine⟨Or.inl ⟨_,n,C',by omega,?_,rfl,b4.next hb b4.lt⟩,(a0.trans (B.mono b1)).next hb (by have:=B.size;omega)⟩;have:=XX h body m q L n a1 a2 a3 (by omega) J X.o;rw[jQ]at this;exact this
end Go.Proofs.YtignjjnflcpiiaaGreatDoor
