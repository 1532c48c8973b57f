/- A part's head without its name, and what its links become -/
import Derived.Test.YtignjjnflcpiiaaGreatDoorS46
set_option linter.all false
set_option maxHeartbeats 16000000
set_option maxRecDepth 100000
namespace Go.Proofs.YtignjjnflcpiiaaGreatDoor
open Go Go.RowKit Proofs.Tryz Lib
variable {w:World}{v4 v5 v6 m r U S T V X Y Z u7 u8 u9 a0 a1 a2 a3 a4 a5 a6 a7 a8 t2 a9 b0 b1 b2 b3 b4 b5 b6 b7 b8 b9 c0 c1 c2 c3 c4 c5 c6 c7 c8 c9 d0 d1 d2 d3 d4 d5 d6 d7 d8 d9 e0 e1 e2 e3 e4 e5 e6 e7 e8 e9 f0 f1 f2 f3 f4 f5 f6 f7 f8 f9 g0 g1 g2 g3 g4 g5 g6 g7 g8 g9 h0 h1 h2 h3 h4 h5 h6 h7 h8 h9 i0 i1 i2 i3 i4 i5 i6 i7 i8 i9 j0 j1 j2 j3 j4 j5 j6 j7 j8 j9 k0 k1 k2 k3 t3 t4 t5 t6 t7 t8 t9 u0 u1 u2 u3 u4 u5 u6 v0 v1 v2 v3 k4 k5 k6 k7 k8 k9 l0 l1 l2 l3 l4 l5 l6 l7 l8 l9 m0 m1 m2 m3 m4 m5 m6 m7 m8 m9 n0 n1 n2 n3 n4 n5 n6 n7 n8 n9 o0 o1 o2 o3 o4 o5 o6 o7 o8 o9 p0 p1 p2 p3 p4 p5 p6 p7 p8 p9 q0 q1 q2 q3 q4 q5 q6 q7 q8 q9 r0 r1 r2 r3 r4 r5 r6 r7 r8 r9 s0 s1 z3 z4 z5 v7 v8 v9 w0 w1 w2 w4 w7 w8 x0 x3 x4 x5 x6 x7 x8 x9 y0 y1 y2 y3 y4 y5 y6 y7 y8 y9 z0 z1 z2:Value}{ha la:Option Go.Addr}{F c hc cp C lc:Nat}{Q:Exit → Act → World → Prop}
theorem XZ{h:List A4}{l:Value}
  (v7:A1 w F #[.slice ha h.length hc,v4,v5,v6] 44) (H:A1 w c #[.slice none 0 0,l,m,r] 44)
  (hH:Aq 2 Au (fun b=>b≠c) w (.slice ha h.length hc) h) (G:Dh 100000 h)
  (hN:∀(s:World)(O:Option Go.Addr)(d:Nat)(v8 v9 w0 w1 w2 w3 w4 w5 w6 w7 w8 w9 x0 x1 x2 x3 x4 x5 x6:Value),A1 s c #[.slice O (h.filter fun f=>!(A2 f.1==A2 C3)).length d,l,m,r] 44→Bk s w.heap.size (.slice O (h.filter fun f=>!(A2 f.1==A2 C3)).length d) (h.filter fun f=>!(A2 f.1==A2 C3))→A5 c w.heap.size w s→Q .normal ⟨List.toArray (U::S::T::V::X::Y::Z::u7::u8::u9::a0::a1::a2::a3::a4::a5::a6::a7::.pointer (some ⟨F,0,none⟩)::.pointer (some ⟨c,0,none⟩)::a8::v8::a9::b0::b1::b2::b3::b4::b5::b6::b7::b8::b9::c0::c1::c2::c3::c4::c5::c6::c7::c8::c9::d0::d1::d2::d3::d4::d5::d6::d7::d8::d9::e0::e1::e2::e3::e4::e5::e6::e7::e8::e9::f0::f1::f2::f3::f4::f5::f6::f7::f8::f9::g0::g1::g2::g3::g4::g5::g6::g7::g8::g9::h0::h1::h2::h3::h4::h5::h6::h7::h8::h9::i0::i1::i2::i3::i4::i5::i6::i7::i8::i9::j0::j1::j2::j3::j4::j5::j6::j7::j8::j9::k0::k1::k2::k3::v9::w0::w1::w2::w3::w4::w5::w6::w7::w8::w9::x0::x1::x2::x3::x4::x5::x6::k4::k5::k6::k7::k8::k9::l0::l1::l2::l3::l4::l5::l6::l7::l8::l9::m0::m1::m2::m3::m4::m5::m6::m7::m8::m9::n0::n1::n2::n3::n4::n5::n6::n7::n8::n9::o0::o1::o2::o3::o4::o5::o6::o7::o8::o9::p0::p1::p2::p3::p4::p5::p6::p7::p8::p9::q0::q1::q2::q3::q4::q5::q6::q7::q8::q9::r0::r1::r2::r3::r4::r5::r6::r7::r8::r9::s0::s1::[]),[]⟩ s):
  Code.wp prog jO Q ⟨List.toArray (U::S::T::V::X::Y::Z::u7::u8::u9::a0::a1::a2::a3::a4::a5::a6::a7::.pointer (some ⟨F,0,none⟩)::.pointer (some ⟨c,0,none⟩)::a8::t2::a9::b0::b1::b2::b3::b4::b5::b6::b7::b8::b9::c0::c1::c2::c3::c4::c5::c6::c7::c8::c9::d0::d1::d2::d3::d4::d5::d6::d7::d8::d9::e0::e1::e2::e3::e4::e5::e6::e7::e8::e9::f0::f1::f2::f3::f4::f5::f6::f7::f8::f9::g0::g1::g2::g3::g4::g5::g6::g7::g8::g9::h0::h1::h2::h3::h4::h5::h6::h7::h8::h9::i0::i1::i2::i3::i4::i5::i6::i7::i8::i9::j0::j1::j2::j3::j4::j5::j6::j7::j8::j9::k0::k1::k2::k3::t3::t4::t5::t6::t7::t8::t9::u0::u1::u2::u3::u4::u5::u6::v0::v1::v2::v3::k4::k5::k6::k7::k8::k9::l0::l1::l2::l3::l4::l5::l6::l7::l8::l9::m0::m1::m2::m3::m4::m5::m6::m7::m8::m9::n0::n1::n2::n3::n4::n5::n6::n7::n8::n9::o0::o1::o2::o3::o4::o5::o6::o7::o8::o9::p0::p1::p2::p3::p4::p5::p6::p7::p8::p9::q0::q1::q2::q3::q4::q5::q6::q7::q8::q9::r0::r1::r2::r3::r4::r5::r6::r7::r8::r9::s0::s1::[]),[]⟩ w:=by
 let y8:=bodyPost prog f26 (fun _ _=>True);delta jO U5 Rn N2 f26;dsimp only[Ak,Ga,Fs,Option.getD];have x7:=AB hN;have x8:=AB G.2;have y9:=G.1;have kp:=v7.cell;have x9:A2 C3=[99,111,110,116,101,110,116,45,105,100]:=by decide
 have s2:=H.lt;clear hN G;go_wp2_with fail;go_loopw[120] (fun I wr=>∃(j:Nat)(o:List A4)(O:Option Go.Addr)(d:Nat),I=.int .i64 j∧j≤h.length∧o.length≤j∧A1 wr c #[.slice O o.length d,l,m,r] 44∧Bk wr w.heap.size (.slice O o.length d) o∧Hid (o++(h.drop j).filter (fun f=>!(A2 f.1==A2 C3))=h.filter fun f=>!(A2 f.1==A2 C3))∧A5 c w.heap.size w wr) (fun I _=>h.length-(intOf I).toNat)
 case atStart=>exact⟨0,[],none,0,rfl,by omega,by simp,H,A0.nil _ _ _ _ _,AB (by simp),A5.refl _ _ _⟩
 obtain⟨j,o,O,d,rfl,hj,z0,H,n,t,B⟩:=hrel;by_cases J:j<h.length
 ·obtain⟨g,rfl,s3,s4,K⟩:=hH.at Ah j J;have s5:=(B.cell (p:=⟨g,j*2+0,none⟩) s4 s3).trans (K 0 (by decide));have s6:=(B.cell (p:=⟨g,j*2+1,none⟩) s4 s3).trans (K 1 (by decide));have hf:=x8.o _ (AN J);have D:=AB (show o++(if !(A2 (h[j]).1==A2 C3)then h[j]::(h.drop (j+1)).filter (fun f=>!(A2 f.1==A2 C3))else(h.drop (j+1)).filter (fun f=>!(A2 f.1==A2 C3)))=h.filter fun f=>!(A2 f.1==A2 C3)from by
   rw[←t.o,AE J,DA])
  clear K t;generalize h[j]=f at s5 s6 hf D;obtain⟨x,y⟩:=f;simp only[Au,BI,AR,AT]at s5 s6 hf D;have L:=fun W=>I1 x W (by omega)
  have z1:=AB (A0.Do n);have k:=A1.new wr #[.string ⟨x.toArray⟩,.string ⟨y.toArray⟩] 92;have A:=(AD wr.heap.size wr).alloc (AC _) (.cells #[.string ⟨x.toArray⟩,.string ⟨y.toArray⟩] 92);have n:=A0.next n A;have H:=H.next A H.lt;have u:=B.next A B.size;have s7:=k.cell;generalize y0:A2 x=lx at L D;generalize y1:(lx==A2 C3)=q at D;rw[x9]at y1;clear A y0;go_wp2_with fail;generalize World.alloc _ _=z2 at k n u H s7⊢;with_reducible refine(L _).mono ?_
  rintro e v⟨rfl,i⟩;have k:=k.next i k.lt;have n:=A0.next n i;have H:=H.next i H.lt;have M:=u.next i u.size;have s7:=k.cell;have z3:=H.cell;have z4:=H.free;clear i u L;cases q with
  |true=>
   have N:=AB (show o++(h.drop (j+1)).filter (fun f=>!(A2 f.1==A2 C3))=h.filter fun f=>!(A2 f.1==A2 C3)from D.o);clear D;go_wp2_with fail;go_roundw
   case rel=>exact⟨j+1,o,O,d,by go_num,by omega,by omega,H,n,N,M⟩
   simp[intOf];omega
  |false=>
   have N:=AB (show(o++[(x,y)])++(h.drop (j+1)).filter (fun f=>!(A2 f.1==A2 C3))=h.filter fun f=>!(A2 f.1==A2 C3)from by
    have:=D.o;simp only[EH,DC]at this;rw[AJ];exact this)
   clear D;have y2:=M.size;go_wp2_with(at_builtin;refine Kt (α:=A4) (cs:=Au) (size:=2) (z:=.agg #[.string ByteArray.empty,.string ByteArray.empty]) Ah Ju Kj rfl (by decide) underlying42 rfl _ _ rfl w.heap.size _ o [(x,y)] ⟨v.heap.size,0,none⟩ 1 1 rfl rfl (A0.alloc n _) rfl (Gl v (x,y) _) (by simp;omega) (by unfold maxLen;simp;omega) (by simp;omega) ?_;intro v' y3 s8 y4 P y5;obtain⟨C,E,s9,_⟩:=A0.rd (by decide) Ah s8;rw[AH,ES]at s9;subst s9;have R:=(H.alloc (.cells #[.string ⟨x.toArray⟩,.string ⟨y.toArray⟩] 92)).next P s2;have z5:=R.cell;have z6:=R.free);have B9:=(M.next ((AD v.heap.size v).alloc (AC _) (.cells #[.string ⟨x.toArray⟩,.string ⟨y.toArray⟩] 92)) y2).trans (A5.of P);have y6:A1 (y3.setCell ⟨c,0,none⟩ (.slice C (o.length+1) E)) c #[.slice C (o.length+1) E,l,m,r] 44:=R.set 0 _;have y7:=s8.A6 (a:=⟨c,0,none⟩) s2 (.slice C (o.length+1) E);have t0:(o++[(x,y)]).length=o.length+1:=by simp
   clear y4 P y5;go_wp2_with fail;go_roundw
   case rel=>exact⟨j+1,o++[(x,y)],C,E,by go_num,by omega,by simp;omega,by rw[t0];exact y6,by rw[t0];exact y7,N,B9.set _⟩
   simp[intOf];omega
 obtain rfl:j=h.length:=by omega
 have N:=AB (by have:=t.o;simpa using this:o=h.filter fun f=>!(A2 f.1==A2 C3));have t1:=N.o;clear t N;go_wp2_with fail;refine x7.o _ O d _ _ _ _ _ _ _ _ _ _ _ _ _ _ _ _ _ _ _ (by rw[←t1];exact H) (by rw[←t1];exact n) B
theorem YA{l:List Fw}{L:List Aj}{body:Bs}{k:Int}
  (r3:A1 w cp #[z3,.string ⟨body.toArray⟩,z4,z5] 44) (r4:w.cell? ⟨C,0,none⟩=some (.int .i64 k)) (r5:-9223372036854775808≤k) (r6:k≤9223372036854775807)
  (hl:E7 2 Hp w (.slice la l.length lc) l) (P:Bf body=L) (hbl:body.length≤60002) (a4:l=[]∨l.length=L.length) (t:∀x∈l,-9223372036854775808≤x.2∧x.2≤9223372036854775807) (r7:∀i(f:i<l.length)(z6:i<L.length),0≤(l[i]).2→∃a,Cl (L[i]).2.2=some a) (hg:Gz w)
  (hN:∀(w':World)(R:List Bs)(S:Option Go.Addr)(U:Nat)(z7 z8 z9 a' b' c' d' e' f' g' h' i' j' k' l' m' n' o' p' q' r' s' t' u' x' y' z' A' B' C' D' E' F' G' H' I' J' K' L' M' N' O' P' Q':Value),R=(L.zip l).map (fun x=>Ed (64::98::itoa k) x.1.2.2 x.2.2)→E9 w' w.heap.size (.slice S R.length U) R→Below w.heap.size w w'→Q .normal ⟨List.toArray (u0::u1::u2::u3::u4::u5::.func (.func 72) #[] #[.pointer (some ⟨C,0,none⟩)]::u7::u8::u9::b6::b7::b8::b9::c0::c1::c2::c3::.pointer (some ⟨cp,0,none⟩)::c4::c5::c6::.slice la l.length lc::c7::.slice S R.length U::z7::z8::z9::a'::b'::c8::c9::d0::d1::d2::d3::d4::d5::d6::d7::d8::d9::e0::e1::e3::e4::e5::e6::e7::e8::e9::f0::f1::f2::f3::f4::f5::f6::f7::f8::f9::g0::g1::g2::g3::g4::g5::g6::g7::g8::g9::h0::h1::h2::h3::h4::h5::h6::h7::h8::h9::i0::i1::i2::i3::i4::i5::i6::i7::i8::i9::j0::j1::j2::j3::j4::j5::j6::j7::j8::j9::k0::k1::k2::k3::k4::k5::k6::k7::k8::k9::l0::l1::l2::l3::l4::l5::l6::l7::l8::l9::m0::m1::m2::m3::m4::m5::m6::m7::m8::m9::n0::n1::n2::n3::n4::n5::n6::n7::n8::n9::o0::o1::o2::o3::o4::o5::o6::o7::o8::o9::p0::c'::d'::e'::f'::g'::h'::i'::j'::k'::l'::m'::n'::o'::p'::q'::r'::s'::t'::u'::x'::y'::z'::A'::B'::C'::D'::E'::F'::G'::H'::I'::J'::K'::L'::M'::N'::O'::P'::Q'::p1::p2::p3::p4::p5::p6::p7::p8::p9::q0::q1::q2::q3::q4::q5::q6::q7::q8::q9::r0::r1::r2::[]),[]⟩ w'):
  Code.wp prog jP Q ⟨List.toArray (u0::u1::u2::u3::u4::u5::.func (.func 72) #[] #[.pointer (some ⟨C,0,none⟩)]::u7::u8::u9::b6::b7::b8::b9::c0::c1::c2::c3::.pointer (some ⟨cp,0,none⟩)::c4::c5::c6::.slice la l.length lc::c7::.slice none 0 0::t4::t5::t6::t7::t8::c8::c9::d0::d1::d2::d3::d4::d5::d6::d7::d8::d9::e0::e1::e3::e4::e5::e6::e7::e8::e9::f0::f1::f2::f3::f4::f5::f6::f7::f8::f9::g0::g1::g2::g3::g4::g5::g6::g7::g8::g9::h0::h1::h2::h3::h4::h5::h6::h7::h8::h9::i0::i1::i2::i3::i4::i5::i6::i7::i8::i9::j0::j1::j2::j3::j4::j5::j6::j7::j8::j9::k0::k1::k2::k3::k4::k5::k6::k7::k8::k9::l0::l1::l2::l3::l4::l5::l6::l7::l8::l9::m0::m1::m2::m3::m4::m5::m6::m7::m8::m9::n0::n1::n2::n3::n4::n5::n6::n7::n8::n9::o0::o1::o2::o3::o4::o5::o6::o7::o8::o9::p0::t9::u6::v0::v1::v2::v3::v4::v5::v6::v7::v8::v9::w0::w1::w2::w4::w7::w8::x0::x3::x4::x5::x6::x7::x8::x9::y0::y1::y2::y3::y4::y5::y6::y7::y8::y9::z0::z1::z2::p1::p2::p3::p4::p5::p6::p7::p8::p9::q0::q1::q2::q3::q4::q5::q6::q7::q8::q9::r0::r1::r2::[]),[]⟩ w:=by
 let a01:=bodyPost prog f26 (fun _ _=>True);delta jP U5 Rn N2 f26;dsimp only[Ak,Ga,Fs,Option.getD];have r8:=AB hN;have R':=AB t;have S':=AB r7;have r9:=fun W=>Xu body W (by omega)
 rw[P]at r9;have T':=AB (P▸Rb body);have hLn:=P▸(Jb body).2;have U':C<w.heap.size:=AY w _ r4;obtain⟨la',lc',V',s0⟩:=hl.opens Jp;injection V' with Y e2 W';subst Y W';have X':=AB s0;have Y':l.length≤L.length:=by rcases a4 with h|h<;>simp_all
 have hZ:(L.zip l).length=l.length:=by rw[EU];omega
 have s1:=AB (fun(j:Nat)(f:j<l.length)=>show((L.zip l).drop j).map (fun x=>Ed (64::98::itoa k) x.1.2.2 x.2.2)=Ed (64::98::itoa k) (L[j]'(CG f Y')).2.2 (l[j]).2::((L.zip l).drop (j+1)).map (fun x=>Ed (64::98::itoa k) x.1.2.2 x.2.2)from by
  rw[AE (by rw[hZ];exact f),DM,GI])
 have s2:=AB (by rw[←hZ,AQ]:(L.zip l).drop l.length=[]);generalize(L.zip l)=Z at s1 s2 r8;clear hN t r7 s0 e2 hl hZ P a4;have a4:l.length≤60002:=by omega
 go_wp2_with fail;go_loopw[24,154] (fun ov iv wr=>∃(j:Nat)(o:List Bs),iv=.int .i64 j∧j≤l.length∧o.length≤j∧E9 wr w.heap.size ov o∧Hid (o++(Z.drop j).map (fun x=>Ed (64::98::itoa k) x.1.2.2 x.2.2)=Z.map (fun x=>Ed (64::98::itoa k) x.1.2.2 x.2.2))∧Below w.heap.size w wr) (fun _ iv _=>l.length-(intOf iv).toNat)
 case atStart=>exact⟨0,[],rfl,by omega,by simp,A0.nil _ _ _ _ _,AB (by simp),AD _ _⟩
 obtain⟨j,o,rfl,hj,hol,H,a0,B⟩:=hrel;by_cases a1:j<l.length
 ·obtain⟨g,rfl,s3,f⟩:=X'.o j a1;have a5:j<L.length:=by omega
  have s4:=(B.cell (p:=⟨g,j*2+0,none⟩) s3).trans (f 0 (by decide));have s5:=(B.cell (p:=⟨g,j*2+1,none⟩) s3).trans (f 1 (by decide));have t:=R'.o _ (AN a1);have V:=AB (show∀v,Ed (64::98::itoa k) (L[j]).2.2 (l[j]).2=v→(o++[v])++(Z.drop (j+1)).map (fun x=>Ed (64::98::itoa k) x.1.2.2 x.2.2)=Z.map (fun x=>Ed (64::98::itoa k) x.1.2.2 x.2.2)from fun v hv=>by
   rw[←a0.o,s1.o j a1,hv];simp)
  have F:=AB (S'.o j a1 a5);clear f a0;generalize l[j]=d at s4 s5 t V F;obtain⟨s6,D⟩:=d;simp only[Hp,BI,AR,AT]at s4 s5 t V F;have A:=(AD wr.heap.size wr).alloc (AC _) (.cells #[.string ⟨s6.toArray⟩,.int .i64 D] 64);have K:=A1.new wr #[.string ⟨s6.toArray⟩,.int .i64 D] 64;have H:=A0.next H A;have u:=B.trans (A.mono B.size);have hwr:=B.size;have Z':=(r3.next u r3.lt).cell;have z:=K.cell;clear A B;go_wp2_with fail;generalize World.alloc _ _=a02 at K H u Z' z⊢;with_reducible refine(r9 _).mono ?_
  rintro e w3⟨a03,rfl,s7,b3⟩;have K:=K.next b3 K.lt;have H:=A0.next H b3;have B3:=u.trans (b3.mono u.size);have a6:=A0.Dn (by decide) Gq s7;obtain⟨xa,xc,hv3,_⟩:=a6.rd;subst hv3;obtain⟨lb,rfl,_,hlb,a2⟩:=a6.at Gq j a5;have s8:=a2 0 (by decide);have Y:=a2 1 (by decide);have e2:=a2 2 (by decide);have s9:=T'.o _ (AN a5);have a04:(0:Int)≤j:=by omega
  have a05:(j:Int)<L.length:=by omega
  clear a2 s7 a6 b3 u;generalize L[j]=x at s9 V F s8 Y e2;obtain⟨x1,x2,v⟩:=x;simp only[Hm,BI,AR,AT]at s9 V F s8 Y e2;have A:=(AD w3.heap.size w3).alloc (AC _) (.cells #[.int .i64 (x1:Int),.int .i64 (x2:Int),.string ⟨v.toArray⟩] 96);have q:=A1.new w3 #[.int .i64 (x1:Int),.int .i64 (x2:Int),.string ⟨v.toArray⟩] 96;have K:=K.next A K.lt;have H:=A0.next H A;have c:=B3.trans (A.mono B3.size);have z:=K.cell;have a7:=q.cell;clear A B3;by_cases a8:D<0
  ·have N:=AB (V.o v (by unfold Ed;rw[AM a8]));have t0:¬(0:Int)≤D:=by omega
   clear V F;go_upto_region 47 with fail;generalize World.alloc _ _=w5 at K q H c z a7⊢;go_wp2_with(at_builtin;refine L0 rfl _ _ rfl w.heap.size _ o v w5.heap.size 1 rfl (A0.alloc H _) rfl (Kz _ _ _) (by omega) (by have:=c.size;simp;omega) ?_;intro v' w9 E G m I);have J:=(c.alloc c.size (.cells #[.string ⟨v.toArray⟩] 9)).trans m;clear G m I;go_wp2_with fail;go_roundw
   case rel=>exact⟨j+1,o++[v],by go_num,by omega,by simp;omega,E,N,J⟩
   simp[intOf];omega
  have t0:(0:Int)≤D:=by omega
  obtain⟨ra,a9⟩:=F.o t0;have t1:=cE a9;have T:=AB (show Ed (64::98::itoa k) v D=99::105::100::58::(Ce (64::98::itoa k) D++(match Ab [35] v with|none=>[]|some (_,y)=>35::y))from by
   unfold Ed;rw[AI a8,a9];simp only;rw[t1];cases Ab [35] v<;>rfl)
  have X:=fun W hW=>Wt v [35] W (by omega) hW
  simp only[He]at X;have hnl:(Ce (64::98::itoa k) D).length≤1000:=by
   have f:=CJ k r5 r6;have z6:=CJ D (by omega) (by omega);unfold Ce;simp;omega
  have b0:=hg.next c;have a3:=Xz D k C _ (by omega) (by omega) r5 r6 ((c.cell (p:=⟨C,0,none⟩) U').trans r4) b0;generalize Ce (64::98::itoa k) D=n at a3 hnl T;have b1:=fun a b(h:Ab [35] v=some (a,b))=>Ee h
  have zz1:¬9223372036854775807<4+n.length:=by omega
  clear F t1 a9 a8;go_wp2_with fail;generalize World.alloc _ _=w5 at K q H c z a7 a3 b0⊢;with_reducible refine a3.mono ?_
  rintro e w6⟨rfl,M⟩;have q:=q.next M q.lt;have H:=A0.next H M;have s:=c.trans (M.mono c.size);have t2:=(b0.next M).r.g;have a7:=q.cell;clear a3 M K z;cases O:Ab [35] v with
  |none=>
   simp only[O]at X T;have N:=AB (V.o _ T.o);rw[BM]at N;clear V b1 T O;go_upto_region 47 with(with_reducible refine(X _ t2).mono ?_;rintro e a00⟨rfl,b2⟩;obtain rfl:=b2.symm);clear X;go_wp2_with(at_builtin;refine L0 rfl _ _ rfl w.heap.size _ o (99::105::100::58::n) w6.heap.size 1 rfl (A0.alloc H _) rfl (Kz _ _ _) (by omega) (by have:=s.size;simp;omega) ?_;intro v' w9 E G m I);have J:=(s.alloc s.size (.cells #[.string ⟨(99::105::100::58::n:Bs).toArray⟩] 9)).trans m;clear G m I;go_wp2_with fail;go_roundw
   case rel=>exact⟨j+1,o++[99::105::100::58::n],by go_num,by omega,by simp;omega,E,N,J⟩
   simp[intOf];omega
  |some ab=>
   obtain⟨b4,r⟩:=ab;simp only[O]at X T;have b5:=b1 _ _ O;have N:=AB (V.o _ T.o);have t3:v.drop b4.length=35::r:=by rw[b5];simp
   have hvl:v.length=b4.length+1+r.length:=by rw[b5];simp;omega
   have ha1:(b4.length:Int)≤v.length:=by omega
   have hb1:r.length≤100000:=by omega
   have zz2:¬9223372036854775807<n.length+1+1+1+1+(r.length+1):=by omega
   have HDR:=AB t3;clear V b1 T O b5 hvl t3;go_upto_region 47 with(with_reducible refine(X _ t2).mono ?_;rintro e a00⟨rfl,b2⟩;obtain rfl:=b2.symm);clear X;rw[HDR.o];go_wp2_with(at_builtin;refine L0 rfl _ _ rfl w.heap.size _ o (99::105::100::58::(n++35::r)) w6.heap.size 1 rfl (A0.alloc H _) rfl (Kz _ _ _) (by omega) (by have:=s.size;simp;omega) ?_;intro v' w9 E G m I);have J:=(s.alloc s.size (.cells #[.string ⟨(99::105::100::58::(n++35::r):Bs).toArray⟩] 9)).trans m;clear G m I;go_wp2_with fail;go_roundw
   case rel=>exact⟨j+1,o++[99::105::100::58::(n++35::r)],by go_num,by omega,by simp;omega,E,N,J⟩
   simp[intOf];omega
 obtain rfl:j=l.length:=by omega
 have N:=AB (by have:=a0.o;rw[s2.o]at this;simpa using this:o=Z.map (fun x=>Ed (64::98::itoa k) x.1.2.2 x.2.2));obtain⟨S,U,hve,_⟩:=A0.rd (by decide) Cw H;subst hve;clear a0;go_wp2_with fail;exact r8.o _ o S U _ _ _ _ _ _ _ _ _ _ _ _ _ _ _ _ _ _ _ _ _ _ _ _ _ _ _ _ _ _ _ _ _ _ _ _ _ _ _ _ _ _ _ _ N.o H B
end Go.Proofs.YtignjjnflcpiiaaGreatDoor
