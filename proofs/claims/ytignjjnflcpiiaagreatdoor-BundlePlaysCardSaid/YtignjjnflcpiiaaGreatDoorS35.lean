/- A tag, by the document's answer: its links, and where it -/
import Derived.Test.YtignjjnflcpiiaaGreatDoorS30
set_option linter.all false
set_option maxHeartbeats 16000000
set_option maxRecDepth 100000
namespace Go.Proofs.YtignjjnflcpiiaaGreatDoor
open Go Go.RowKit Proofs.Tryz Lib
def Lk(x:Bs):Bool:=N7.contains x
theorem UP(x:Bs):Lk x=((x==[115,99,114,105,112,116])||((x==[115,116,121,108,101])||((x==[116,101,120,116,97,114,101,97])||(x==[116,105,116,108,101])))):=by
 unfold Lk N7;simp only[List.contains_cons,List.contains_nil,Bool.or_false]
theorem UQ(s:Bs)(i:Nat):A2 (s.drop i)=(A2 s).drop i:=by unfold A2;rw[List.map_drop]
theorem UR(s:Bs)(i:Nat):Cu s i=(if Lk (A2 ((s.drop i).takeWhile D6))then D4 (A2 s) (60::47::A2 ((s.drop i).takeWhile D6)) (Ar s (Aa D6 s i)).1 else(Ar s (Aa D6 s i)).1,(Ar s (Aa D6 s i)).2):=by
 have h:(s.drop i).take (Br (s.drop i) Dv)=(s.drop i).takeWhile D6:=Rv _ _;have H:i+Br (s.drop i) Dv=Aa D6 s i:=rfl;rw[Uq,h,H];have a:(N7.contains (A2 ((s.drop i).takeWhile D6)))=Lk (A2 ((s.drop i).takeWhile D6)):=rfl;rw[a];cases Lk (A2 ((s.drop i).takeWhile D6))with
 |false=>rfl
 |true=>
  simp only[DC];unfold D4;rw[←UQ,W8];rfl
theorem US:((List.range 256).all fun n=>((decide (97≤((Bw n.toUInt8).toNat:Int))&&decide (((Bw n.toUInt8).toNat:Int)≤122))||(decide (48≤((Bw n.toUInt8).toNat:Int))&&decide (((Bw n.toUInt8).toNat:Int)≤57)))==D6 n.toUInt8)=true:=by kernel_rfl
theorem UT(c:UInt8):D6 c=((decide (97≤((Bw c).toNat:Int))&&decide (((Bw c).toNat:Int)≤122))||(decide (48≤((Bw c).toNat:Int))&&decide (((Bw c).toNat:Int)≤57))):=by
 have:=AW.1 US c.toNat (BY.2 c.toNat_lt);rw[show c.toNat.toUInt8=c by simp]at this;exact(BG.1 this).symm
variable {R:Nat × List Aj}{w0 w:World}{j B i:Nat}{v u U q y z A C D E F G I J K L N O P S T V X Y Z a0 a1 a2 a3 a4 a5 a6 a7 a8 a9 b0 b1 b2 b3 b4 b5 b6 b7 b8 b9 c0 c1 c2 c3 c4 c5 c6 c7 c8 c9 d0 d1 d2 d3 d4 d5 d6 d7 d8 d9 e0 e1 e2 e3 e4 e5 e6 e7 e8 e9 f0 f1 f2 f3 f4 f5 f6 f7 f8 f9 g0 g1 g2 g3 g4 g5 g6 g7 g8 g9 h0 h1 h2 h3 h4 h5 h6 h7 h8 h9 i0 i1 i2 i3 i4 i5 i6 i7 i8 i9 j0 j1 j2 j3 j4 j5 j6 j7 j8 j9 k0 k1 k2 k3 k4 k5 k6 k7 k8 k9 l0 l1 l2 l3 l4 l5 l6 l7 l8 l9 m0 m1 m2 m3 m4 m5 m6 m7 m8 m9 n0 n1 n2 n3 n4 n5 n6 n7 n8 n9 o0 o1 o2 o3 o4 o5 o6 o7 o8 o9 p0 p1 p2 p3 p4 p5 p6 p7 p8 p9 q0 q1 q2 q3 q4 q5 q6 q7 q8 q9 r0 r1 r2 r3 r4 r5 r6 r7 r8 r9 s0 s1 s2 s3 s4 s5 s6 s7 s8 s9 t0 t1 t2 t3 t4 t5 t6 t7 t8 t9 u0 u1 u2 u3 u4 u5 u6 u7 u8 u9 v0 v1 v2 v3 v4 v5 v6 v7 v8 v9 w1 w2 w3 w4 w5 w6 w7 w8 w9 x0 x1:Value}{s n:Bs}{a:Act}
theorem UU{Q:Value}
  (hs:s.length≤1000000000) (x6:n.length≤s.length) (c:G9 w B v R.2) (d:Below B w0 w) (hB:B≤w0.heap.size) (hj:j≤s.length+1) (b:Hid (min j s.length=R.1))
  (h:Hid (Cu s i=(if Lk n then D4 (A2 s) (60::47::n) R.1 else R.1,R.2))):
  Code.wp prog Tk (bodyPost prog f124 fun e o=>∃v,e=.returned (.tuple #[v,.int .i64 ((Cu s i).1:Int)])∧G9 o B v (Cu s i).2∧Below B w0 o) ⟨List.toArray (Value.string ⟨s.toArray⟩::Value.int .i64 (j:Int)::u::U::q::y::v::Value.string ⟨n.toArray⟩::z::A::C::D::E::F::G::I::J::K::L::N::O::P::Q::S::T::V::X::Y::Z::a0::a1::a2::a3::a4::a5::a6::a7::a8::a9::b0::b1::b2::b3::b4::b5::b6::b7::b8::b9::c0::c1::c2::c3::c4::c5::c6::c7::c8::c9::d0::d1::d2::d3::d4::d5::d6::d7::d8::d9::e0::e1::e2::e3::e4::e5::e6::e7::e8::e9::f0::f1::f2::f3::f4::f5::f6::f7::f8::f9::g0::g1::g2::g3::g4::g5::g6::g7::g8::g9::h0::h1::h2::h3::h4::h5::h6::h7::h8::h9::i0::i1::i2::i3::i4::i5::i6::i7::i8::i9::j0::j1::j2::j3::j4::j5::j6::j7::j8::j9::k0::k1::k2::k3::k4::k5::k6::k7::k8::k9::l0::l1::l2::l3::l4::l5::l6::l7::l8::l9::m0::m1::m2::m3::m4::m5::m6::m7::m8::m9::n0::n1::n2::n3::n4::n5::n6::n7::n8::n9::o0::o1::o2::o3::o4::o5::o6::o7::o8::o9::p0::p1::p2::p3::p4::p5::p6::p7::p8::p9::q0::q1::q2::q3::q4::q5::q6::q7::q8::q9::r0::r1::r2::r3::r4::r5::r6::r7::r8::r9::s0::s1::s2::s3::s4::s5::s6::s7::s8::s9::t0::t1::t2::t3::t4::t5::t6::t7::t8::t9::u0::u1::u2::u3::u4::u5::u6::u7::u8::u9::v0::v1::v2::v3::v4::v5::v6::v7::v8::v9::w1::w2::w3::w4::w5::w6::w7::w8::w9::x0::x1::[]),[]⟩ w:=by
 generalize hQ:bodyPost prog f124 _=Q';delta Tk Ma f124;dsimp only[Ak,Option.getD];subst hQ;have x7:=d.size;obtain⟨r,p⟩:=R;simp only at c b h;have x8:r≤s.length:=by have:=b.o;omega
 have M:=AB (by have:=b.o;omega:(min (j:Int) (s.length:Int))=(r:Int));go_upto_region 41 with fail;go_cut[1] (fun x g=>x=.int .i64 (r:Int)∧g=w)
 case first=>
  go_wp2_with fail;go_meet;exact⟨by first|rw[M.o]|(congr 1;have:=M.o;omega),rfl⟩
 case rest=>
 obtain⟨rfl,a⟩:=hcut;obtain rfl:=a.symm;clear a M b;have H:=AB (UP n);go_upto_region 42 with fail;go_cut[251] (fun t g=>t=.bool (Lk n)∧g=w)
 case first=>
  generalize x9:(n==[115,99,114,105,112,116])=x2 at H;cases x2 with
  |true=>
   go_wp2_with fail;go_meet;exact⟨by rw[H.o];rfl,rfl⟩
  |false=>
   generalize y0:(n==[115,116,121,108,101])=x3 at H;cases x3 with
   |true=>
    go_wp2_with fail;go_meet;exact⟨by rw[H.o];rfl,rfl⟩
   |false=>
    generalize y1:(n==[116,101,120,116,97,114,101,97])=x4 at H;cases x4 with
    |true=>
     go_wp2_with fail;go_meet;exact⟨by rw[H.o];rfl,rfl⟩
    |false=>
     generalize y2:(n==[116,105,116,108,101])=y3 at H;go_wp2_with fail;go_meet;exact⟨by rw[H.o];rfl,rfl⟩
 case rest=>
 obtain⟨rfl,a⟩:=hcut;obtain rfl:=a.symm;clear a H;generalize Lk n=rc at h⊢;cases rc with
 |false=>
  have h:=AB (show Cu s i=(r,p)from h.o);go_wp2_with fail;go_ret2;exact⟨_,by rw[h.o];rfl,by rw[h.o];exact c,d⟩
 |true=>
  have k:=AB (show Cu s i=(D4 (A2 s) (60::47::n) r,p)from h.o);clear h;have l:=fun W=>I1 s W (by omega)
  have hF:=fun W=>Wn (A2 s) (60::47::n) r W (by rw[W8];omega) (by omega) (by simp)
  generalize D4 (A2 s) (60::47::n) r=f at hF k;generalize A2 s=ls at l hF;go_wp2_with fail;with_reducible refine(l _).mono ?_
  rintro e y4⟨rfl,m⟩;have x5:=A0.next c m;have B2:=d.trans (m.mono (by omega));clear l m;go_wp2_with fail;refine(hF _).mono ?_;rintro e y5⟨rfl,rfl⟩;go_wp2_with fail;go_ret2;exact⟨_,by rw[k.o];rfl,by rw[k.o];exact x5,B2⟩
theorem Il.elim{M:Act→Prop}{s nm:Bs}{j:Nat}{v:Value}{a:Act}(h:Il s nm j v a)(f:∀u U b c d e g i k l m n o p q r t w x y z A B C D E F G H I J K L N O P Q R S T V W X Y Z a0 a1 a2 a3 a4 a5 a6 a7 a8 a9 b0 b1 b2 b3 b4 b5 b6 b7 b8 b9 c0 c1 c2 c3 c4 c5 c6 c7 c8 c9 d0 d1 d2 d3 d4 d5 d6 d7 d8 d9 e0 e1 e2 e3 e4 e5 e6 e7 e8 e9 f0 f1 f2 f3 f4 f5 f6 f7 f8 f9 g0 g1 g2 g3 g4 g5 g6 g7 g8 g9 h0 h1 h2 h3 h4 h5 h6 h7 h8 h9 i0 i1 i2 i3 i4 i5 i6 i7 i8 i9 j0 j1 j2 j3 j4 j5 j6 j7 j8 j9 k0 k1 k2 k3 k4 k5 k6 k7 k8 k9 l0 l1 l2 l3 l4 l5 l6 l7 l8 l9 m0 m1 m2 m3 m4 m5 m6 m7 m8 m9 n0 n1 n2 n3 n4 n5 n6 n7 n8 n9 o0 o1 o2 o3 o4 o5 o6 o7 o8 o9 p0 p1 p2 p3 p4 p5 p6 p7 p8 p9 q0 q1 q2 q3 q4 q5 q6 q7 q8 q9 r0 r1 r2 r3 r4 r5 r6 r7 r8 r9 s0 s1 s2 s3 s4 s5 s6 s7 s8 s9 t0 t1 t2 t3 t4 t5 t6 t7 t8 t9 u0 u1 u2 u3 u4 u5 u6 u7 u8 u9 v0:Value,M ⟨List.toArray (Value.string ⟨s.toArray⟩::Value.int .i64 (j:Int)::u::U::b::c::v::Value.string ⟨nm.toArray⟩::d::e::g::i::k::l::m::n::o::p::q::r::t::w::x::y::z::A::B::C::D::E::F::G::H::I::J::K::L::N::O::P::Q::R::S::T::V::W::X::Y::Z::a0::a1::a2::a3::a4::a5::a6::a7::a8::a9::b0::b1::b2::b3::b4::b5::b6::b7::b8::b9::c0::c1::c2::c3::c4::c5::c6::c7::c8::c9::d0::d1::d2::d3::d4::d5::d6::d7::d8::d9::e0::e1::e2::e3::e4::e5::e6::e7::e8::e9::f0::f1::f2::f3::f4::f5::f6::f7::f8::f9::g0::g1::g2::g3::g4::g5::g6::g7::g8::g9::h0::h1::h2::h3::h4::h5::h6::h7::h8::h9::i0::i1::i2::i3::i4::i5::i6::i7::i8::i9::j0::j1::j2::j3::j4::j5::j6::j7::j8::j9::k0::k1::k2::k3::k4::k5::k6::k7::k8::k9::l0::l1::l2::l3::l4::l5::l6::l7::l8::l9::m0::m1::m2::m3::m4::m5::m6::m7::m8::m9::n0::n1::n2::n3::n4::n5::n6::n7::n8::n9::o0::o1::o2::o3::o4::o5::o6::o7::o8::o9::p0::p1::p2::p3::p4::p5::p6::p7::p8::p9::q0::q1::q2::q3::q4::q5::q6::q7::q8::q9::r0::r1::r2::r3::r4::r5::r6::r7::r8::r9::s0::s1::s2::s3::s4::s5::s6::s7::s8::s9::t0::t1::t2::t3::t4::t5::t6::t7::t8::t9::u0::u1::u2::u3::u4::u5::u6::u7::u8::u9::v0::[]),[]⟩):M a:=by
 unfold Il at h;exact h.elim fun u h=>h.elim fun U h=>h.elim fun b h=>h.elim fun c h=>h.elim fun d h=>h.elim fun e h=>h.elim fun g h=>h.elim fun i h=>h.elim fun k h=>h.elim fun l h=>h.elim fun m h=>h.elim fun n h=>h.elim fun o h=>h.elim fun p h=>h.elim fun q h=>h.elim fun r h=>h.elim fun t h=>h.elim fun w h=>h.elim fun x h=>h.elim fun y h=>h.elim fun z h=>h.elim fun A h=>h.elim fun B h=>h.elim fun C h=>h.elim fun D h=>h.elim fun E h=>h.elim fun F h=>h.elim fun G h=>h.elim fun H h=>h.elim fun I h=>h.elim fun J h=>h.elim fun K h=>h.elim fun L h=>h.elim fun N h=>h.elim fun O h=>h.elim fun P h=>h.elim fun Q h=>h.elim fun R h=>h.elim fun S h=>h.elim fun T h=>h.elim fun V h=>h.elim fun W h=>h.elim fun X h=>h.elim fun Y h=>h.elim fun Z h=>h.elim fun a0 h=>h.elim fun a1 h=>h.elim fun a2 h=>h.elim fun a3 h=>h.elim fun a4 h=>h.elim fun a5 h=>h.elim fun a6 h=>h.elim fun a7 h=>h.elim fun a8 h=>h.elim fun a9 h=>h.elim fun b0 h=>h.elim fun b1 h=>h.elim fun b2 h=>h.elim fun b3 h=>h.elim fun b4 h=>h.elim fun b5 h=>h.elim fun b6 h=>h.elim fun b7 h=>h.elim fun b8 h=>h.elim fun b9 h=>h.elim fun c0 h=>h.elim fun c1 h=>h.elim fun c2 h=>h.elim fun c3 h=>h.elim fun c4 h=>h.elim fun c5 h=>h.elim fun c6 h=>h.elim fun c7 h=>h.elim fun c8 h=>h.elim fun c9 h=>h.elim fun d0 h=>h.elim fun d1 h=>h.elim fun d2 h=>h.elim fun d3 h=>h.elim fun d4 h=>h.elim fun d5 h=>h.elim fun d6 h=>h.elim fun d7 h=>h.elim fun d8 h=>h.elim fun d9 h=>h.elim fun e0 h=>h.elim fun e1 h=>h.elim fun e2 h=>h.elim fun e3 h=>h.elim fun e4 h=>h.elim fun e5 h=>h.elim fun e6 h=>h.elim fun e7 h=>h.elim fun e8 h=>h.elim fun e9 h=>h.elim fun f0 h=>h.elim fun f1 h=>h.elim fun f2 h=>h.elim fun f3 h=>h.elim fun f4 h=>h.elim fun f5 h=>h.elim fun f6 h=>h.elim fun f7 h=>h.elim fun f8 h=>h.elim fun f9 h=>h.elim fun g0 h=>h.elim fun g1 h=>h.elim fun g2 h=>h.elim fun g3 h=>h.elim fun g4 h=>h.elim fun g5 h=>h.elim fun g6 h=>h.elim fun g7 h=>h.elim fun g8 h=>h.elim fun g9 h=>h.elim fun h0 h=>h.elim fun h1 h=>h.elim fun h2 h=>h.elim fun h3 h=>h.elim fun h4 h=>h.elim fun h5 h=>h.elim fun h6 h=>h.elim fun h7 h=>h.elim fun h8 h=>h.elim fun h9 h=>h.elim fun i0 h=>h.elim fun i1 h=>h.elim fun i2 h=>h.elim fun i3 h=>h.elim fun i4 h=>h.elim fun i5 h=>h.elim fun i6 h=>h.elim fun i7 h=>h.elim fun i8 h=>h.elim fun i9 h=>h.elim fun j0 h=>h.elim fun j1 h=>h.elim fun j2 h=>h.elim fun j3 h=>h.elim fun j4 h=>h.elim fun j5 h=>h.elim fun j6 h=>h.elim fun j7 h=>h.elim fun j8 h=>h.elim fun j9 h=>h.elim fun k0 h=>h.elim fun k1 h=>h.elim fun k2 h=>h.elim fun k3 h=>h.elim fun k4 h=>h.elim fun k5 h=>h.elim fun k6 h=>h.elim fun k7 h=>h.elim fun k8 h=>h.elim fun k9 h=>h.elim fun l0 h=>h.elim fun l1 h=>h.elim fun l2 h=>h.elim fun l3 h=>h.elim fun l4 h=>h.elim fun l5 h=>h.elim fun l6 h=>h.elim fun l7 h=>h.elim fun l8 h=>h.elim fun l9 h=>h.elim fun m0 h=>h.elim fun m1 h=>h.elim fun m2 h=>h.elim fun m3 h=>h.elim fun m4 h=>h.elim fun m5 h=>h.elim fun m6 h=>h.elim fun m7 h=>h.elim fun m8 h=>h.elim fun m9 h=>h.elim fun n0 h=>h.elim fun n1 h=>h.elim fun n2 h=>h.elim fun n3 h=>h.elim fun n4 h=>h.elim fun n5 h=>h.elim fun n6 h=>h.elim fun n7 h=>h.elim fun n8 h=>h.elim fun n9 h=>h.elim fun o0 h=>h.elim fun o1 h=>h.elim fun o2 h=>h.elim fun o3 h=>h.elim fun o4 h=>h.elim fun o5 h=>h.elim fun o6 h=>h.elim fun o7 h=>h.elim fun o8 h=>h.elim fun o9 h=>h.elim fun p0 h=>h.elim fun p1 h=>h.elim fun p2 h=>h.elim fun p3 h=>h.elim fun p4 h=>h.elim fun p5 h=>h.elim fun p6 h=>h.elim fun p7 h=>h.elim fun p8 h=>h.elim fun p9 h=>h.elim fun q0 h=>h.elim fun q1 h=>h.elim fun q2 h=>h.elim fun q3 h=>h.elim fun q4 h=>h.elim fun q5 h=>h.elim fun q6 h=>h.elim fun q7 h=>h.elim fun q8 h=>h.elim fun q9 h=>h.elim fun r0 h=>h.elim fun r1 h=>h.elim fun r2 h=>h.elim fun r3 h=>h.elim fun r4 h=>h.elim fun r5 h=>h.elim fun r6 h=>h.elim fun r7 h=>h.elim fun r8 h=>h.elim fun r9 h=>h.elim fun s0 h=>h.elim fun s1 h=>h.elim fun s2 h=>h.elim fun s3 h=>h.elim fun s4 h=>h.elim fun s5 h=>h.elim fun s6 h=>h.elim fun s7 h=>h.elim fun s8 h=>h.elim fun s9 h=>h.elim fun t0 h=>h.elim fun t1 h=>h.elim fun t2 h=>h.elim fun t3 h=>h.elim fun t4 h=>h.elim fun t5 h=>h.elim fun t6 h=>h.elim fun t7 h=>h.elim fun t8 h=>h.elim fun t9 h=>h.elim fun u0 h=>h.elim fun u1 h=>h.elim fun u2 h=>h.elim fun u3 h=>h.elim fun u4 h=>h.elim fun u5 h=>h.elim fun u6 h=>h.elim fun u7 h=>h.elim fun u8 h=>h.elim fun u9 h=>h.elim fun v0 h=>@Eq.subst Act M _ _ h.symm (f u U b c d e g i k l m n o p q r t w x y z A B C D E F G H I J K L N O P Q R S T V W X Y Z a0 a1 a2 a3 a4 a5 a6 a7 a8 a9 b0 b1 b2 b3 b4 b5 b6 b7 b8 b9 c0 c1 c2 c3 c4 c5 c6 c7 c8 c9 d0 d1 d2 d3 d4 d5 d6 d7 d8 d9 e0 e1 e2 e3 e4 e5 e6 e7 e8 e9 f0 f1 f2 f3 f4 f5 f6 f7 f8 f9 g0 g1 g2 g3 g4 g5 g6 g7 g8 g9 h0 h1 h2 h3 h4 h5 h6 h7 h8 h9 i0 i1 i2 i3 i4 i5 i6 i7 i8 i9 j0 j1 j2 j3 j4 j5 j6 j7 j8 j9 k0 k1 k2 k3 k4 k5 k6 k7 k8 k9 l0 l1 l2 l3 l4 l5 l6 l7 l8 l9 m0 m1 m2 m3 m4 m5 m6 m7 m8 m9 n0 n1 n2 n3 n4 n5 n6 n7 n8 n9 o0 o1 o2 o3 o4 o5 o6 o7 o8 o9 p0 p1 p2 p3 p4 p5 p6 p7 p8 p9 q0 q1 q2 q3 q4 q5 q6 q7 q8 q9 r0 r1 r2 r3 r4 r5 r6 r7 r8 r9 s0 s1 s2 s3 s4 s5 s6 s7 s8 s9 t0 t1 t2 t3 t4 t5 t6 t7 t8 t9 u0 u1 u2 u3 u4 u5 u6 u7 u8 u9 v0)
theorem Il.at(h:Il s n j v a):intOf (a.tmps.getD 1 undef)=(j:Int):=by
 refine Il.elim (M:=fun a=>intOf (a.tmps.getD 1 undef)=(j:Int)) h ?_
 intros
 rfl
theorem Il.round{Q:Exit→Act→World→Prop}{out:List Aj}(h:Il s n j v a)
  (H:s.length≤1000000000) (b:G9 w B v out) (c:Below B w0 w) (d:B≤w0.heap.size) (l:out.length≤j) (e:j≤s.length)
  (f:Hid ((Ar s j).1=R.1∧out++(Ar s j).2=R.2))
  (N:Kd Q .normal s n B w0 R j) (g:Kd Q (.exit 3) s n B w0 R j) (S:Nx Q s n B w0 R):Code.wp prog Kx Q a w:=by
 refine Il.elim (M:=fun a=>Code.wp prog Kx Q a w) h ?_
 intros
 exact SQ H b c d l e f N g S
theorem Il.tail(h:Il s n j v a)
  (H:s.length≤1000000000) (l:n.length≤s.length) (b:G9 w B v R.2) (c:Below B w0 w) (d:B≤w0.heap.size) (f:j≤s.length+1) (g:Hid (min j s.length=R.1))
  (T:Hid (Cu s i=(if Lk n then D4 (A2 s) (60::47::n) R.1 else R.1,R.2))):
  Code.wp prog Tk (bodyPost prog f124 fun e W=>∃v,e=.returned (.tuple #[v,.int .i64 ((Cu s i).1:Int)])∧G9 W B v (Cu s i).2∧Below B w0 W) a w:=by
 refine Il.elim (M:=fun a=>Code.wp prog Tk (bodyPost prog f124 fun e W=>∃v,e=.returned (.tuple #[v,.int .i64 ((Cu s i).1:Int)])∧G9 W B v (Cu s i).2∧Below B w0 W) a w) h ?_
 intros
 exact UU H l b c d f g T
theorem UV(s:Bs)(i:Nat)(w:World)(hs:s.length≤1000000000)(hi:i≤s.length):Calls prog 124 #[.string ⟨s.toArray⟩,.int .i64 (i:Int)] w fun e W=>∃v,e=.returned (.tuple #[v,.int .i64 ((Cu s i).1:Int)])∧G9 W w.heap.size v (Cu s i).2∧Below w.heap.size w W:=by
 have T:=AB (UR s i);have a0:=AB (Lh D6 hi);go_enter func124,ntmps124;go_upto_block 0 with fail;go_cut[1,7] (fun x y m=>∃n:Bs,x=.int .i64 (Aa D6 s i:Int)∧y=.string ⟨n.toArray⟩∧Hid (n=A2 ((s.drop i).takeWhile D6))∧n.length≤s.length∧Below w.heap.size w m)
 case first=>
  go_wp2_with fail;go_loopw[1,7] (fun x y wr=>∃(k:Nat)(n:Bs),x=.int .i64 k∧y=.string ⟨n.toArray⟩∧k≤s.length∧n.length≤k∧Hid (Aa D6 s k=Aa D6 s i)∧Hid (n++A2 ((s.drop k).takeWhile D6)=A2 ((s.drop i).takeWhile D6))∧Below w.heap.size w wr) (fun x _ _=>s.length-(intOf x).toNat)
  case atStart=>exact⟨i,[],rfl,rfl,hi,CX _,AB rfl,AB rfl,AD _ _⟩
  obtain⟨k,n,rfl,rfl,hk,L,c,M,B⟩:=hrel;by_cases o:k<s.length
  ·have C:=I1 [s[k]] wr (by simp);have Z:=AB (UT s[k]);have Y:=AB (fun h=>And.intro (Pf (p:=D6) o h) (by rw[AE o,List.takeWhile_cons_of_pos h];rfl:A2 ((s.drop k).takeWhile D6)=Bw s[k]::A2 ((s.drop (k+1)).takeWhile D6)));have D:=AB (fun h=>And.intro (Pg (p:=D6) o h) (by rw[AE o,List.takeWhile_cons_of_neg (by rw[h];decide)];rfl:A2 ((s.drop k).takeWhile D6)=[]));have HW:=AB (by rfl:A2 [s[k]]=[Bw s[k]]);rw[HW.o]at C;have H1:=AB (by rw[AE o];rfl:(s.drop k).take 1=[s[k]]);have b2:wrap64 ((k:Int)+1)=(k:Int)+1:=by unfold wrap64;omega
   generalize D6 s[k]=q at Z Y D;generalize a8:Bw s[k]=l at C Z Y;have b3:(l.toNat:Int)<256:=by have:=l.toNat_lt;omega
   go_upto_region 4 with fail;go_cut[8] (fun t m=>t=.int .u8 (l.toNat:Int)∧Below wr.heap.size wr m)
   case first=>
    go_wp2_with fail
    (try rw[H1.o])
    with_reducible refine C.mono ?_
    rintro e N⟨rfl,b⟩;go_wp2_with fail;go_meet;exact⟨rfl,b⟩
   case rest=>
   obtain⟨rfl,b⟩:=hcut;obtain⟨N,rfl⟩:∃x:World,x=wc:=⟨_,rfl⟩;have r:=B.trans (b.mono B.size);clear C b B HW a8 H1;go_upto_region 5 with fail;go_cut[40] (fun t m=>t=.bool (!q)∧m=N)
   case first=>
    by_cases H:97≤(l.toNat:Int)
    ·have V:=AB (BD H);by_cases h2:(l.toNat:Int)≤122
     ·have P:=AB (BD h2);go_wp2_with fail;go_meet;exact⟨by rw[Z.o,V.o,P.o];rfl,rfl⟩
     have P:=AB (AX h2);by_cases E:48≤(l.toNat:Int)
     ·have g:=AB (BD E);by_cases F:(l.toNat:Int)≤57
      ·omega
      have u:=AB (AX F);go_wp2_with fail;go_meet;exact⟨by rw[Z.o,V.o,P.o,g.o,u.o];rfl,rfl⟩
     omega
    have V:=AB (AX H);by_cases E:48≤(l.toNat:Int)
    ·have g:=AB (BD E);by_cases F:(l.toNat:Int)≤57
     ·have u:=AB (BD F);go_wp2_with fail;go_meet;exact⟨by rw[Z.o,V.o,g.o,u.o];rfl,rfl⟩
     have u:=AB (AX F);go_wp2_with fail;go_meet;exact⟨by rw[Z.o,V.o,g.o,u.o];rfl,rfl⟩
    have g:=AB (AX E);go_wp2_with fail;go_meet;exact⟨by rw[Z.o,V.o,g.o];rfl,rfl⟩
   case rest=>
   obtain⟨rfl,a1⟩:=hcut;obtain rfl:=a1.symm;clear a1 Z;cases q with
   |true=>
    have H:=Y.o rfl;have a:=AB (by rw[←c.o,H.1]:Aa D6 s (k+1)=Aa D6 s i);have d:=AB (by rw[←M.o,H.2];simp:(n++[l])++A2 ((s.drop (k+1)).takeWhile D6)=A2 ((s.drop i).takeWhile D6));have B3:=r.alloc r.size (.cells #[.int .u8 (l.toNat:Int)] 5);clear H Y D c M;go_wp2_with fail;go_roundw
    case rel=>exact⟨k+1,n++[l],by go_num,by simp,by omega,by simp;omega,a,d,B3⟩
    simp[intOf];omega
   |false=>
    have H:=D.o rfl;have a:=AB (by rw[←c.o,H.1]:Aa D6 s i=k);have d:=AB (by rw[←M.o,H.2];simp:n=A2 ((s.drop i).takeWhile D6));clear H Y D c M;go_wp2_with fail;go_meet;exact⟨n,by rw[a.o],rfl,d,by omega,r⟩
  obtain rfl:k=s.length:=by omega
  have a:=AB (by rw[←c.o,Ph (AC _)]:Aa D6 s i=s.length);have d:=AB (by rw[←M.o,AQ];simp[A2]:n=A2 ((s.drop i).takeWhile D6));clear c M;go_wp2_with fail;go_meet;exact⟨n,by rw[a.o],rfl,d,L,B⟩
 case rest=>
 obtain⟨n,rfl,rfl,a2,L,B⟩:=hcut;obtain⟨w1,rfl⟩:∃x:World,x=wc:=⟨_,rfl⟩;have T:=AB (by rw[T.o,a2.o]:Cu s i=(if Lk n then D4 (A2 s) (60::47::n) (Ar s (Aa D6 s i)).1 else(Ar s (Aa D6 s i)).1,(Ar s (Aa D6 s i)).2));have a3:=a0.o;generalize Aa D6 s i=I at a3 T⊢;generalize hR:Ar s I=R at T;have a4:=AB (by rw[hR];exact⟨rfl,rfl⟩:(Ar s I).1=R.1∧[]++(Ar s I).2=R.2);clear a0 a2 hR;go_upto_block 2 with fail;go_wp2_with fail;refine wp_loop (fun Q W=>∃(j:Nat)(v:Value)(O:List Aj),Il s n j v Q∧j≤s.length∧O.length≤j∧G9 W w.heap.size v O∧Hid ((Ar s j).1=R.1∧O++(Ar s j).2=R.2)∧Below w.heap.size w W) (fun Q _=>s.length-(intOf (Q.tmps.getD 1 undef)).toNat) ?_ ?_
 ·exact⟨I,_,[],⟨_,_,_,_,_,_,_,_,_,_,_,_,_,_,_,_,_,_,_,_,_,_,_,_,_,_,_,_,_,_,_,_,_,_,_,_,_,_,_,_,_,_,_,_,_,_,_,_,_,_,_,_,_,_,_,_,_,_,_,_,_,_,_,_,_,_,_,_,_,_,_,_,_,_,_,_,_,_,_,_,_,_,_,_,_,_,_,_,_,_,_,_,_,_,_,_,_,_,_,_,_,_,_,_,_,_,_,_,_,_,_,_,_,_,_,_,_,_,_,_,_,_,_,_,_,_,_,_,_,_,_,_,_,_,_,_,_,_,_,_,_,_,_,_,_,_,_,_,_,_,_,_,_,_,_,_,_,_,_,_,_,_,_,_,_,_,_,_,_,_,_,_,_,_,_,_,_,_,_,_,_,_,_,_,_,_,_,_,_,_,_,_,_,_,_,_,_,_,_,_,_,_,_,_,_,_,_,_,_,_,_,_,_,_,_,_,_,_,_,_,_,_,_,_,_,_,_,_,_,_,_,_,_,_,_,_,_,_,_,_,_,_,_,_,_,_,_,_,_,_,_,_,_,_,_,_,rfl⟩,a3.2,CX _,A0.nil _ _ _ _ _,a4,B⟩
 rintro a5 N⟨j,v,O,a6,hj,a9,b0,c,r⟩;have a7:=a6.at;clear a4 B;refine wp_block ?_;refine a6.round (R:=R) hs b0 r (AC _) a9 hj c ?_ ?_ ?_
 ·intro J G S w3 K f z b1 U A b a;have X:=f.at;refine⟨⟨J,G,S,f,z,U,A,a,b⟩,?_⟩;show s.length-(intOf (K.tmps.getD 1 undef)).toNat<s.length-(intOf (a5.tmps.getD 1 undef)).toNat;rw[a7,X];omega
 ·intro J G S w3 K f z b1 U A b a;have X:=f.at;refine⟨⟨J,G,S,f,z,U,A,a,b⟩,?_⟩;show s.length-(intOf (K.tmps.getD 1 undef)).toNat<s.length-(intOf (a5.tmps.getD 1 undef)).toNat;rw[a7,X];omega
 intro J G w3 K f z d A b;apply_assumption;exact f.tail hs L A b (AC _) z d T
end Go.Proofs.YtignjjnflcpiiaaGreatDoor
