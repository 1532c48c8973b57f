/- The last part of a tag's attribute, by the document's ans -/
import Derived.Test.YtignjjnflcpiiaaGreatDoorS21
import Derived.Test.YtignjjnflcpiiaaGreatDoorS23
set_option linter.all false
set_option maxHeartbeats 16000000
set_option maxRecDepth 100000
namespace Go.Proofs.YtignjjnflcpiiaaGreatDoor
open Go Go.RowKit Proofs.Tryz Lib
def Ga:Code→Code
 | .seq c _=>c
 |c=>c
def Ak:Code→Code
 | .seq _ c=>c
 |c=>c
def Fs:Code→Code
 | .block _ c=>c
 | .loop c=>c
 |c=>c
noncomputable def Ma:Code:=Ak (Ak (Ak (Ak ((f124.body).getD .skip))))
noncomputable def Kx:Code:=Fs (Fs (Fs (Ga Ma)))
noncomputable def Tk:Code:=Ak Ma
noncomputable def Pk:Code:=Ak (Ak (Ak (Ak (Ak Kx))))
noncomputable def R7:Code:=Ak (Ak Pk)
noncomputable def Tl:Code:=Ak (Ak (Ak R7))
noncomputable def fH:Code:=Ak (Ak Kx)
noncomputable def fI:Code:=Ak (Ak Tl)
def Il(s n:Bs)(j:Nat)(v:Value)(a:Act):Prop:=∃u U b c d e f g h i k l m o p q r t w x y z A B C D E F G H I J K L M N O P Q R S T V W X Y Z a0 a1 a2 a3 a4 a5 a6 a7 a8 a9 b0 b1 b2 b3 b4 b5 b6 b7 b8 b9 c0 c1 c2 c3 c4 c5 c6 c7 c8 c9 d0 d1 d2 d3 d4 d5 d6 d7 d8 d9 e0 e1 e2 e3 e4 e5 e6 e7 e8 e9 f0 f1 f2 f3 f4 f5 f6 f7 f8 f9 g0 g1 g2 g3 g4 g5 g6 g7 g8 g9 h0 h1 h2 h3 h4 h5 h6 h7 h8 h9 i0 i1 i2 i3 i4 i5 i6 i7 i8 i9 j0 j1 j2 j3 j4 j5 j6 j7 j8 j9 k0 k1 k2 k3 k4 k5 k6 k7 k8 k9 l0 l1 l2 l3 l4 l5 l6 l7 l8 l9 m0 m1 m2 m3 m4 m5 m6 m7 m8 m9 n0 n1 n2 n3 n4 n5 n6 n7 n8 n9 o0 o1 o2 o3 o4 o5 o6 o7 o8 o9 p0 p1 p2 p3 p4 p5 p6 p7 p8 p9 q0 q1 q2 q3 q4 q5 q6 q7 q8 q9 r0 r1 r2 r3 r4 r5 r6 r7 r8 r9 s0 s1 s2 s3 s4 s5 s6 s7 s8 s9 t0 t1 t2 t3 t4 t5 t6 t7 t8 t9 u0 u1 u2 u3 u4 u5 u6 u7 u8:Value,a=⟨List.toArray (Value.string ⟨s.toArray⟩::Value.int .i64 (j:Int)::u::U::b::c::v::Value.string ⟨n.toArray⟩::d::e::f::g::h::i::k::l::m::o::p::q::r::t::w::x::y::z::A::B::C::D::E::F::G::H::I::J::K::L::M::N::O::P::Q::R::S::T::V::W::X::Y::Z::a0::a1::a2::a3::a4::a5::a6::a7::a8::a9::b0::b1::b2::b3::b4::b5::b6::b7::b8::b9::c0::c1::c2::c3::c4::c5::c6::c7::c8::c9::d0::d1::d2::d3::d4::d5::d6::d7::d8::d9::e0::e1::e2::e3::e4::e5::e6::e7::e8::e9::f0::f1::f2::f3::f4::f5::f6::f7::f8::f9::g0::g1::g2::g3::g4::g5::g6::g7::g8::g9::h0::h1::h2::h3::h4::h5::h6::h7::h8::h9::i0::i1::i2::i3::i4::i5::i6::i7::i8::i9::j0::j1::j2::j3::j4::j5::j6::j7::j8::j9::k0::k1::k2::k3::k4::k5::k6::k7::k8::k9::l0::l1::l2::l3::l4::l5::l6::l7::l8::l9::m0::m1::m2::m3::m4::m5::m6::m7::m8::m9::n0::n1::n2::n3::n4::n5::n6::n7::n8::n9::o0::o1::o2::o3::o4::o5::o6::o7::o8::o9::p0::p1::p2::p3::p4::p5::p6::p7::p8::p9::q0::q1::q2::q3::q4::q5::q6::q7::q8::q9::r0::r1::r2::r3::r4::r5::r6::r7::r8::r9::s0::s1::s2::s3::s4::s5::s6::s7::s8::s9::t0::t1::t2::t3::t4::t5::t6::t7::t8::t9::u0::u1::u2::u3::u4::u5::u6::u7::u8::[]),[]⟩
def Kd(Q:Exit→Act→World→Prop)(e:Exit)(s n:Bs)(B:Nat)(w0:World)(R:Nat×List Aj)(J:Nat):Prop:=∀(j:Nat)(v:Value)(o:List Aj)(w:World)(a:Act),Il s n j v a→j≤s.length→J<j→o.length≤j→G9 w B v o→Below B w0 w→Hid ((Ar s j).1=R.1∧o++(Ar s j).2=R.2)→Q e a w
def Nx(Q:Exit→Act→World→Prop)(s n:Bs)(B:Nat)(w0:World)(R:Nat×List Aj):Prop:=∀(j:Nat)(v:Value)(w:World)(a:Act),Il s n j v a→j≤s.length+1→Hid (min j s.length=R.1)→G9 w B v R.2→Below B w0 w→Q (.exit 2) a w
theorem RG(x:Bs):Hf.contains x=((x==[115,114,99])||((x==[104,114,101,102])||(x==[98,97,99,107,103,114,111,117,110,100]))):=by
 unfold Hf;simp only[List.contains_cons,List.contains_nil,Bool.or_false];cases(x==[98,97,99,107,103,114,111,117,110,100])<;>cases(x==[104,114,101,102])<;>cases(x==[115,114,99])<;>rfl
theorem RH(w:World)(x:Aj)(t:TypeId):∀j u,([x].flatMap Hm)[j]?=some u→(w.alloc (.cells #[.int .i64 (x.1:Int),.int .i64 (x.2.1:Int),.string ⟨x.2.2.toArray⟩] t)).cell? ((⟨w.heap.size,0,none⟩:Go.Addr).add j)=some u:=fun j u h=>by
 rw[Dz,(A1.new w _ t).cell]
 match j,h with
 |0,h=>exact h
 |1,h=>exact h
 |2,h=>exact h
 |j+3,h=>simp[Hm]at h
variable {R:Nat × List Aj}{w0 w:World}{j J f T B c g d:Nat}{out:List Aj}{v q r x y D F I K L M O P V Y Z a0 a1 a2 a3 a4 a5 a6 a7 a8 a9 b0 b1 b2 b3 b4 b5 b6 b7 b8 b9 c0 c1 c2 c3 c4 c5 c6 c7 c8 c9 d0 d1 d2 d3 d4 d5 d6 d7 d8 d9 e0 e1 e2 e3 e4 e5 e6 e7 e8 e9 f0 f1 f2 f3 f4 f5 f6 f7 f8 f9 g0 g1 g2 g3 g4 g5 g6 g7 g8 g9 h0 h1 h2 h3 h4 h5 h6 h7 h8 h9 i0 i1 i2 i3 i4 i5 i6 i7 i8 i9 j0 j1 j2 j3 j4 j5 j6 j7 j8 j9 k0 k1 k2 k3 k4 k5 k6 k7 k8 k9 l0 l1 l2 l3 l4 l5 l6 l7 l8 l9 m0 m1 m2 m3 m4 m5 m6 m7 m8 m9 n0 n1 n2 n3 n4 n5 n6 n7 n8 n9 o0 o1 o2 o3 o4 o5 o6 o7 o8 o9 p0 p1 p2 p3 p4 p5 p6 p7 p8 p9 q0 q1 q2 q3 q4 q5 q6 q7 q8 q9 r0 r1 r2 r3 r4 r5 r6 r7 r8 r9 s0 s1 s2 s3 s4 s5 s6 s7 s8 s9 t0 t1 t2 t3 t4 t5 t6 t7 t8 t9 u0 u1 u2 u3 u4 u5 u6 u7 u8 u9 v0 v1 v2 v3 v4 v5 v6 v7 v8 v9 w1 w2 w3 w4 w5 w6 w7 w8 w9 x0 x1 x2 x3 x4 x5 x6 x7 x8 x9 y0 y1 y2 y3 y4 y5 y6 y7 y8 y9 z0 z1 z2 z3 z4 z5 z6 U E:Value}{s N a C n A:Bs}{Q:Exit → Act → World → Prop}
theorem RI{A C X:Value}{n:Nat}
  (hs:s.length≤1000000000) (g:G9 w B v out) (c:Below B w0 w) (hB:B≤w0.heap.size) (y3:out.length≤J) (y4:J≤s.length) (hf:f≤T) (y5:T≤s.length) (k:J<n) (y6:n≤T+1)
  (E:Hid (s.length≤T→s.length=R.1∧out=R.2))
  (G:Hid (T<s.length→(Ar s n).1=R.1∧(out++(if Hf.contains a then[(f,T-f,Cr ((s.drop f).take (T-f)))]else[]))++(Ar s n).2=R.2))
  (l:Kd Q .normal s N B w0 R J) (S:Nx Q s N B w0 R):
  Code.wp prog fI Q ⟨List.toArray (Value.string ⟨s.toArray⟩::Value.int .i64 (j:Int)::q::r::x::y::v::Value.string ⟨N.toArray⟩::A::C::Value.string ⟨a.toArray⟩::Value.int .i64 (f:Int)::Value.int .i64 (T:Int)::Value.int .i64 (n:Int)::D::F::I::K::L::M::O::P::V::X::Y::Z::a0::a1::a2::a3::a4::a5::a6::a7::a8::a9::b0::b1::b2::b3::b4::b5::b6::b7::b8::b9::c0::c1::c2::c3::c4::c5::c6::c7::c8::c9::d0::d1::d2::d3::d4::d5::d6::d7::d8::d9::e0::e1::e2::e3::e4::e5::e6::e7::e8::e9::f0::f1::f2::f3::f4::f5::f6::f7::f8::f9::g0::g1::g2::g3::g4::g5::g6::g7::g8::g9::h0::h1::h2::h3::h4::h5::h6::h7::h8::h9::i0::i1::i2::i3::i4::i5::i6::i7::i8::i9::j0::j1::j2::j3::j4::j5::j6::j7::j8::j9::k0::k1::k2::k3::k4::k5::k6::k7::k8::k9::l0::l1::l2::l3::l4::l5::l6::l7::l8::l9::m0::m1::m2::m3::m4::m5::m6::m7::m8::m9::n0::n1::n2::n3::n4::n5::n6::n7::n8::n9::o0::o1::o2::o3::o4::o5::o6::o7::o8::o9::p0::p1::p2::p3::p4::p5::p6::p7::p8::p9::q0::q1::q2::q3::q4::q5::q6::q7::q8::q9::r0::r1::r2::r3::r4::r5::r6::r7::r8::r9::s0::s1::s2::s3::s4::s5::s6::s7::s8::s9::t0::t1::t2::t3::t4::t5::t6::t7::t8::t9::u0::u1::u2::u3::u4::u5::u6::u7::u8::u9::v0::v1::v2::v3::v4::v5::v6::v7::v8::v9::w1::w2::w3::w4::w5::w6::w7::w8::w9::x0::x1::x2::x3::x4::[]),[]⟩ w:=by
 let y7:=bodyPost prog f124 (fun _ _=>True);delta fI Tl R7 Pk Kx Ma f124;dsimp only[Ak,Ga,Fs,Option.getD];have m:=AB l;have HS:=AB S;clear l S;have y8:=c.size;by_cases y9:s.length≤T
 ·obtain rfl:T=s.length:=by omega
  have i:=E.o (AC _);have H:=AB (by rw[Nat.min_self];exact i.1:min s.length s.length=R.1);have b:=AB i.2;clear i E G;go_wp2_with fail;refine HS.o s.length v w _ ⟨_,_,_,_,_,_,_,_,_,_,_,_,_,_,_,_,_,_,_,_,_,_,_,_,_,_,_,_,_,_,_,_,_,_,_,_,_,_,_,_,_,_,_,_,_,_,_,_,_,_,_,_,_,_,_,_,_,_,_,_,_,_,_,_,_,_,_,_,_,_,_,_,_,_,_,_,_,_,_,_,_,_,_,_,_,_,_,_,_,_,_,_,_,_,_,_,_,_,_,_,_,_,_,_,_,_,_,_,_,_,_,_,_,_,_,_,_,_,_,_,_,_,_,_,_,_,_,_,_,_,_,_,_,_,_,_,_,_,_,_,_,_,_,_,_,_,_,_,_,_,_,_,_,_,_,_,_,_,_,_,_,_,_,_,_,_,_,_,_,_,_,_,_,_,_,_,_,_,_,_,_,_,_,_,_,_,_,_,_,_,_,_,_,_,_,_,_,_,_,_,_,_,_,_,_,_,_,_,_,_,_,_,_,_,_,_,_,_,_,_,_,_,_,_,_,_,_,_,_,_,_,_,_,_,_,_,_,_,_,_,_,_,_,_,_,_,_,_,_,_,_,_,_,_,_,_,rfl⟩ (by omega) H (by rw[←b.o];exact g) c
 have x5:T<s.length:=by omega
 have H:=AB (G.o x5);have h:=AB (RG a);have Z1:=AB (by omega:(T:Int)-(f:Int)=((T-f:Nat):Int));have z0:¬((s.length:Int)≤(T:Int)):=by omega
 clear E G;go_upto_region 38 with fail;go_cut[219] (fun t wx=>t=.bool (Hf.contains a)∧wx=w)
 case first=>
  generalize z1:(a==[115,114,99])=x6 at h;cases x6 with
  |true=>
   go_wp2_with fail;go_meet;exact⟨by rw[h.o];rfl,rfl⟩
  |false=>
   generalize z2:(a==[104,114,101,102])=x7 at h;cases x7 with
   |true=>
    go_wp2_with fail;go_meet;exact⟨by rw[h.o];rfl,rfl⟩
   |false=>
    generalize z3:(a==[98,97,99,107,103,114,111,117,110,100])=z4 at h;go_wp2_with fail;go_meet;exact⟨by rw[h.o];rfl,rfl⟩
 case rest=>
 obtain⟨rfl,o⟩:=hcut;obtain rfl:=o.symm;clear o h;generalize Hf.contains a=ld at H⊢;cases ld with
 |false=>
  have b:=AB (by have:=H.o;simpa using this:(Ar s n).1=R.1∧out++(Ar s n).2=R.2);clear H;go_wp2_with fail;refine m.o n v out w _ ⟨_,_,_,_,_,_,_,_,_,_,_,_,_,_,_,_,_,_,_,_,_,_,_,_,_,_,_,_,_,_,_,_,_,_,_,_,_,_,_,_,_,_,_,_,_,_,_,_,_,_,_,_,_,_,_,_,_,_,_,_,_,_,_,_,_,_,_,_,_,_,_,_,_,_,_,_,_,_,_,_,_,_,_,_,_,_,_,_,_,_,_,_,_,_,_,_,_,_,_,_,_,_,_,_,_,_,_,_,_,_,_,_,_,_,_,_,_,_,_,_,_,_,_,_,_,_,_,_,_,_,_,_,_,_,_,_,_,_,_,_,_,_,_,_,_,_,_,_,_,_,_,_,_,_,_,_,_,_,_,_,_,_,_,_,_,_,_,_,_,_,_,_,_,_,_,_,_,_,_,_,_,_,_,_,_,_,_,_,_,_,_,_,_,_,_,_,_,_,_,_,_,_,_,_,_,_,_,_,_,_,_,_,_,_,_,_,_,_,_,_,_,_,_,_,_,_,_,_,_,_,_,_,_,_,_,_,_,_,_,_,_,_,_,_,_,_,_,_,_,_,_,_,_,_,_,_,rfl⟩ (by omega) k (by omega) g c b
 |true=>
  have U:=yH ((s.drop f).take (T-f)) w (by simp;omega);generalize x8:Cr ((s.drop f).take (T-f))=u at U H;clear x8;have b:=AB (by have:=H.o;simpa using this:(Ar s n).1=R.1∧(out++[(f,T-f,u)])++(Ar s n).2=R.2);have z5:(f:Int)≤(T:Int):=by omega
  have z6:(T:Int)≤(s.length:Int):=by omega
  clear H;go_wp2_with fail;with_reducible refine U.mono ?_
  rintro e W⟨rfl,d⟩;have x9:=A0.next g d;have B2:=c.trans (d.mono (by omega));have z7:=d.size;clear U d;go_wp2_with(at_builtin;refine Mk (α:=Aj) (cs:=Hm) (size:=3) (z:=.agg #[.int .i64 0,.int .i64 0,.string ByteArray.empty]) Gq T9 Ta rfl (by decide) underlying93 rfl _ _ rfl B _ out [(f,T-f,u)] ⟨W.heap.size,0,none⟩ 1 1 rfl rfl (A0.alloc x9 _) rfl (by rw[Z1.o];exact RH W (f,T-f,u) _) (by simp;omega) (by unfold maxLen;simp;omega) (by simp;omega) ?_;intro v' y0 y1 y2 p);have B3:=(B2.alloc (by omega) _).trans p;clear y2 p;go_wp2_with fail;refine m.o n v' (out++[(f,T-f,u)]) y0 _ ⟨_,_,_,_,_,_,_,_,_,_,_,_,_,_,_,_,_,_,_,_,_,_,_,_,_,_,_,_,_,_,_,_,_,_,_,_,_,_,_,_,_,_,_,_,_,_,_,_,_,_,_,_,_,_,_,_,_,_,_,_,_,_,_,_,_,_,_,_,_,_,_,_,_,_,_,_,_,_,_,_,_,_,_,_,_,_,_,_,_,_,_,_,_,_,_,_,_,_,_,_,_,_,_,_,_,_,_,_,_,_,_,_,_,_,_,_,_,_,_,_,_,_,_,_,_,_,_,_,_,_,_,_,_,_,_,_,_,_,_,_,_,_,_,_,_,_,_,_,_,_,_,_,_,_,_,_,_,_,_,_,_,_,_,_,_,_,_,_,_,_,_,_,_,_,_,_,_,_,_,_,_,_,_,_,_,_,_,_,_,_,_,_,_,_,_,_,_,_,_,_,_,_,_,_,_,_,_,_,_,_,_,_,_,_,_,_,_,_,_,_,_,_,_,_,_,_,_,_,_,_,_,_,_,_,_,_,_,_,_,_,_,_,_,_,_,_,_,_,_,_,_,_,_,_,_,_,rfl⟩ (by omega) k (by simp;omega) y1 B3 b
theorem Wz(s p:Bs)(i:Nat)(n:Int)(h:n=i)(w:World)(H:s.length≤1000000000000)(a:i≤1000000000002)(b:p≠[]):Calls prog 123 #[.string ⟨s.toArray⟩,.string ⟨p.toArray⟩,.int .i64 n] w fun e W=>e=.returned (.int .i64 (D4 s p i:Int))∧W=w:=by
 subst h;exact Wn s p i w H a b
theorem RJ
  (hs:s.length≤1000000000) (z7:G9 w B v out) (P:Below B w0 w) (hB:B≤w0.heap.size) (z8:out.length≤J) (z9:J≤s.length) (hj:j<s.length) (l':J<j)
  (HE:Hid (s.length≤Cm s j→s.length=R.1∧out=R.2))
  (HG:Hid (Cm s j<s.length→(Ar s (Cm s j+Cn s j)).1=R.1∧(out++(if Hf.contains C then[(j+Cn s j,Cm s j-(j+Cn s j),Cr ((s.drop (j+Cn s j)).take (Cm s j-(j+Cn s j))))]else[]))++(Ar s (Cm s j+Cn s j)).2=R.2))
  (S:Kd Q .normal s N B w0 R J) (U:Nx Q s N B w0 R):
  Code.wp prog Tl Q ⟨List.toArray (Value.string ⟨s.toArray⟩::Value.int .i64 (j:Int)::u2::u3::u4::u5::v::Value.string ⟨N.toArray⟩::u8::u9::Value.string ⟨C.toArray⟩::a0::a1::a2::a3::a4::a5::a6::a7::a8::a9::b0::b1::b2::b4::b5::b6::b7::b8::b9::c0::c1::c2::c3::c4::c5::c6::c7::c8::c9::d0::d1::d2::d3::d4::d5::d6::d7::d8::d9::e0::e1::e2::e3::e4::e5::e6::e7::e8::e9::f0::f1::f2::f3::f4::f5::f6::f7::f8::f9::g0::g1::g2::g3::g4::g5::g6::g7::g8::g9::h0::h1::h2::h3::h4::h5::h6::h7::h8::h9::i0::i1::i2::i3::i4::i5::i6::i7::i8::i9::j0::j1::j2::j3::j4::j5::j6::j7::j8::j9::k0::k1::k2::k3::k4::k5::k6::k7::k8::k9::l0::l1::l2::l3::l4::l5::l6::l7::l8::l9::m0::m1::m2::m3::m4::m5::m6::m7::m8::m9::n0::n1::n2::n3::n4::n5::n6::n7::n8::n9::o0::o1::o2::o3::o4::o5::o6::o7::o8::o9::p0::p1::p2::p3::p4::p5::p6::p7::p8::p9::q0::q1::q2::q3::q4::q5::q6::q7::q8::q9::r0::r1::r2::r3::r4::r5::r6::r7::r8::r9::s0::s1::s2::s3::s4::s5::s6::s7::s8::s9::t0::t1::t2::t3::t4::t5::t6::t7::t8::t9::u0::u1::u6::u7::v0::v1::v2::v3::v4::v5::v6::v7::v8::v9::w1::w2::w3::w4::w5::w6::w7::w8::w9::x0::x1::x2::x3::x4::x5::x6::x7::x8::x9::y0::y1::y2::y3::y4::y5::y6::y7::y8::y9::z0::z1::z2::z3::z4::z5::z6::[]),[]⟩ w:=by
 have a':=AB (fun(x:Bs)(m':Value)=>True.intro);clear a';let n':=bodyPost prog f124 (fun _ _=>True);delta Tl R7 Pk Kx Ma f124;dsimp only[Ak,Ga,Fs,Option.getD];have HN:=AB S;have HS:=AB U;clear S U;have o':=P.size;have D:s.getD j 0=s[j]:=by rw[AK];simp[hj]
 have b':(s[j].toNat:Int)<256:=by have:=s[j].toNat_lt;omega
 have V:=AB (by unfold Cm;rw[D]:Cm s j=if Eu s[j]then D4 s [s[j]] (j+1)else Aa Fq s j);have O:=AB (by unfold Cn;rw[D]:Cn s j=if Eu s[j]then 1 else 0);have L:=AB (T4 s [s[j]] (j+1) (by omega));have F:=AB (Lh Fq (s:=s) (i:=j) (by omega));have d:=AB (Wv s[j]);have hF:=fun W=>Wz s [s[j]] (j+1) ((j:Int)+1) (by omega) W (by omega) (by omega) (by simp)
 have c':=AB (show∀x:Value,True from fun _=>trivial);clear c' D;go_upto_region 27 with fail;generalize d':s[j]=c at b' V O L d hF;go_upto_region 28 with fail;clear d';go_cut[172] (fun t l=>t=.bool (Eu c)∧l=w)
 case first=>
  by_cases m:((c.toNat:Int)==34)=true
  ·go_wp2_with fail;go_meet;exact⟨by rw[d.o,m];rfl,rfl⟩
  have m:=AP.2 m;by_cases r:((c.toNat:Int)==39)=true
  ·go_wp2_with fail;go_meet;exact⟨by rw[d.o,m,r];rfl,rfl⟩
  have r:=AP.2 r;go_wp2_with fail;go_meet;exact⟨by rw[d.o,m,r];rfl,rfl⟩
 case rest=>
 obtain⟨rfl,o⟩:=hcut;obtain rfl:=o.symm;clear o d;generalize Eu c=q at V O⊢;go_upto_if 172 with fail;go_cut[11,12,13] (fun x y z l=>∃f T n:Nat,x=.int .i64 f∧y=.int .i64 T∧z=.int .i64 n∧Hid (f=j+Cn s j∧T=Cm s j∧n=Cm s j+Cn s j)∧f≤T∧T≤s.length∧J<n∧n≤T+1∧Below w.heap.size w l)
 case first=>
  cases q with
  |true=>
   have h:=AB (show Cn s j=1 from O.o);have a:=AB (show Cm s j=D4 s [c] (j+1)from V.o);clear V O F;have e':=L.o;generalize D4 s [c] (j+1)=T at hF a e';go_wp2_with fail;with_reducible refine(hF _).mono ?_
   rintro e I⟨rfl,rfl⟩;go_wp2_with fail;go_meet;exact⟨j+1,T,T+1,by go_num,rfl,by go_num,AB ⟨by rw[h.o],a.o.symm,by rw[a.o,h.o]⟩,by omega,by omega,by omega,by omega,by go_grown⟩
  |false=>
   have h:=AB (show Cn s j=0 from O.o);have a:=AB (show Cm s j=Aa Fq s j from V.o);clear V O;have p':=F.o;clear F L hF;go_wp2_with fail;go_loopw[12] (fun x wr=>∃k:Nat,x=.int .i64 k∧k≤s.length∧Hid (Aa Fq s k=Aa Fq s j)∧wr=w) (fun x _=>s.length-(intOf x).toNat)
   case atStart=>exact⟨j,rfl,by omega,AB rfl,rfl⟩
   obtain⟨k,rfl,hk,b,rfl⟩:=hrel;by_cases X:k<s.length
   ·have G:=Qv s[k] wr;have q':(s[k].toNat:Int)<256:=by have:=s[k].toNat_lt;omega
    have Y:=AB (Pf (p:=Fq) X);have K:=AB (Pg (p:=Fq) X);have E:=AB (by unfold Fq;rw[Ei s[k] 62];rfl:Fq s[k]=!(Al s[k]||((s[k].toNat:Int)==62)));go_upto_region 33 with fail;go_cut[200] (fun t l=>t=.bool (Fq s[k])∧l=wr)
    case first=>
     generalize Al s[k]=g at G E;cases g with
     |true=>
      go_wp2_with fail;with_reducible refine G.mono ?_
      rintro e I⟨rfl,rfl⟩;go_wp2_with fail;go_meet;exact⟨by rw[E.o];rfl,rfl⟩
     |false=>
      cases Z:((s[k].toNat:Int)!=62)with
      |false=>
       have M:=AB (Pb Z);go_wp2_with fail;with_reducible refine G.mono ?_
       rintro e I⟨rfl,rfl⟩;go_wp2_with fail;go_meet;exact⟨by rw[E.o,M.o];rfl,rfl⟩
      |true=>
       have M:=AB (Pa Z);go_wp2_with fail;with_reducible refine G.mono ?_
       rintro e I⟨rfl,rfl⟩;go_wp2_with fail;go_meet;exact⟨by rw[E.o,M.o];rfl,rfl⟩
    case rest=>
    obtain⟨rfl,o⟩:=hcut;obtain rfl:=o.symm;clear o G E;cases u:Fq s[k]with
    |true=>
     have H:=AB (by rw[←b.o,Y.o u]:Aa Fq s (k+1)=Aa Fq s j);clear u Y K b;go_wp2_with fail;go_roundw
     case rel=>exact⟨k+1,by go_num,by omega,H,by first|rfl|trivial⟩
     simp[intOf];omega
    |false=>
     have H:=AB (by rw[a.o,←b.o,K.o u]:Cm s j=k);have f':j≤k:=by have:=H.o;rw[a.o]at this;omega
     clear u Y K b;go_wp2_with fail;go_meet;exact⟨j,k,k,rfl,rfl,rfl,AB ⟨by rw[h.o];rfl,H.o.symm,by rw[H.o,h.o];rfl⟩,f',hk,by omega,by omega,AD _ _⟩
   obtain rfl:k=s.length:=by omega
   have H:=AB (by rw[a.o,←b.o,Ph (AC _)]:Cm s j=s.length);clear b;go_wp2_with fail;go_meet;exact⟨j,s.length,s.length,rfl,rfl,rfl,AB ⟨by rw[h.o];rfl,H.o.symm,by rw[H.o,h.o];rfl⟩,by omega,AC _,by omega,by omega,AD _ _⟩
 case rest=>
 obtain⟨f,T,n,rfl,rfl,rfl,A,hf,g',h',i',b3⟩:=hcut;obtain⟨r',rfl⟩:∃x:World,x=wc:=⟨_,rfl⟩;have j':=AB (by rw[A.o.2.1];exact HE.o:s.length≤T→s.length=R.1∧out=R.2);have k':=AB (by rw[A.o.1,A.o.2.1,A.o.2.2];exact HG.o:T<s.length→(Ar s n).1=R.1∧(out++(if Hf.contains C then[(f,T-f,Cr ((s.drop f).take (T-f)))]else[]))++(Ar s n).2=R.2);apply_assumption;exact RI (j:=j) hs (A0.next z7 b3) (P.trans (b3.mono (by omega))) hB z8 z9 hf g' h' i' j' k' HN.o HS.o
noncomputable def fJ:Code:=Ak (Ak (Ak (Ak (Ak (Ak (Ak (Ak ((f159.body).getD .skip))))))))
theorem RK{b:List Nat}{k:Option Go.Addr}{X:Option Bs}(hl:b.length≤10000000)(n9:b.length≤c)(I:Below w0.heap.size w0 w)
  (HG:Hid (0<b.length→k=some ⟨g,0,none⟩)) (J:Hid (∀j(h:j<b.length),g<w.heap.size∧w.cell? ⟨g,j,none⟩=some (.int .i64 (b[j]:Int)))) (H1:Hid (∀x∈b,x≤1))
  (K:Hid (X=if(E0 b).2.all (·==0)then some (E0 b).1 else none)):
  Code.wp prog fJ (bodyPost prog f159 fun e w'=>e=.returned (Np X)∧Below w0.heap.size w0 w') ⟨List.toArray (Value.string ⟨s.toArray⟩::u1::u2::u3::u4::u5::u6::u7::Value.slice k b.length c::u9::a1::a2::a3::a4::a5::a6::a7::a8::a9::b0::b1::b2::b3::b4::b5::b6::b7::b8::b9::c0::c1::c2::c3::c4::c5::c6::c7::c8::c9::d0::d1::d2::d3::d4::d5::d6::d7::d8::d9::e0::e1::e2::e3::e4::e5::e6::e7::e8::e9::f0::f1::f2::f3::f4::f5::f6::f7::f8::f9::g0::g1::g2::g3::g4::g5::g6::g7::g8::g9::h0::h1::h2::h3::h4::h5::h6::h7::h8::h9::i0::i1::i2::i3::i4::i5::i6::i7::i8::i9::j0::j1::j2::j3::j4::j5::j6::j7::j8::j9::k0::k1::k2::k3::k4::k5::k6::k7::k8::k9::l0::l1::l2::l3::l4::l5::l6::l7::l8::l9::m0::m1::m2::m3::m4::m5::m6::m7::m8::m9::[]),[]⟩ w:=by
 generalize hQ:bodyPost prog f159 _=Q';delta fJ f159;dsimp only[Ak,Option.getD];subst hQ;have n0:=I.size;go_wp2_with fail;go_loopw[8,13] (fun v x wr=>∃(S:Option Go.Addr)(o:Nat)(O:Bs),v=.slice S (b.length-o) (c-o)∧Hid (o<b.length→S=some ⟨g,o,none⟩)∧o≤b.length∧x=.string ⟨O.toArray⟩∧8*O.length≤o∧Hid (O++(E0 (b.drop o)).1=(E0 b).1)∧Hid ((E0 (b.drop o)).2=(E0 b).2)∧Below w.heap.size w wr) (fun v _ _=>match v with| .slice _ n _=>n|_=>0)
 case atStart=>exact⟨k,0,[],rfl,HG,CX _,rfl,by simp,AB (by simp),AB (by simp),AD _ _⟩
 obtain⟨S,o,O,rfl,L,ho,rfl,o0,f,R,B⟩:=hrel;by_cases o1:8≤b.length-o
 ·have q:=L.o (by omega);subst q;have P:((b.drop o).take 8).length=8:=by simp;omega
  have Q:b.drop o=(b.drop o).take 8++b.drop (o+8):=by
   rw[←DW];exact(BQ 8 _).symm
  have t:=Nd (l:=b.drop (o+8)) P;rw[←Q]at t;have r:=AB (by rw[←f.o,t];simp:(O++[(C8 ((b.drop o).take 8)).toUInt8])++(E0 (b.drop (o+8))).1=(E0 b).1);have n1:=AB (by rw[←R.o,t]:(E0 (b.drop (o+8))).2=(E0 b).2);have T:=AB (show∀m(h:o+m<b.length),m<8→C8 ((b.drop o).take (m+1))=C8 ((b.drop o).take m)*2+b[o+m]from fun m h o2=>by
   have u:m<(b.drop o).length:=by simp;omega
   rw[AU u,dD,List.getElem_drop])
  clear t Q P f R;have n2:(8:Int)≤((b.length-o:Nat):Int):=by omega
  have o3:8≤c-o:=by omega
  go_wp2_with fail;go_loopw[14,112] (fun n y W=>∃m:Nat,y=.int .i64 (m:Int)∧m≤8∧n=.int .i64 (C8 ((b.drop o).take m):Int)∧C8 ((b.drop o).take m)<2^m∧W=wr) (fun _ y _=>8-(intOf y).toNat)
  case atStart=>exact⟨0,rfl,by omega,rfl,by show C8 ([]:List Nat)<1;decide,rfl⟩
  obtain⟨m,rfl,u,rfl,i,rfl⟩:=hrel;by_cases n3:m<8
  ·have a:o+m<b.length:=by omega
   have M:=AB (T.o m a n3);have n4:=H1.o _ (AN a);have H:=J.o (o+m) a;have z:wr.cell? ⟨g,o+m,none⟩=some (.int .i64 (b[o+m]:Int)):=(B.cell (p:=⟨g,o+m,none⟩) H.1).trans H.2;have U:2^(m+1)=2*2^m:=by rw[IA];omega
   have n5:=AB (by rw[M.o,U];omega:C8 ((b.drop o).take (m+1))<2^(m+1));have n6:C8 ((b.drop o).take m)<256:=CG i (by
    have:m=0∨m=1∨m=2∨m=3∨m=4∨m=5∨m=6∨m=7:=by omega
    rcases this with rfl|rfl|rfl|rfl|rfl|rfl|rfl|rfl<;>decide)
   clear H U i;generalize C8 ((b.drop o).take m)=n at M n6⊢;have V:=AB (by omega:((n:Int)*2+(b[o+m]:Int))=((n*2+b[o+m]:Nat):Int));generalize b[o+m]=C at z n4 M V;go_wp2_with fail;go_roundw
   case rel=>exact⟨m+1,by go_num,by omega,by rw[M.o];first|rw[V.o]|(congr 1;exact V.o),n5.o,by first|rfl|trivial⟩
   simp[intOf];omega
  obtain rfl:m=8:=by omega
  have n7:C8 ((b.drop o).take 8)<256:=i;clear i T;generalize C8 ((b.drop o).take 8)=n at n7 r⊢;obtain⟨d,E⟩:∃d:UInt8,d=n.toUInt8:=⟨_,rfl⟩;rw[←E]at r;have o4:(n:Int)=((d.toNat:Nat):Int):=by rw[E,CO];omega
  clear E;have o5:=d.toNat_lt;have B2:=B.alloc B.size (.cells #[.int .u8 (d.toNat:Int)] 5);have o6:¬9223372036854775807<O.length+1:=by omega
  go_wp2_with fail;refine⟨⟨_,o+8,O++[d],by rw[JH,JH],AB (fun h=>?_),by omega,by simp,by simp;omega,r,n1,B2⟩,?_⟩
  ·first|rfl|rw[AI (by omega)]
  show b.length-o-8<b.length-o;omega
 have F:=V7 (l:=b.drop o) (by simp;omega);have Y:=AB (by rw[←f.o,F];simp:(E0 b).1=O);have Z:=AB (by rw[←R.o,F]:(E0 b).2=b.drop o);have a0:=AB (by rw[K.o,Y.o,Z.o]:X=if(b.drop o).all (·==0)then some O else none);clear F f R Y Z K;have n2:¬(8:Int)≤((b.length-o:Nat):Int):=by omega
 go_wp2_with fail;go_loopw[131] (fun y W=>∃m:Nat,y=.int .i64 (m:Int)∧m≤b.length-o∧Hid ((b.drop o).all (·==0)=(b.drop (o+m)).all (·==0))∧W=wr) (fun y _=>b.length-o-(intOf y).toNat)
 case atStart=>exact⟨0,rfl,by omega,AB rfl,rfl⟩
 obtain⟨m,rfl,u,A,rfl⟩:=hrel;have BW:=I.trans (B.mono n0);by_cases o7:m<b.length-o
 ·have a:o+m<b.length:=by omega
  have q:=L.o (by omega);subst q;have H:=J.o (o+m) a;have z:wr.cell? ⟨g,o+m,none⟩=some (.int .i64 (b[o+m]:Int)):=(B.cell (p:=⟨g,o+m,none⟩) H.1).trans H.2;have D:=AB (by rw[AE a,FA];rfl:(b.drop (o+m)).all (·==0)=((b[o+m]==0)&&(b.drop (o+(m+1))).all (·==0)));clear H;generalize b[o+m]=C at z D;by_cases G:C=0
  ·subst G;have n8:=AB (by rw[A.o,D.o];rfl:(b.drop o).all (·==0)=(b.drop (o+(m+1))).all (·==0));clear A D;go_wp2_with fail;go_roundw
   case rel=>exact⟨m+1,by go_num,by omega,n8,by first|rfl|trivial⟩
   simp[intOf];omega
  have o8:((C:Int)!=0)=true:=by rw[CZ];omega
  have N:=AB (show X=none from by
   rw[a0.o,A.o,D.o,AG.2 G];rfl)
  clear A D G;go_wp2_with fail;go_ret2;exact⟨by rw[N.o];rfl,BW⟩
 obtain rfl:m=b.length-o:=by omega
 have N:=AB (show X=some O from by
  rw[a0.o,A.o,BK (by omega)];rfl)
 go_wp2_with fail;go_ret2;exact⟨by rw[N.o];rfl,BW⟩
theorem RL{J T X:Value}
  (hs:s.length≤1000000000) (m:G9 w B v out) (b:Below B w0 w) (hB:B≤w0.heap.size) (y3:out.length≤j) (y4:j≤s.length) (y9:j<d) (z0:d≤s.length)
  (c:Hid ((∀h:d<s.length,s[d]≠61)→(Ar s d).1=R.1∧out++(Ar s d).2=R.2))
  (H:Hid (∀i,(∃h:d<s.length,s[d]=61)→i=Aa Al s (d+1)→(s.length≤i→i=R.1∧out=R.2)∧(i<s.length→(s.length≤Cm s i→s.length=R.1∧out=R.2)∧(Cm s i<s.length→(Ar s (Cm s i+Cn s i)).1=R.1∧(out++(if Hf.contains A then[(i+Cn s i,Cm s i-(i+Cn s i),Cr ((s.drop (i+Cn s i)).take (Cm s i-(i+Cn s i))))]else[]))++(Ar s (Cm s i+Cn s i)).2=R.2))))
  (N:Kd Q .normal s n B w0 R j) (t:Kd Q (.exit 3) s n B w0 R j) (S:Nx Q s n B w0 R):
  Code.wp prog R7 Q ⟨List.toArray (Value.string ⟨s.toArray⟩::Value.int .i64 (d:Int)::U::E::F::I::v::Value.string ⟨n.toArray⟩::J::K::Value.string ⟨A.toArray⟩::M::O::P::T::V::X::Z::a0::a1::a2::a3::a4::a5::a6::a7::a8::a9::b0::b1::b2::b3::b4::b5::b6::b7::b8::b9::c0::c1::c2::c3::c4::c5::c6::c7::c8::c9::d0::d1::d2::d3::d4::d5::d6::d7::d8::d9::e0::e1::e2::e3::e4::e5::e6::e7::e8::e9::f0::f1::f2::f3::f4::f5::f6::f7::f8::f9::g0::g1::g2::g3::g4::g5::g6::g7::g8::g9::h0::h1::h2::h3::h4::h5::h6::h7::h8::h9::i0::i1::i2::i3::i4::i5::i6::i7::i8::i9::j0::j1::j2::j3::j4::j5::j6::j7::j8::j9::k0::k1::k2::k3::k4::k5::k6::k7::k8::k9::l0::l1::l2::l3::l4::l5::l6::l7::l8::l9::m0::m1::m2::m3::m4::m5::m6::m7::m8::m9::n0::n1::n2::n3::n4::n5::n6::n7::n8::n9::o0::o1::o2::o3::o4::o5::o6::o7::o8::o9::p0::p1::p2::p3::p4::p5::p6::p7::p8::p9::q0::q1::q2::q3::q4::q5::q6::q7::q8::q9::r0::r1::r2::r3::r4::r5::r6::r7::r8::r9::s0::s1::s2::s3::s4::s5::s6::s7::s8::s9::t0::t1::t2::t3::t4::t5::t6::t7::t8::t9::u0::u1::u2::u3::u4::u5::u6::u7::u8::u9::v0::v1::v2::v3::v4::v5::v6::v7::v8::v9::w1::w2::w3::w4::w5::w6::w7::w8::w9::x0::x1::x2::x3::x4::x5::x6::x7::x8::x9::y0::y1::y2::[]),[]⟩ w:=by
 let z1:=bodyPost prog f124 (fun _ _=>True);delta R7 Pk Kx Ma f124;dsimp only[Ak,Ga,Fs,Option.getD];have HN:=AB N;have u:=AB t;have y:=AB S;clear N t S;have z2:=b.size;by_cases e:∃h:d<s.length,s[d]=61
 ·obtain⟨q,o⟩:=e;have H:=AB (fun i=>H.o i ⟨q,o⟩);have y5:(s[d].toNat:Int)=61:=by rw[o];rfl
  have z3:¬((s.length:Int)≤(d:Int)):=by omega
  have L:=AB (Lh Al (s:=s) (i:=d+1) (by omega));clear c;go_upto_region 22 with fail;go_cut[1] (fun x W=>x=.int .i64 ((d+1:Nat):Int)∧W=w)
  case first=>
   go_wp2_with fail;go_meet;exact⟨by go_num,rfl⟩
  case rest=>
  obtain⟨rfl,f⟩:=hcut;obtain rfl:=f.symm;clear f y5 o;go_upto_block 10 with fail;go_cut[1] (fun x W=>x=.int .i64 (Aa Al s (d+1):Int)∧W=w)
  case first=>
   go_wp2_with fail;go_loopw[1] (fun x wr=>∃k:Nat,x=.int .i64 k∧k≤s.length∧Hid (Aa Al s k=Aa Al s (d+1))∧wr=w) (fun x _=>s.length-(intOf x).toNat)
   case atStart=>exact⟨d+1,rfl,by omega,AB rfl,rfl⟩
   obtain⟨k,rfl,hk,r,rfl⟩:=hrel;by_cases z:k<s.length
   ·have G:=Qv s[k] wr;have Y:=AB (Pf (p:=Al) z);have C:=AB (Pg (p:=Al) z);generalize Al s[k]=g at G Y C;cases g with
    |true=>
     have l:=AB (by rw[←r.o,Y.o rfl]:Aa Al s (k+1)=Aa Al s (d+1));go_wp2_with fail;with_reducible refine G.mono ?_
     rintro x y6⟨rfl,rfl⟩;go_wp2_with fail;go_roundw
     case rel=>exact⟨k+1,by go_num,by omega,l,by first|rfl|trivial⟩
     simp[intOf];omega
    |false=>
     have l:=AB (by rw[←r.o,C.o rfl]:Aa Al s (d+1)=k);go_wp2_with fail;with_reducible refine G.mono ?_
     rintro x y6⟨rfl,rfl⟩;go_wp2_with fail;go_meet;exact⟨by rw[l.o],rfl⟩
   obtain rfl:k=s.length:=by omega
   have l:=AB (by rw[←r.o,Ph (AC _)]:Aa Al s (d+1)=s.length);go_wp2_with fail;go_meet;exact⟨by rw[l.o],rfl⟩
  case rest=>
  obtain⟨rfl,f⟩:=hcut;obtain rfl:=f.symm;clear f;have y7:=L.o;have H:=AB (H.o _ rfl);generalize Aa Al s (d+1)=i at y7 H⊢;clear L;by_cases D:i<s.length
  ·have a:=H.o.2 D;have HE:=AB a.1;have HG:=AB a.2;have z4:¬((s.length:Int)≤(i:Int)):=by omega
   clear a H;go_upto_if 162 with fail;go_cut[] (fun W=>W=w)
   case first=>
    go_wp2_with fail;go_meet;first|rfl|trivial
   case rest=>
   obtain rfl:=hcut.symm;clear hcut;apply_assumption;exact RJ hs m b hB y3 y4 D (by omega) HE HG HN.o y.o
  obtain rfl:i=s.length:=by omega
  have a:=H.o.1 (AC _);have H1:=AB (by rw[Nat.min_self];exact a.1:min s.length s.length=R.1);have H2:=AB a.2;clear a H;go_wp2_with fail;refine y.o s.length v w _ ⟨_,_,_,_,_,_,_,_,_,_,_,_,_,_,_,_,_,_,_,_,_,_,_,_,_,_,_,_,_,_,_,_,_,_,_,_,_,_,_,_,_,_,_,_,_,_,_,_,_,_,_,_,_,_,_,_,_,_,_,_,_,_,_,_,_,_,_,_,_,_,_,_,_,_,_,_,_,_,_,_,_,_,_,_,_,_,_,_,_,_,_,_,_,_,_,_,_,_,_,_,_,_,_,_,_,_,_,_,_,_,_,_,_,_,_,_,_,_,_,_,_,_,_,_,_,_,_,_,_,_,_,_,_,_,_,_,_,_,_,_,_,_,_,_,_,_,_,_,_,_,_,_,_,_,_,_,_,_,_,_,_,_,_,_,_,_,_,_,_,_,_,_,_,_,_,_,_,_,_,_,_,_,_,_,_,_,_,_,_,_,_,_,_,_,_,_,_,_,_,_,_,_,_,_,_,_,_,_,_,_,_,_,_,_,_,_,_,_,_,_,_,_,_,_,_,_,_,_,_,_,_,_,_,_,_,_,_,_,_,_,_,_,_,_,_,_,_,_,_,_,_,_,_,_,_,_,rfl⟩ (by omega) H1 (by rw[←H2.o];exact m) b
 have c:=AB (c.o (fun h y8=>e ⟨h,y8⟩));clear H;by_cases q:d<s.length
 ·have o:((s[d].toNat:Int)!=61)=true:=by
   rw[CZ];exact fun h=>e ⟨q,BJ.1 (by simp;omega)⟩
  have z5:(s[d].toNat:Int)<256:=by have:=s[d].toNat_lt;omega
  clear e;go_wp2_with fail;refine u.o d v out w _ ⟨_,_,_,_,_,_,_,_,_,_,_,_,_,_,_,_,_,_,_,_,_,_,_,_,_,_,_,_,_,_,_,_,_,_,_,_,_,_,_,_,_,_,_,_,_,_,_,_,_,_,_,_,_,_,_,_,_,_,_,_,_,_,_,_,_,_,_,_,_,_,_,_,_,_,_,_,_,_,_,_,_,_,_,_,_,_,_,_,_,_,_,_,_,_,_,_,_,_,_,_,_,_,_,_,_,_,_,_,_,_,_,_,_,_,_,_,_,_,_,_,_,_,_,_,_,_,_,_,_,_,_,_,_,_,_,_,_,_,_,_,_,_,_,_,_,_,_,_,_,_,_,_,_,_,_,_,_,_,_,_,_,_,_,_,_,_,_,_,_,_,_,_,_,_,_,_,_,_,_,_,_,_,_,_,_,_,_,_,_,_,_,_,_,_,_,_,_,_,_,_,_,_,_,_,_,_,_,_,_,_,_,_,_,_,_,_,_,_,_,_,_,_,_,_,_,_,_,_,_,_,_,_,_,_,_,_,_,_,_,_,_,_,_,_,_,_,_,_,_,_,_,_,_,_,_,_,rfl⟩ (by omega) (by omega) (by omega) m b c
 obtain rfl:d=s.length:=by omega
 clear e;go_wp2_with fail;refine u.o s.length v out w _ ⟨_,_,_,_,_,_,_,_,_,_,_,_,_,_,_,_,_,_,_,_,_,_,_,_,_,_,_,_,_,_,_,_,_,_,_,_,_,_,_,_,_,_,_,_,_,_,_,_,_,_,_,_,_,_,_,_,_,_,_,_,_,_,_,_,_,_,_,_,_,_,_,_,_,_,_,_,_,_,_,_,_,_,_,_,_,_,_,_,_,_,_,_,_,_,_,_,_,_,_,_,_,_,_,_,_,_,_,_,_,_,_,_,_,_,_,_,_,_,_,_,_,_,_,_,_,_,_,_,_,_,_,_,_,_,_,_,_,_,_,_,_,_,_,_,_,_,_,_,_,_,_,_,_,_,_,_,_,_,_,_,_,_,_,_,_,_,_,_,_,_,_,_,_,_,_,_,_,_,_,_,_,_,_,_,_,_,_,_,_,_,_,_,_,_,_,_,_,_,_,_,_,_,_,_,_,_,_,_,_,_,_,_,_,_,_,_,_,_,_,_,_,_,_,_,_,_,_,_,_,_,_,_,_,_,_,_,_,_,_,_,_,_,_,_,_,_,_,_,_,_,_,_,_,_,_,_,rfl⟩ (by omega) (by omega) (by omega) m b c
end Go.Proofs.YtignjjnflcpiiaaGreatDoor
