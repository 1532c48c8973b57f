/- page's attribute: behind an attribute of a tag. Condition -/
import Derived.Test.YtignjjnflcpiiaaGreatDoorS23
set_option linter.all false
set_option maxHeartbeats 8000000
set_option maxRecDepth 100000
namespace Go.Proofs.YtignjjnflcpiiaaGreatDoor
open Go Go.RowKit Proofs.Tryz Lib
def Lz(s:Bs)(a:Nat):Bool×Nat×List Aj:=let k:=indexAny (s.drop (a+1)) [32,9,13,10,47,61,62]
 if k<0 then(false,s.length,[])
 else
  let d:=a+(1+k.toNat)+Br (s.drop (a+(1+k.toNat))) G2
  if(s.drop d).head?=some 61 then Dl s (A2 ((s.drop a).take (1+k.toNat))) (d+1+Br (s.drop (d+1)) G2)
  else(decide (d<s.length),d,[])
variable {i a n b d j B:Nat}{s:Bs}{c:UInt8}
theorem zQ(H:a=i+Br (s.drop i) [32,9,13,10,47])(h:s.length≤a):Bv s i=(false,a,[]):=by
 unfold Bv;simp only[←H];rw[BK h]
theorem zR(H:a=i+Br (s.drop i) [32,9,13,10,47])(h:a<s.length)(b:s[a]=62):Bv s i=(false,a+1,[]):=by
 unfold Bv;simp only[←H];rw[AE h];simp only;rw[AM b]
theorem zS(H:a=i+Br (s.drop i) [32,9,13,10,47])(h:a<s.length)(b:s[a]≠62):Bv s i=Lz s a:=by
 unfold Bv Lz;simp only[←H];rw[AE h];simp only;rw[AI b]
theorem zT{k:Int}(H:k=indexAny (s.drop (a+1)) [32,9,13,10,47,61,62])(h:k<0):Lz s a=(false,s.length,[]):=by
 unfold Lz;simp only[←H];rw[AM h]
theorem zU(H:(n:Int)=indexAny (s.drop (a+1)) [32,9,13,10,47,61,62])(c:b=a+(1+n))(e:d=b+Br (s.drop b) G2)(h:(s.drop d).head?≠some 61):Lz s a=(decide (d<s.length),d,[]):=by
 unfold Lz;simp only[←H];rw[AI (by omega)];simp only[DO,←c,←e];rw[AI h]
theorem zV(H:(n:Int)=indexAny (s.drop (a+1)) [32,9,13,10,47,61,62])(c:b=a+(1+n))(e:d=b+Br (s.drop b) G2)(h:(s.drop d).head?=some 61)(f:j=d+1+Br (s.drop (d+1)) G2):Lz s a=Dl s (A2 ((s.drop a).take (1+n))) j:=by
 unfold Lz;simp only[←H];rw[AI (by omega)];simp only[DO,←c,←e];rw[AM h,←f]
theorem zW(c:UInt8):(!((c.toNat:Int)==61))=!(decide (some c=some (61:UInt8))):=by
 by_cases h:c=61
 ·subst h;rfl
 rw[show((c.toNat:Int)==61)=false from Ou h,AX (fun e=>h (CS e))]
theorem Gr.below{w w':World}{B:Nat}(h:Gr w)(b:3<B)(H:Below B w w'):Gr w':=by
 refine⟨h.g.below H b,fun k a=>?_,fun k a=>?_,?_⟩
 ·exact(H.cell (p:=⟨1,k,none⟩) (by simp only;omega)).trans (h.signs k a)
 ·exact(H.cell (p:=⟨2,k,none⟩) (by simp only;omega)).trans (h.ours k a)
 exact(H.cell (p:=⟨0,0,none⟩) (by simp only;omega)).trans h.et
theorem Sc.hB{out:List Aj}{w:World}(h:Sc B b s i out w):B≤b:=by obtain⟨_,_,_,H⟩:=h;exact H
theorem zX(h:d<s.length):(s.drop d).head?=some s[d]:=by rw[AE h];rfl
theorem eY(h:s.length≤d):(s.drop d).head?=none:=by rw[BK h];rfl
def E5:Code→Code
 | .seq _ c=>c
 |c=>c
noncomputable def eZ:Code:=E5 (E5 (E5 (E5 (E5 (E5 (E5 ((f185.body).getD .skip)))))))
theorem zY{u5 u6 u7 u8 u9 a8 a9 b0 b1 b2 b3 b4 b5 b6 b7 b8 b9 c0 c1 c2 c3 c4 c5 c6 c7 c8 c9 d0 d1 d2 d3 d4 d5 d6 d7 d8 d9 e0 e1 e2 e3 e4 e5 e6 e7 e8 e9 f0 f1 f2 f3 f4 f5 f6 f7 f8 f9 g0 g1 g2 g3 g4 g5 g6 g7 g8 g9 h0 h1 h2 h3 h4 h5 h6 h7 h8 h9 i0 i1 i2 i3 i4 i5 i6 i7 i8 i9 j0 j1 j2 j3 j4 j5 j6 j7 j8 j9 k0 k1 k2 k3 k4 k5 k6 k7 k8 k9 l0 l1 l2 l3 l4 l5 l6 l7 l8 l9 m0 m1 m2 m3 m4 m5 m6 m7 m8 m9 n0 n1 n2 n3 n4 n5 n6 n7 n8 n9 o0 o1 o2 o3 o4 o5 o6 o7 o8 o9 p0 p1 p2 p3 p4 p5 p6 p7 p8 p9 q0 q1 q2 q3 q4 q5 q6 q7 q8 q9:Value}(B b:Nat)(s N:Bs)(a n c d:Nat)(out:List Aj)(w C:World)(R:Bool×Nat×List Aj)(hg:Gr w)(r0:3<B)(G:Sc B b s a out C)(Y:Below B w C)(hs:s.length≤1000000000)(r1:out.length≤1000000000)
  (z:B≤b) (s1:a<s.length) (s2:n+1≤s.length-(a+1)) (a0:c=a+(1+n)) (s3:c≤s.length) (I:Hid (c=a+(1+n))) (o:Hid (d=c+Br (s.drop c) G2)) (s4:d≤s.length) (r2:Hid (d≤s.length)) (HN:Hid (N=(s.drop a).take (1+n)))
  (J:Hid ((n:Int)=indexAny (s.drop (a+1)) [32,9,13,10,47,61,62])) (E:Hid (R=Lz s a)):
  Code.wp prog eZ (bodyPost prog f185 fun e w'=>e=.returned (.bool R.1)∧Sc B b s R.2.1 (out++R.2.2) w'∧Below B w w') ⟨List.toArray (Value.pointer (some ⟨b,0,none⟩)::undef::Value.bool false::Value.int .i64 (n:Int)::Value.string ⟨(A2 N).toArray⟩::u5::u6::u7::u8::u9::a8::a9::b0::b1::b2::b3::b4::b5::b6::b7::b8::b9::c0::c1::c2::c3::c4::c5::c6::c7::c8::c9::d0::d1::d2::d3::d4::d5::d6::d7::d8::d9::e0::e1::e2::e3::e4::e5::e6::e7::e8::e9::f0::f1::f2::f3::f4::f5::f6::f7::f8::f9::g0::g1::g2::g3::g4::g5::g6::g7::g8::g9::h0::h1::h2::h3::h4::h5::h6::h7::h8::h9::i0::i1::i2::i3::i4::i5::i6::i7::i8::i9::j0::j1::j2::j3::j4::j5::j6::j7::j8::j9::k0::k1::k2::k3::k4::k5::k6::k7::k8::k9::l0::l1::l2::l3::l4::l5::l6::l7::l8::l9::m0::m1::m2::m3::m4::m5::m6::m7::m8::m9::n0::n1::n2::n3::n4::n5::n6::n7::n8::n9::o0::o1::o2::o3::o4::o5::o6::o7::o8::o9::p0::p1::p2::p3::p4::p5::p6::p7::p8::p9::q0::q1::q2::q3::q4::q5::q6::q7::q8::q9::[]),[]⟩ C:=by
 generalize hQ:bodyPost prog f185 _=Q';delta eZ f185;dsimp only[E5,Option.getD];subst hQ;go_upto_region 12 with fail;go_cut[] (fun W=>Sc B b s c out W∧Below B w W)
 case first=>
  have H:=AB G;obtain⟨v,k,_,_⟩:=G;have K:=k.cell;have kf:=k.free;have V:=AB (by omega:(a:Int)+(1+(n:Int))=((c:Nat):Int));have Z:IntKind.i64.wrap (1+(n:Int))=1+(n:Int):=CI _ (by omega);have z2:IntKind.i64.wrap ((a:Int)+(1+(n:Int)))=(a:Int)+(1+(n:Int)):=CI _ (by omega);clear a0;go_wp2_with fail;go_meet;exact⟨by rw[V.o];exact H.o.at c,Y.setCell z _⟩
 case rest=>
 obtain⟨L,B6⟩:=hcut;obtain⟨w6,rfl⟩:∃x:World,x=wc:=⟨_,rfl⟩;clear G Y a0;go_upto_region 13 with fail;go_cut[] (fun W=>Sc B b s d out W∧Below B w W)
 case first=>
  have H:=AB L;obtain⟨v,k,_,_⟩:=L;have i:=A1.drew k;have r3:=i.cell;have p:=T7 (s.drop c) [32,9,13,10] w6.drew (by simp;omega) (by decide) (by decide);have V:=AB (by have:=o.o;rw[(by rfl:G2=[32,9,13,10])]at this;omega:(c:Int)+(Br (s.drop c) [32,9,13,10]:Int)=((d:Nat):Int));generalize Br (s.drop c) [32,9,13,10]=r at p V;clear o;have M:=V.o;have r4:d≤s.length:=r2.o;have r5:(c:Int)≤s.length:=by omega
  have r6:(0:Int)≤c:=by omega
  have Z:IntKind.i64.wrap ((c:Int)+(r:Int))=(c:Int)+(r:Int):=CI _ (by omega);clear M;go_region_law((go_simp;with_reducible refine p.mono ?_;rintro e O⟨rfl,g⟩;have q:=AB (i.next g i.lt);have r7:=q.o.cell;have r8:=q.o.free 1));all_goals
   go_wp2_with fail;go_meet;exact⟨by rw[V.o];exact((H.o.drew).next g).at d,(B6.drew.trans (g.mono H.o.base)).setCell z _⟩
 case rest=>
 obtain⟨P,Q⟩:=hcut;obtain⟨m,rfl⟩:∃x:World,x=wc:=⟨_,rfl⟩;clear L B6;go_upto_region 14 with fail;go_cut[134] (fun t W=>t=.bool (!(decide ((s.drop d).head?=some 61)))∧Sc B b s d out W∧Below B w W)
 case first=>
  have H:=AB P;obtain⟨v,k,_,_⟩:=P;have K:=k.cell;by_cases a1:d=s.length
  ·have S:=AB (eY (s:=s) (d:=d) (JA a1.symm));have r9:((d:Int)==(s.length:Int))=true:=by rw[a1];exact EJ _
   go_wp2_with fail;go_quiet(fail);have f:=CB (AD m.heap.size m) nq;generalize m.drewN nq=u at f⊢;clear K;go_wp2_with fail;go_meet;exact⟨by rw[S.o];rfl,H.o.next f,Q.trans (f.mono H.o.base)⟩
  have a2:d<s.length:=by omega
  have S:=AB (zX a2);have r9:((d:Int)==(s.length:Int))=false:=AG.2 (by omega);have s5:(d:Int)<s.length:=by omega
  have s6:(0:Int)≤d:=by omega
  go_wp2_with fail;go_quiet(fail);have f:=CB (AD m.heap.size m) nq;generalize m.drewN nq=u at f⊢;clear K;go_wp2_with fail;go_meet;exact⟨by rw[S.o];exact AF Value.bool (zW _),H.o.next f,Q.trans (f.mono H.o.base)⟩
 case rest=>
 obtain⟨rfl,y,T⟩:=hcut;obtain⟨u,rfl⟩:∃x:World,x=wc:=⟨_,rfl⟩;clear P Q;by_cases l:(s.drop d).head?=some 61
 case neg=>
  have F:=AB (zU J.o I.o o.o l);rw[AX l];simp only[EH];have H:=AB y;obtain⟨v,k,_,_⟩:=y;have K:=k.cell;have Z:(((d:Int)<(s.length:Int))↔d<s.length):=by omega
  go_wp2_with fail;go_quiet(fail);have f:=CB (AD u.heap.size u) nq;generalize u.drewN nq=w9 at f⊢;clear K;go_wp2_with fail;go_ret;exact⟨by rw[E.o,F.o];simp,by rw[E.o,F.o,BM];exact H.o.next f,T.trans (f.mono H.o.base)⟩
 have a2:d<s.length:=by
  rcases CN d s.length with h|h
  ·exact h
  rw[eY h]at l;cases l
 obtain⟨j,U⟩:∃x,x=d+1+Br (s.drop (d+1)) G2:=⟨_,rfl⟩;have X:=AB U;have F:=AB (zV J.o I.o o.o l U);rw[BD l];simp only[ED];have a3:=Mf (s.drop (d+1)) G2;rw[AS]at a3;have a4:=AB (by omega:j≤s.length);clear U a3 l J I o;go_upto_region 16 with fail;go_cut[] (fun W=>Sc B b s (d+1) out W∧Below B w W)
 case first=>
  have H:=AB y;obtain⟨v,k,_,_⟩:=y;have K:=k.cell;have kf:=k.free;have Z:IntKind.i64.wrap ((d:Int)+1)=(d:Int)+1:=CI _ (by omega);go_wp2_with fail;go_meet;exact⟨H.o.at (d+1),T.setCell z _⟩
 case rest=>
 obtain⟨A,B9⟩:=hcut;obtain⟨w9,rfl⟩:∃x:World,x=wc:=⟨_,rfl⟩;clear y T;obtain⟨D,a5⟩:∃x,x=d+1:=⟨_,rfl⟩;rw[←a5]at A X;clear a5;go_upto_region 17 with fail;go_cut[] (fun W=>Sc B b s j out W∧Below B w W)
 case first=>
  have H:=AB A;obtain⟨v,k,_,_⟩:=A;have i:=A1.drew k;have r3:=i.cell;have p:=T7 (s.drop D) [32,9,13,10] w9.drew (by simp;omega) (by decide) (by decide);have V:=AB (by have:=X.o;rw[(by rfl:G2=[32,9,13,10])]at this;omega:(D:Int)+(Br (s.drop D) [32,9,13,10]:Int)=((j:Nat):Int));generalize Br (s.drop D) [32,9,13,10]=r at p V;clear X;have M:=V.o;have r4:j≤s.length:=a4.o;have r5:(D:Int)≤s.length:=by omega
  have r6:(0:Int)≤D:=by omega
  have Z:IntKind.i64.wrap ((D:Int)+(r:Int))=(D:Int)+(r:Int):=CI _ (by omega);clear M;go_region_law((go_simp;with_reducible refine p.mono ?_;rintro e O⟨rfl,g⟩;have q:=AB (i.next g i.lt);have r7:=q.o.cell;have r8:=q.o.free 1));all_goals
   go_wp2_with fail;go_meet;exact⟨by rw[V.o];exact((H.o.drew).next g).at j,(B9.drew.trans (g.mono H.o.base)).setCell z _⟩
 case rest=>
 obtain⟨s0,a6⟩:=hcut;obtain⟨O,rfl⟩:∃x:World,x=wc:=⟨_,rfl⟩;clear A B9;have hP:=xW B b s (A2 N) j out O (hg.below r0 a6) s0 a4.o hs r1;have a7:=AB (by rw[E.o,F.o,HN.o]:R=Dl s (A2 N) j);clear E F HN;go_wp2_with fail;with_reducible refine hP.mono ?_
 rintro e s7⟨rfl,hS,g⟩;go_wp2_with fail;go_ret;exact⟨by rw[a7.o];rfl,by rw[a7.o];exact hS,a6.trans g⟩
theorem zZ(B b:Nat)(s:Bs)(i:Nat)(out:List Aj)(w:World)(hg:Gr w)(a1:3<B)(h:Sc B b s i out w)(hi:i≤s.length)(hs:s.length≤1000000000)(b2:out.length≤1000000000):Calls prog 185 #[.pointer (some ⟨b,0,none⟩)] w fun e w'=>e=.returned (.bool (Bv s i).1)∧Sc B b s (Bv s i).2.1 (out++(Bv s i).2.2) w'∧Below B w w':=by
 have G:B≤b:=h.hB;have b3:=h.base;have Q:=Mf (s.drop i) [32,9,13,10,47];rw[AS]at Q;obtain⟨a,ha⟩:∃a,a=i+Br (s.drop i) [32,9,13,10,47]:=⟨_,rfl⟩;have A:=AB ha;have b4:=AB (by omega:a≤s.length);clear ha;go_enter func185,ntmps185;go_upto_region 1 with fail;go_cut[] (fun f=>Sc B b s a out f∧Below B w f)
 case first=>
  have H:=AB h;obtain⟨v,c,_,_⟩:=h;have l:=A1.drew c;have I:=l.cell;have a2:=T7 (s.drop i) [32,9,13,10,47] w.drew (by simp;omega) (by decide) (by decide);have HV:=AB (by have:=A.o;omega:(i:Int)+(Br (s.drop i) [32,9,13,10,47]:Int)=((a:Nat):Int));generalize Br (s.drop i) [32,9,13,10,47]=r at Q a2 HV;clear A;have i1:(i:Int)≤s.length:=by omega
  have i2:(0:Int)≤i:=by omega
  have z1:IntKind.i64.wrap ((i:Int)+(r:Int))=(i:Int)+(r:Int):=CI _ (by omega);go_region_law((go_simp;with_reducible refine a2.mono ?_;rintro e a3⟨rfl,m⟩;have a4:=AB (l.next m l.lt);have c0:=a4.o.cell;have c1:=a4.o.free 1));all_goals
   go_wp2_with fail;go_meet;exact⟨by rw[HV.o];exact((H.o.drew).next m).at a,((AD B w).drew.trans (m.mono b3)).setCell G _⟩
 case rest=>
 obtain⟨y,R⟩:=hcut;obtain⟨p,rfl⟩:∃x:World,x=wc:=⟨_,rfl⟩;clear Q;have c2:=b4.o;clear h;by_cases a5:a=s.length
 ·have E:=AB (zQ A.o (JA a5.symm));subst a5;have z:=AB y;obtain⟨v,c,_,_⟩:=y;have j:=c.cell;go_wp2_with fail;go_quiet(fail);have g:=CB (AD p.heap.size p) nq;generalize p.drewN nq=C at g⊢;clear j;go_wp2_with fail;go_ret;exact⟨by rw[E.o];rfl,by rw[E.o,BM];exact z.o.next g,R.trans (g.mono z.o.base)⟩
 have S:a<s.length:=by omega
 go_upto_region 2 with fail;go_cut[31] (fun t f=>t=.bool false∧Sc B b s a out f∧Below B w f)
 case first=>
  have z:=AB y;obtain⟨v,c,_,_⟩:=y;have j:=c.cell;have b5:¬((a:Int)=(s.length:Int)):=by omega
  go_wp2_with fail;go_quiet(fail);have g:=CB (AD p.heap.size p) nq;generalize p.drewN nq=C at g⊢;clear j;go_wp2_with fail;go_meet;exact⟨AF Value.bool (AG.2 b5),z.o.next g,R.trans (g.mono z.o.base)⟩
 case rest=>
 obtain⟨rfl,T,B2⟩:=hcut;obtain⟨C,rfl⟩:∃x:World,x=wc:=⟨_,rfl⟩;clear y R;go_upto_region 4 with fail;go_cut[41] (fun t f=>t=.bool ((s[a].toNat:Int)==62)∧Sc B b s a out f∧Below B w f)
 case first=>
  have a6:=AB T;obtain⟨v,c,_,_⟩:=T;have j:=c.cell;have c3:(a:Int)<s.length:=by omega
  have c4:(0:Int)≤a:=by omega
  go_wp2_with fail;go_quiet(fail);have g:=CB (AD C.heap.size C) nq;generalize C.drewN nq=o at g⊢;clear j;go_wp2_with fail;go_meet;exact⟨rfl,a6.o.next g,B2.trans (g.mono a6.o.base)⟩
 case rest=>
 obtain⟨rfl,D,J⟩:=hcut;obtain⟨o,rfl⟩:∃x:World,x=wc:=⟨_,rfl⟩;clear T B2;by_cases L:s[a]=62
 ·have E:=AB (zR A.o S L);have U:((s[a].toNat:Int)==62)=true:=by rw[L];rfl
  have M:=AB D;obtain⟨v,c,_,_⟩:=D;have j:=c.cell;have kf:=c.free;go_wp2_with fail;go_ret;exact⟨by rw[E.o];rfl,by rw[E.o,BM];exact M.o.at (a+1),J.setCell G _⟩
 have U:((s[a].toNat:Int)==62)=false:=Ou L;have E:=AB (zS A.o S L);clear A;generalize((s[a].toNat:Int)==62)=q at U⊢;subst U;have c5:=hg.below a1 J;obtain⟨N,O⟩:∃k,k=indexAny (s.drop (a+1)) [32,9,13,10,47,61,62]:=⟨_,rfl⟩;have V:=AB O;go_upto_region 7 with fail;go_cut[3] (fun t f=>t=.int .i64 N∧Sc B b s a out f∧Below B w f)
 case first=>
  have M:=AB D;obtain⟨v,c,_,_⟩:=D;have l:=A1.drew c;have I:=l.cell;have j:=c.cell;have i1:(a:Int)+1≤s.length:=by omega
  have i2:(0:Int)≤(a:Int)+1:=by omega
  have i3:((a:Int)+1).toNat=a+1:=by omega
  have a7:=Vi (s.drop (a+1)) [32,9,13,10,47,61,62] (by decide) (by decide) (by decide) (by simp;omega);rw[←O]at a7;have X:=(AD o.heap.size o).drew;have z1:IntKind.i64.wrap ((a:Int)+1)=(a:Int)+1:=CI _ (by omega);go_region_held3(fun W=>(∀k,W.cell? ⟨b,k,none⟩=(#[.string ⟨s.toArray⟩,.int .i64 (a:Int),v])[k]?)∧Below o.heap.size o W)
   (first
    |with_reducible exact⟨I,X⟩
    |with_reducible exact⟨(c.next K c.lt).cell,K⟩)
   ((go_at_call 178;go_split_ands;with_reducible refine(a7 _).mono ?_;rintro e a3⟨rfl,m⟩;have K:=C4 m (w0:=o) (by assumption)))
  all_goals go_split_ands
  all_goals
   go_wp2_with fail;go_meet;exact⟨by rw[V.o],M.o.next (by assumption),J.trans (GY (B:=o.heap.size) (by assumption) M.o.base)⟩
 case rest=>
 obtain⟨rfl,P,B4⟩:=hcut;obtain⟨u,rfl⟩:∃x:World,x=wc:=⟨_,rfl⟩;clear D J;have a8:=Rw (s.drop (a+1)) [32,9,13,10,47,61,62];rw[←O,AS]at a8;clear O;by_cases hz:N<0
 ·have HF:=AB (zT V.o hz);have b6:=AB P;obtain⟨v,c,_,_⟩:=P;have j:=c.cell;have kf:=c.free;go_wp2_with fail;go_ret;exact⟨by rw[E.o,HF.o];rfl,by rw[E.o,HF.o,BM];exact b6.o.at s.length,B4.setCell G _⟩
 obtain⟨n,rfl⟩:∃n:Nat,N=(n:Int):=⟨N.toNat,by omega⟩;have hn:n+1≤s.length-(a+1):=by omega
 obtain⟨F,Y⟩:∃x,x=a+(1+n):=⟨_,rfl⟩;have b7:F≤s.length:=by omega
 have a9:=AB Y;obtain⟨d,b0⟩:∃x,x=F+Br (s.drop F) G2:=⟨_,rfl⟩;have HD:=AB b0;have b1:=Mf (s.drop F) G2;rw[AS]at b1;have Z:d≤s.length:=by omega
 have b8:=AB Z;obtain⟨nm,a0⟩:∃x,x=(s.drop a).take (1+n):=⟨_,rfl⟩;have HN:=AB a0;clear a8 hz b0 b1;go_upto_region 11 with fail;go_cut[4] (fun t f=>t=.string ⟨(A2 nm).toArray⟩∧Sc B b s a out f∧Below B w f)
 case first=>
  have H':=AB P;obtain⟨v,c,_,_⟩:=P;have l:=A1.drew c;have I:=l.cell;have j:=c.cell;have b9:=fun W=>G0 nm W (by rw[a0];simp;omega)
  have X:=(AD u.heap.size u).drew;subst a0;clear Z Y a9;have z1:IntKind.i64.wrap ((a:Int)+1)=(a:Int)+1:=CI _ (by omega);have z2:IntKind.i64.wrap ((a:Int)+1+(n:Int))=(a:Int)+1+(n:Int):=CI _ (by omega);have z3:((a:Int)+1+(n:Int)).toNat=a+1+n:=by omega
  have z4:(0:Int)≤a:=by omega
  have z5:(a:Int)≤(a:Int)+1+(n:Int):=by omega
  have z6:(a:Int)+1+(n:Int)≤(s.length:Int):=by omega
  have z7:a+1+n-a=1+n:=by omega
  go_region_held3(fun W=>(∀k,W.cell? ⟨b,k,none⟩=(#[.string ⟨s.toArray⟩,.int .i64 (a:Int),v])[k]?)∧Below u.heap.size u W)
   (first
    |with_reducible exact⟨I,X⟩
    |with_reducible exact⟨(c.next K c.lt).cell,K⟩)
   ((go_at_call 42;go_split_ands;with_reducible refine(b9 _).mono ?_;rintro e a3⟨rfl,m⟩;have K:=C4 m (w0:=u) (by assumption)))
  all_goals go_split_ands
  all_goals
   go_wp2_with fail;go_meet;exact⟨rfl,H'.o.next (by assumption),B4.trans (GY (B:=u.heap.size) (by assumption) H'.o.base)⟩
 case rest=>
 obtain⟨rfl,H5,B5⟩:=hcut;rename_i hK;refine hK _ _ ?_;exact zY B b s nm a n F d out w wc (Bv s i) hg a1 H5 B5 hs b2 G S hn Y b7 a9 HD Z b8 HN V E
theorem AA(B b:Nat)(s:Bs)(i:Nat)(out:List Aj)(w:World)(hg:Gr w)(a0:3<B)(h:Sc B b s i out w)(hi:i≤s.length)(hs:s.length≤1000000000)(c2:out.length≤i):Calls prog 101 #[.pointer (some ⟨b,0,none⟩)] w fun e w'=>e=.returned (.tuple #[])∧Sc B b s (Cu s i).1 (out++(Cu s i).2) w'∧Below B w w':=by
 have a1:B≤b:=h.hB;obtain⟨n,m⟩:∃n,n=Br (s.drop i) Dv:=⟨_,rfl⟩;have b5:=Mf (s.drop i) Dv;rw[←m,AS]at b5;have HN:=AB m;have T:=AB (Uq s i);rw[←m]at T;clear m;go_enter func101,ntmps101;go_upto_region 0 with fail;go_cut[2] (fun t c=>t=.int .i64 (n:Int)∧Sc B b s i out c∧Below B w c)
 case first=>
  have a:=AB h;obtain⟨v,H,_,_⟩:=h;have E:=(A1.drew H).cell;have m:n=Br (s.drop i) [65,66,67,68,69,70,71,72,73,74,75,76,77,78,79,80,81,82,83,84,85,86,87,88,89,90,97,98,99,100,101,102,103,104,105,106,107,108,109,110,111,112,113,114,115,116,117,118,119,120,121,122,48,49,50,51,52,53,54,55,56,57]:=HN.o;have a7:=fun W=>T7 (s.drop i) [65,66,67,68,69,70,71,72,73,74,75,76,77,78,79,80,81,82,83,84,85,86,87,88,89,90,97,98,99,100,101,102,103,104,105,106,107,108,109,110,111,112,113,114,115,116,117,118,119,120,121,122,48,49,50,51,52,53,54,55,56,57] W (by simp;omega) (by decide) (by decide)
  rw[←m]at a7;clear m;have F:=(AD w.heap.size w).drew;have I:(i:Int)≤s.length:=by omega
  have i2:(0:Int)≤i:=by omega
  go_region_held3(fun W=>(∀k,W.cell? ⟨b,k,none⟩=(#[.string ⟨s.toArray⟩,.int .i64 (i:Int),v])[k]?)∧Below w.heap.size w W)
   (first
    |with_reducible exact⟨E,F⟩
    |with_reducible exact⟨(H.next K H.lt).cell,K⟩)
   ((first|(go_at_call 184;go_split_ands;with_reducible refine(a7 _).mono ?_;rintro e a2⟨rfl,d⟩;have K:=C4 d (w0:=w) (by assumption))))
  all_goals go_split_ands
  all_goals
   go_wp2_with fail;go_meet;exact⟨rfl,a.o.next (by assumption),GY (B:=w.heap.size) (by assumption) a.o.base⟩
 case rest=>
 obtain⟨rfl,H1,B1⟩:=hcut;obtain⟨u,rfl⟩:∃x:World,x=wc:=⟨_,rfl⟩;clear h;obtain⟨N,Q⟩:∃x,x=(s.drop i).take n:=⟨_,rfl⟩;have c3:N.length≤1000000000:=by rw[Q];simp;omega
 have b6:=AB Q;go_upto_region 1 with fail;go_cut[3] (fun t c=>t=.string ⟨(A2 N).toArray⟩∧Sc B b s i out c∧Below B w c)
 case first=>
  have a:=AB H1;obtain⟨v,H,_,_⟩:=H1;have E:=(A1.drew H).cell;have a3:=fun W=>G0 N W (by omega)
  subst Q;have F:=(AD u.heap.size u).drew;have z2:IntKind.i64.wrap ((i:Int)+(n:Int))=(i:Int)+(n:Int):=CI _ (by omega);have z3:((i:Int)+(n:Int)).toNat=i+n:=by omega
  have z4:(0:Int)≤i:=by omega
  have z5:(i:Int)≤(i:Int)+(n:Int):=by omega
  have z6:(i:Int)+(n:Int)≤(s.length:Int):=by omega
  have z7:i+n-i=n:=by omega
  go_region_held3(fun W=>(∀k,W.cell? ⟨b,k,none⟩=(#[.string ⟨s.toArray⟩,.int .i64 (i:Int),v])[k]?)∧Below u.heap.size u W)
   (first
    |with_reducible exact⟨E,F⟩
    |with_reducible exact⟨(H.next K H.lt).cell,K⟩)
   ((first|(go_at_call 42;go_split_ands;with_reducible refine(a3 _).mono ?_;rintro e a2⟨rfl,d⟩;have K:=C4 d (w0:=u) (by assumption))))
  all_goals go_split_ands
  all_goals
   go_wp2_with fail;go_meet;exact⟨rfl,a.o.next (by assumption),B1.trans (GY (B:=u.heap.size) (by assumption) a.o.base)⟩
 case rest=>
 obtain⟨rfl,H2,B2⟩:=hcut;obtain⟨w2,rfl⟩:∃x:World,x=wc:=⟨_,rfl⟩;clear H1 B1 Q;go_upto_region 2 with fail;go_cut[] (fun c=>Sc B b s (i+n) out c∧Below B w c)
 case first=>
  have a:=AB H2;obtain⟨v,H,_,_⟩:=H2;have R:=H.cell;have kf:=H.free;have V:=AB (by omega:(i:Int)+(n:Int)=((i+n:Nat):Int));have z2:IntKind.i64.wrap ((i:Int)+(n:Int))=(i:Int)+(n:Int):=CI _ (by omega);go_wp2_with fail;go_meet;exact⟨by rw[V.o];exact a.o.at (i+n),B2.setCell a1 _⟩
 case rest=>
 obtain⟨H3,B3⟩:=hcut;obtain⟨w3,rfl⟩:∃x:World,x=wc:=⟨_,rfl⟩;clear H2 B2;have a8:i+n≤s.length:=by omega
 have b7:out.length≤i+n:=by omega
 generalize i+n=I at H3 T a8 b7;go_wp2_with fail
 go_loopg [] s.length (fun g wr=>∃(j:Nat)(L:List Aj),s.length-j≤g∧j≤s.length∧(out++L).length≤j∧Sc B b s j (out++L) wr∧Hid (Ar s I=((Ar s j).1,L++(Ar s j).2))∧Below B w wr)
 case atStart=>exact⟨I,[],by omega,a8,by simp;omega,by rw[BM];exact H3,AB rfl,B3⟩
 obtain⟨j,L,hm,S,b8,HS,U,BS⟩:=hrel;clear H3 B3;have hC:=zZ B b s j (out++L) wr (hg.below a0 BS) a0 HS S hs (by omega);have y:=Rx S;go_wp2_with fail;refine hC.mono ?_;rintro e w4⟨rfl,f,b4⟩;clear hC;have B4:=BS.trans b4;clear BS HS b4;cases d:(Bv s j).1 with
 |true=>
  have c4:=y.2.2.2 d;have a9:=Ry S d;have a4:=y.2.1;have h1:=y.2.2.1;have A:=AB (by rw[U.o,a9,AJ]:Ar s I=((Ar s (Bv s j).2.1).1,(L++(Bv s j).2.2)++(Ar s (Bv s j).2.1).2));clear a9 U y d;rw[AJ]at f;generalize Bv s j=r at*;go_wp2_with fail
  go_roundg (s.length-r.2.1)
  case measure=>omega
  exact⟨r.2.1,L++r.2.2,AC _,a4,by rw[←AJ,AH];omega,f,A,B4⟩
 |false=>
  have b0:=Mh d;have A:=AB (by rw[U.o,b0]:Ar s I=((Bv s j).2.1,L++(Bv s j).2.2));have a4:=y.2.1;clear b0 U y d;rw[AJ]at f;generalize Bv s j=r at*;obtain⟨_,J,l⟩:=r;simp only at f A a4;generalize L++l=M at f A;rw[A.o]at T;clear A b8 hm S;rw[←b6.o]at T;go_wp2_with fail;refine(xQ _).mono ?_;rintro e C⟨rfl,X⟩;have D:=(f.next X).next ((AD C.heap.size C).alloc (AC _) (.cells #[.string ⟨#[115,99,114,105,112,116]⟩,.string ⟨#[115,116,121,108,101]⟩,.string ⟨#[116,101,120,116,97,114,101,97]⟩,.string ⟨#[116,105,116,108,101]⟩] 246));have G:=(B4.trans (X.mono f.base)).alloc (BC f.base X.size) (.cells #[.string ⟨#[115,99,114,105,112,116]⟩,.string ⟨#[115,116,121,108,101]⟩,.string ⟨#[116,101,120,116,97,114,101,97]⟩,.string ⟨#[116,105,116,108,101]⟩] 246);have b1:=eK C.heap.size 4 4 N7 (A2 N) (C.alloc (.cells #[.string ⟨#[115,99,114,105,112,116]⟩,.string ⟨#[115,116,121,108,101]⟩,.string ⟨#[116,101,120,116,97,114,101,97]⟩,.string ⟨#[116,105,116,108,101]⟩] 246)) rfl (fun k H=>by
   rw[(A1.new C _ _).cell]
   match k,H with
   |0,_=>rfl
   |1,_=>rfl
   |2,_=>rfl
   |3,_=>rfl) (by decide)
  clear X f B4;go_wp2_with fail;refine b1.mono ?_;rintro e w'⟨rfl,rfl⟩;clear b1;generalize(C.alloc (.cells #[.string ⟨#[115,99,114,105,112,116]⟩,.string ⟨#[115,116,121,108,101]⟩,.string ⟨#[116,101,120,116,97,114,101,97]⟩,.string ⟨#[116,105,116,108,101]⟩] 246))=w6 at D G⊢;generalize N7.contains (A2 N)=b9 at T⊢;cases b9 with
  |false=>
   have o:=AB (by rw[T.o];rfl:Cu s i=(J,M));clear T;go_wp2_with fail
   go_end0
   exact⟨rfl,by rw[o.o];exact D,G⟩
  |true=>
   obtain⟨z,p⟩:∃x,x=index (A2 (s.drop J)) ([60,47]++A2 N):=⟨_,rfl⟩;have o:=AB (by rw[T.o,p];rfl:Cu s i=(if z<0 then s.length else J+z.toNat,M));have c0:z<0∨(0≤z∧z.toNat+J≤s.length):=by
    have:=Lp (A2 (s.drop J)) ([60,47]++A2 N);rw[←p]at this;simp[A2]at this;omega
   have Z:=AB p;clear T p;have c1:(A2 N).length≤1000000000:=by simp[A2];omega
   generalize A2 N=O at Z c1⊢;have b2:=hg.below a0 G;have c5:=D.base;go_upto_region 6 with fail;go_cut[5] (fun t c=>t=.int .i64 z∧Sc B b s J (out++M) c∧Below B w c)
   case first=>
    have a:=AB D;obtain⟨v,H,_,_⟩:=D;have E:=(A1.drew H).cell;have a3:=fun W=>G0 (s.drop J) W (by simp;omega)
    have b3:=fun W(h:Gr W)=>Wt (A2 (s.drop J)) (60::47::O) W (by simp[A2];omega) h.g
    have p:z=index (A2 (s.drop J)) (60::47::O):=Z.o;rw[←p]at b3;clear p Z o;have g1:¬9223372036854775807<O.length+2:=by omega
    have g2:¬9223372036854775807<O.length+1+1:=by omega
    have g3:¬9223372036854775807<2+O.length:=by omega
    have F:=(AD w6.heap.size w6).drew;have I:(J:Int)≤s.length:=by omega
    have i2:(0:Int)≤J:=by omega
    go_region_held3(fun W=>(∀k,W.cell? ⟨b,k,none⟩=(#[.string ⟨s.toArray⟩,.int .i64 (J:Int),v])[k]?)∧Below w6.heap.size w6 W)
     (first
      |with_reducible exact⟨E,F⟩
      |with_reducible exact⟨(H.next K H.lt).cell,K⟩
      |with_reducible assumption)
     ((
      first
      |(go_at_call 42;go_split_ands;with_reducible refine(a3 _).mono ?_;rintro e a2⟨rfl,d⟩;have K:=C4 d (w0:=w6) (by assumption))
      |(go_at_call 66;go_split_ands;with_reducible refine(b3 _ (b2.next (by assumption))).mono ?_;rintro e a2⟨rfl,hw⟩;obtain rfl:=hw.symm)))
    all_goals go_split_ands
    all_goals
     go_wp2_with fail;go_meet;exact⟨rfl,a.o.next (by assumption),G.trans (GY (B:=w6.heap.size) (by assumption) a.o.base)⟩
   case rest=>
   obtain⟨rfl,Y,B7⟩:=hcut;obtain⟨w7,rfl⟩:∃x:World,x=wc:=⟨_,rfl⟩;clear D G b2 Z;by_cases hz:z<0
   ·have a5:=AB (by rw[o.o,AM hz]:Cu s i=(s.length,M));clear o;have a:=AB Y;obtain⟨v,H,_,_⟩:=Y;have R:=H.cell;go_wp2_with fail;go_quiet(fail);have P:=CB (AD w7.heap.size w7) nq;have a6:=H.next P H.lt;have H8:=AB (a.o.next P);have B8:=B7.trans (P.mono a.o.base);generalize w7.drewN nq=w8 at P a6 H8 B8⊢;clear R H P;have R:=a6.cell;have kf:=a6.free;have V:=AB (by omega:(J:Int)+((s.length:Int)-(J:Int))=((s.length:Nat):Int));go_wp2_with fail
    go_end0
    exact⟨rfl,by rw[a5.o];first|(rw[V.o];exact H8.o.at s.length)|exact H8.o.at s.length,B8.setCell a1 _⟩
   obtain⟨q,rfl⟩:∃q:Nat,z=(q:Int):=⟨z.toNat,by omega⟩;have a5:=AB (by rw[o.o,AI hz];rfl:Cu s i=(J+q,M));have c6:q+J≤s.length:=by omega
   clear o c0 hz;have a:=AB Y;obtain⟨v,H,_,_⟩:=Y;have R:=H.cell;have kf:=H.free;have V:=AB (by omega:(J:Int)+(q:Int)=((J+q:Nat):Int));go_wp2_with fail
   go_end0
   exact⟨rfl,by rw[a5.o,V.o];exact a.o.at (J+q),B7.setCell a1 _⟩
theorem fA(h:hasPrefix (s.drop a) [33,45,45]=true):Ey s a c=(Cc s [45,45,62] (a+3),[]):=by
 unfold Ey;rw[AM h]
theorem fB(h:hasPrefix (s.drop a) [33,45,45]=false)(H:c=47∨c=33∨c=63):Ey s a c=(Cc s [62] a,[]):=by
 unfold Ey;rw[h,AI (by decide),AM H]
theorem fC(h:hasPrefix (s.drop a) [33,45,45]=false)(H:¬(c=47∨c=33∨c=63))(b:(Dv.take 52).contains c=true):Ey s a c=Cu s a:=by
 unfold Ey;rw[h,AI (by decide),AI H,AM b]
theorem fD(h:hasPrefix (s.drop a) [33,45,45]=false)(H:¬(c=47∨c=33∨c=63))(b:(Dv.take 52).contains c=false):Ey s a c=(a,[]):=by
 unfold Ey;rw[h,AI (by decide),AI H,b];rfl
def Kb(c:UInt8):Bool:=c==47||c==33||c==63
theorem fE(c:UInt8):Kb c=true↔(c=47∨c=33∨c=63):=by simp[Kb,or_assoc]
theorem fF(c:UInt8):Kb c=((((c.toNat:Int)==47)||((c.toNat:Int)==33))||((c.toNat:Int)==63)):=by
 have h:∀d:UInt8,(c==d)=((c.toNat:Int)==(d.toNat:Int)):=fun d=>by
  by_cases e:c=d
  ·subst e;simp
  rw[AG.2 e,Ou e]
 unfold Kb;rw[h 47,h 33,h 63];rfl
theorem RC(l:Bs)(c:UInt8):decide (0≤indexByte l c)=l.contains c:=by
 have e:=indexByte_ge l c;by_cases h:0≤indexByte l c
 ·obtain⟨o,H⟩:∃o:Nat,indexByte l c=o:=⟨(indexByte l c).toNat,by omega⟩;rw[BD h];exact(GF.2 (DD (GZ H).1)).symm
 rw[AX h];refine(AP.2 fun a=>?_).symm;obtain⟨k,b⟩:=List.getElem?_of_mem (GF.1 a);exact indexByte_none (by omega) k b
theorem Wx(s:Bs)(w:World)(u:Gr w)(F:s.length≤1000000000):Calls prog 43 #[.string ⟨s.toArray⟩] w fun e R=>∃v,e=.returned v∧G9 R w.heap.size v (Bf s)∧Below w.heap.size w R:=by
 have y:=u.size;have S:Sc w.heap.size w.heap.size s 0 [] (w.alloc (.cells #[.string ⟨s.toArray⟩,.int .i64 0,.slice none 0 0] 165)):=⟨.slice none 0 0,A1.new w _ _,A0.nil _ _ _ _ _,AC _⟩;have T:Below w.heap.size w (w.alloc (.cells #[.string ⟨s.toArray⟩,.int .i64 0,.slice none 0 0] 165)):=(AD _ _).alloc (AC _) _;have HL:=AB (by rfl:Bf s=Iw s 0);go_enter func43,ntmps43;go_wp2_with fail;generalize(w.alloc (.cells #[.string ⟨s.toArray⟩,.int .i64 0,.slice none 0 0] 165))=w0 at S T⊢
 go_loopg [] s.length (fun g wr=>∃(j:Nat)(L:List Aj),s.length-j≤g∧j≤s.length∧L.length≤j∧Sc w.heap.size w.heap.size s j L wr∧Hid (Bf s=L++Iw s j)∧Below w.heap.size w wr)
 case atStart=>exact⟨0,[],by omega,CX _,AC _,S,HL,T⟩
 obtain⟨j,L,hm,U,a8,HS,V,X⟩:=hrel;clear S T HL;obtain⟨a,Y⟩:∃a,a=Cc s [60] j:=⟨_,rfl⟩;have a2:=Mg s [60] j U;have Z:=Wu w.heap.size w.heap.size s [60] j L wr (u.below y X) HS U F (by decide);rw[←Y]at a2 Z;have G:=AB Y;clear Y;go_wp2_with fail;with_reducible refine Z.mono ?_
 rintro e w1⟨rfl,H1,b1⟩;have B1:=X.trans b1;clear Z b1 HS X;go_upto_region 3 with fail;go_cut[4] (fun t W=>t=.string ⟨(s.drop a).toArray⟩∧Sc w.heap.size w.heap.size s a L W∧Below w.heap.size w W)
 case first=>
  have H':=AB H1;obtain⟨v,n,_,_⟩:=H1;have K:=n.cell;have i1:(a:Int)≤s.length:=by omega
  have i2:(0:Int)≤a:=by omega
  go_wp2_with fail;go_quiet(fail);have hB:=CB (AD w1.heap.size w1) nq;generalize w1.drewN nq=z at hB⊢;clear K;go_wp2_with fail;go_meet;exact⟨rfl,H'.o.next hB,B1.trans (hB.mono H'.o.base)⟩
 case rest=>
 obtain⟨rfl,d,B⟩:=hcut;obtain⟨z,rfl⟩:∃x:World,x=wc:=⟨_,rfl⟩;clear H1 B1;cases o:s.drop a with
 |nil=>
  have HE:=AB (by rw[V.o,Oh (by rw[←G.o];exact o),BM]:Bf s=L);obtain⟨v,n,a3,_⟩:=d;have K:=n.cell;go_wp2_with fail;go_ret;exact⟨v,rfl,by rw[HE.o];exact a3,B⟩
 |cons c l=>
  have a9:a+(l.length+1)=s.length:=by
   have:=AF List.length o;rw[AS,AO]at this;omega
  have a4:=Og s [60] j (by omega) (by simp);have a0:=Rz U (by rw[←G.o];exact o);rw[←G.o]at a4 a0;have b:=N8 o;have H:=AB (by rw[V.o,a0,AJ]:Bf s=(L++(Ey s a c).2)++Iw s (Ey s a c).1);clear a0 V G;have J:=b.1.le;have a1:hasPrefix (c::l) [33,45,45]=hasPrefix (s.drop a) [33,45,45]:=by rw[o]
  have b0:(c.toNat:Int)<256:=by have:=c.toNat_lt;omega
  clear o;go_wp2_with fail;refine(Jc (c::l) [33,45,45] _).mono ?_;rintro e R⟨rfl,rfl⟩;rw[a1];cases m:hasPrefix (s.drop a) [33,45,45]with
  |true=>
   have N:=fA (c:=c) m;rw[N]at b J H;simp only[BM]at H;have a5:a+3≤s.length:=by
    have:=(BR.1 (by unfold hasPrefix at m;exact m)).length_le;rw[AS]at this;simp at this;omega
   clear m a1 N;have q:Sc w.heap.size w.heap.size s (a+3) L (z.setCell ⟨w.heap.size,1,none⟩ (.int .i64 ((a:Int)+3))):=d.at (a+3);have f:=B.setCell (AC _) (p:=⟨w.heap.size,1,none⟩) (.int .i64 ((a:Int)+3));have i:=Wu w.heap.size w.heap.size s [45,45,62] (a+3) L _ (u.below y f) q a5 F (by decide);obtain⟨v,n,_,_⟩:=d;have K:=n.cell;have kf:=n.free;go_wp2_with fail;with_reducible refine i.mono ?_
   rintro e w4⟨rfl,A,k⟩;have C:=f.trans k;clear i q f k K kf n B;go_wp2_with fail
   go_roundg (s.length-Cc s [45,45,62] (a+3))
   case measure=>omega
   exact⟨Cc s [45,45,62] (a+3),L,AC _,b.2.1,by omega,A,H,C⟩
  |false=>
   clear a1;have I:=AB (fF c);go_upto_region 9 with fail;go_cut[38] (fun t W=>t=.bool (Kb c)∧W=z)
   case first=>
    by_cases r:((c.toNat:Int)==47)=true
    ·go_wp2_with fail;go_meet;exact⟨by rw[I.o,r];rfl,rfl⟩
    have r:=AP.2 r;by_cases D:((c.toNat:Int)==33)=true
    ·go_wp2_with fail;go_meet;exact⟨by rw[I.o,r,D];rfl,rfl⟩
    have D:=AP.2 D;by_cases M:((c.toNat:Int)==63)=true
    ·go_wp2_with fail;go_meet;exact⟨by rw[I.o,r,D,M];rfl,rfl⟩
    have M:=AP.2 M;go_wp2_with fail;go_meet;exact⟨by rw[I.o,r,D,M];rfl,rfl⟩
   case rest=>
   obtain⟨rfl,a6⟩:=hcut;obtain rfl:=a6.symm;clear I;have O:=AB (fE c);cases E:Kb c with
   |true=>
    have N:=fB m (O.o.1 E);rw[N]at b J H;simp only[BM]at H;clear m N E O;have i:=Wu w.heap.size w.heap.size s [62] a L _ (u.below y B) d (by omega) F (by decide);go_wp2_with fail;with_reducible refine i.mono ?_
    rintro e w4⟨rfl,A,k⟩;have C:=B.trans k;clear i d B k;go_wp2_with fail
    go_roundg (s.length-Cc s [62] a)
    case measure=>omega
    exact⟨Cc s [62] a,L,AC _,b.2.1,by omega,A,H,C⟩
   |false=>
    have P:¬(c=47∨c=33∨c=63):=fun h=>by rw[O.o.2 h]at E;cases E
    clear E O;go_upto_region 11 with fail;go_cut[54] (fun t W=>t=.bool ((Dv.take 52).contains c)∧Below z.heap.size z W)
    case first=>
     have a7:=AB (RC (Dv.take 52) c);go_wp2_with fail;go_quiet((go_at_call 100;exact FZ (Vg [65,66,67,68,69,70,71,72,73,74,75,76,77,78,79,80,81,82,83,84,85,86,87,88,89,90,97,98,99,100,101,102,103,104,105,106,107,108,109,110,111,112,113,114,115,116,117,118,119,120,121,122] (c.toNat:Int) c (Qj c) _)));go_wp2_with fail;go_meet;exact⟨by rw[←a7.o];rfl,CB (AD _ _) _⟩
    case rest=>
    obtain⟨rfl,b3⟩:=hcut;obtain⟨w3,rfl⟩:∃x:World,x=wc:=⟨_,rfl⟩;have q:=d.next b3;have f:=B.trans (b3.mono d.base);clear d B b3;cases Q:(Dv.take 52).contains c with
    |true=>
     have N:=fC m P Q;rw[N]at b J H;clear m P Q N;have i:=AA w.heap.size w.heap.size s a L _ (u.below y f) y q (by omega) F (by omega);go_wp2_with fail;with_reducible refine i.mono ?_
     rintro e w4⟨rfl,A,k⟩;have C:=f.trans k;clear i q f k;go_wp2_with fail
     go_roundg (s.length-(Cu s a).1)
     case measure=>omega
     exact⟨(Cu s a).1,L++(Cu s a).2,AC _,b.2.1,by have:=b.2.2;rw[AH];omega,A,H,C⟩
    |false=>
     have N:=fD m P Q;rw[N]at b J H;simp only[BM]at H;clear m P Q N;go_wp2_with fail
     go_roundg (s.length-a)
     case measure=>omega
     exact⟨a,L,AC _,b.2.1,by omega,q,H,f⟩
theorem Wy(s:Bs):(Ej s).length≤6*s.length:=by
 unfold Ej;induction s with
 |nil=>exact AC _
 |cons c s ih=>
  rw[P6,AH,AO];have h:((Ea G8 c).getD [c]).length≤6:=by
   unfold Ea;cases f:G8.find? fun p=>p.1==c with
   |none=>simp
   |some p=>
    have H:=List.mem_of_find?_eq_some f;simp only[IC,CT];simp[G8]at H;rcases H with rfl|rfl|rfl|rfl|rfl<;>decide
  omega
def J5(c:UInt8)(v:Bs):Bs:=if Eu c then Ej v else 34::(Ej v++[34])
theorem fG(c:UInt8)(v:Bs):(J5 c v).length≤6*v.length+2:=by
 have:=Wy v;unfold J5;split<;>simp<;>omega
def Kv(s:Bs)(x:Aj):UInt8:=s.getD (x.1-1) 0
def F9(s:Bs):List (Aj×Bs)→Nat→Bs
 |[],i=>s.drop i
 |x::l,i=>(s.drop i).take (x.1.1-i)++(J5 (Kv s x.1) x.2++F9 s l (x.1.1+x.1.2.1))
def Gt(s:Bs)(v:List Bs):Option Bs:=if(Bf s).length=v.length then some (F9 s ((Bf s).zip v) 0)else none
theorem Bt.pos:∀{l:List Aj}{i j:Nat},1≤i→Bt i l j→∀x∈l,1≤x.1
 |[],_,_,_,_,x,H=>by cases H
 |y::l,i,j,a,h,x,H=>by
  rcases CF.1 H with rfl|H
  ·have:=h.1;omega
  exact Bt.pos (l:=l) (by have:=h.1;omega) h.2 x H
theorem Tj(s:Bs):∀x∈Bf s,1≤x.1:=by
 show∀x∈Iw s 0,1≤x.1;cases h:s.drop (Cc s [60] 0)with
 |nil=>rw[Oh h];intro x a;cases a
 |cons c l=>
  have n:Cc s [60] 0+(l.length+1)=s.length:=by
   have:=AF List.length h;rw[AS,AO]at this;omega
  have t:=Og s [60] 0 (by omega) (by simp);have H:=N8 h;have b:=H.1.le;rw[Rz (CX _) h];exact Bt.pos t (H.1.append (Ut _ _ (AC _) H.2.1).1)
theorem Bt.at:∀{l:List Aj}{i j:Nat}(k:Nat)(H:k<l.length),Bt i l j→Bt i (l.take k) (l[k]).1∧Bt ((l[k]).1+(l[k]).2.1) (l.drop (k+1)) j
 |y::l,i,j,0,_,h=>⟨h.1,h.2⟩
 |y::l,i,j,k+1,H,h=>by
  have ih:=Bt.at (l:=l) k (by simpa using H) h.2;exact⟨⟨h.1,ih.1⟩,ih.2⟩
theorem RD(s:Bs)(l:List (Aj×Bs))(k i:Nat)(h:k<l.length):F9 s (l.drop k) i=(s.drop i).take ((l[k]).1.1-i)++(J5 (Kv s (l[k]).1) (l[k]).2++F9 s (l.drop (k+1)) ((l[k]).1.1+(l[k]).1.2.1)):=by
 rw[AE h];rfl
end Go.Proofs.YtignjjnflcpiiaaGreatDoor
namespace Go.Proofs.YtignjjnflcpiiaaGreatDoor
open Go Go.RowKit Proofs.Tryz Lib
def C3:Bs:=[67,111,110,116,101,110,116,45,73,68]
def Li:Bs:=[67,111,110,116,101,110,116,45,76,111,99,97,116,105,111,110]
def Jl:Bs:=[109,117,108,116,105,112,97,114,116,47,114,101,108,97,116,101,100]
def Bq:Bs:=[115,116,97,114,116]
def Nw:Bs:=[116,101,120,116,47,104,116,109,108]
def M0(v:Bs):Bs:=if 2<v.length∧v.getD 0 0=60∧v.getD (v.length-1) 0=62 then(v.drop 1).take (v.length-1-1)else[]
def Fa(l:List A4):Bs:=M0 ((Ai l C3).getD [])
def Dp(base:A3)(l:List A4):A3:=match Ai l Li with
 |none=>base
 |some v=>match Cl v with
  |none=>base
  |some a=>Cd (Be base a)
structure Aw where
 whole:A8
 root:Nat
 places:List A3
 ids:List Bs
def F4(s:Bs):Bs:=60::(s++[62])
def M5(s:Bs):List Bs→Nat→Option Nat
 |[],_=>none
 |x::l,k=>if s=F4 x then some k else M5 s l (k+1)
def Kc(l:List A4):Bs×List A4:=(Ay ((Ai l Bu).getD [])).getD ([],[])
def Ij(p:A8):Except Int Aw:=
 if(Kc p.head).1≠Jl then .error 6
 else if p.parts=[]then .error 8
 else if p.parts.any A8.many then .error 13
 else .ok ⟨p,((match C5 (Kc p.head).2 Bq with|none=>none|some s=>if s=[]then none else M5 s (p.parts.map fun q:A8=>Fa q.head) 0)).getD 0,
  p.parts.map fun q:A8=>Dp (Dp A3.zero p.head) q.head,p.parts.map fun q:A8=>Fa q.head⟩
def Cx(s:Bs):Except Int Aw:=match E8 s with
 | .error e=>.error e
 | .ok p=>Ij p
def Bj{α:Type}[DecidableEq α](x:α):List α→Nat→Int
 |[],_=>-1
 |y::l,k=>if y=x then k else Bj x l (k+1)
def Ec(b:Aw)(a:A3):Int:=let w:=Cd a
 let k:Int:=if w.scheme=[99,105,100]∧w.hasAuth=false∧w.hasQuery=false∧w.path≠[]then Bj w.path b.ids 0 else-1
 if 0≤k then k else if w=A3.zero then-1 else Bj w b.places 0
def I4(p:A8):Bool:=match Ai p.head Bu with
 |none=>false
 |some v=>match Ay v with
  |none=>false
  |some (m,_)=>m==Nw
def Fr(b:Aw)(A:A3)(v:Bs):Bs×Int:=match Cl v with
 |none=>(v,-1)
 |some a=>(Kl (Be A a),Ec b (Be A a))
def Fb(b:Aw)(p:A8)(a:A3):List (Bs×Int):=if I4 p then(Bf p.body).map fun x=>Fr b a x.2.2 else[]
def D1(b:Aw)(i:Int):Option (List (Bs×Int)):=
 if i<0 then none else match b.whole.parts[i.toNat]?,b.places[i.toNat]?with
 |some p,some a=>some (Fb b p a)
 |_,_=>none
def M8(b:Aw)(i:Int):Option A3:=if i<0 then none else b.places[i.toNat]?
def Ep(w:A8):List Bs:=(w::w.parts).flatMap fun p:A8=>p.body::p.head.map (·.2)
def Fc(w:A8):Bs:=64::98::itoa (Hy [64,98] (Ep w))
def Ce(e:Bs)(i:Int):Bs:=112::97::114::116::(itoa i++e)
def Ed(e:Bs)(v:Bs)(k:Int):Bs:=if k<0 then v else
 99::105::100::58::(Ce e k++(match Cl v with
  |none=>[]
  |some a=>if a.hasFrag then 35::a.frag else[]))
def Kw(e:Bs)(i:Nat)(h:List A4):List A4:=(h.filter fun f=>!(A2 f.1==A2 C3))++[(C3,F4 (Ce e i))]
def Ho(e:Bs)(s:Bs)(l:List (Bs×Int)):Bs:=if l=[]then s else(Gt s (((Bf s).zip l).map fun x=>Ed e x.1.2.2 x.2.2)).getD []
def I5(b:Aw)(e:Bs)(i:Nat)(p:A8):A8:=.mk (Kw e i p.head) (Ho e p.body ((D1 b i).getD [])) p.many p.parts
def Ev(b:Aw)(e:Bs):Nat→List A8→List A8
 |_,[]=>[]
 |i,p::l=>I5 b e i p::Ev b e (i+1) l
def Ik(v s:Bs):Bs:=let k:=(Ay v).getD ([],[]);(Cz k.1 ((k.2.filter fun f=>!(f.1==Bq))++[(Bq,F4 s)])).getD []
def D2:List A4→Bs→List A4
 |[],_=>[]
 |f::l,s=>if A2 f.1=A2 Bu then(f.1,Ik f.2 s)::l else f::D2 l s
def Lj(b:Aw):A8:=.mk (D2 b.whole.head (Ce (Fc b.whole) b.root)) b.whole.body b.whole.many (Ev b (Fc b.whole) 0 b.whole.parts)
def R6(b:Aw):Except Int Bs:=Ig (Lj b)
theorem RE{a b:Bs}{c:UInt8}(h:c∉a):indexByte (a++c::b) c=(a.length:Int):=by
 have i:=indexByte_ge (a++c::b) c;by_cases e:indexByte (a++c::b) c=-1
 ·exact absurd (by simp) (indexByte_none e a.length)
 obtain⟨o,H⟩:∃o:Nat,indexByte (a++c::b) c=o:=⟨(indexByte (a++c::b) c).toNat,by omega⟩;obtain⟨d,f⟩:=GZ H;rw[H];by_cases t:o<a.length
 ·rw[GW t]at d;exact absurd (DD d) h
 by_cases g:a.length<o
 ·exact absurd (by simp) (f a.length g)
 omega
theorem RF{l:Bs}{c:UInt8}(h:c∉l):indexByte l c=-1:=by
 have b:=indexByte_ge l c;by_cases H:indexByte l c=-1
 ·exact H
 obtain⟨o,a⟩:∃o:Nat,indexByte l c=o:=⟨(indexByte l c).toNat,by omega⟩;exact absurd (DD (GZ a).1) h
end Go.Proofs.YtignjjnflcpiiaaGreatDoor
