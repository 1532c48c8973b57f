/- The parts, bound, in the document's answer's Bind. Condit -/
import Derived.Test.YtignjjnflcpiiaaGreatDoorS47
import Derived.Test.YtignjjnflcpiiaaGreatDoorS48
set_option linter.all false
set_option maxHeartbeats 16000000
set_option maxRecDepth 100000
namespace Go.Proofs.YtignjjnflcpiiaaGreatDoor
open Go Go.RowKit Proofs.Tryz Lib
variable {n B k T u C bp wc A D I:Nat}{e v s:Bs}{b:Aw}{w' w:World}{K:Int}{L l:List A4}{P:Nat → Prop}{h4 c1:Ending → World → Prop}{u0 u2 u3 u4 u5 u8 u9 n4 n5 n6 n7 n8 n9 o0 o1 o2 o3 o4 o5 o6 o7 o8 o9 p0 p1 p2 p3 p4 p5 p6 p7 p8 p9 q0 q1 q2 q3 q4 q5 q6 q7 q8 q9 r0 r1 r2 r3 r4 r5 r6 r7 r8 r9 s0 s1 s2 s3 s4 s5 s6 s7 s8 s9 t0 t1 t2 t3 t4 t5 t6 t7 t8 t9 u1 u6 u7 v0 v1 v2 v3 v4 v5 v6 v7 v8 v9 w2 w3 w4 w7 w8 x0 x1 x2 x3 x4 x5 x6 x7 x8 x9 y0 y1 y2 y3 y4 y5 y6 y7 y8 y9 z0 z1 z2 z3 z4 z5 z6 z7 z8 z9 a' b' c' d' e' f' g' h' i' j' k' l' m' n' o' p' q' r' s' t' u' v' x' y' z' A' B' C' D' E' F' G' H' I' J' K' L' M' N' O' P' Q' R' S' T' U' V' W' X' Y' Z' a00 a01 a02 a03 a04 a05 a06 a07 a08 a09 a10 a11 a12 a13 a14 a15 a16 a17 a18 a19 a20 a21 a22 a23 a24 a25 a26 a27 a28 a29 a30 a31 a32 a33 a34 a35 a36 a37 e0 e1 e2 e3 e4 e5 e6 e7 e8 e9 f0 f1 f2 f3 f4 f5 f6 f7 f8 f9 g0 g1 g2 g3 g4 g5 g6 g7 g8 g9 h0 h1 h3 h5 h6 h7 h8 h9 i0 i1 i2 i3 i4 i5 i6 i7 i8 i9 j0 j1 j2 j3 j4 j5 j6 j7 j8 j9 k0 k1 k2 k3 k4 k5 k6 k7 k8 k9 l0 l1 l2 l3 l4 l5 l6 l7 l8 l9 m0 m1 m2 m3 m4 m5 m6 m7 m8 m9 n0 n1 n2 n3 w0 w1 w5 w6:Value}{f:A4}
theorem YH{k:Int}(h:(Ce e k).length≤n):(Ed e v k).length≤n+4+v.length:=by
 unfold Ed;split
 ·omega
 cases H:Cl v with
 |none=>simp;omega
 |some a=>
  simp only;rw[cE H];cases c:Ab [35] v with
  |none=>simp;omega
  |some x=>
   obtain⟨x,y⟩:=x;have:=AF List.length (Ee c);simp at this⊢;omega
theorem YI{a:A3}(h:0≤(Fr b a v).2):∃x,Cl v=some x:=by
 unfold Fr at h;cases H:Cl v with
 |none=>rw[H]at h;simp at h
 |some x=>exact⟨x,rfl⟩
theorem YJ(b:Aw)(p:A8)(a:A3)(i:Nat)(H:i<(Fb b p a).length)(d:i<(Bf p.body).length)(h:0≤((Fb b p a)[i]).2):∃x,Cl ((Bf p.body)[i]).2.2=some x:=by
 unfold Fb at H h;split at H
 ·rename_i c;simp only[c,DC,List.getElem_map]at h;exact YI h
 simp at H
theorem Pu.get{l:List Fw}{e:Ending}(h:Pu B (some l) e w'):∃(L:Option Go.Addr)(b:Nat),e=.returned (.tuple #[.slice L l.length b,.int .i64 0])∧Rm w' B (.slice L l.length b) l:=by
 rcases h with⟨i,v,H,f,d⟩|⟨H,_⟩
 ·cases H;obtain⟨a,c,g,_⟩:=A0.rd (by decide) Jp d;subst g;exact⟨a,c,f,d⟩
 cases H
def U9(b:Aw):Prop:=∀p∈b.whole.parts,p.many=false∧p.parts=[]
theorem YK{p:A8}(h:p.many=false∧p.parts=[]):I5 b e k p=.mk (Kw e k p.head) (Ho e p.body ((D1 b k).getD [])) false []:=by
 unfold I5;rw[h.1,h.2]
theorem YL{l:List A8}(h:k<l.length):Ev b e k (l.drop k)=I5 b e k l[k]::Ev b e (k+1) (l.drop (k+1)):=by
 rw[AE h];rfl
theorem YM{wa:Option Go.Addr}
  (a6:w.cell? ⟨T,0,none⟩=some (.pointer (some ⟨bp,0,none⟩))) (e4:w.cell? ⟨u,0,none⟩=some (.int .i64 K)) (h5:T≠C) (h6:u≠C) (c3:¬P C) (hb:F5 P w bp b) (c4:Iq b) (h7:U9 b)
  (a38:(64::98::itoa K:Bs).length≤23) (h8:-9223372036854775808≤K) (h9:K≤9223372036854775807) (e5:8<C)
  (U:A1 w C #[.slice wa L.length wc,.string ⟨#[]⟩,.bool true,.slice none 0 0] 44) (hWH:Aq 2 Au (fun q=>q≠C) w (.slice wa L.length wc) L)
  (i0:Ft 4 (.mk L [] true (Ev b (64::98::itoa K) 0 b.whole.parts))) (hg:Gz w)
  (hR:∀e w',U8 (Ig (.mk L [] true (Ev b (64::98::itoa K) 0 b.whole.parts))) e→A5 C w.heap.size w w'→h4 e w'):
  Code.wp prog Rn (bodyPost prog f26 h4) ⟨List.toArray (u0::.pointer (some ⟨T,0,none⟩)::u2::u3::u4::u5::.func (.func 72) #[] #[.pointer (some ⟨u,0,none⟩)]::.pointer (some ⟨C,0,none⟩)::u8::u9::n4::n5::n6::n7::n8::n9::o0::o1::o2::o3::o4::o5::o6::o7::o8::o9::p0::p1::p2::p3::p4::p5::p6::p7::p8::p9::q0::q1::q2::q3::q4::q5::q6::q7::q8::q9::r0::r1::r2::r3::r4::r5::r6::r7::r8::r9::s0::s1::s2::s3::s4::s5::s6::s7::s8::s9::t0::t1::t2::t3::t4::t5::t6::t7::t8::t9::u1::u6::u7::v0::v1::v2::v3::v4::v5::v6::v7::v8::v9::w2::w3::w4::w7::w8::x0::x1::x2::x3::x4::x5::x6::x7::x8::x9::y0::y1::y2::y3::y4::y5::y6::y7::y8::y9::z0::z1::z2::z3::z4::z5::z6::z7::z8::z9::a'::b'::c'::d'::e'::f'::g'::h'::i'::j'::k'::l'::m'::n'::o'::p'::q'::r'::s'::t'::u'::v'::x'::y'::z'::A'::B'::C'::D'::E'::F'::G'::H'::I'::J'::K'::L'::M'::N'::O'::P'::Q'::R'::S'::T'::U'::V'::W'::X'::Y'::Z'::a00::a01::a02::a03::a04::a05::a06::a07::a08::a09::a10::a11::a12::a13::a14::a15::a16::a17::a18::a19::a20::a21::a22::a23::a24::a25::a26::a27::a28::a29::a30::a31::a32::a33::a34::a35::a36::a37::[]),[]⟩ w:=by
 have HR:=AB hR;have HPI:=AB i0;have i1:T<w.heap.size:=AY w _ a6;have i2:u<w.heap.size:=AY w _ e4;have i3:=U.lt;have HB:=AB hb;have HLF:=AB h7;have i4:=c4.whole;have hp3:=i4.head.2.2;have hpl:=c4.places;have i5:∀k:Nat,k≤9223372036854775807→(Ce (64::98::itoa K) k).length≤48:=fun k hk=>by have:=U2 (64::98::itoa K) k hk;omega
 have HNM:=AB i5;obtain⟨e6,sa,si,hPb,e7,i6,_,_⟩:=hb;obtain⟨a39,e8,hrl,i7⟩:=i6.parts;obtain⟨⟨ra,rn,rc⟩,rb,rm,⟨ra',rn',rc'⟩⟩:=e6;have hrn:rn'=b.whole.parts.length:=by
  obtain⟨a,c,e,_⟩:=e8;injection e with _ e _;exact e.trans hrl
 subst hrn;unfold Gi at e7;simp only[A9]at e7 e8;have HCH:=AB i7;have hnb:bp≠C:=fun e=>c3 (e▸hPb)
 have kb:=e7.cell;clear hR i0 i6 i7 h7 i5;generalize hQQ:bodyPost prog f26 _=QQ;delta Rn N2 f26;dsimp only[Ak,Option.getD];subst hQQ;go_wp2_with fail;go_loopw[109] (fun iv wr=>∃(k:Nat)(D:List A8)(R:List Ao)(sl:H7),iv=.int .i64 k∧k≤b.whole.parts.length∧D.length=k∧R.length=k∧A1 wr C #[.slice wa L.length wc,.string ⟨#[]⟩,.bool true,A9 sl] 44∧F3 wr w.heap.size (A9 sl) R∧Hid (∀j(H:j<R.length)(d:j<D.length),A7 (fun q=>w.heap.size≤q∧(A9 sl).ownBlock≠some q) 3 wr R[j] D[j])∧Hid (D++Ev b (64::98::itoa K) k (b.whole.parts.drop k)=Ev b (64::98::itoa K) 0 b.whole.parts)∧A5 C w.heap.size w wr) (fun iv _=>b.whole.parts.length-(intOf iv).toNat)
 case atStart=>exact⟨0,[],[],(none,0,0),rfl,by omega,rfl,rfl,U,A0.nil _ _ _ _ _,AB (fun j H=>by simp at H),AB (by simp),A5.refl _ _ _⟩
 clear U;obtain⟨k,D,R,sl,rfl,hkl,hql,a58,U,a7,c5,HA,B⟩:=hrel;obtain⟨c6,c7,c8⟩:=sl;simp only[A9]at U a7 c5;have e9:=B.size;by_cases t:k<b.whole.parts.length
 ·obtain⟨pb,rfl,a40,c9,b3⟩:=e8.at Db k (by omega);have d0:pb≠C:=fun e=>c3 (e▸a40)
  have b4:=HCH.o k (by omega) t;have f0:=i4.part (AN t);have i8:=HLF.o _ (AN t);have b5:=iV t (show k<b.places.length by omega);have b6:=YK (b:=b) (e:=64::98::itoa K) (k:=k) i8;rw[b5,CT]at b6;have X:=AB (show∀y,I5 b (64::98::itoa K) k b.whole.parts[k]=y→(D++[y])++Ev b (64::98::itoa K) (k+1) (b.whole.parts.drop (k+1))=Ev b (64::98::itoa K) 0 b.whole.parts from fun y hy=>by
   rw[←HA.o,YL t,hy];simp)
  have f1:=(B.cell (p:=⟨pb,k*4+0,none⟩) c9 d0).trans (b3 0 (by decide));have f2:=(B.cell (p:=⟨pb,k*4+1,none⟩) c9 d0).trans (b3 1 (by decide));have f3:=(B.cell (p:=⟨pb,k*4+2,none⟩) c9 d0).trans (b3 2 (by decide));have f4:=(B.cell (p:=⟨pb,k*4+3,none⟩) c9 d0).trans (b3 3 (by decide));have d1:=Xo b b.whole.parts[k] b.places[k];have b7:=Xr c4 b.whole.parts[k] b.places[k];have d2:=YJ b b.whole.parts[k] b.places[k];clear b3 HA i8;generalize b.whole.parts[k]=q at b4 f0 b5 b6 X d1 b7 d2;generalize a39[k]'(by omega)=e6 at b4 f1 f2 f3 f4;generalize Fb b q b.places[k]=ll at b5 b6 d1 b7 d2;have X:=AB (X.o _ b6);clear b6;have i9:=b4.body;have a8:=b4.hd;obtain⟨⟨qa,qn,qc⟩,qb,qm,⟨d3,d4,d5⟩⟩:=e6;simp only at i9;subst i9;simp only[D5,A9,BI,AR,AT]at f1 f2 f3 f4 a8;have hqn:qn=q.head.length:=by
   obtain⟨a,c,e,_⟩:=a8;injection e
  subst hqn;have j0:=Em f0.head.1;have hbl:=f0.head.2.1;clear b4;have a8:Aq 2 Au (fun x=>x≠C∧x<w.heap.size) wr (.slice qa q.head.length qc) q.head:=(a8.Ad (fun x H d=>⟨fun e=>c3 (e▸H),d⟩)).keep e9 (fun x H d=>B.block x d H.1);have a0:=A1.new wr #[.slice qa q.head.length qc,.string ⟨q.body.toArray⟩,.bool qm,.slice d3 d4 d5] 44;have V:=(AD wr.heap.size wr).alloc (AC _) (.cells #[.slice qa q.head.length qc,.string ⟨q.body.toArray⟩,.bool qm,.slice d3 d4 d5] 44);have f5:(wr.alloc (.cells #[.slice qa q.head.length qc,.string ⟨q.body.toArray⟩,.bool qm,.slice d3 d4 d5] 44)).heap.size=wr.heap.size+1:=by simp
  go_upto_region 27 with fail;generalize World.alloc _ _=w1 at a0 V f5⊢;have kcc:=a0.cell;go_cut[19] (fun v A=>v=.pointer (some ⟨wr.heap.size+1,0,none⟩)∧A1 A (wr.heap.size+1) #[.slice none 0 0,.string ⟨q.body.toArray⟩,.bool false,.slice none 0 0] 44∧Below w1.heap.size w1 A∧A.heap.size=w1.heap.size+1)
  case first=>
   have kn:=A1.new w1 #[.slice none 0 0,.string ⟨q.body.toArray⟩,.bool false,.slice none 0 0] 44;rw[f5]at kn;go_wp2_with fail;go_meet;exact⟨by first|rfl|rw[f5],kn,(AD _ _).alloc (AC _) _,by simp⟩
  case rest=>
  obtain⟨rfl,j1,B2,hs2⟩:=hcut;obtain⟨M,rfl⟩:∃x:World,x=wc:=⟨_,rfl⟩;have a0:=a0.next B2 a0.lt;have BB:=V.trans (B2.mono V.size);have j2:=a8.keep (w':=M) (by omega) (fun x H d=>BB.block x d);have j3:=(hg.Ag B e5).next BB;have f6:=(BB.cell (p:=⟨T,0,none⟩) (by simp only;omega)).trans ((B.cell (p:=⟨T,0,none⟩) i1 h5).trans a6);have d6:=(BB.cell (p:=⟨u,0,none⟩) (by simp only;omega)).trans ((B.cell (p:=⟨u,0,none⟩) i2 h6).trans e4);have j4:=U.next BB U.lt;have a2:=A0.Do a7;have j5:=A0.next a7 BB;have j6:=B.next BB e9;have j7:=AB (fun j H d=>(A7.Ad (Q:=fun x=>(w.heap.size≤x∧(Value.slice c6 c7 c8).ownBlock≠some x)∧x<wr.heap.size) (fun x E t=>⟨E,t⟩) (c5.o j H d)).next BB);clear kcc V B2 f1 f2 f3 f4 a8;apply_assumption;refine wp_seq_k (fun K1 hK1=>?_);refine XZ a0 j1 (j2.Ad fun x H d=>by omega) (j0.mono (by decide)) ?_;intro F oa oc v21 a59 a60 a61 a62 a63 a64 a65 a66 a67 a68 a69 a70 a71 a72 a73 a74 a75 a76 f7 d7 N;refine hK1 _ _ ?_;have j8:=N.size;have j9:=a0.Ag N (by omega);have k0:=j4.Ag N (by omega);have k1:=j3.Ag N (by have:=U.lt;omega);have f6:=(N.cell (p:=⟨T,0,none⟩) (by simp only;omega) (by simp only;omega)).trans f6;have d6:=(N.cell (p:=⟨u,0,none⟩) (by simp only;omega) (by simp only;omega)).trans d6;have k2:=A0.Ll j5 fun g hv=>N.block g (by have:=a2 g hv;omega) (by have:=a2 g hv;omega)
  have k3:=AB (fun j H d=>A7.keep (w':=F) j8 (fun x E t=>N.block x t (by have:=E.2;omega)) (j7.o j H d));have k4:A5 C w.heap.size w F:=j6.trans (A5.of ((N.mono (show w.heap.size≤M.heap.size by omega)).shut (show w.heap.size≤wr.heap.size+1 by omega)));unfold Kw at X;have hhd:(q.head.filter fun f=>!(A2 f.1==A2 C3)).length≤20000:=BC (IF _ _) j0.1;generalize(q.head.filter fun f=>!(A2 f.1==A2 C3))=i at f7 d7 X hhd;have f8:=HNM.o k (by omega);have f9:=fun W hc hg=>Xz (k:Int) K u W (by omega) (by omega) h8 h9 hc hg
  generalize Ce (64::98::itoa K) (k:Int)=n at f9 f8 X;unfold C3 F4 at X;clear N j2 j4 j3 j5 j7 j6 a0 j1;go_upto_region 34 with fail;go_cut[145] (fun _ A=>∃(o:Option Go.Addr)(O:Nat),A1 A (wr.heap.size+1) #[.slice o (i.length+1) O,.string ⟨q.body.toArray⟩,.bool false,.slice none 0 0] 44∧Bk A M.heap.size (.slice o (i.length+1) O) (i++[([67,111,110,116,101,110,116,45,73,68],60::(n++[62]))])∧A5 (wr.heap.size+1) M.heap.size F A)
  case first=>
   have g0:=(A1.drew f7);have a77:=g0.cell;have a41:F.drew.cell? ⟨u,0,none⟩=some (.int .i64 K):=d6;have hgd:=k1.next ((AD F.heap.size F).drew);have HOW:=AB d7;have zz1:¬9223372036854775807<1+n.length:=by omega
   have zz2:¬9223372036854775807<n.length+1+1:=by omega
   have a42:=AB (by simp;omega:(i.length+[(([67,111,110,116,101,110,116,45,73,68]:Bs),(60::(n++[62]):Bs))].length)*32≤140737488355328);have a43:=AB (by unfold maxLen;simp;omega:i.length+[(([67,111,110,116,101,110,116,45,73,68]:Bs),(60::(n++[62]):Bs))].length≤maxLen);have k5:=AB (by omega:wr.heap.size+1<M.heap.size);clear X d7;go_region_law((first
    |(refine Ns (α:=A4) (cs:=Au) (size:=2) (z:=.agg #[.string ByteArray.empty,.string ByteArray.empty]) Ah Ju Kj rfl (by decide) underlying42 rfl _ _ rfl M.heap.size _ i [(([67,111,110,116,101,110,116,45,73,68]:Bs),(60::(n++[62]):Bs))] ⟨m.heap.size,0,none⟩ 1 1 rfl (by decide) rfl d8.o rfl a44.o a42.o a43.o a45.o ?_;intro a46 w5 d9 g1 k6;obtain⟨o,O,k7,_⟩:=A0.rd Nat.two_pos Ah d9;rw[AH,ES]at k7;subst k7;have a3:=(a4.alloc (.cells #[.string ⟨([67,111,110,116,101,110,116,45,73,68]:Bs).toArray⟩,.string ⟨(60::(n++[62]):Bs).toArray⟩] 92)).next k6 k5.o;have a78:=a3.cell;have a79:=a3.free)
    |(go_simp;with_reducible refine(f9 _ a41 hgd).mono ?_;rintro r m⟨rfl,k8⟩;have a4:=g0.next k8 g0.lt;have a80:=a4.cell;have a81:=(a4.alloc (.cells #[.string ⟨([67,111,110,116,101,110,116,45,73,68]:Bs).toArray⟩,.string ⟨(60::(n++[62]):Bs).toArray⟩] 92)).cell;have K4:=AB (C4 k8 (w0:=F) ((AD F.heap.size F).drew));have d8:=AB (A0.alloc (A0.next (w:=F) HOW.o K4.o) (.cells #[.string ⟨([67,111,110,116,101,110,116,45,73,68]:Bs).toArray⟩,.string ⟨(60::(n++[62]):Bs).toArray⟩] 92));have a44:=AB (Gl m ([67,111,110,116,101,110,116,45,73,68],60::(n++[62])) 92);have a45:=AB (by have:=K4.o.size;simp;omega:M.heap.size≤(m.alloc (.cells #[.string ⟨([67,111,110,116,101,110,116,45,73,68]:Bs).toArray⟩,.string ⟨(60::(n++[62]):Bs).toArray⟩] 92)).heap.size))))
   all_goals
    go_wp2_with fail;go_meet;exact⟨o,O,a3.set 0 _,d9.A6 k5.o _,((A5.of ((K4.o.mono j8).alloc (by have:=K4.o.size;omega) _)).trans (A5.of k6)).set _⟩
  case rest=>
  obtain⟨o,O,a4,d8,b8⟩:=hcut;obtain⟨m,rfl⟩:∃x:World,x=wc:=⟨_,rfl⟩;have hs4:=b8.size;have g2:A1 m wr.heap.size #[.slice qa q.head.length qc,.string ⟨q.body.toArray⟩,.bool qm,.slice d3 d4 d5] 44:=(b8.block wr.heap.size (by omega) (by omega)).trans j9;have a1:A5 C w.heap.size w m:=k4.trans (A5.of ((b8.mono (show w.heap.size≤M.heap.size by omega)).shut (show w.heap.size≤wr.heap.size+1 by omega)));have g3:∀x,x<wr.heap.size→m.heap[x]?=F.heap[x]?:=fun x E=>b8.block x (by omega) (by omega)
  have g4:A1 m C #[.slice wa L.length wc,.string ⟨#[]⟩,.bool true,.slice c6 c7 c8] 44:=(g3 C (by omega)).trans k0;have k9:=A0.Ll k2 fun g hv=>g3 g (a2 g hv)
  have l0:=AB (fun j H d=>A7.keep (w':=m) hs4 (fun x E t=>g3 x E.2) (k3.o j H d));have g5:=hg.Ag a1 e5;have l1:m.cell? ⟨u,0,none⟩=some (.int .i64 K):=(a1.cell (p:=⟨u,0,none⟩) i2 h6).trans e4;have a47:m.cell? ⟨T,0,none⟩=some (.pointer (some ⟨bp,0,none⟩)):=(a1.cell (p:=⟨T,0,none⟩) i1 h5).trans a6;have l2:=HB.o.keep (w':=m) a1.size (fun x hP t=>a1.block x t (fun e=>c3 (e▸hP)));have g6:=jE P bp b (k:Int) m l2 c4 g5.r (by omega) (by omega);rw[b5]at g6;clear b8 f9 k0 k2 k3 k1 k4 f6 d6 f7 d7 l2 j9;go_upto_region 36 with(with_reducible refine g6.mono ?_;rintro r w5⟨hh,G⟩;obtain⟨la,lc,rfl,d9⟩:=hh.get);have a82:=G.size;have e0:=g2.next G g2.lt;have a3:=a4.next G a4.lt;have g7:=g4.next G g4.lt;have l3:=A0.next k9 G;have l4:=A0.next d8 G;have l5:=AB (fun j H d=>(l0.o j H d).next G);have g8:=a1.next G a1.size;have g1:=g5.next G;have l6:=(G.cell (p:=⟨u,0,none⟩) (by simp only;omega)).trans l1;clear g6 G g2 a4 g4 k9 d8 l0 a1 g5 l1 a47;go_cut[24] (fun v A=>v=.slice none 0 0∧A=w5)
  case first=>
   go_wp2_with fail;go_meet;exact⟨rfl,by first|rfl|trivial⟩
  case rest=>
  obtain⟨rfl,l7⟩:=hcut;obtain rfl:=l7.symm;clear l7;apply_assumption;refine wp_seq_k (fun K2 hK2=>?_);refine YA e0 l6 h8 h9 (A0.rd (by decide) Jp d9) rfl hbl d1 b7 d2 g1 ?_;intro w6 a9 va vc v25 v26 v27 v28 v29 a83 a84 a85 a86 a87 a88 a89 a90 a91 a92 a93 a94 a95 a96 a97 a98 a99 b00 b01 b02 b03 b04 b05 b06 b07 b08 b09 b10 b11 b12 b13 b14 b15 b16 b17 b18 b19 b20 b21 e1 a48 Y;refine hK2 _ _ ?_;have hs6:=Y.size;have l8:=e0.next Y e0.lt;have b9:=a3.next Y a3.lt;have l9:=g7.next Y g7.lt;have m0:=A0.next l3 Y;have m1:=A0.next l4 Y;have m2:=AB (fun j H d=>(l5.o j H d).next Y);have m3:=g8.next Y g8.size;have b0:=AB (show Ho (64::98::itoa K) q.body ll=if ll=[]then q.body else(Gt q.body a9).getD []from by
   unfold Ho;split
   ·rfl
   rw[e1])
  have m4:a9.length≤1000000:=by
   have H:=(Jb q.body).2;rw[e1];simp only[DS,EU];omega
  have m5:∀x∈a9,x.length≤1000000:=by
   intro x E;rw[e1]at E;obtain⟨z,hz,rfl⟩:=DY.1 E;have hz1:=Rb q.body _ (List.of_mem_zip hz).1;have m6:=b7 _ (List.of_mem_zip hz).2;have f8:(Ce (64::98::itoa K) z.2.2).length≤1000:=by
    have d:=CJ z.2.2 m6.1 m6.2;have H:=a38;unfold Ce;simp at H⊢;omega
   have:=YH (v:=z.1.2.2) f8;omega
  have c0:=WH q.body a9 (.slice va a9.length vc) w6 (by omega) (A0.rd (by decide) Cw a48) m4 m5;generalize Ho (64::98::itoa K) q.body ll=l at b0 X;clear Y e0 a3 g7 l3 l4 l5 g8 e1 d2 d1 b7 b5 m5 m4 l6 g1;go_upto_if 193 with fail;go_cut[] (fun A=>A1 A (wr.heap.size+1) #[.slice o (i.length+1) O,.string ⟨l.toArray⟩,.bool false,.slice none 0 0] 44∧A5 (wr.heap.size+1) w6.heap.size w6 A)
  case first=>
   have kq6:=b9.cell;have kp6:=l8.cell;by_cases b1:ll=[]
   ·have c1:=AB (b0.o.trans (AM b1));have hli:¬(0:Int)<ll.length:=by rw[b1];simp
    clear b0 c0 b1;go_wp2_with fail;go_meet;exact⟨by rw[c1.o];exact b9,A5.refl _ _ _⟩
   have c1:=AB (b0.o.trans (AI b1));have hli:(0:Int)<ll.length:=by have:=BE.2 b1;omega
   generalize Gt q.body a9=rp at c1 c0;clear b0 b1;go_wp2_with fail;with_reducible refine c0.mono ?_
   rintro r Z⟨rfl,g9⟩;have b2:=b9.next g9 b9.lt;have kq7:=b2.cell;have b22:=b2.free;clear c0;cases rp with
   |none=>
    have h0:=AB (show l=[]from c1.o);unfold Xv;go_wp2_with fail;go_meet;exact⟨by rw[h0.o];exact b2.set 1 _,(A5.of g9).set _⟩
   |some rt=>
    have h0:=AB (show l=rt from c1.o);unfold Xv;go_wp2_with fail;go_meet;exact⟨by rw[h0.o];exact b2.set 1 _,(A5.of g9).set _⟩
  case rest=>
  obtain⟨b2,a5⟩:=hcut;obtain⟨Z,rfl⟩:∃x:World,x=wc:=⟨_,rfl⟩;have a49:=a5.size;have m7:=l9.Ag a5 (by omega);have b23:wr.heap.size≤w6.heap.size:=by omega
  have m8:=A0.Ll m0 fun g hv=>a5.block g (by have:=a2 g hv;omega) (by have:=a2 g hv;omega)
  have a50:=A0.Ag m1 a5 (by omega);have m9:=AB (fun j H d=>A7.keep (w':=Z) a49 (fun x E t=>a5.block x t (by have:=E.2;omega)) (m2.o j H d));have n0:A5 C w.heap.size w Z:=m3.trans (A5.of ((a5.mono (show w.heap.size≤w6.heap.size by omega)).shut (show w.heap.size≤wr.heap.size+1 by omega)));have b24:=A0.Fp m8;have kp:=m7.cell;have kt:=b2.cell;have hl1:(i++[(([67,111,110,116,101,110,116,45,73,68]:Bs),(60::(n++[62]):Bs))]).length=i.length+1:=by simp
  have b25:M.heap.size≤Z.heap.size:=by omega
  have h1:(Z.alloc (.cells #[.slice o (i.length+1) O,.string ⟨l.toArray⟩,.bool false,.slice none 0 0] 44)).heap.size=Z.heap.size+1:=by simp
  clear c0 b0 l9 m0 m1 m2 m3 a5 b9 l8;go_wp2_with(at_builtin;refine Td rfl _ _ rfl w.heap.size _ R (((o,i.length+1,O),l,false,((none:Option Go.Addr),0,0)):Ao) _ 1 rfl (A0.alloc m8 _) rfl (Tc _ (((o,i.length+1,O),l,false,((none:Option Go.Addr),0,0)):Ao) _ _ (by simp)) (by omega) (by simp;omega) ?_;intro a46 w9 n1 e2 h2 h3;obtain⟨S,I,J,rfl⟩:=n1.shape;have e3:=(m7.alloc (.cells #[.slice o (i.length+1) O,.string ⟨l.toArray⟩,.bool false,.slice none 0 0] 44)).next h2 i3;have b26:=e3.cell;have b27:=e3.free);have V:=(AD Z.heap.size Z).alloc (AC _) (.cells #[.slice o (i.length+1) O,.string ⟨l.toArray⟩,.bool false,.slice none 0 0] 44);have hs9:=e2.size;rw[h1]at hs9;have a51:A1 (w9.setCell ⟨C,3,none⟩ (.slice S I J)) C #[.slice wa L.length wc,.string ⟨#[]⟩,.bool true,.slice S I J] 44:=e3.set 3 _;have a7:=n1.A6 (a:=⟨C,3,none⟩) i3 (.slice S I J);have a52:=AB (show∀j(H:j<(R++[(((o,i.length+1,O),l,false,((none:Option Go.Addr),0,0)):Ao)]).length)(d:j<(D++[A8.mk (i++[(([67,111,110,116,101,110,116,45,73,68]:Bs),(60::(n++[62]):Bs))]) l false []]).length),A7 (fun x=>w.heap.size≤x∧(Value.slice S I J).ownBlock≠some x) 3 (w9.setCell ⟨C,3,none⟩ (.slice S I J)) (R++[(((o,i.length+1,O),l,false,((none:Option Go.Addr),0,0)):Ao)])[j] (D++[A8.mk (i++[(([67,111,110,116,101,110,116,45,73,68]:Bs),(60::(n++[62]):Bs))]) l false []])[j]from fun j H d=>by
   by_cases hj:j<R.length
   ·rw[DU hj,DU (by omega)];exact A7.Ad (Q:=fun x=>w.heap.size≤x∧(Value.slice S I J).ownBlock≠some x) (fun x h _=>⟨h.1.1.1,h.2⟩) (((A7.Ad (Q:=fun x=>((w.heap.size≤x∧(Value.slice c6 c7 c8).ownBlock≠some x)∧x<wr.heap.size)∧(Value.slice S I J).ownBlock≠some x) (fun x h t=>⟨h,fun e=>by
     rcases h3 with ho|ho
     ·exact h.1.2 (ho▸e)
     rw[ho]at e;injection e with e;rw[h1]at e;omega⟩) ((m9.o j hj (by omega)).next V)).grown e2 (fun x h e=>h.1.1.2 e.symm)).set (a:=⟨C,3,none⟩) (.slice S I J) (fun h=>by have:=h.1.1.1;simp only at this;omega))
   obtain rfl:j=R.length:=by simp at H;omega
   have a53:(R++[(((o,i.length+1,O),l,false,((none:Option Go.Addr),0,0)):Ao)])[R.length]=(((o,i.length+1,O),l,false,((none:Option Go.Addr),0,0)):Ao):=by simp
   have a54:(D++[A8.mk (i++[(([67,111,110,116,101,110,116,45,73,68]:Bs),(60::(n++[62]):Bs))]) l false []])[R.length]'d=A8.mk (i++[(([67,111,110,116,101,110,116,45,73,68]:Bs),(60::(n++[62]):Bs))]) l false []:=by rw[FO (by omega)];simp
   rw[a53,a54];have c2:=A0.Dn (by decide) Ah a50;rw[←hl1]at c2⊢;have a55:=Aq.Ad (Q:=fun x=>M.heap.size≤x∧x<Z.heap.size) c2 (fun x h t=>⟨h.1,t⟩);refine⟨rfl,rfl,?_,[],Aq.nil _ _ _ _ _ _,rfl,fun k h=>by simp at h⟩;refine Aq.Ad (((a55.next V).grown e2 (fun x h e=>by have a56:=a2 x e.symm;omega)).set (a:=⟨C,3,none⟩) (.slice S I J) (fun h=>by have:=h.1;simp only at this;omega)) (fun x h _=>⟨by omega,fun e=>?_⟩);rcases h3 with ho|ho
   ·rw[ho]at e;have a56:=a2 x e;omega
   rw[ho]at e;injection e with e;rw[h1]at e;omega)
  have B9:A5 C w.heap.size w (w9.setCell ⟨C,3,none⟩ (.slice S I J)):=((n0.next V n0.size).trans (A5.of h2)).set _;clear h3 e2 h2 V m9 e3;go_wp2_with fail;go_roundw
  case rel=>exact⟨k+1,D++[A8.mk (i++[([67,111,110,116,101,110,116,45,73,68],60::(n++[62]))]) l false []],R++[(((o,i.length+1,O),l,false,((none:Option Go.Addr),0,0)):Ao)],(S,I,J),by go_num,by omega,by simp;omega,by simp;omega,a51,a7,a52,X,B9⟩
  simp[intOf];omega
 obtain rfl:k=b.whole.parts.length:=by omega
 have n2:=AB (by have:=HA.o;rw[AQ]at this;simpa[Ev]using this:D=Ev b (64::98::itoa K) 0 b.whole.parts);have c2:A7 (fun _=>True) 4 wr ((wa,L.length,wc),[],true,(c6,c7,c8)) (.mk L [] true (Ev b (64::98::itoa K) 0 b.whole.parts)):=by
  rw[←n2.o];exact⟨rfl,rfl,(hWH.Ag B (fun h=>h rfl)).Ad (fun _ _ _=>trivial),R,(A0.Dn (by decide) Db a7).Ad (fun _ _ _=>trivial),by omega,fun j H d=>A7.Ad (fun _ _ _=>trivial) (c5.o j H d)⟩
 have n3:=YG 4 _ _ wr c2 HPI.o (hg.Ag B e5);simp only[Bm,A9]at n3;have b28:=U.cell;clear n2 c2 HA c5;go_wp2_with fail;with_reducible refine n3.mono ?_
 rintro r w9⟨hh,a57⟩;have B9:=B.next a57 e9;rcases hh with⟨s,hs,hsl,rfl⟩|⟨c,hc,a6,rfl⟩
 ·go_wp2_with fail;exact HR.o _ _ (Or.inl ⟨s,hs,hsl,rfl⟩) B9
 have HC1:=AB a6;clear a6;go_wp2_with fail;exact HR.o _ _ (Or.inr ⟨c,hc,HC1.o,rfl⟩) B9
def L1(first:Bool)(s:Bs)(l:List A4):List A4:=if first then D2 l s else l
theorem YN(h:(A2 f.1==A2 Bu)=true):L1 true s (f::l)=(f.1,Ik f.2 s)::L1 false s l:=by
 unfold L1;simp only[DC,BU,DJ];rw[D2,AM (by simpa using h)]
theorem YO{first:Bool}(h:(first&&(A2 f.1==A2 Bu))=false):L1 first s (f::l)=f::L1 first s l:=by
 cases first with
 |false=>rfl
 |true=>
  unfold L1;simp only[DC];rw[FB]at h;rw[D2,AI (by simpa using h)]
theorem YP(first:Bool)(s:Bs):L1 first s []=[]:=by cases first<;>rfl
theorem YQ{h4:Value}
  (a8:w.cell? ⟨A,0,none⟩=some (.pointer (some ⟨I,0,none⟩))) (a9:w.cell? ⟨D,0,none⟩=some (.int .i64 K)) (b0:A≠C) (b1:D≠C) (X:¬P C) (Z:F5 P w I b) (c2:Iq b) (c3:U9 b)
  (z2:(64::98::itoa K:Bs).length≤23) (c4:-9223372036854775808≤K) (c5:K≤9223372036854775807) (b2:8<C) (r':b.root≤1000000)
  (H:A1 w C #[.slice none 0 0,.string ⟨#[]⟩,.bool true,.slice none 0 0] 44)
  (c6:Ft 4 (.mk (D2 b.whole.head (Ce (64::98::itoa K) b.root)) [] true (Ev b (64::98::itoa K) 0 b.whole.parts))) (hg:Gz w)
  (hR:∀e w',U8 (Ig (.mk (D2 b.whole.head (Ce (64::98::itoa K) b.root)) [] true (Ev b (64::98::itoa K) 0 b.whole.parts))) e→A5 C w.heap.size w w'→c1 e w'):
  Code.wp prog N2 (bodyPost prog f26 c1) ⟨List.toArray (u0::.pointer (some ⟨A,0,none⟩)::u2::u3::u4::u5::.func (.func 72) #[] #[.pointer (some ⟨D,0,none⟩)]::.pointer (some ⟨C,0,none⟩)::.bool true::u9::e0::e1::e2::e3::e4::e5::e6::e7::e8::e9::f0::f1::f2::f3::f4::f5::f6::f7::f8::f9::g0::g1::g2::g3::g4::g5::g6::g7::g8::g9::h0::h1::h3::h4::h5::h6::h7::h8::h9::i0::i1::i2::i3::i4::i5::i6::i7::i8::i9::j0::j1::j2::j3::j4::j5::j6::j7::j8::j9::k0::k1::k2::k3::k4::k5::k6::k7::k8::k9::l0::l1::l2::l3::l4::l5::l6::l7::l8::l9::m0::m1::m2::m3::m4::m5::m6::m7::m8::m9::n0::n1::n2::n3::n4::n5::n6::n7::n8::n9::o0::o1::o2::o3::o4::o5::o6::o7::o8::o9::p0::p1::p2::p3::p4::p5::p6::p7::p8::p9::q0::q1::q2::q3::q4::q5::q6::q7::q8::q9::r0::r1::r2::r3::r4::r5::r6::r7::r8::r9::s0::s1::s2::s3::s4::s5::s6::s7::s8::s9::t0::t1::t2::t3::t4::t5::t6::t7::t8::t9::u1::u6::u7::u8::v0::v1::v2::v3::v4::v5::v6::v7::v8::v9::w0::w1::w3::w4::w5::w6::w7::w8::x0::x1::x2::x3::x4::x5::x6::x7::x8::x9::y0::y1::y2::y3::y4::y5::y6::y7::y8::y9::z0::z1::[]),[]⟩ w:=by
 have HR:=AB hR;have a0:=AB c6;have c7:A<w.heap.size:=AY w _ a8;have c8:D<w.heap.size:=AY w _ a9;have a1:=H.lt;have HB:=AB Z;have c9:=AB c3;have z3:=c2.whole;obtain⟨z4,sa,si,z5,a2,d0,_,_⟩:=Z;have J:=d0.hd;have b3:=Em z3.head.1;have z6:=b3.1;have d1:=AB b3.2;obtain⟨⟨ra,rn,rc⟩,rb,rm,⟨s',t',u'⟩⟩:=z4;simp only[A9]at J;have z7:rn=b.whole.head.length:=by
  obtain⟨a,c,e,_⟩:=J;injection e
 subst z7;unfold Gi at a2;simp only[A9]at a2;have z8:I≠C:=fun e=>X (e▸z5)
 have z9:=a2.lt;have kb:=a2.cell;have J:Aq 2 Au (fun x=>x≠C) w (.slice ra b.whole.head.length rc) b.whole.head:=J.Ad fun x a' _=>fun e=>X (e▸a')
 have b':A2 Bu=[99,111,110,116,101,110,116,45,116,121,112,101]:=by decide
 generalize c':b.whole.head=h at J z6 d1 kb a0 HR;generalize d2:Ce (64::98::itoa K) (b.root:Int)=N at a0 HR;have d':=AB d2;clear hR c6 d0 c3 b3 d2;generalize e':bodyPost prog f26 _=QQ;delta N2 f26;dsimp only[Ak,Option.getD];subst e';go_upto_block 2 with fail;go_cut[] (fun L=>∃(m:Option Go.Addr)(r:Nat),A1 L C #[.slice m (D2 h N).length r,.string ⟨#[]⟩,.bool true,.slice none 0 0] 44∧Bk L w.heap.size (.slice m (D2 h N).length r) (D2 h N)∧A5 C w.heap.size w L)
 case first=>
  clear HR a0 c9 c';go_wp2_with fail;go_loopw[8,46] (fun nv iv wr=>∃(k:Nat)(first:Bool)(o:List A4)(m:Option Go.Addr)(r:Nat),nv=.bool first∧iv=.int .i64 k∧k≤h.length∧o.length≤k∧A1 wr C #[.slice m o.length r,.string ⟨#[]⟩,.bool true,.slice none 0 0] 44∧Bk wr w.heap.size (.slice m o.length r) o∧Hid (o++L1 first N (h.drop k)=D2 h N)∧A5 C w.heap.size w wr) (fun _ iv _=>h.length-(intOf iv).toNat)
  case atStart=>exact⟨0,true,[],none,0,rfl,rfl,by omega,by simp,H,A0.nil _ _ _ _ _,AB (by simp[L1]),A5.refl _ _ _⟩
  clear H;obtain⟨k,first,o,m,r,rfl,rfl,hk,x',H,n,M,B⟩:=hrel;have a3:=B.size;by_cases Q:k<h.length
  ·obtain⟨g,rfl,d3,d4,b4⟩:=J.at Ah k Q;have d5:=(B.cell (p:=⟨g,k*2+0,none⟩) d4 d3).trans (b4 0 (by decide));have d6:=(B.cell (p:=⟨g,k*2+1,none⟩) d4 d3).trans (b4 1 (by decide));have hf:=d1.o _ (AN Q);have b5:=AE Q;have s:=AB (fun(q:(first&&(A2 (h[k]).1==A2 Bu))=false)=>show(o++[h[k]])++L1 first N (h.drop (k+1))=D2 h N from by
    rw[←M.o,b5,YO q];simp)
   have u:=AB (fun(q:(first&&(A2 (h[k]).1==A2 Bu))=true)=>show(o++[((h[k]).1,Ik (h[k]).2 N)])++L1 false N (h.drop (k+1))=D2 h N∧first=true from by
    rw[BL]at q;obtain⟨f',g'⟩:=q;subst f';refine⟨?_,rfl⟩;rw[←M.o,b5,YN g'];simp)
   clear M b4 b5;generalize h[k]=f at d5 d6 hf s u;obtain⟨x,y⟩:=f;simp only[Au,BI,AR,AT]at d5 d6 hf s u;have b6:=fun W=>I1 x W (by omega)
   have d7:=AB (A0.Do n);have d:=A1.new wr #[.string ⟨x.toArray⟩,.string ⟨y.toArray⟩] 92;have R:=(AD wr.heap.size wr).alloc (AC _) (.cells #[.string ⟨x.toArray⟩,.string ⟨y.toArray⟩] 92);have n:=A0.next n R;have H:=H.next R H.lt;have B1:=B.next R a3;have a4:=(hg.Ag B b2).next R;rw[b']at s u;generalize A2 x=lx at b6 s u;clear R B;go_upto_region 11 with fail;generalize World.alloc _ _=w2 at d n B1 H a4⊢;have a5:=d.cell;go_cut[56] (fun t L=>t=.bool (first&&(lx==[99,111,110,116,101,110,116,45,116,121,112,101]))∧Below w2.heap.size w2 L)
   case first=>
    clear s u n d;cases first with
    |false=>
     go_wp2_with fail;go_meet;exact⟨rfl,AD _ _⟩
    |true=>
     go_wp2_with fail;with_reducible refine(b6 _).mono ?_
     rintro e v⟨rfl,i⟩;go_wp2_with fail;go_meet;exact⟨rfl,i⟩
   case rest=>
   obtain⟨rfl,i⟩:=hcut;obtain⟨v,rfl⟩:∃x:World,x=wc:=⟨_,rfl⟩;have y':=d.lt;have d:=d.next i d.lt;have n:=A0.next n i;have H:=H.next i H.lt;have a4:=a4.next i;have j:=B1.next i B1.size;have z':=i.size;clear i B1 b6 a5;cases a6:(first&&(lx==[99,111,110,116,101,110,116,45,116,121,112,101]))with
   |false=>
    have E:=AB (s.o a6);have a5:=d.cell;have h':=H.cell;have i':=H.free;clear s u a6;go_wp2_with(at_builtin;refine Kt (α:=A4) (cs:=Au) (size:=2) (z:=.agg #[.string ByteArray.empty,.string ByteArray.empty]) Ah Ju Kj rfl (by decide) underlying42 rfl _ _ rfl w.heap.size _ o [(x,y)] ⟨v.heap.size,0,none⟩ 1 1 rfl rfl (A0.alloc n _) rfl (Gl v (x,y) _) (by simp;omega) (by unfold maxLen;simp;omega) (by have:=j.size;simp;omega) ?_;intro v' w9 S b7 F b8;obtain⟨O,l,T,_⟩:=A0.rd (by decide) Ah S;rw[AH,ES]at T;subst T;have G:=(H.alloc (.cells #[.string ⟨x.toArray⟩,.string ⟨y.toArray⟩] 92)).next F a1;have j':=G.cell;have k':=G.free);have B9:=(j.next ((AD v.heap.size v).alloc (AC _) (.cells #[.string ⟨x.toArray⟩,.string ⟨y.toArray⟩] 92)) j.size).trans (A5.of F);have b9:A1 (w9.setCell ⟨C,0,none⟩ (.slice O (o.length+1) l)) C #[.slice O (o.length+1) l,.string ⟨#[]⟩,.bool true,.slice none 0 0] 44:=G.set 0 _;have c0:=S.A6 (a:=⟨C,0,none⟩) a1 (.slice O (o.length+1) l);have U:(o++[(x,y)]).length=o.length+1:=by simp
    clear b7 F b8;go_wp2_with fail;go_roundw
    case rel=>exact⟨k+1,first,o++[(x,y)],O,l,rfl,by go_num,by omega,by simp;omega,by rw[U];exact b9,by rw[U];exact c0,E,B9.set _⟩
    simp[intOf];omega
   |true=>
    obtain⟨d8,l'⟩:=u.o a6;have E:=AB d8;subst l';have m':y.length≤100000:=by have:=hf.2;omega
    have n':v.cell? ⟨A,0,none⟩=some (.pointer (some ⟨I,0,none⟩)):=(j.cell (p:=⟨A,0,none⟩) c7 b0).trans a8;have o':v.cell? ⟨D,0,none⟩=some (.int .i64 K):=(j.cell (p:=⟨D,0,none⟩) c8 b1).trans a9;have p':v.cell? ⟨I,4,none⟩=some (.int .i64 (b.root:Int)):=(j.cell (p:=⟨I,4,none⟩) z9 z8).trans (kb 4);clear s u a6 d8;apply_assumption;refine XS d n' o' p' m' (by omega) (by omega) c4 c5 a4 ?_;rw[d'.o];intro V A' B' C' D' E' F' G' H' I' J' K' L' M' N' O' P' Q' R' S' T' U' V' W' X' Y' Z' v78 v79 v80 v81 v82 v83 v84 v85 v86 v87 v88 v89 v90 v91 v92 v93 v94 v95 d9 a7;have n:=A0.Ll n fun g hv=>a7.block g (by have:=d7.o g hv;omega) (by have:=d7.o g hv;omega)
    have H:=H.Ag a7 (by omega);have B5:A5 C w.heap.size w V:=j.trans (A5.of ((a7.mono j.size).shut (show w.heap.size≤wr.heap.size by omega)));have a5:=d9.cell;have h':=H.cell;have i':=H.free;generalize Ik y N=Y at d9 a5 E;clear d a7 j;go_wp2_with(at_builtin;refine Kt (α:=A4) (cs:=Au) (size:=2) (z:=.agg #[.string ByteArray.empty,.string ByteArray.empty]) Ah Ju Kj rfl (by decide) underlying42 rfl _ _ rfl w.heap.size _ o [(x,Y)] ⟨V.heap.size,0,none⟩ 1 1 rfl rfl (A0.alloc n _) rfl (Gl V (x,Y) _) (by simp;omega) (by unfold maxLen;simp;omega) (by have:=B5.size;simp;omega) ?_;intro v' w9 S b7 F b8;obtain⟨O,l,T,_⟩:=A0.rd (by decide) Ah S;rw[AH,ES]at T;subst T;have G:=(H.alloc (.cells #[.string ⟨x.toArray⟩,.string ⟨Y.toArray⟩] 92)).next F a1;have j':=G.cell;have k':=G.free);have B9:=(B5.next ((AD V.heap.size V).alloc (AC _) (.cells #[.string ⟨x.toArray⟩,.string ⟨Y.toArray⟩] 92)) B5.size).trans (A5.of F);have b9:A1 (w9.setCell ⟨C,0,none⟩ (.slice O (o.length+1) l)) C #[.slice O (o.length+1) l,.string ⟨#[]⟩,.bool true,.slice none 0 0] 44:=G.set 0 _;have c0:=S.A6 (a:=⟨C,0,none⟩) a1 (.slice O (o.length+1) l);have U:(o++[(x,Y)]).length=o.length+1:=by simp
    clear b7 F b8;go_wp2_with fail;go_roundw
    case rel=>exact⟨k+1,false,o++[(x,Y)],O,l,rfl,by go_num,by omega,by simp;omega,by rw[U];exact b9,by rw[U];exact c0,E,B9.set _⟩
    simp[intOf];omega
  obtain rfl:k=h.length:=by omega
  have E:=AB (by have:=M.o;rw[AQ,YP,BM]at this;exact this:o=D2 h N);have h2:=E.o;clear M E;go_wp2_with fail;go_meet;exact⟨m,r,by rw[←h2];exact H,by rw[←h2];exact n,B⟩
 case rest=>
 obtain⟨m,r,q',n,B⟩:=hcut;obtain⟨a00,rfl⟩:∃x:World,x=wc:=⟨_,rfl⟩;have a3:=B.size;apply_assumption;exact YM ((B.cell (p:=⟨A,0,none⟩) c7 b0).trans a8) ((B.cell (p:=⟨D,0,none⟩) c8 b1).trans a9) b0 b1 X (HB.o.keep a3 fun x hP Q=>B.block x Q (fun e=>X (e▸hP))) c2 c9.o z2 c4 c5 b2 q' ((A0.Dn (by decide) Ah n).Ad fun x h _ e=>by have:=h.1;omega) a0.o (hg.Ag B b2) (fun e w' h Z=>HR.o e w' h (B.trans (Z.mono a3)))
theorem YR(P:Nat→Prop)(a:Nat)(b:Aw)(w:World)(h:F5 P w a b)(n:Iq b)(a6:U9 b)(a7:b.whole.parts≠[])(U:b.root≤1000000)(V:b.whole.many=true)(X:b.whole.body=[])(Y:Gz w):Calls prog 26 #[.pointer (some ⟨a,0,none⟩)] w fun e Z=>U8 (R6 b) e∧Below w.heap.size w Z:=by
 have m:=F5.Ad (Q:=fun x=>x<w.heap.size) (fun _ _ h=>h) h;have c2:=Xm n.whole;have a8:=AB (iI b.whole);have I:=AB (iW n U);have G:=AB (by unfold R6 Lj;rw[V,X]:R6 b=Ig (.mk (D2 b.whole.head (Ce (Fc b.whole) b.root)) [] true (Ev b (Fc b.whole) 0 b.whole.parts)));have J:=AB (by unfold Lj;rw[V,X]:Lj b=.mk (D2 b.whole.head (Ce (Fc b.whole) b.root)) [] true (Ev b (Fc b.whole) 0 b.whole.parts));have a0:=Xs n.whole;have a9:=AB (fun(k:Nat)(h1:∀j,j<k→Dd [64,98] (Ep b.whole) j=true)(h2:Dd [64,98] (Ep b.whole) k=false)=>show Fc b.whole=64::98::itoa (k:Int)from by
  unfold Fc;rw[cD h1 h2])
 have c3:=Y.size;have o:=(A1.new w #[.pointer (some ⟨a,0,none⟩)] 50).alloc (.cells #[.int .i64 0] 3);have H:=A1.new (w.alloc (.cells #[.pointer (some ⟨a,0,none⟩)] 50)) #[.int .i64 0] 3;rw[AV]at H;have r:=((AD w.heap.size w).alloc (AC _) (.cells #[.pointer (some ⟨a,0,none⟩)] 50)).alloc (by simp) (.cells #[.int .i64 0] 3);have b0:((w.alloc (.cells #[.pointer (some ⟨a,0,none⟩)] 50)).alloc (.cells #[.int .i64 0] 3)).heap.size=w.heap.size+2:=by simp
 have s:=m.next r;have u:=Y.next r;clear h;go_enter func26,ntmps26;go_upto_block 0 with fail;generalize World.alloc (World.alloc _ _) _=f at o H r b0 s u⊢;go_cut[] (fun y=>∃k:Nat,A1 y (w.heap.size+1) #[.int .i64 (k:Int)] 3∧A5 (w.heap.size+1) f.heap.size f y∧k≤1000000000000000∧Hid (Fc b.whole=64::98::itoa (k:Int)))
 case first=>
  clear I G J m;go_wp2_with fail;go_loopw[] (fun wr=>∃k:Nat,A1 wr (w.heap.size+1) #[.int .i64 (k:Int)] 3∧Hid (∀j,j<k→Dd [64,98] (Ep b.whole) j=true)∧A5 (w.heap.size+1) f.heap.size f wr) (fun wr=>match wr.cell? ⟨w.heap.size+1,0,none⟩with|some v=>20*(Bd (Ep b.whole)+(Ep b.whole).length+1)-(intOf v).toNat|none=>0)
  case atStart=>exact⟨0,H,AB (fun j hj=>by omega),A5.refl _ _ _⟩
  clear H;obtain⟨k,H,g,B⟩:=hrel;have c4:=Qn _ _ k g.o;have c5:=H.cell 0;have c6:=H.free 0;have a1:=u.Ag B (by omega);have K:=Mz (k:Int) (by omega) (by omega) wr a1;have b1:=CJ (k:Int) (by omega) (by omega);have L:=AB (a8.o k);have O:=AB (a9.o k g.o);have b2:F5 (fun x=>x<w.heap.size) wr a b:=s.keep B.size fun x hx M=>B.block x M (by omega)
  have b3:wr.cell? ⟨w.heap.size,0,none⟩=some (.pointer (some ⟨a,0,none⟩)):=(B.cell (p:=⟨w.heap.size,0,none⟩) (by simp only;omega) (by simp only;omega)).trans (o.cell 0);generalize a2:itoa (k:Int)=ib at K b1 L O;have b4:=AB a2;clear a2;have c7:¬9223372036854775807<2+ib.length:=by omega
  go_wp2_with fail;with_reducible refine K.mono ?_
  rintro e w4⟨rfl,c⟩;have N:=H.next c H.lt;have B4:=B.next c B.size;have z:=WW (fun x=>x<w.heap.size) a w.heap.size b (64::98::ib) w4 (b2.next c) n.whole a7 ((c.cell (p:=⟨w.heap.size,0,none⟩) (by have:=B.size;simp only;omega)).trans b3) (a1.next c).r;rw[←L.o]at z;generalize hq:Dd [64,98] (Ep b.whole) k=q at z O;have R:=AB hq;clear hq L K;go_wp2_with fail;with_reducible refine z.mono ?_
  rintro e w5⟨rfl,S⟩;have C:=N.next S N.lt;have B5:=B4.next S B4.size;have c8:=C.cell 0;have c9:=C.free 0;have a3:=C.set 0 (.int .i64 ((k:Int)+1));have b5:wr.cell? ⟨w.heap.size+1,0,none⟩=some (.int .i64 (k:Int)):=H.cell 0;clear z c S N;cases q with
  |true=>
   have b6:=AB (show∀j,j<k+1→Dd [64,98] (Ep b.whole) j=true from fun j hj=>by
    rcases CN j k with h'|h'
    ·exact g.o j h'
    obtain rfl:j=k:=by omega
    exact R.o)
   have b7:(w5.setCell ⟨w.heap.size+1,0,none⟩ (.int .i64 ((k:Int)+1))).cell? ⟨w.heap.size+1,0,none⟩=some (.int .i64 ((k:Int)+1)):=a3.cell 0;clear g O R;go_wp2_with fail;go_roundw
   case rel=>exact⟨k+1,a3,b6,B5.set _⟩
   rw[b7,b5];simp only[intOf];omega
  |false=>
   have HN:=AB (O.o rfl);clear g O R;go_wp2_with fail;go_meet;exact⟨k,C,B5,by omega,AB (by rw[b4.o];exact HN.o)⟩
 case rest=>
 obtain⟨k,i,d,d0,HS⟩:=hcut;obtain⟨W,rfl⟩:∃x:World,x=wc:=⟨_,rfl⟩;have b8:=d.size;have l:=o.Ag d (by omega);have D:F5 (fun x=>x<w.heap.size) W a b:=s.keep b8 fun x hx M=>d.block x M (by omega)
 have E:=u.Ag d (by omega);have T:=G.o;have F:=I.o;rw[J.o]at F;rw[HS.o]at T F a0;have b9:=AB T;have c0:=AB F;have A:=(AD W.heap.size W).alloc (AC _) (.cells #[.slice none 0 0,.string ⟨#[]⟩,.bool true,.slice none 0 0] 44);have a4:=A1.new W #[.slice none 0 0,.string ⟨#[]⟩,.bool true,.slice none 0 0] 44;have c1:(W.alloc (.cells #[.slice none 0 0,.string ⟨#[]⟩,.bool true,.slice none 0 0] 44)).heap.size=W.heap.size+1:=by simp
 have l:=l.next A l.lt;have i:=i.next A i.lt;have D:=D.next A;have E:=E.next A;have B7:Below w.heap.size w (W.alloc (.cells #[.slice none 0 0,.string ⟨#[]⟩,.bool true,.slice none 0 0] 44)):=(r.trans ((d.mono (show w.heap.size≤f.heap.size by omega)).shut (by omega))).trans (A.mono (by omega));clear T F G J I d u s o A;go_upto_region 7 with fail;generalize World.alloc _ _=w3 at a4 l i D E B7 c1⊢;go_cut[8] (fun t y=>t=.bool true∧y=w3)
 case first=>
  go_wp2_with fail;go_meet;exact⟨rfl,by first|rfl|trivial⟩
 case rest=>
 obtain⟨rfl,a5⟩:=hcut;obtain rfl:=a5.symm;clear a5;apply_assumption;exact YQ (l.cell 0) (i.cell 0) (by omega) (by omega) (by omega) D n a6 a0 (by omega) (by omega) (by omega) U a4 c0.o E (fun e Z h m=>⟨by rw[b9.o];exact h,B7.trans ((m.mono (show w.heap.size≤w3.heap.size by omega)).shut (by omega))⟩)
theorem YS(h:Cx s=.ok b):U9 b∧b.whole.parts≠[]∧b.whole.many=true∧b.whole.body=[]:=by
 unfold Cx at h;cases a:E8 s with
 |error n=>rw[a]at h;cases h
 |ok p=>
  rw[a]at h;simp only at h;obtain⟨k,d⟩:=TS a;unfold Ij at h;split at h
  ·cases h
  split at h
  ·cases h
  rename_i e;split at h
  ·cases h
  rename_i f;simp only[FG]at h;have y:∀q∈p.parts,q.many=false:=fun q H=>by
   cases m:q.many with
   |false=>rfl
   |true=>exact absurd (JF.2 ⟨q,H,m⟩) f
  obtain⟨_,g⟩:=k;obtain⟨i,_,j⟩:=g.resolve_left (fun l=>e l.2.2);have c:b.whole=p:=by rw[←h]
  rw[c];refine⟨fun q H=>?_,e,i,j⟩;rw[c]at H;exact⟨y q H,((d q H).leaf (y q H)).2.2.2⟩
end Go.Proofs.YtignjjnflcpiiaaGreatDoor
