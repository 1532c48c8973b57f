/- A head written, by the document's answer: as the program -/
import Derived.Test.YtignjjnflcpiiaaGreatDoorS28
import Derived.Test.YtignjjnflcpiiaaGreatDoorS43
set_option linter.all false
set_option maxHeartbeats 16000000
set_option maxRecDepth 100000
namespace Go.Proofs.YtignjjnflcpiiaaGreatDoor
open Go Go.RowKit Proofs.Tryz Lib
def O7(y:Bs)(k:Nat):Bool:=decide (k=0)||(y.getD (k-1) 0 !=32)
def J7(y:Bs)(k:Nat)(line word:Bs)(first:Bool):Bs:=if k≤y.length then F7 (y.drop k) (O7 y k) line word first else line++[13,10]
def Ln(y:Bs)(k:Nat):Bool:=decide (k=y.length)||(y.getD k 0==32&&O7 y k)
theorem jI(y:Bs)(k:Nat)(h:k<y.length):O7 y (k+1)=(y[k]!=32):=by
 unfold O7;rw[AX (by omega),AK];simp[h]
variable {first:Bool}{line word y b body s x:Bs}{k d m pb qc O K B F:Nat}{e:Ending}{w w':World}{L:List A4}{q qs:List Bs}{p P:Ending → World → Prop}{U N S T V X Y Z a0 a1 a2 a3 a4 a5 a6 a7 a8 a9 b0 b1 b2 b3 b4 b5 b6 b7 b8 b9 c0 c1 c2 c3 c4 c5 c6 c7 c8 c9 d0 d1 d2 d3 d4 d5 d6 d7 d8 d9 e0 e1 e2 e3 e4 e5 e6 e7 e8 e9 f0 f1 f2 f3 f4 f5 f6 f7 f8 f9 g0 g1 g2 g3 g4 g5 g6 g7 g8 g9 h0 h1 h2 h3 h4 h5 h6 h7 h8 h9 i0 i1 i2 i3 i4 i5 i6 i7 i8 i9 j0 j1 j2 j3 j4 j5 j6 j7 j8 j9 k0 k1 k2 k3 k4 k5 k6 k7 k8 k9 l0 l1 l2 l3 l4 l5 l6 l7 l8 l9 m0 m1 m2 m3 m4 m5 m6 m7 m8 m9 n0 n1 n2 n3 n4 n5 n6 n7 n8 n9 o0 o1 o2 o3 o4 o5 o6 o7 o8 o9 p0 p1 p2 p3 p4 p5 p6 p7 p8 p9 q0 q1 q2 q3 q4 q5 q6 q7 q8 q9 r0 r1 r2 r3 r4 r5 r6 r7 r8 r9 s0 s1 s2 s3 s4 s5 s6 s7 s8 s9 t0 t1 t2 t3 t4 t5 t6 t7 t8 t9 u0 u1 u2 u3 u4 u5 u6 u7 u8 u9 v0 v1 v2 v3 v4 v5 v6 v7 v8 v9 w0 w1 w2 w3 w4 w5 w6 w7 w8 w9 x0 x1 x2 y5 y6 y7 x3 x4 x5 x6 x7 x8 x9 y0 y1 y2 y3 y4 y8 y9 z0:Value}
theorem XL(a:k≤y.length)(h:Ln y k=true):J7 y k line word first=(Gf line word first).1++J7 y (k+1) (Gf line word first).2 (if k<y.length then[y.getD k 0]else[]) false:=by
 unfold J7;rw[AM a];by_cases H:k<y.length
 ·rw[AM H,AM (show k+1≤y.length from H),AE H];conv=>lhs;unfold F7
  have g:y.getD k 0=y[k]:=by rw[AK];simp[H]
  unfold Ln at h;rw[AX (by omega),g,IV,BL,BG]at h;rw[AM h,jI y k H,g]
 obtain rfl:k=y.length:=by omega
 rw[AI (by omega),AQ];conv=>lhs;unfold F7
theorem XM(b:k≤y.length)(h:Ln y k=false):k<y.length∧J7 y k line word first=J7 y (k+1) line (word++[y.getD k 0]) first:=by
 unfold Ln at h;rw[Bool.or_eq_false_iff,EB]at h;have H:k<y.length:=by omega
 refine⟨H,?_⟩;have g:y.getD k 0=y[k]:=by rw[AK];simp[H]
 unfold J7;rw[AM b,AM (show k+1≤y.length from H),AE H,g];conv=>lhs;unfold F7
 rw[AI (fun a=>by rw[g,a.1,a.2]at h;simp at h),jI y k H]
theorem XN(line word:Bs)(first:Bool):(Gf line word first).1.length+(Gf line word first).2.length≤line.length+word.length+2:=by
 unfold Gf;split<;>simp<;>omega
theorem jJ(v:Value)(l:List A4)(w:World)(hr:C7 w v l)(c1:l.length≤1000000)(a3:∀f∈l,f.1.length≤1000000∧f.2.length≤1000000):Calls prog 215 #[v] w fun e w'=>U3 1 (D0 l) e∧Below w.heap.size w w':=by
 have b6:=AB a3;clear a3;obtain⟨a,c2,rfl,hc⟩:=hr.open;have HC:=AB hc;clear hc hr;have K:=A1.new w #[.int .i64 0,.int .i64 0] 113;have B:=(AD w.heap.size w).alloc (AC _) (.cells #[.int .i64 0,.int .i64 0] 113);have b7:=fun W=>P4 0 W
 go_enter func215,ntmps215;go_wp2_with fail;generalize w.alloc (.cells #[.int .i64 0,.int .i64 0] 113)=w1 at K B⊢;go_loopw[4,13] (fun o i wr=>∃(k:Nat)(O:Bs),o=.string ⟨O.toArray⟩∧i=.int .i64 k∧k≤l.length∧O.length≤k*5000010∧Hid ((F6 (l.drop k)).map (O++·)=F6 l)∧X0 wr w.heap.size∧Below w.heap.size w wr) (fun _ i _=>l.length-(intOf i).toNat)
 case atStart=>exact⟨0,[],rfl,rfl,by omega,by simp,AB (by simp),K,B⟩
 clear K B;obtain⟨k,O,rfl,rfl,hk,c3,J,K,B⟩:=hrel;by_cases a4:k<l.length
 ·obtain⟨b,rfl,a5,h1,h2⟩:=HC.o k a4;have P:=b6.o l[k] (AN _);have D:=AB (by rw[AE a4,tB];rfl:F6 (l.drop k)=if Ca [l[k]]then(F6 (l.drop (k+1))).map (F7 l[k].2 true (l[k].1++[58,32]) [] true++·)else none);have Q:=(B.cell (p:=⟨b,k*2,none⟩) a5).trans h1;have S:=(B.cell (p:=⟨b,k*2+1,none⟩) a5).trans h2;clear h1 h2;generalize l[k]=f at P D Q S;obtain⟨x,y⟩:=f;simp only at P D Q S;obtain⟨hx,hy⟩:=P;have u:=(A1.new wr #[.string ⟨x.toArray⟩,.string ⟨y.toArray⟩] 92).alloc (.cells #[.string ⟨x.toArray⟩,.string ⟨y.toArray⟩] 92);have U:=Zg (wr.alloc (.cells #[.string ⟨x.toArray⟩,.string ⟨y.toArray⟩] 92)) x y 92;have K:=(K.alloc (.cells #[.string ⟨x.toArray⟩,.string ⟨y.toArray⟩] 92)).alloc (.cells #[.string ⟨x.toArray⟩,.string ⟨y.toArray⟩] 92);have B:=(B.alloc B.size (.cells #[.string ⟨x.toArray⟩,.string ⟨y.toArray⟩] 92)).alloc (B.alloc B.size (.cells #[.string ⟨x.toArray⟩,.string ⟨y.toArray⟩] 92)).size (.cells #[.string ⟨x.toArray⟩,.string ⟨y.toArray⟩] 92);rw[AV]at U;have V:=cS _ [(x,y)] _ U ⟨by simp,fun q hq=>by simp at hq;subst hq;exact⟨by simp;omega,by simp;omega⟩⟩;generalize Ca [(x,y)]=rf at V D;go_wp2_with fail;with_reducible refine V.mono ?_
  rintro e w2⟨rfl,L⟩;have u:=u.next L u.lt;have K:=K.next L K.lt;have B:=B.trans (L.mono B.size);clear L U Q S V;cases rf with
  |false=>
   have X:=AB (by unfold D0;rw[←J.o,D.o];rfl:D0 l=none);have a6:=K.cell 0;have a7:=K.cell 1;have b8:=K.free;go_wp2_with fail;refine AL (v:=.tuple #[.string ⟨#[]⟩,.agg #[.int .i64 1,.int .i64 k]]) (by simp[results,results215,go_sem,a6,a7]) rfl ⟨Or.inr ⟨X.o,_,rfl⟩,(B.setCell (AC _) _).setCell (AC _) _⟩
  |true=>
   have HT:=AB (show(F6 (l.drop (k+1))).map ((O++J7 y 0 (x++[58,32]) [] true)++·)=F6 l from by
    rw[←J.o,D.o];have:J7 y 0 (x++[58,32]) [] true=F7 y true (x++[58,32]) [] true:=by
     unfold J7;rw[AM (CX _)];rfl
    rw[this];simp only[DC];cases F6 (l.drop (k+1))<;>simp)
   clear D J;have a6:=u.cell 0;have a7:=u.cell 1;generalize a8:O++J7 y 0 (x++[58,32]) [] true=T at HT;have a9:=AB a8;clear a8;go_wp2_with fail;go_loopw[4,7,8,9,10] (fun o ln wd fs j g=>∃(m:Nat)(A line word:Bs)(first:Bool),o=.string ⟨A.toArray⟩∧ln=.string ⟨line.toArray⟩∧wd=.string ⟨word.toArray⟩∧fs=.bool first∧j=.int .i64 m∧m≤y.length+1∧A.length+line.length+word.length≤O.length+x.length+2+3*m∧Hid (A++J7 y m line word first=T)∧g=w2) (fun _ _ _ _ j _=>y.length+1-(intOf j).toNat)
   case atStart=>exact⟨0,O,x++[58,32],[],true,rfl,by simp,rfl,rfl,rfl,by omega,by simp;omega,a9,rfl⟩
   clear a9;obtain⟨m,A,line,word,first,rfl,rfl,rfl,rfl,rfl,hm,c4,r,rfl⟩:=hrel;by_cases b0:m≤y.length
   ·have c5:(m:Int)≤y.length:=by omega
    have Y:=AB (fun h=>XM (y:=y) (k:=m) (line:=line) (word:=word) (first:=first) b0 h);have Z:=AB (fun h=>XL (y:=y) (k:=m) (line:=line) (word:=word) (first:=first) b0 h);go_upto_region 12 with fail;go_cut[57] (fun t g=>t=.bool (Ln y m)∧g=wr)
    case first=>
     by_cases b1:m=y.length
     ·subst b1;have E:=AB (by unfold Ln;simp:Ln y y.length=true);go_wp2_with fail;go_meet;exact⟨by rw[E.o],rfl⟩
     have c:m<y.length:=by omega
     have c6:((m:Int)==(y.length:Int))=false:=by rw[AG];omega
     have c7:((0:Int)==(y.length:Int))=false:=by rw[AG];omega
     have n:y.getD m 0=y[m]:=by rw[AK];simp[c]
     have c8:(y[m].toNat:Int)<256:=by have:=y[m].toNat_lt;omega
     have E:=AB (by unfold Ln;rw[AX b1,n,Ei];rfl:Ln y m=(((y[m].toNat:Int)==32)&&O7 y m));by_cases s:((y[m].toNat:Int)==32)=true
     ·by_cases b2:m=0
      ·subst b2;go_wp2_with fail;go_meet;exact⟨by rw[E.o,s];rfl,rfl⟩
      have b9:m-1<y.length:=by omega
      have a0:y.getD (m-1) 0=y[m-1]:=by rw[AK];simp[b9]
      have b3:=AB (by unfold O7;rw[AX b2,a0,bne,Ei];rfl:O7 y m=!((y[m-1].toNat:Int)==32));have c9:wrap64 ((m:Int)-1)=((m-1:Nat):Int):=by unfold wrap64;omega
      have d0:((m:Int)==0)=false:=by rw[AG];omega
      have d1:(y[m-1].toNat:Int)<256:=by have:=y[m-1].toNat_lt;omega
      cases b4:((y[m-1].toNat:Int)!=32)with
      |false=>
       have a1:=AB (Pb b4);go_wp2_with fail;go_meet;exact⟨by rw[E.o,b3.o,s,a1.o];rfl,rfl⟩
      |true=>
       have a1:=AB (Pa b4);go_wp2_with fail;go_meet;exact⟨by rw[E.o,b3.o,s,a1.o];rfl,rfl⟩
     have s:=AP.2 s;go_wp2_with fail;go_meet;exact⟨by rw[E.o,s];rfl,rfl⟩
    case rest=>
    obtain⟨rfl,d⟩:=hcut;obtain rfl:=d.symm;clear d;cases M:Ln y m with
    |false=>
     obtain⟨c,z⟩:=Y.o M;have H:=AB (by rw[←r.o,z]:A++J7 y (m+1) line (word++[y.getD m 0]) first=T);have T1:=AB (by rw[AE c];rfl:(y.drop m).take 1=[y[m]]);have n:y.getD m 0=y[m]:=by rw[AK];simp[c]
     rw[n]at H;clear M z Y Z r n;go_wp2_with fail;go_roundw
     case rel=>exact⟨m+1,A,line,word++[y[m]],first,rfl,rfl,by first|(simp;done)|(simp;exact T1.o),rfl,by go_num,by omega,by simp;omega,H,by first|rfl|trivial⟩
     simp[intOf];omega
    |true=>
     have z:=Z.o M;have H:=AB (by rw[←r.o,z,AJ]:(A++(Gf line word first).1)++J7 y (m+1) (Gf line word first).2 (if m<y.length then[y.getD m 0]else[]) false=T);have a2:=XN line word first
     have R:=AB (by rfl:Gf line word first=if !first&&(!word.isEmpty&&decide (76<line.length+word.length))then(line++[13,10],word)else([],line++word));clear M z Y Z r;generalize Gf line word first=fr at H a2 R
     obtain⟨N,f2⟩:=fr;simp only at H a2 R;go_upto_region 13 with fail;go_cut[71] (fun t g=>t=.bool (!first&&(!word.isEmpty&&decide (76<line.length+word.length)))∧g=wr)
     case first=>
      cases first with
      |true=>
       go_wp2_with fail;go_meet;exact⟨rfl,rfl⟩
      |false=>
       cases b5:word.isEmpty with
       |true=>
        have HW:=AB b5;go_wp2_with fail;go_meet;exact⟨by rw[HW.o];rfl,rfl⟩
       |false=>
        have HW:=AB b5;go_wp2_with fail;go_meet;exact⟨by rw[HW.o,Value.bool.injEq];simp only[EH,FB,decide_eq_decide];omega,rfl⟩
     case rest=>
     obtain⟨rfl,d⟩:=hcut;obtain rfl:=d.symm;clear d;generalize(!first&&(!word.isEmpty&&decide (76<line.length+word.length)))=q at R⊢;go_upto_if 71 with fail;go_cut[4,7] (fun s1 s2 g=>∃g1 G:Bs,s1=.string ⟨g1.toArray⟩∧s2=.string ⟨G.toArray⟩∧g1=A++N∧G++word=f2∧g=wr)
     case first=>
      cases q with
      |true=>
       have C:=R.o;simp only[DC,EC]at C;obtain⟨F,I⟩:=C;have E1:=AB F;have E2:=AB I;clear F I R;go_wp2_with fail;go_meet;exact⟨A++(line++[13,10]),[],by simp,rfl,by rw[E1.o],by rw[E2.o];rfl,rfl⟩
      |false=>
       have C:=R.o;simp only[BU,DJ,EC]at C;obtain⟨F,I⟩:=C;have E1:=AB F;have E2:=AB I;clear F I R;go_wp2_with fail;go_meet;exact⟨A,line,rfl,rfl,by rw[E1.o];simp,by rw[E2.o],rfl⟩
     case rest=>
     obtain⟨g1,G,rfl,rfl,a0,c0,d⟩:=hcut;obtain rfl:=d.symm;clear d R;subst a0 c0;have d2:A.length+N.length+(G.length+word.length)≤O.length+x.length+2+3*m+2:=by simp at a2;omega
     by_cases c:m<y.length
     ·have n:y.getD m 0=y[m]:=by rw[AK];simp[c]
      rw[AM c,n]at H;have T1:=AB (by rw[AE c];rfl:(y.drop m).take 1=[y[m]]);clear n;go_wp2_with fail;go_roundw
      case rel=>exact⟨m+1,A++N,G++word,[y[m]],false,by simp,by simp,by first|(simp;done)|(simp;exact T1.o),rfl,by go_num,by omega,by simp;omega,H,by first|rfl|trivial⟩
      simp[intOf];omega
     obtain rfl:m=y.length:=by omega
     rw[AI c]at H;go_wp2_with fail;go_roundw
     case rel=>exact⟨y.length+1,A++N,G++word,[],false,by simp,by simp,by simp,rfl,by go_num,by omega,by simp;omega,H,by first|rfl|trivial⟩
     simp[intOf]<;>omega
   obtain rfl:m=y.length+1:=by omega
   have H:=AB (show A++(line++[13,10])=T from by
    rw[←r.o];unfold J7;rw[AI (by omega)])
   have d3:¬((y.length:Int)+1≤y.length):=by omega
   clear r;go_wp2_with fail;go_roundw
   case rel=>exact⟨k+1,T,by first|(rw[←H.o];done)|(rw[←H.o];simp),by go_num,by omega,by rw[←H.o];simp;omega,HT,K,B⟩
   simp[intOf];omega
 obtain rfl:k=l.length:=by omega
 have X:=AB (by unfold D0;rw[←J.o,AQ];simp[F6]:D0 l=some (O++[13,10]));go_wp2_with fail;with_reducible refine(b7 _).mono ?_
 rintro e w2⟨rfl,hb⟩;have K:=K.next hb K.lt;have B:=B.trans (hb.mono B.size);have kc:=K.cell;have b8:=K.free;clear hb;go_wp2_with fail;refine AL (v:=.tuple #[.string ⟨(O++[13,10]).toArray⟩,.agg #[.int .i64 0,.int .i64 (-1)]]) (by simp[results,results215,go_sem,kc]) rfl ⟨Or.inl ⟨_,X.o,rfl⟩,(B.setCell (AC _) _).setCell (AC _) _⟩
noncomputable def N1:Code:=Ak (Ak (Ak (Ak (Ak (Ak ((f127.body).getD .skip))))))
noncomputable def O8:Code:=Ak N1
noncomputable def O9:Code:=Ak (Ak (Ak (Ak (Ak O8))))
noncomputable def U4:Code:=Ak O9
theorem U3.get{n:Int}{r:Option Bs}(h:U3 n r e):∃i j:Int,e=.returned (.tuple #[.string ⟨(r.getD []).toArray⟩,.agg #[.int .i64 i,.int .i64 j]]):=by
 rcases h with⟨t,rfl,rfl⟩|⟨rfl,i,rfl⟩
 ·exact⟨_,_,rfl⟩
 exact⟨_,_,rfl⟩
theorem XO(b x:Bs)(l:List Bs):Dw b (x::l)=45::45::(b++13::10::(x++[13,10]))++Dw b l:=by simp[Dw]
theorem XP{K M O P:Value}{Q l:Option Go.Addr}
  (o:E7 1 Bi w (.slice Q q.length d) q) (r:C7 w (.slice l L.length m) L) (n:L.length≤1000000∧∀f∈L,f.1.length≤1000000∧f.2.length≤1000000) (s:((D0 L).getD []).length≤1000000000000) (y3:(Dw b q).length≤1000000000000) (y4:b.length≤1000) (y5:q.length≤1000000)
  (t:∀u,Below w.heap.size w u→p (.returned (.tuple #[.string ⟨(((D0 L).getD [])++(Dw b q++45::45::(b++[45,45,13,10]))).toArray⟩,.int .i64 0])) u):
  Code.wp prog U4 (bodyPost prog f127 p) ⟨List.toArray (U::K::M::.pointer (some ⟨pb,0,none⟩)::N::O::P::S::T::.bool true::V::.slice Q q.length d::X::Y::Z::a0::a1::a2::.string ⟨b.toArray⟩::.slice l L.length m::a3::a4::a5::a6::a7::a8::a9::b0::b1::b2::b3::b4::b5::b6::b7::b8::b9::c0::c1::c2::c3::c4::c5::c6::c7::c8::c9::d0::d1::d2::d3::d4::d5::d6::d7::d8::d9::e0::e1::e2::e3::e4::e5::e6::e7::e8::e9::f0::f1::f2::f3::f4::f5::f6::f7::f8::f9::g0::g1::g2::g3::g4::g5::g6::g7::g8::g9::h0::h1::h2::h3::h4::h5::h6::h7::h8::h9::i0::i1::i2::i3::i4::i5::i6::i7::i8::i9::j0::j1::j2::j3::j4::j5::j6::j7::j8::j9::k0::k1::k2::k3::k4::k5::k6::k7::k8::k9::l0::l1::l2::l3::l4::l5::l6::l7::l8::l9::m0::m1::m2::m3::m4::m5::m6::m7::m8::m9::n0::n1::n2::n3::n4::n5::n6::n7::n8::n9::o0::o1::o2::o3::o4::o5::o6::o7::o8::o9::p0::p1::p2::p3::p4::p5::p6::p7::p8::p9::q0::q1::q2::q3::q4::q5::q6::q7::q8::q9::r0::r1::r2::r3::r4::r5::r6::r7::r8::r9::s0::s1::s2::s3::s4::s5::s6::s7::s8::s9::t0::t1::t2::t3::t4::t5::t6::t7::t8::t9::u0::u1::u2::u3::u4::u5::u6::u7::u8::u9::v0::v1::v2::v3::v4::v5::v6::v7::v8::v9::w0::w1::w2::w3::w4::w5::w6::w7::w8::w9::x0::x1::x2::[]),[]⟩ w:=by
 generalize x3:bodyPost prog f127 _=QQ;delta U4 O9 O8 N1 f127;dsimp only[Ak,Option.getD];subst x3;have R:=AB t;have c:=jJ _ L w r n.1 n.2;generalize D0 L=rw at c R s;generalize v:rw.getD []=h at R s;clear t r n;go_wp2_with fail;with_reducible refine c.mono ?_
 rintro e x4⟨y,z⟩;obtain⟨i,j,rfl⟩:=y.get;rw[v];have B:Below w.heap.size w (x4.alloc (.cells #[.int .i64 i,.int .i64 j] 113)):=z.alloc z.size _;have C:=o.next B;obtain⟨y6,y7,x5,D⟩:=C.opens Cw;injection x5 with x6 x7 x8;subst x6 x8;clear x7 c y v o C;have E:=AB D;clear D;go_wp2_with fail;generalize World.alloc _ _=W at B E⊢;go_loopw[28,201] (fun sv I wr=>∃(k:Nat)(a:Bs),sv=.string ⟨a.toArray⟩∧I=.int .i64 k∧k≤q.length∧Hid (a++Dw b (q.drop k)=h++Dw b q)∧wr=W) (fun _ I _=>q.length-(intOf I).toNat)
 case atStart=>exact⟨0,h,rfl,rfl,by omega,AB (by rw[DP]),rfl⟩
 obtain⟨k,a,rfl,rfl,hk,A,rfl⟩:=hrel;by_cases F:k<q.length
 ·obtain⟨g,rfl,_,G⟩:=E.o k F;have x9:wr.cell? ⟨g,k,none⟩=some (.string ⟨(q[k]).toArray⟩):=by
   have:=G 0 (by decide);simpa[Bi]using this
  have H:=AB (show a++(45::45::(b++13::10::(q[k]++[13,10])))++Dw b (q.drop (k+1))=h++Dw b q from by
   rw[←A.o,AE F,XO];simp)
  have J:=AF List.length H.o;simp only[AH,AO,BN]at J;have y0:a.length≤2000000000000:=by omega
  have y1:(q[k]).length≤2000000000000:=by omega
  clear A G J;generalize q[k]=x at x9 H y1;go_wp2_with fail;go_roundw
  case rel=>exact⟨k+1,_,rfl,by go_num,by omega,AB (by rw[←H.o]),by first|rfl|trivial⟩
  simp[intOf];omega
 obtain rfl:k=q.length:=by omega
 have H:=AB (by have:=A.o;rw[AQ]at this;simpa[Dw]using this:a=h++Dw b q);have y0:a.length≤2000000000000:=by have:=AF List.length H.o;simp at this;omega
 have y2:=H.o;subst y2;clear A H;go_wp2_with fail;exact R.o _ B
theorem XQ{qa M:Option Go.Addr}
  (k:A1 w K #[y5,.string ⟨body.toArray⟩,y6,y7] 44) (d:Bk w B (.slice M L.length O) L) (hB:B≤w.heap.size) (S:L.length≤999999∧∀f∈L,f.1.length≤1000000∧f.2.length≤1000000) (z8:body.length≤40000000) (l:∀g,g.length≤16→((D0 (L++[(Bl,g)])).getD []).length≤1000000000000)
  (T:∀m,Below B w m→P (.returned (.tuple #[.string ⟨(((D0 (L++[(Bl,(Ck body).1)])).getD [])++(Ck body).2).toArray⟩,.int .i64 0])) m):
  Code.wp prog U4 (bodyPost prog f127 P) ⟨List.toArray (u0::u1::u2::.pointer (some ⟨K,0,none⟩)::u4::u5::u6::u7::u8::.bool false::a0::.slice qa qs.length qc::a1::a2::a3::a4::a5::a6::.string ⟨b.toArray⟩::.slice M L.length O::a7::a8::a9::b0::b1::b2::b3::b4::b5::b6::b7::b8::b9::c0::c1::c2::c3::c4::c5::c6::c7::c8::c9::d0::d1::d2::d3::d4::d5::d6::d7::d8::d9::e0::e1::e2::e3::e4::e5::e6::e7::e8::e9::f0::f1::f2::f3::f4::f5::f6::f7::f8::f9::g0::g1::g2::g3::g4::g5::g6::g7::g8::g9::h0::h1::h2::h3::h4::h5::h6::h7::h8::h9::i0::i1::i2::i3::i4::i5::i6::i7::i8::i9::j0::j1::j2::j3::j4::j5::j6::j7::j8::j9::k0::k1::k2::k3::k4::k5::k6::k7::k8::k9::l0::l1::l2::l3::l4::l5::l6::l7::l8::l9::m0::m1::m2::m3::m4::m5::m6::m7::m8::m9::n0::n1::n2::n3::n4::n5::n6::n7::n8::n9::o0::o1::o2::o3::o4::o5::o6::o7::o8::o9::p0::p1::p2::p3::p4::p5::p6::p7::p8::p9::q0::q1::q2::q3::q4::q5::q6::q7::q8::q9::r0::r1::r2::r3::r4::r5::r6::r7::r8::r9::s0::s1::s2::s3::s4::s5::s6::s7::s8::s9::t0::t1::t2::t3::t4::t5::t6::t7::t8::t9::u3::u9::v0::v1::v2::v3::v4::v5::v6::v7::v8::v9::w0::w1::w2::w3::w4::w5::w6::w7::w8::w9::x0::x1::x2::x3::x4::x5::x6::x7::x8::x9::y0::y1::y2::y3::y4::[]),[]⟩ w:=by
 generalize y8:bodyPost prog f127 _=QQ;delta U4 O9 O8 N1 f127;dsimp only[Ak,Option.getD];subst y8;have R:=AB T;have y9:=AB l;have u:=AB S;have a:=AB (show(Ie body=true→Ck body=(Iz,body))∧(Ie body=false→(Ew body).length<(Fh body).length→Ck body=(Ib,Ew body))∧(Ie body=false→¬(Ew body).length<(Fh body).length→Ck body=(Hw,Fh body))from⟨fN,fun h z0=>fP h (by omega),fun h z0=>fO h (by omega)⟩);have A:∀W,Calls prog 216 #[.string ⟨body.toArray⟩] W fun e m=>e=.returned (.bool (Ie body))∧m=W:=fun W=>by
  have h:=uO body W (by omega);rw[tG body.length body (AC _)]at h;exact h
 have z:=fun W=>uT body W (by omega)
 have C:=fun W=>vP body W (by omega)
 have U:=k.cell;generalize Ie body=pq at A a;generalize z1:Ck body=sh at R a;have V:=Rr body;have X:(Ew body).length≤2*body.length+6:=To body 0;clear z1 T l S;generalize Fh body=q at z a V;generalize Ew body=p at C a X;go_upto_region 50 with fail;go_quiet(fail);have Q:=CB (AD w.heap.size w) nq;generalize w.drewN nq=z9 at Q⊢;have k:=k.next Q k.lt;have U:=k.cell;go_upto_if 225 with(with_reducible refine(A _).mono ?_;rintro e D⟨rfl,g⟩;obtain rfl:=g.symm);go_cut[32,33] (fun x y wx=>∃H t:Bs,x=.string ⟨H.toArray⟩∧y=.string ⟨t.toArray⟩∧Hid (sh=(H,t))∧H.length≤16∧t.length≤1000000000∧Below w.heap.size w wx)
 case first=>
  cases pq with
  |true=>
   have N:=AB (a.o.1 rfl);go_wp2_with fail;go_meet;exact⟨Iz,body,rfl,rfl,N,by decide,by omega,Q⟩
  |false=>
   have E:=AB (a.o.2.1 rfl);have F:=AB (a.o.2.2 rfl);clear a;go_wp2_with fail;with_reducible refine(z _).mono ?_
   rintro e z2⟨rfl,G⟩;have a':=(k.next G k.lt).cell;go_wp2_with fail;with_reducible refine(C _).mono ?_
   rintro e z3⟨rfl,n⟩;have o:=Q.trans ((G.trans (n.mono G.size)).mono Q.size);by_cases r:p.length<q.length
   ·have N:=AB (E.o r);have z4:(p.length:Int)<q.length:=by omega
    clear E F r;go_wp2_with fail;go_meet;exact⟨Ib,p,rfl,rfl,N,by decide,by omega,o⟩
   have N:=AB (F.o r);have z4:¬(p.length:Int)<q.length:=by omega
   clear E F r;go_wp2_with fail;go_meet;exact⟨Hw,q,rfl,rfl,N,by decide,by omega,o⟩
 case rest=>
 obtain⟨H,t,rfl,rfl,N,z5,b',I⟩:=hcut;obtain⟨D,rfl⟩:∃x:World,x=wc:=⟨_,rfl⟩;have J:=R.o;rw[N.o]at J;have R:=AB J;have d:=A0.next d I;have c':=I.size;clear a A z C V X N J U;have l:=y9.o H z5;have s:=AB (fun(W:World)(v:Value)(h:Bk W B v (L++[(Bl,H)]))=>jJ v _ W (A0.rd (by decide) Ah h) (by have:=u.o.1;simp;omega) (fun f c=>by
  rcases BP.1 c with c|c
  ·exact u.o.2 f c
  simp at c;subst c;exact⟨by show Bl.length≤1000000;decide,by simp;omega⟩))
 have d':=u.o.1;unfold Bl at s R l;generalize D0 (L++[([67,111,110,116,101,110,116,45,84,114,97,110,115,102,101,114,45,69,110,99,111,100,105,110,103],H)])=rw at s R l;generalize Y:rw.getD []=hd at R l;go_wp2_with(at_builtin;refine Ng rfl _ _ rfl B _ L ([67,111,110,116,101,110,116,45,84,114,97,110,115,102,101,114,45,69,110,99,111,100,105,110,103],H) D.heap.size 1 rfl (A0.alloc d _) rfl (Gl D ([67,111,110,116,101,110,116,45,84,114,97,110,115,102,101,114,45,69,110,99,111,100,105,110,103],H) _) (by omega) (by simp;omega) ?_;intro v' z2 z6 z7 Z);have B2:=((I.mono (B':=B) hB).alloc (by omega) (.cells #[.string ⟨#[67,111,110,116,101,110,116,45,84,114,97,110,115,102,101,114,45,69,110,99,111,100,105,110,103]⟩,.string ⟨H.toArray⟩] 92)).trans Z;have hW:=s.o _ _ z6;have e':=B2.size;clear z7 Z d s;with_reducible refine hW.mono ?_
 rintro e z3⟨hh,n⟩;obtain⟨i,j,rfl⟩:=hh.get;rw[Y];have o:=(B2.trans (n.mono (by omega))).alloc (by have:=n.size;omega) (.cells #[.int .i64 i,.int .i64 j] 113);clear hh Y hW;go_wp2_with fail;exact R.o _ o
noncomputable def jK:Code:=Fs (Ga (Ak (Ak (Fs (Fs (Ak (Ga O9)))))))
noncomputable def jL:Code:=Ak (Ga (Ak (Ak jK)))
theorem Xw.get(h:Xw B (Ay s) e w'):∃(m:Bs)(p:List A4)(k:Option Go.Addr)(K:Nat)(E:Int),e=.returned (.tuple #[.string ⟨m.toArray⟩,.slice k p.length K,.int .i64 E])∧J2 w' B (.slice k p.length K) p∧(Ay s).getD ([],[])=(m,p)∧m.length≤s.length∧Dh s.length p:=by
 rcases h with⟨m,l,v,H,b,d⟩|⟨H,b⟩
 ·have n:=Oy H;obtain⟨a,c,g,_⟩:=A0.rd (by decide) Ah d;subst g;exact⟨m,l,a,c,_,b,d,by rw[H];rfl,n.1,n.2⟩
 exact⟨[],[],_,_,_,b,A0.nil _ _ _ _ _,by rw[H];rfl,by simp,⟨by simp,fun f i=>by cases i⟩⟩
theorem XR{Q:Exit→Act→World→Prop}
  (K:A1 w F #[.string ⟨x.toArray⟩,.string ⟨y.toArray⟩] 92) (hv:y.length≤1000000) (hb:b.length≤1000000) (L:Gr w)
  (hN:∀(M:World)(z1 z2 z3 z4 z5 z6 z7 z8 z9 a' b' c' d' e' f' g' h' i' j' k' l' m' n' o' p' q' r' s' t' u' v' w' x' y' z' A' B' C' D' E':Value),A1 M F #[.string ⟨x.toArray⟩,.string ⟨(El y b).toArray⟩] 92→A5 F w.heap.size w M→Q .normal ⟨List.toArray (u0::u1::u2::u3::u4::u5::u6::u7::u8::.bool true::a0::a1::a2::a3::a4::a5::a6::a7::.string ⟨b.toArray⟩::a8::.bool true::a9::.pointer (some ⟨F,0,none⟩)::z1::z2::z3::z4::z5::b0::b1::b2::b3::b4::b5::b6::b7::b8::b9::c0::c1::c2::c3::c4::c5::c6::c7::c8::c9::d0::d1::d2::d3::d4::d5::d6::d7::d8::d9::e0::e1::e2::e3::e4::e5::e6::e7::e8::e9::f0::f1::f2::f3::f4::f5::f6::f7::f8::f9::g0::g1::g2::g3::g4::g5::g6::g7::g8::g9::h0::h1::h2::h3::h4::h5::h6::h7::h8::h9::i0::i1::i2::i3::i4::i5::i6::i7::i8::i9::j0::j1::j2::j3::j4::j5::j6::j7::j8::j9::k0::k1::k2::k3::k4::k5::k6::k7::k8::k9::l0::l1::l2::l3::l4::l5::l6::l7::l8::l9::m0::m1::m2::m3::m4::m5::m6::m7::m8::m9::n0::n1::n2::n3::.bool true::z6::z7::z8::z9::a'::b'::c'::d'::e'::f'::g'::h'::i'::j'::k'::l'::m'::n'::o'::p'::q'::r'::s'::t'::u'::v'::w'::x'::y'::z'::A'::B'::C'::D'::E'::n4::n5::n6::n7::n8::n9::o0::o1::o2::o3::o4::o5::o6::o7::o8::o9::p0::p1::p2::p3::p4::p5::p6::p7::p8::p9::q0::q1::q2::q3::q4::q5::q6::q7::q8::q9::r0::r1::r2::r3::r4::r5::r6::r7::r8::r9::s0::s1::s2::s3::s4::s5::s6::s7::s8::s9::t0::t1::t2::t3::t4::t5::[]),[]⟩ M):
  Code.wp prog jL Q ⟨List.toArray (u0::u1::u2::u3::u4::u5::u6::u7::u8::.bool true::a0::a1::a2::a3::a4::a5::a6::a7::.string ⟨b.toArray⟩::a8::v0::a9::.pointer (some ⟨F,0,none⟩)::v1::v2::v3::v4::v5::b0::b1::b2::b3::b4::b5::b6::b7::b8::b9::c0::c1::c2::c3::c4::c5::c6::c7::c8::c9::d0::d1::d2::d3::d4::d5::d6::d7::d8::d9::e0::e1::e2::e3::e4::e5::e6::e7::e8::e9::f0::f1::f2::f3::f4::f5::f6::f7::f8::f9::g0::g1::g2::g3::g4::g5::g6::g7::g8::g9::h0::h1::h2::h3::h4::h5::h6::h7::h8::h9::i0::i1::i2::i3::i4::i5::i6::i7::i8::i9::j0::j1::j2::j3::j4::j5::j6::j7::j8::j9::k0::k1::k2::k3::k4::k5::k6::k7::k8::k9::l0::l1::l2::l3::l4::l5::l6::l7::l8::l9::m0::m1::m2::m3::m4::m5::m6::m7::m8::m9::n0::n1::n2::n3::.bool true::v6::v7::v8::v9::w0::w1::w2::w3::w4::w5::w6::w7::w8::w9::x0::x1::x2::x3::x4::x5::x6::x7::x8::x9::y0::y1::y2::y3::y4::y5::y6::y7::y8::y9::z0::n4::n5::n6::n7::n8::n9::o0::o1::o2::o3::o4::o5::o6::o7::o8::o9::p0::p1::p2::p3::p4::p5::p6::p7::p8::p9::q0::q1::q2::q3::q4::q5::q6::q7::q8::q9::r0::r1::r2::r3::r4::r5::r6::r7::r8::r9::s0::s1::s2::s3::s4::s5::s6::s7::s8::s9::t0::t1::t2::t3::t4::t5::[]),[]⟩ w:=by
 let O':=bodyPost prog f127 (fun _ _=>True);delta jL jK O9 O8 N1 f127;dsimp only[Ak,Ga,Fs,Option.getD];have F':=AB hN;clear hN;have hK:=Rk y w (by omega) L.g;have N:=AB (by rfl:El y b=(Cz ((Ay y).getD ([],[])).1 (Ch ((Ay y).getD ([],[])).2 C9 b)).getD []);have kc:=K.cell;go_wp2_with fail;with_reducible refine hK.mono ?_
 rintro e P'⟨s,I⟩;obtain⟨m,P,O,t6,er,rfl,H,t7,Q',u⟩:=s.get;clear s hK kc;rw[t7]at N;have N:=AB (show El y b=(Cz m (Ch P C9 b)).getD []from N.o);have t8:=L.next I;have u:=u.mono hv;have hW:=fun W(G':C7 W (.slice O P.length t6) (Ch P C9 b))(d:Cb W)=>jH m _ _ W G' (by omega) (X2 hb u).1 (X2 hb u).2 d
 have t9:=AB (by simp:Ch P C9 b=P.take 0++Ch (P.drop 0) C9 b);have R':=u.1;have S':=I.size;clear t7;go_wp2_with fail;go_loopw[26,162] (fun dv R wr=>∃(k:Nat)(D:Bool)(C:List A4),dv=.bool D∧R=.int .i64 k∧k≤P.length∧C.length=P.length∧J2 wr w.heap.size (.slice O P.length t6) C∧Hid ((D=true∧C=Ch P C9 b)∨(D=false∧C=P∧Ch P C9 b=P.take k++Ch (P.drop k) C9 b))∧Gr wr∧Below w.heap.size w wr) (fun _ R _=>P.length-(intOf R).toNat)
 case atStart=>exact⟨0,false,P,rfl,rfl,by omega,rfl,H,AB (Or.inr ⟨rfl,rfl,t9.o⟩),t8,I⟩
 clear H t9 t8 I;obtain⟨k,D,C,rfl,rfl,T',v,H,S,z,B⟩:=hrel;by_cases U':k<P.length
 ·have o:k<C.length:=by omega
  obtain⟨g,H'⟩:∃g,O=some ⟨g,0,none⟩:=by
   obtain⟨a,c,h,A⟩:=C7.open (A0.rd (by decide) Ah H);injection h with h _ _;obtain⟨b,d,_⟩:=A k o;exact⟨b,h.trans d⟩
  subst H';have U:=A0.cellAt Ah H k o 0 (by decide);have V:=A0.cellAt Ah H k o 1 (by decide);have V':=A0.free H;have I':=A0.Fp H g rfl;have t:=H.Tn k o b;have G:=AB (fun(h:D=false)(A:(C[k]).1≠C9)=>show C=P∧Ch P C9 b=P.take (k+1)++Ch (P.drop (k+1)) C9 b from by
   rcases S.o with d|⟨_,n,E⟩
   ·rw[h]at d;cases d.1
   subst n;exact⟨rfl,fS o A E⟩)
  have l:=AB (fun(h:D=false)(A:(C[k]).1=C9)=>show C.set k ((C[k]).1,b)=Ch P C9 b from by
   rcases S.o with d|⟨_,n,E⟩
   ·rw[h]at d;cases d.1
   subst n;exact(fT o A E).symm)
  have T:=AB (fun(h:D=true)=>show C=Ch P C9 b from by
   rcases S.o with d|⟨n,_⟩
   ·exact d.2
   rw[h]at n;cases n)
  simp only[Au,BI,AR,AT]at U V;generalize C[k]=f at U V t G l;obtain⟨X,W'⟩:=f;simp only at U V t G l;have X':(0:Int)≤k:=by omega
  have Y':(k:Int)<P.length:=by omega
  cases D with
  |true=>
   have T:=AB (T.o rfl);generalize hq:(X==[98,111,117,110,100,97,114,121])=q;cases q with
   |true=>
    clear t G l;go_wp2_with fail;go_roundw
    case rel=>exact⟨k+1,true,C,rfl,by go_num,by omega,v,H,AB (Or.inl ⟨rfl,T.o⟩),z,B⟩
    simp[intOf];omega
   |false=>
    clear t G l;go_wp2_with fail;go_roundw
    case rel=>exact⟨k+1,true,C,rfl,by go_num,by omega,v,H,AB (Or.inl ⟨rfl,T.o⟩),z,B⟩
    simp[intOf];omega
  |false=>
   by_cases r:X=C9
   ·have l:=AB (l.o rfl r);have J':(X==[98,111,117,110,100,97,114,121])=true:=by rw[BG];exact r
    have K':Gr (wr.setCell ⟨g,k*2+1,none⟩ (.string ⟨b.toArray⟩)):=z.keep fun c hc=>Gp _ _ _ c (by have:=L.size;simp only;omega)
    have B2:=B.setCell (p:=⟨g,k*2+1,none⟩) I' (.string ⟨b.toArray⟩);rw[l.o]at t;clear G l S T r H;go_wp2_with fail;go_roundw
    case rel=>exact⟨k+1,true,Ch P C9 b,rfl,by go_num,by omega,X1 _ _ _,t,AB (Or.inl ⟨rfl,rfl⟩),K',B2⟩
    simp[intOf];omega
   have G:=AB (G.o rfl r);have J':(X==[98,111,117,110,100,97,114,121])=false:=by rw[AG];exact r
   clear l r S T t;go_wp2_with fail;go_roundw
   case rel=>exact⟨k+1,false,C,rfl,by go_num,by omega,v,H,AB (Or.inr ⟨rfl,G.o.1,G.o.2⟩),z,B⟩
   simp[intOf];omega
 obtain rfl:k=P.length:=by omega
 have HC:=AB (show C=Ch P C9 b from by
  rcases S.o with d|⟨_,n,E⟩
  ·exact d.2
  rw[E,CQ,AQ,n];simp[Ch])
 have J:=A0.rd (by decide) Ah H;rw[HC.o,←v]at J;have L':C.length=P.length:=v;have Y:=hW _ (by rw[L']at J;exact J) z.g;generalize Cz m (Ch P C9 b)=Z' at Y N;clear S hW J HC;go_wp2_with fail;with_reducible refine Y.mono ?_
 rintro e M'⟨s,u9⟩;obtain⟨i,j,rfl⟩:=s.get;rw[←N.o];have B3:=B.trans (u9.mono B.size);have Z:=K.next B3 K.lt;have hkf:=Z.free;have hkc:=Z.cell;have N':A1 (M'.setCell ⟨F,1,none⟩ (.string ⟨(El y b).toArray⟩)) F #[.string ⟨x.toArray⟩,.string ⟨(El y b).toArray⟩] 92:=Z.set 1 _;clear s Y u9 H;go_wp2_with fail;refine F'.o _ _ _ _ _ _ _ _ _ _ _ _ _ _ _ _ _ _ _ _ _ _ _ _ _ _ _ _ _ _ _ _ _ _ _ _ _ _ _ _ _ N' ?_;exact(A5.of B3).set _
end Go.Proofs.YtignjjnflcpiiaaGreatDoor
