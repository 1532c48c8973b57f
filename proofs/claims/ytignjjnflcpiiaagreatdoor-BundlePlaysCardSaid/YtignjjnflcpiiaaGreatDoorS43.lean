/- Whether a head has parts, and by which boundary, by the d -/
import Derived.Test.YtignjjnflcpiiaaGreatDoorS37
import Derived.Test.YtignjjnflcpiiaaGreatDoorS39
import Derived.Test.YtignjjnflcpiiaaGreatDoorS41
set_option linter.all false
set_option maxHeartbeats 16000000
set_option maxRecDepth 100000
namespace Go.Proofs.YtignjjnflcpiiaaGreatDoor
open Go Go.RowKit Proofs.Tryz Lib
def Rl:Option (Option Bs)→Value
 |none=>.tuple #[.string ⟨#[]⟩,.bool false,.int .i64 3]
 |some none=>.tuple #[.string ⟨#[]⟩,.bool false,.int .i64 0]
 |some (some b)=>.tuple #[.string ⟨b.toArray⟩,.bool true,.int .i64 0]
theorem Pt(l:List A4){s t:Bs}(h:A2 s=A2 t):Ai l s=Ai l t:=by
 induction l with
 |nil=>rfl
 |cons f l ih=>unfold Ai;rw[h,ih]
def O6:Bs:=[99,111,110,116,101,110,116,45,116,121,112,101]
theorem Y0:A2 O6=A2 Bu:=by decide
theorem WX(b:Bs):J0 b=(!(decide (1≤(b.length:Int))&&decide ((b.length:Int)≤70))||(b.getLast?==some 32)):=by
 unfold J0;rcases DE b with h|⟨i,c,h⟩
 ·subst h;rfl
 rw[DF]at h;subst h;have H:hasSuffix (i++[c]) [32]=((i++[c]).getLast?==some 32):=by
  unfold hasSuffix;rw[DZ,GR,BG];constructor
  ·rintro⟨t,a⟩;rw[←a];simp
  intro h;simp at h;subst h;exact⟨i,rfl⟩
 rw[H];have d:(i++[c]).isEmpty=false:=by simp
 have e:decide (1≤((i++[c]).length:Int))=true:=by simp;omega
 rw[d,e];by_cases h:70<(i++[c]).length
 ·rw[BD h,AX (by omega)];rfl
 rw[AX h,BD (by omega)];rfl
theorem jC(v:Value)(l:List A4)(w:World)(o:C7 w v l)(k:Dh 1000000 l)(E:Gr w):Calls prog 206 #[v] w fun e F=>e=.returned (Rl (Bg l))∧Below w.heap.size w F:=by
 have G:=P8 v l O6 w o (k.ok (by decide)) (by decide);rw[Pt l Y0]at G;have H:=AB (by rfl:Bg l=match Ai l Bu with|none=>some none|some v=>match Ay v with|none=>none|some (m,p)=>if hasPrefix m Jv then(match C5 p C9 with|none=>none|some b=>if J0 b then none else some (some b))else some none);have a:=fun x=>Jw (n:=1000000) (s:=Bu) (v:=x) k
 unfold O6 at G;generalize Ai l _=r at G H a;clear k o;cases r with
 |none=>
  have N:=AB (show Bg l=some none from H.o);clear H a;simp only[EP,FE]at G;go_enter func206,ntmps206;go_wp2_with fail;with_reducible refine G.mono ?_
  rintro e J⟨rfl,B⟩;go_wp2_with fail;go_ret3;exact⟨by rw[N.o];rfl,B⟩
 |some x=>
  have hx:=a x rfl;clear a;simp only[CT,EK]at G;have K:=fun W L=>Rk x W (by omega) L
  have c:=fun m p(h:Ay x=some (m,p))=>Oy h
  have H:=AB (show Bg l=match Ay x with|none=>none|some (m,p)=>if hasPrefix m Jv then(match C5 p C9 with|none=>none|some b=>if J0 b then none else some (some b))else some none from H.o);generalize Ay x=rk at K H c;go_enter func206,ntmps206;go_wp2_with fail;with_reducible refine G.mono ?_
  rintro e J⟨rfl,B⟩;have O:=(E.next B).g;clear G;go_wp2_with fail;with_reducible refine(K _ O).mono ?_
  rintro e t⟨S,u⟩;have d:=B.trans (u.mono B.size);clear K u;rcases S with⟨m,p,T,rfl,rfl,y⟩|⟨rfl,rfl⟩
  case inr=>
   have N:=AB (show Bg l=none from H.o);clear H c;go_wp2_with fail;go_ret3;exact⟨by rw[N.o];rfl,d⟩
  obtain⟨a0,g⟩:=c m p rfl;have H:=AB (show Bg l=if hasPrefix m Jv then(match C5 p C9 with|none=>none|some b=>if J0 b then none else some (some b))else some none from H.o);have M:=Jc m Jv t;have z:=A0.rd (by decide) Ah y;have P:=cT T p C9 t z (by have:=g.1;omega);have f:=fun b=>Si (s:=C9) (v:=b) g
  clear c y z g;unfold Jv at M H;unfold C9 at P H f;generalize hasPrefix m _=U at M H;generalize C5 p _=R at P H f;cases U with
  |false=>
   have N:=AB (show Bg l=some none from H.o);clear H;go_wp2_with fail;with_reducible refine M.mono ?_
   rintro e V⟨rfl,rfl⟩;go_wp2_with fail;go_ret3;exact⟨by rw[N.o];rfl,d⟩
  |true=>
   go_wp2_with fail;with_reducible refine M.mono ?_
   rintro e V⟨rfl,rfl⟩;go_wp2_with fail;with_reducible refine P.mono ?_
   rintro e X⟨rfl,A⟩;have i:=d.trans (A.mono d.size);clear P M A;have Q:=AB (show Bg l=if J0 (R.getD [])then none else some (some (R.getD []))from by
    rw[H.o];cases R with
    |none=>rfl
    |some b=>rfl)
   have Y:(R.getD []).length≤1000000:=by
    cases R with
    |none=>simp
    |some b=>have:=f b rfl;simp;omega
   clear H f;generalize R.getD []=b at Q Y⊢;generalize R.isSome=bs;rw[WX]at Q;have I:=Jh (b.length:Int) 1 70 X;generalize j:(decide (1≤(b.length:Int))&&decide ((b.length:Int)≤70))=q at I Q;cases q with
   |false=>
    have N:=AB (by rw[Q.o];rfl:Bg l=none);clear j Q;go_wp2_with fail;with_reducible refine I.mono ?_
    rintro e C⟨rfl,rfl⟩;go_wp2_with fail;go_ret3;exact⟨by rw[N.o];rfl,i⟩
   |true=>
    have h1:1≤b.length:=by simp at j;omega
    have Z:b.length-1<b.length:=by omega
    have a:(b.getLast?==some 32)=(b[b.length-1]==32):=by
     rw[List.getLast?_eq_getElem?,AZ Z];rfl
    have a1:wrap64 ((b.length:Int)-1)=((b.length-1:Nat):Int):=by unfold wrap64;omega
    have a2:(b[b.length-1].toNat:Int)<256:=by have:=b[b.length-1].toNat_lt;omega
    rw[a,Ei]at Q;clear j a;by_cases D:(b[b.length-1].toNat:Int)=32
    ·have N:=AB (by rw[Q.o,D];rfl:Bg l=none);clear Q;go_wp2_with fail;with_reducible refine I.mono ?_
     rintro e C⟨rfl,rfl⟩;go_wp2_with fail;go_ret3;exact⟨by rw[N.o];rfl,i⟩
    have N:=AB (show Bg l=some (some b)from by
     rw[Q.o];have:((b[b.length-1].toNat:Int)==((32:UInt8).toNat:Int))=false:=AG.2 D;rw[this];rfl)
    clear Q;go_wp2_with fail;with_reducible refine I.mono ?_
    rintro e C⟨rfl,rfl⟩;go_wp2_with fail;go_ret3;exact⟨by rw[N.o];rfl,i⟩
theorem WY:Ay []=none:=by kernel_rfl
theorem WZ(n:Nat)(R:Ao)(p:A8)(w:World)(o:A7 (fun _=>True) n w R p)(k:Dh 1000000 p.head)(q:Gr w):Calls prog 68 #[Bm R] w fun e C=>e=.returned (.bool (I4 p))∧Below w.heap.size w C:=by
 cases n with
 |zero=>exact o.elim
 |succ n=>
 obtain⟨h,b,m,P⟩:=p;obtain⟨⟨d,f,g⟩,B,M,⟨s,t,u⟩⟩:=R;obtain⟨rfl,rfl,i,_⟩:=o;simp only[Bm,A9,A8.head]at i k⊢;have G:=fun W j=>P8 (.slice d f g) h O6 W j (k.ok (by decide)) (by decide)
 simp only[Pt h Y0]at G;have H:=AB (show I4 (.mk h B M P)=match Ai h Bu with
  |none=>false
  |some v=>match Ay v with
   |none=>false
   |some (m,_)=>m==Nw from rfl)
 have c:=fun x(h:Ai _ Bu=some x)=>Jw (n:=1000000) k h
 unfold Bu at G H c;unfold O6 at G;generalize Ai h _=r at G H c;have D:(r.getD []).length≤1000000:=by
  cases r with
  |none=>simp
  |some x=>have:=c x rfl;simp;omega
 have H:=AB (show I4 (.mk h B M P)=match Ay (r.getD [])with
   |none=>false
   |some (m,_)=>m==Nw from by
  rw[H.o];cases r with
  |none=>simp only[EP,WY]
  |some x=>rfl)
 generalize r.getD []=x at G H D;generalize r.isSome=ok at G;have A:=(AD w.heap.size w).alloc (AC _) (.cells #[.slice d f g,.string ⟨B.toArray⟩,.bool M,.slice s t u] 44);have E:=A1.new w #[.slice d f g,.string ⟨B.toArray⟩,.bool M,.slice s t u] 44;have F:=q.next A;have y:=i.rd.next A;have L:=E.cell;have G:=G _ y;have K:=fun W j=>Rk x W (by omega) j
 generalize Ay x=N at H K;clear i y q c;go_enter func68,ntmps68;go_wp2_with fail;with_reducible refine G.mono ?_
 rintro e O⟨rfl,a⟩;have I:=(F.next a).g;go_wp2_with fail;with_reducible refine(K _ I).mono ?_
 rintro e Q⟨J,z⟩;rcases J with⟨m,l,v,rfl,rfl,_⟩|⟨rfl,rfl⟩
 ·have H:=AB (show I4 (.mk h B M P)=(m==Nw)from H.o);go_wp2_with fail;go_ret;exact⟨Ba (by rw[H.o];rfl),A.trans ((a.trans (z.mono a.size)).mono (by simp))⟩
 have H:=AB (show I4 (.mk h B M P)=false from H.o);go_wp2_with fail;go_ret;exact⟨Ba H.o.symm,A.trans ((a.trans (z.mono a.size)).mono (by simp))⟩
theorem XA:(prog.info? 64).map (fun i=>(i.zero,i.size,i.bytes))=some (some (.agg #[.string ByteArray.empty,.int .i64 0]),2,24):=by kernel_rfl
abbrev Rm(w:World)(B:Nat)(v:Value)(l:List Fw):Prop:=A0 64 2 Hp w B v l
def Pu(B:Nat)(r:Option (List Fw))(e:Ending)(w':World):Prop:=(∃l v,r=some l∧e=.returned (.tuple #[v,.int .i64 0])∧Rm w' B v l)∨(r=none∧e=.returned (.tuple #[.slice none 0 0,.int .i64 2]))
theorem jD{Q:Exit→Act→World→Prop}{O:Array Oper}{rest:List Oper}{o:Oper}{a:Act}{w:World}(H:o.guard=none)(s x:Operand)
  (d:o.op=.call {callee:=.builtin .append,args:=#[s,x],argTypes:=#[61,61]}) (B:Nat) (v:Value) (xs:List Fw) (y:Fw) (b c:Nat)
  (e:a.eval s=v) (n:Rm w B v xs) (f:a.eval x=.slice (some ⟨b,0,none⟩) 1 c) (g:∀j u,([y].flatMap Hp)[j]?=some u→w.cell? ((⟨b,0,none⟩:Go.Addr).add j)=some u) (k:xs.length≤1000000000000) (i:B≤w.heap.size)
  (h:∀V W,Rm W B V (xs++[y])→w.grownBy W v.ownBlock→Below B w W→(V.ownBlock=v.ownBlock∨V.ownBlock=some w.heap.size)→wpList prog O Q rest (a.put o.dst V) W):wpList prog O Q (o::rest) a w:=
 Kt (α:=Fw) (cs:=Hp) (size:=2) (z:=.agg #[.string ByteArray.empty,.int .i64 0]) Jp Xf XA rfl (by decide) underlying61 H s x d B v xs [y] ⟨b,0,none⟩ 1 c rfl e n f g (by simp;omega) (by unfold maxLen;simp;omega) i h
theorem jE(P:Nat→Prop)(bp:Nat)(b:Aw)(i:Int)(w:World)(h:F5 P w bp b)(a1:Iq b)(hg:Gr w)(j3:-9223372036854775808≤i)(j4:i≤9223372036854775807):Calls prog 24 #[.pointer (some ⟨bp,0,none⟩),.int .i64 i] w fun e w'=>Pu w.heap.size (D1 b i) e w'∧Below w.heap.size w w':=by
 have hb:=F5.Ad (Q:=fun _=>True) (fun _ _ _=>trivial) h;have HB:=AB hb;obtain⟨b2,sa,si,_,m,d1,a2,_⟩:=hb;obtain⟨s0,sn,sc⟩:=sa;have f4:sn=b.places.length:=by
  obtain⟨a,c,e,_⟩:=a2;injection e
 subst f4;have f5:=a1.places;have d2:=a1.whole;have j5:=d2.head.2.2;obtain⟨f6,a3,a4,d3⟩:=d1.parts;obtain⟨⟨ra,rn,rc⟩,rb,rm,⟨j6,f7,j7⟩⟩:=b2;have f8:f7=b.whole.parts.length:=by
  obtain⟨a,c,e,_⟩:=a3;injection e with _ e _;exact e.trans a4
 subst f8;unfold Gi at m;simp only[A9]at m a2 a3;have kb:=m.cell;have hz:wrap64 ((b.whole.parts.length:Int)-1)=(b.whole.parts.length:Int)-1:=by unfold wrap64;omega
 have I:=Jh i 0 ((b.whole.parts.length:Int)-1) w;clear h d1;by_cases J:i<0
 ·have N:=AB (by unfold D1;rw[AM J]:D1 b i=none);rw[AX (show¬(0:Int)≤i by omega),Bool.false_and]at I;go_enter func24,ntmps24;go_wp2_with fail;with_reducible refine I.mono ?_
  rintro e w1⟨rfl,v⟩;obtain rfl:=v.symm;go_wp2_with fail;go_ret2;exact⟨Or.inr ⟨N.o,rfl⟩,AD _ _⟩
 by_cases f9:i<b.places.length
 case neg=>
  have N:=AB (by unfold D1;rw[AI J,CW (by omega)]:D1 b i=none);rw[AX (show¬i≤(b.whole.parts.length:Int)-1 by omega),GU]at I;clear J f9;go_enter func24,ntmps24;go_wp2_with fail;with_reducible refine I.mono ?_
  rintro e w1⟨rfl,v⟩;obtain rfl:=v.symm;go_wp2_with fail;go_ret2;exact⟨Or.inr ⟨N.o,rfl⟩,AD _ _⟩
 rw[BD (show(0:Int)≤i by omega),BD (show i≤(b.whole.parts.length:Int)-1 by omega),Bool.and_self]at I;obtain⟨k,rfl⟩:∃k:Nat,i=k:=⟨i.toNat,by omega⟩;have hk:k<b.places.length:=by omega
 have b3:k<b.whole.parts.length:=by omega
 have N:=AB (show D1 b (k:Int)=some (Fb b b.whole.parts[k] b.places[k])from by
  unfold D1;rw[AI J];simp[hk,b3])
 obtain⟨pb,rfl,_,g0,l⟩:=a3.at Db k (by omega);obtain⟨ab,rfl,_,g1,b4⟩:=a2.at Jo k hk;have M:=d3 k (by omega) b3;have a5:=d2.part (AN b3);have d4:=a1.placeL _ (AN hk);have z:=l 0 (by decide);have C:=l 1 (by decide);have D:=l 2 (by decide);have E:=l 3 (by decide);clear l d3;generalize b.whole.parts[k]=p at N M a5;generalize b.places[k]=A at N d4 b4;generalize f6[k]'(by omega)=b2 at M z C D E;have d5:=M.body;obtain⟨⟨qa,qn,qc⟩,qb,qm,⟨g2,g3,g4⟩⟩:=b2;simp only at d5;subst d5;simp only[D5,A9,BI,AR,AT]at z C D E;have j8:(0:Int)≤k:=by omega
 have j9:(k:Int)<b.places.length:=by omega
 have k0:(k:Int)<b.whole.parts.length:=by omega
 have a6:=WZ 3 ((qa,qn,qc),p.body,qm,(g2,g3,g4)) p w M ((Em a5.head.1).mono (by decide)) hg;simp only[Bm,A9]at a6;have O:=AB (by rfl:Fb b p A=if I4 p then(Bf p.body).map fun x=>Fr b A x.2.2 else[]);have b5:=fun W=>Xu p.body W (by have:=a5.head.2.1;omega)
 have b6:=Rb p.body;have g5:=(Jb p.body).2;have k1:=a5.head.2.1;generalize Bf p.body=L at O b5 b6 g5;generalize I4 p=ht at a6 O;clear M J a3 a2;go_enter func24,ntmps24;go_wp2_with fail;with_reducible refine I.mono ?_
 rintro e w0⟨rfl,v⟩;obtain rfl:=v.symm;clear I hz v;go_wp2_with fail;with_reducible refine a6.mono ?_
 rintro e w1⟨rfl,q⟩;cases ht with
 |false=>
  have N:=AB (by rw[N.o,O.o];rfl:D1 b (k:Int)=some []);go_wp2_with fail;go_ret2;exact⟨Or.inl ⟨[],_,N.o,rfl,A0.nil _ _ _ _ _⟩,q⟩
 |true=>
 have N:=AB (by rw[N.o,O.o];rfl:D1 b (k:Int)=some (L.map fun x=>Fr b A x.2.2));have g6:=(m.next q m.lt).cell;have g7:=(q.cell (p:=⟨pb,k*4+1,none⟩) g0).trans C;have d6:=hg.next q;have d7:=q.size;clear a6 O z C D E kb;go_wp2_with fail;with_reducible refine(b5 _).mono ?_
 rintro e s⟨v2,rfl,d8,b7⟩;have d9:=A0.Dn (by decide) Gq d8;obtain⟨la,lc,g8,_⟩:=d9.rd;subst g8;have R:=q.trans (b7.mono d7);have g9:=d6.next b7;have b8:=R.size;have h0:=AB b6;clear b5 b7 g6 g7 d6 d8 b6 q;have h1:=AB b4;have k2:=AB f5;have h2:b.places.length≤1000000:=by omega
 have h3:b.ids.length≤1000000:=by have:=a1.ids;omega
 have h4:=AB (HB.o.next R);have e3:=m.next R m.lt;clear b4 m HB d7;go_wp2_with fail;go_loopw[6,41] (fun ov iv wr=>∃(j:Nat)(o:List Fw),iv=.int .i64 j∧j≤L.length∧o.length=j∧Rm wr s.heap.size ov o∧Hid (o++(L.drop j).map (fun x=>Fr b A x.2.2)=L.map fun x=>Fr b A x.2.2)∧Below s.heap.size s wr) (fun _ iv _=>L.length-(intOf iv).toNat)
 case atStart=>exact⟨0,[],rfl,by omega,rfl,A0.nil _ _ _ _ _,AB (by simp),AD _ _⟩
 obtain⟨j,o,rfl,hj,k3,H,a7,B⟩:=hrel;by_cases b9:j<L.length
 ·obtain⟨lb,rfl,_,c0,l⟩:=d9.at Gq j b9;have e4:=h0.o _ (AN b9);have S:=AB (show∀y,Fr b A (L[j]).2.2=y→(o++[y])++(L.drop (j+1)).map (fun x=>Fr b A x.2.2)=L.map fun x=>Fr b A x.2.2 from fun y hy=>by
   rw[←a7.o,AE b9,DM,hy];simp)
  have e0:=(B.cell (p:=⟨lb,j*3+0,none⟩) c0).trans (l 0 (by decide));have e1:=(B.cell (p:=⟨lb,j*3+1,none⟩) c0).trans (l 1 (by decide));have e2:=(B.cell (p:=⟨lb,j*3+2,none⟩) c0).trans (l 2 (by decide));clear l a7;generalize L[j]=x at e4 S e0 e1 e2;obtain⟨U,V,X⟩:=x;simp only[Hm,BI,AR,AT]at e4 S e0 e1 e2;have kx:=A1.new wr #[.int .i64 (U:Int),.int .i64 (V:Int),.string ⟨X.toArray⟩] 96;have d:=(AD wr.heap.size wr).alloc (AC _) (.cells #[.int .i64 (U:Int),.int .i64 (V:Int),.string ⟨X.toArray⟩] 96);have h5:(wr.alloc (.cells #[.int .i64 (U:Int),.int .i64 (V:Int),.string ⟨X.toArray⟩] 96)).heap.size=wr.heap.size+1:=by simp
  have K:=A1.new (wr.alloc (.cells #[.int .i64 (U:Int),.int .i64 (V:Int),.string ⟨X.toArray⟩] 96)) #[.string ⟨X.toArray⟩,.int .i64 (-1)] 64;have c1:=d.alloc (by simp) (.cells #[.string ⟨X.toArray⟩,.int .i64 (-1)] 64);have c2:=kx.alloc (.cells #[.string ⟨X.toArray⟩,.int .i64 (-1)] 64);rw[h5]at K;have h6:=AB (A0.Do H);have H:=A0.next H c1;have Y:=B.trans (c1.mono B.size);have c3:=g9.next Y;have hR:=fun W=>Wj X W (by omega)
  have Z:=AB (show Fr b A X=match Cl X with
   |none=>(X,-1)
   |some a=>(Kl (Be A a),Ec b (Be A a))from rfl)
  have a4:=fun a(h:Cl X=some a)=>My h
  unfold Mx at hR;generalize Cl X=ra at hR Z a4;have h7:=kx.cell;have e5:=c2.cell;have h8:((wr.alloc (.cells #[.int .i64 (U:Int),.int .i64 (V:Int),.string ⟨X.toArray⟩] 96)).alloc (.cells #[.string ⟨X.toArray⟩,.int .i64 (-1)] 64)).heap.size=wr.heap.size+1+1:=by simp
  have k4:=B.size;clear d c1 B;go_wp2_with fail;generalize World.alloc (World.alloc _ _) _=W1 at c2 K H Y c3 e5 h8⊢;with_reducible refine(hR _).mono ?_
  rintro e t⟨rfl,F⟩;have K:=K.next F K.lt;have H:=A0.next H F;have u:=Y.trans (F.mono Y.size);have c4:=c3.next F;have k5:=F.size;clear hR F c3 Y e0 e1 e2 h7 e5 kx c2;cases ra with
  |none=>
   have T:=AB (S.o (X,-1) Z.o);have d:=(AD t.heap.size t).alloc (AC _) (.cells A3.zero.cells 36);have K:=K.next d K.lt;have H:=A0.next H d;have n:=u.trans (d.mono u.size);have h9:=d.size;simp only[A3.zero]at K H n h9⊢;have i0:=K.cell;clear d c4 u S Z;go_wp2_with(at_builtin;refine jD rfl _ _ rfl s.heap.size _ o (X,-1) _ 1 rfl (A0.alloc H _) rfl (Ty _ (X,-1) _ _ (by simp)) (by omega) (by have:=n.size;simp at*;omega) ?_;intro v' w6 i1 k6 a8 i2);go_wp2_with fail;go_roundw
   case rel=>exact⟨j+1,o++[(X,-1)],by go_num,by omega,by simp;omega,i1,T,(n.alloc n.size _).trans a8⟩
   simp[intOf];omega
  |some a=>
   have i3:=a4 a rfl;have k7:=Qx A a;have e6:=AB (show Fr b A X=(Kl (Be A a),Ec b (Be A a))from Z.o);have T:=AB (S.o _ e6.o);have d:=(AD t.heap.size t).alloc (AC _) (.cells a.cells 36);have k9:=A1.new t a.cells 36;have c5:=fun W hW=>cW A a W (by unfold A3.len at d4;omega) (by unfold A3.len at i3;omega) hW
   clear S Z e6;go_upto_region 11 with fail;generalize World.alloc _ _=w5 at k9 d⊢;have n:=u.trans (d.mono u.size);have i4:=K.next d K.lt;have kd:=A1.drew (e3.next n e3.lt);have a0:=A1.drew k9;have e7:Cb w5.drew:=(c4.next d.drew).g;have f:=fun i hi=>((R.trans (n.mono b8)).drew.cell (p:=⟨ab,k*8+i,none⟩) g1).trans (h1.o i hi)
   have z:=f 0 (by decide);have C:=f 1 (by decide);have D:=f 2 (by decide);have E:=f 3 (by decide);have e8:=f 4 (by decide);have e9:=f 5 (by decide);have f0:=f 6 (by decide);have f1:=f 7 (by decide);simp only[Fv,BI,AR,AT]at z C D E e8 e9 f0 f1;clear f;have a9:=fun W=>sL (Be A a) W (by omega)
   have b0:=fun W hW=>Xk (fun _=>True) bp b (Be A a) W hW (by omega) h2 h3
   generalize Be A a=r at c5 T a9 b0;go_cut[62] (fun _ G=>A1 G t.heap.size r.cells 36∧Below t.heap.size w5 G)
   case first=>
    have k8:=kd.cell;have l0:=a0.cell;have l1:=a0.free;have i5:=d.size;clear a9 b0;go_region_law((go_simp;with_reducible refine(c5 _ e7).mono ?_;rintro e w6⟨rfl,a8⟩;have c6:=a0.next a8 a0.lt;have l2:=c6.cell;have l3:=c6.free;have K6:=C4 a8 (w0:=w5) ((AD w5.heap.size w5).drew)));all_goals
     go_wp2_with fail;go_meet;exact⟨A1.iE c6 _ _ _ _ _ _ _ _,iF (K6.mono i5) (AC _) _ _ _ _ _ _ _ _⟩
   case rest=>
   obtain⟨i6,K7⟩:=hcut;obtain⟨w7,rfl⟩:∃x:World,x=wc:=⟨_,rfl⟩;have b1:=d.trans K7;have H:=A0.next H b1;have c7:=K.next b1 K.lt;have B7:=u.trans (b1.mono u.size);have i7:=AB (h4.o.next B7);have c8:=A1.drew i6;have l4:=c8.cell;have l5:=A1.drew c7;have l6:=B7.size;clear c5 K7 d b1 n kd k9 a0 e7 z C D E e8 e9 f0 f1 c4 i4;generalize Ec b r=fv at b0 T;generalize Kl r=wv at a9 T;go_upto_region 12 with fail;go_cut[66] (fun _ G=>A1 G (wr.heap.size+1) #[.string ⟨wv.toArray⟩,.int .i64 fv] 64∧(∀g,g<wr.heap.size→G.heap[g]?=w7.heap[g]?)∧Below s.heap.size s G)
   case first=>
    have i8:=c7.lt;go_region_law((first
     |(go_simp;with_reducible refine(b0 _ (i7.o.next K8.o)).mono ?_;rintro e w9⟨rfl,i9⟩;have K9:=AB (C4 i9 (w0:=w7) K8.o);have c9:=c7.next K9.o i8;have l7:=c9.free;have l8:=c9.cell)
     |(go_simp;with_reducible refine(a9 _).mono ?_;rintro e w8⟨rfl,f2⟩;have l9:=(c8.next f2 c8.lt).cell;have K8:=AB (C4 f2 (w0:=w7) ((AD w7.heap.size w7).drew)))))
    all_goals
     go_wp2_with fail;go_meet;exact⟨(c9.set 0 _).set 1 _,fun g hg=>(Gp _ _ _ g (by simp only;omega)).trans ((Gp _ _ _ g (by simp only;omega)).trans (K9.o.block g (by omega))),((B7.trans (K9.o.mono B7.size)).setCell (by simp only;omega) _).setCell (by simp only;omega) _⟩
   case rest=>
   obtain⟨j0,f3,d0⟩:=hcut;obtain⟨m0,rfl⟩:∃x:World,x=wc:=⟨_,rfl⟩;have H:=A0.Ll H fun g hv=>f3 g (h6.o g hv)
   have i0:=j0.cell;clear f3;go_wp2_with(at_builtin;refine jD rfl _ _ rfl s.heap.size _ o (wv,fv) _ 1 rfl (A0.alloc H _) rfl (Ty _ (wv,fv) _ _ (by simp)) (by omega) (by have:=d0.size;simp at*;omega) ?_;intro v' m1 j1 m2 j2 i2);go_wp2_with fail;go_roundw
   case rel=>exact⟨j+1,o++[(wv,fv)],by go_num,by omega,by simp;omega,j1,T,(d0.alloc d0.size _).trans j2⟩
   simp[intOf];omega
 obtain rfl:j=L.length:=by omega
 have HD:=AB (by rw[N.o,←a7.o,AQ];simp:D1 b (k:Int)=some o);clear a7 N;go_wp2_with fail;go_ret2;exact⟨Or.inl ⟨o,_,HD.o,rfl,A0.mono H b8⟩,R.trans (B.mono b8)⟩
def Y1:Bs:=[99,111,110,116,101,110,116,45,108,111,99,97,116,105,111,110]
theorem XB:A2 Y1=A2 Li:=by decide
theorem jF(base:A3)(v:Value)(l:List A4)(w:World)(D:C7 w v l)(E:Dh 1000000 l)(Q:base.len≤1000000)(F:Gr w):Calls prog 57 #[base.val,v] w fun e S=>e=.returned (Dp base l).val∧Below w.heap.size w S:=by
 have G:=fun W m=>P8 v l Y1 W m (E.ok (by decide)) (by decide)
 simp only[Pt l XB]at G;have N:=AB (show Dp base l=match Ai l Li with
  |none=>base
  |some v=>match Cl v with
   |none=>base
   |some a=>Cd (Be base a)from rfl)
 have g:=fun x(h:Ai l Li=some x)=>Jw (n:=1000000) E h
 unfold Li at G N g;unfold Y1 at G;generalize Ai l _=r at G N g;have d:=((AD w.heap.size w).alloc (AC _) (.cells base.cells 36)).alloc (by simp) (.cells Bb 36);have b:=(A1.new w base.cells 36).alloc (.cells Bb 36);have H:=A1.new (w.alloc (.cells base.cells 36)) Bb 36;rw[AV]at H;have o:=F.next d;have p:=D.next d;have T:((w.alloc (.cells base.cells 36)).alloc (.cells Bb 36)).heap.size=w.heap.size+1+1:=by simp
 clear D F;go_enter func57,ntmps57;go_wp2_with fail;generalize World.alloc _ _=W1 at d b H o p T⊢;with_reducible refine(G _ p).mono ?_
 rintro e U⟨rfl,B⟩;have b:=b.next B b.lt;have H:=H.next B H.lt;have q:=d.trans (B.mono (by omega));have I:=o.next B;have a0:=B.size;clear G B d o p;cases r with
 |none=>
  have N:=AB (show Dp base l=base from N.o);simp only[EP,FE];have K:=b.cell;have k:=H.cell;have J:=H.free;go_wp2_with fail;refine AL (v:=base.val) (by simp[results,results57,go_sem,k]) rfl ⟨by rw[N.o],?_⟩;go_grown
 |some x=>
  have hx:=g x rfl;have R:=Wj x U (by omega);have N:=AB (show Dp base l=match Cl x with
   |none=>base
   |some a=>Cd (Be base a)from N.o)
  have i:=fun a(h:Cl x=some a)=>My h
  unfold Mx at R;clear g;generalize Cl x=V at R N i;simp only[CT,EK];go_wp2_with fail;with_reducible refine R.mono ?_
  rintro e s⟨rfl,c⟩;have b:=b.next c b.lt;have H:=H.next c H.lt;have f:=q.trans (c.mono q.size);have L:=I.next c;have a1:=c.size;clear R c I q;cases V with
  |none=>
   have N:=AB (show Dp base l=base from N.o);have b:=b.alloc (.cells A3.zero.cells 36);have H:=H.alloc (.cells A3.zero.cells 36);have j:=f.alloc f.size (.cells A3.zero.cells 36);simp only[A3.zero]at b H j⊢;have K:=b.cell;have k:=H.cell;have J:=H.free;go_wp2_with fail;refine AL (v:=base.val) (by simp[results,results57,go_sem,k]) rfl ⟨by rw[N.o],?_⟩;go_grown
  |some a=>
   have i:=i a rfl;have N:=AB (show Dp base l=Cd (Be base a)from N.o);have X:=Qx base a;have t:=fun W m=>cW base a W (by unfold A3.len at Q;omega) (by unfold A3.len at i;omega) m
   generalize Be base a=y at t N X;have M:y.len≤10000000:=by omega
   have u:=fun W=>bM y W (by unfold A3.len at M;omega) (by unfold A3.len at M;omega)
   generalize Cd y=z at u N;have O:=A1.new s a.cells 36;have b:=b.alloc (.cells a.cells 36);have H:=H.alloc (.cells a.cells 36);have j:=f.alloc f.size (.cells a.cells 36);have Y:=L.next ((AD s.heap.size s).alloc (AC _) (.cells a.cells 36));have K:=b.cell;have Z:=O.cell;clear L f;go_wp2_with fail;with_reducible refine(t _ Y.g).mono ?_
   rintro e w5⟨rfl,A⟩;have H:=H.next A H.lt;have P:=j.trans (A.mono j.size);clear t A K Z b O;go_wp2_with fail;with_reducible refine(u _).mono ?_
   rintro e w6⟨rfl,C⟩;have H:=H.next C H.lt;have B6:=P.trans (C.mono P.size);have k:=H.cell;have J:=H.free;clear u C;go_wp2_with fail;refine AL (v:=z.val) (by simp[results,results57,go_sem,k]) rfl ⟨by rw[N.o],?_⟩;go_grown
def U3(n:Int)(r:Option Bs)(e:Ending):Prop:=(∃t,r=some t∧e=.returned (.tuple #[.string ⟨t.toArray⟩,.agg #[.int .i64 0,.int .i64 (-1)]]))∨(r=none∧∃i:Int,e=.returned (.tuple #[.string ⟨#[]⟩,.agg #[.int .i64 n,.int .i64 i]]))
variable {k:Nat}{α β:Type}
theorem XC(f:α→List β){l:List α}(h:k<l.length):(l.take (k+1)).flatMap f=(l.take k).flatMap f++f l[k]:=by
 rw[AU h,CR];simp
theorem XD(p:α→Bool)(q:Bool){l:List α}(h:k<l.length):((q&&(l.take k).all p)&&p l[k])=(q&&(l.take (k+1)).all p):=by
 rw[AU h,GN,GV];simp
theorem XE(m:Bs)(l:List A4):Cz m l=if Ji m&&(A2 m==m)then(Dq l).map (m++·)else none:=by
 rw[cB];rfl
theorem jG(y:Bs):(y.any fun c=>!Bx c)=!(y.all Bx):=by
 induction y with
 |nil=>rfl
 |cons c y ih=>rw[FH,FA,ih];cases Bx c<;>simp
theorem jH(m:Bs)(v:Value)(l:List A4)(w:World)(hr:C7 w v l)(hm:m.length≤1000000)(c7:l.length≤1000000)(b0:∀f∈l,f.1.length≤1000000∧f.2.length≤1000000)(hg:Cb w):Calls prog 73 #[.string ⟨m.toArray⟩,v] w fun e Z=>U3 1 (Cz m l) e∧Below w.heap.size w Z:=by
 have b9:=AB b0;clear b0;obtain⟨a,c8,rfl,hc⟩:=hr.open;have HC:=AB hc;clear hc hr;have F:=AB (XE m l);have d:=A1.new w #[.int .i64 0,.int .i64 0] 113;have B:=(AD w.heap.size w).alloc (AC _) (.cells #[.int .i64 0,.int .i64 0] 113);generalize c0:w.alloc (.cells #[.int .i64 0,.int .i64 0] 113)=w1 at d B;have M:=gU m w1 (by omega) (hg.next B);go_enter func73,ntmps73;go_upto_region 1 with fail;clear c0;go_cut[21] (fun t r=>t=.bool (!(Ji m&&(A2 m==m)))∧A1 r w.heap.size #[.int .i64 0,.int .i64 0] 113∧Below w.heap.size w r)
 case first=>
  clear F;generalize o:Ji m=q at M⊢;have s:=AB o;clear o;cases q with
  |false=>
   go_wp2_with fail;with_reducible refine M.mono ?_
   rintro e w2⟨rfl,H⟩;have d:=d.next H d.lt;have B:=B.trans (H.mono B.size);clear H M;go_wp2_with fail;go_meet;exact⟨by rw[s.o];rfl,d,B⟩
  |true=>
   go_wp2_with fail;with_reducible refine M.mono ?_
   rintro e w2⟨rfl,H⟩;have d:=d.next H d.lt;have B:=B.trans (H.mono B.size);clear H M;go_wp2_with fail;with_reducible refine(I1 m _ (by omega)).mono ?_
   rintro e w3⟨rfl,H⟩;have d:=d.next H d.lt;have B:=B.trans (H.mono B.size);clear H;by_cases o:A2 m=m
   ·have Q:(A2 m !=m)=false:=by simp[o]
    have a0:=AB (by simp[o]:(A2 m==m)=true);clear o;go_wp2_with fail;go_meet;exact⟨by rw[s.o,a0.o];rfl,d,B⟩
   have Q:(A2 m !=m)=true:=by simp[o]
   have a0:=AB (by simp[o]:(A2 m==m)=false);clear o;go_wp2_with fail;go_meet;exact⟨by rw[s.o,a0.o];rfl,d,B⟩
 case rest=>
 clear M d B;obtain⟨rfl,d,B⟩:=hcut;obtain⟨w2,rfl⟩:∃x:World,x=wc:=⟨_,rfl⟩;generalize(Ji m&&(A2 m==m))=a1 at F⊢;cases a1 with
 |false=>
  have HN:=AB (by rw[F.o];rfl:Cz m l=none);have G:=d.cell 0;have I:=d.cell 1;have z:=d.free;go_wp2_with fail;with_reducible refine(P4 1 _).mono ?_
  rintro e w3⟨rfl,H⟩;have d:=d.next H d.lt;have B:=B.trans (H.mono B.size);clear H G I z;have n:=d.cell;have z:=d.free;go_wp2_with fail;refine AL (v:=.tuple #[.string ⟨#[]⟩,.agg #[.int .i64 1,.int .i64 (-1)]]) (by simp[results,results73,go_sem,n]) rfl ⟨Or.inr ⟨HN.o,-1,rfl⟩,(B.setCell (AC _) _).setCell (AC _) _⟩
 |true=>
  have HN:=AB (by rw[F.o];rfl:Cz m l=(Dq l).map (m++·));clear F;simp only[ED];go_wp2_with fail;go_loopw[6,26] (fun t i wr=>∃(k:Nat)(O:Bs),i=.int .i64 k∧k≤l.length∧t=.string ⟨O.toArray⟩∧O.length≤1000000+k*4000000∧Hid ((Dq (l.drop k)).map (O++·)=Cz m l)∧A1 wr w.heap.size #[.int .i64 0,.int .i64 0] 113∧Below w.heap.size w wr) (fun _ i _=>l.length-(intOf i).toNat)
  case atStart=>exact⟨0,m,rfl,by omega,rfl,by omega,AB HN.o.symm,d,B⟩
  clear B d;obtain⟨k,O,rfl,hk,rfl,c9,a2,d,B⟩:=hrel;by_cases b1:k<l.length
  ·obtain⟨b,rfl,b2,h1,h2⟩:=HC.o k b1;have hf:=b9.o l[k] (AN _);have P:=AB (by rw[AE b1];rfl:Dq (l.drop k)=match Gd l[k]with|none=>none|some x=>(Dq (l.drop (k+1))).map (x++·));have c1:=(B.cell (p:=⟨b,k*2,none⟩) b2).trans h1;have c2:=(B.cell (p:=⟨b,k*2+1,none⟩) b2).trans h2;clear h1 h2;generalize l[k]=f at hf P c1 c2;obtain⟨x,y⟩:=f;simp only at hf c1 c2;obtain⟨hx,hy⟩:=hf;have b3:=d.lt;have g:=A1.new wr #[.string ⟨x.toArray⟩,.string ⟨y.toArray⟩] 119;have d:=d.alloc (.cells #[.string ⟨x.toArray⟩,.string ⟨y.toArray⟩] 119);have R:=B.alloc B.size (.cells #[.string ⟨x.toArray⟩,.string ⟨y.toArray⟩] 119);have S:=AB (fun(h:(Ae x&&(A2 x==x)&&y.all Bx)=false)=>show Cz m l=none from by rw[←a2.o,P.o,dE (by rw[jG,Bool.not_not];exact h)];rfl);have Y:=AB (fun(h:(Ae x&&(A2 x==x)&&y.all Bx)=true)=>show(Dq (l.drop (k+1))).map ((O++(59::32::(x++61::D3 y)))++·)=Cz m l from by rw[←a2.o,P.o,dF (by rw[jG,Bool.not_not];exact h)];cases Dq (l.drop (k+1))<;>simp);clear P B;go_upto_region 7 with fail;generalize b4:wr.heap.size=pb at g⊢;have d0:w.heap.size<pb:=by rw[←b4];exact(show w.heap.size<wr.heap.size from b3)
   generalize(wr.alloc (.cells #[.string ⟨x.toArray⟩,.string ⟨y.toArray⟩] 119))=w1 at g d R⊢;clear b4;have J:∀W,Calls prog 125 #[.string ⟨x.toArray⟩] W fun e Z=>e=.returned (.bool (Ae x))∧Below W.heap.size W Z:=fun W=>(P9 x W (by omega)).mono fun _ _ h=>⟨h.1,h.2▸AD _ _⟩
   have T:=fun W=>I1 x W (by omega)
   go_cut[9,10] (fun v ok r=>v=.string ⟨#[]⟩∧ok=.bool (Ae x&&(A2 x==x))∧Below w1.heap.size w1 r)
   case first=>
    have d1:=(A1.drew g).cell;have K0:=(AD w1.heap.size w1).drew;generalize b5:Ae x=c3 at J;have a3:=AB b5;clear b5;cases c3 with
    |false=>
     first
     |go_region_law((first
      |(go_simp;with_reducible refine(J _).mono ?_;rintro e b6⟨rfl,H⟩;have K:=C4 H (w0:=w1) (by assumption);have n:=(g.next K g.lt).cell)
      |(go_simp;with_reducible refine(T _).mono ?_;rintro e b7⟨rfl,H⟩;have K:=C4 H (w0:=w1) (by assumption);have n:=(g.next K g.lt).cell)))
     |fail
     all_goals
      go_wp2_with fail;go_meet;exact⟨rfl,by rw[a3.o];rfl,K⟩
    |true=>
     by_cases o:A2 x=x
     ·have s:=AB (by simp[o]:(A2 x==x)=true);first
      |go_region_law((first
       |(go_simp;with_reducible refine(J _).mono ?_;rintro e b6⟨rfl,H⟩;have K:=C4 H (w0:=w1) (by assumption);have n:=(g.next K g.lt).cell)
       |(go_simp;with_reducible refine(T _).mono ?_;rintro e b7⟨rfl,H⟩;have K:=C4 H (w0:=w1) (by assumption);have n:=(g.next K g.lt).cell)))
      |fail
      all_goals
       go_wp2_with fail;go_meet;exact⟨rfl,by rw[a3.o,s.o];simp,K⟩
     have s:=AB (by simp[o]:(A2 x==x)=false);have Q:=s.o;first
     |go_region_law((first
      |(go_simp;with_reducible refine(J _).mono ?_;rintro e b6⟨rfl,H⟩;have K:=C4 H (w0:=w1) (by assumption);have n:=(g.next K g.lt).cell)
      |(go_simp;with_reducible refine(T _).mono ?_;rintro e b7⟨rfl,H⟩;have K:=C4 H (w0:=w1) (by assumption);have n:=(g.next K g.lt).cell)))
     |fail
     all_goals
      go_wp2_with fail;go_meet;exact⟨rfl,by rw[a3.o,s.o];rfl,K⟩
   case rest=>
   clear J T;obtain⟨rfl,rfl,K⟩:=hcut;obtain⟨w2,rfl⟩:∃x:World,x=wc:=⟨_,rfl⟩;have g:=g.next K g.lt;have d:=d.next K d.lt;have B:=R.trans (K.mono R.size);clear K R;generalize(Ae x&&(A2 x==x))=U at S Y⊢;clear c1 c2 b3;have n:=g.cell;go_wp2_with fail;clear n;go_loopw[9,10,45] (fun t q i wr=>∃j:Nat,i=.int .i64 j∧j≤y.length∧t=.string ⟨((y.take j).flatMap Dk).toArray⟩∧q=.bool (U&&(y.take j).all Bx)∧A1 wr pb #[.string ⟨x.toArray⟩,.string ⟨y.toArray⟩] 119∧A1 wr w.heap.size #[.int .i64 0,.int .i64 0] 113∧Below w.heap.size w wr) (fun _ _ i _=>y.length-(intOf i).toNat)
   case atStart=>exact⟨0,rfl,by omega,by simp,by simp,g,d,B⟩
   clear g d B;obtain⟨j,rfl,hj,rfl,rfl,g,d,B⟩:=hrel;have n:=g.cell;by_cases a4:j<y.length
   ·have A:=AB (XD Bx U a4);have E:=AB (XC Dk a4);have a5:((y.take j).flatMap Dk).length≤2000000:=by
     have:=Wo (y.take j);rw[BV]at this;omega
    generalize(y.take j).flatMap Dk=C at E a5⊢;generalize b8:y[j]=c at A E;have c4:=AB b8;clear b8;generalize(U&&(y.take j).all Bx)=Q at A⊢;have hI:=fun W=>Jh (c.toNat:Int) 32 126 W
    rw[←Ni]at hI;go_upto_region 11 with fail;go_cut[12] (fun cv r=>cv=.int .u8 (c.toNat:Int)∧r=wr)
    case first=>
     go_wp2_with fail;go_meet;exact⟨by rw[c4.o],rfl⟩
    case rest=>
    obtain⟨rfl,L⟩:=hcut;obtain rfl:=L.symm;clear L n;have d2:(c.toNat:Int)<256:=by have:=c.toNat_lt;omega
    go_upto_region 12 with fail;go_cut[10] (fun q r=>q=.bool (Q&&Bx c)∧r=wr)
    case first=>
     clear A;cases Q with
     |false=>
      go_wp2_with fail;go_meet;exact⟨rfl,rfl⟩
     |true=>
      go_wp2_with fail;with_reducible refine(hI _).mono ?_
      rintro e w9⟨rfl,rfl⟩;go_wp2_with fail;go_meet;exact⟨rfl,rfl⟩
    case rest=>
    obtain⟨rfl,L⟩:=hcut;obtain rfl:=L.symm;clear L hI;generalize(Q&&Bx c)=q2 at A⊢;by_cases u:c=34
    ·have N:=AB (show(y.take (j+1)).flatMap Dk=C++[92]++[c] by rw[E.o,u];simp[Dk]);have c5:((c.toNat:Int)==34)=true:=by rw[u];rfl
     clear E u;go_wp2_with fail;go_roundw
     case rel=>exact⟨j+1,by go_num,by omega,by rw[N.o];simp,by rw[A.o],g.alloc _,d.alloc _,B.alloc B.size _⟩
     simp[intOf];omega
    have c5:((c.toNat:Int)==34)=false:=by rw[AG];exact fun e=>u (BJ.1 (by simp;omega))
    by_cases D:c=92
    ·have N:=AB (show(y.take (j+1)).flatMap Dk=C++[92]++[c] by rw[E.o,D];simp[Dk]);have c6:((c.toNat:Int)==92)=true:=by rw[D];rfl
     clear E u D;go_wp2_with fail;go_roundw
     case rel=>exact⟨j+1,by go_num,by omega,by rw[N.o];simp,by rw[A.o],g.alloc _,d.alloc _,B.alloc B.size _⟩
     simp[intOf];omega
    have N:=AB (show(y.take (j+1)).flatMap Dk=C++[c] by rw[E.o];simp[Dk,u,D]);have c6:((c.toNat:Int)==92)=false:=by rw[AG];exact fun e=>D (BJ.1 (by simp;omega))
    clear E u D;go_wp2_with fail;go_roundw
    case rel=>exact⟨j+1,by go_num,by omega,by rw[N.o],by rw[A.o],g.alloc _,d.alloc _,B.alloc B.size _⟩
    simp[intOf];omega
   obtain rfl:j=y.length:=by omega
   have e1:y.take y.length=y:=CQ;rw[e1];clear e1 hj a4;have a6:=dG y;have V:=AB (by rfl:D3 y=if Ae y then y else 34::(y.flatMap Dk++[34]));have a5:=Wo y;have a7:=P9 y wr (by omega);generalize y.flatMap Dk=C at V a5⊢;generalize(U&&y.all Bx)=a1 at S Y⊢;cases a1 with
   |false=>
    have a8:=AB (S.o rfl);have G:=d.cell 0;have I:=d.cell 1;have z:=d.free;go_wp2_with fail;refine AL (v:=.tuple #[.string ⟨#[]⟩,.agg #[.int .i64 1,.int .i64 k]]) (by simp[results,results73,go_sem,G,I]) rfl ⟨Or.inr ⟨a8.o,k,rfl⟩,(B.setCell (AC _) _).setCell (AC _) _⟩
   |true=>
    have X:=AB (Y.o rfl);clear S Y;generalize Ae y=ty at V a7;go_wp2_with fail;with_reducible refine a7.mono ?_
    rintro e w9⟨rfl,rfl⟩;clear a7;cases ty with
    |true=>
     have a9:=AB (by rw[V.o];rfl:D3 y=y);rw[a9.o]at X a6;go_wp2_with fail;go_roundw
     case rel=>exact⟨k+1,O++(59::32::(x++61::y)),by go_num,by omega,by simp,by simp;omega,X,d,B⟩
     simp[intOf];omega
    |false=>
     have a9:=AB (by rw[V.o];rfl:D3 y=34::(C++[34]));rw[a9.o]at X a6;simp only[AO,AH,BN]at a6;go_wp2_with fail;go_roundw
     case rel=>exact⟨k+1,O++(59::32::(x++61::34::(C++[34]))),by go_num,by omega,by simp,by simp;omega,X,d,B⟩
     simp[intOf];omega
  have a8:=AB (show Cz m l=some O by
   have:l.drop k=[]:=BK (by omega);rw[←a2.o,this];simp[Dq])
  have G:=d.cell 0;have I:=d.cell 1;have z:=d.free;go_wp2_with fail;with_reducible refine(P4 0 _).mono ?_
  rintro e w3⟨rfl,H⟩;have d:=d.next H d.lt;have B:=B.trans (H.mono B.size);clear H G I z;have n:=d.cell;have z:=d.free;go_wp2_with fail;refine AL (v:=.tuple #[.string ⟨O.toArray⟩,.agg #[.int .i64 0,.int .i64 (-1)]]) (by simp[results,results73,go_sem,n]) rfl ⟨Or.inl ⟨O,a8.o,rfl⟩,(B.setCell (AC _) _).setCell (AC _) _⟩
end Go.Proofs.YtignjjnflcpiiaaGreatDoor
