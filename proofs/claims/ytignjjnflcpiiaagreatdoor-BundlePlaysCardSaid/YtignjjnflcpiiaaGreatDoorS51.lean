/- BundlePlays holds: bundles are the document's. No condition. -/
import Derived.Test.YtignjjnflcpiiaaGreatDoorCards
import Derived.Test.YtignjjnflcpiiaaGreatDoorS02
import Derived.Test.YtignjjnflcpiiaaGreatDoorS49
import Derived.Test.YtignjjnflcpiiaaGreatDoorS50
import Derived.Test.YtignjjnflcpiiaaGreatDoorTie
set_option linter.all false
set_option maxHeartbeats 16000000
set_option maxRecDepth 100000
namespace Go.Proofs.YtignjjnflcpiiaaGreatDoor
open Go Go.RowKit Proofs.Tryz Lib
variable {L:List Fw}{m j:Int}{w' w:World}{e:Ending}{r:Option (List Fw)}{B n:Nat}{b:Aw}
theorem Tz.get(i:m=if r.isSome then 0 else 2)(j:L=r.getD [])(h:Tz B r e w'):∃(d:Option Go.Addr)(f:Nat)(E:Value),e=.returned (.tuple #[.slice d L.length f,E])∧Aq 2 Hp (fun _=>True) w' (.slice d L.length f) L∧Pi E m:=by
 subst i j;rcases h with⟨l,v,H,b,k⟩|⟨H,b⟩
 ·have g:=Aq.Ad (Q:=fun _=>True) (A0.Dn (by decide) Jp k) (fun _ _ _=>trivial);obtain⟨a,c,n,_⟩:=g.rd;subst n H;exact⟨a,c,_,b,g,Or.inl ⟨rfl,rfl⟩⟩
 subst H;exact⟨none,0,_,b,⟨none,0,rfl,fun h=>by simp at h⟩,Or.inr rfl⟩
theorem Pu.YX(i:m=if r.isSome then 0 else 2)(j:L=r.getD [])(h:Pu B r e w'):∃(d:Option Go.Addr)(f:Nat),e=.returned (.tuple #[.slice d L.length f,.int .i64 m])∧Aq 2 Hp (fun _=>True) w' (.slice d L.length f) L:=by
 subst i j;rcases h with⟨l,v,H,b,k⟩|⟨H,b⟩
 ·have g:=Aq.Ad (Q:=fun _=>True) (A0.Dn (by decide) Jp k) (fun _ _ _=>trivial);obtain⟨a,c,n,_⟩:=g.rd;subst n H;exact⟨a,c,b,g⟩
 subst H;exact⟨none,0,b,⟨none,0,rfl,fun h=>by simp at h⟩⟩
theorem A7.YY{P:Nat→Prop}{r:Ao}{p:A8}(h:A7 P (n+1) w r p):∃R:List Ao,Aq 4 D5 P w (A9 r.2.2.2) R∧R.length=p.parts.length∧∀k(c:k<R.length)(d:k<p.parts.length),A7 P n w R[k] p.parts[k]:=by
 obtain⟨e,f,m,g⟩:=p;obtain⟨_,_,_,R,H,a,b⟩:=h;exact⟨R,H,a,b⟩
theorem YZ(i:Int)(h:Iq b):((D1 b i).getD []).length≤60002:=by
 unfold D1;split
 ·simp
 split
 ·next p a H c=>
  have d:=(h.whole.part (DD H)).head.2.1;have l:=(Jb p.body).2;simp only[CT];unfold Fb;split
  ·rw[DS];omega
  simp
 simp
theorem ZA(a:b.places.length=n)(c:j≤n):∃(x:A3)(e:Value),iB (M8 b j)=.tuple #[x.val,e]∧((∃k:Nat,∃h:k<b.places.length,j=k∧x=b.places[k]∧e=.nilIface)∨((j<0∨j=n)∧x=A3.zero∧e=.iface 30 (.int .i64 2))):=by
 unfold M8;by_cases H:j<0
 ·rw[AM H];exact⟨_,_,rfl,Or.inr ⟨Or.inl H,rfl,rfl⟩⟩
 rw[AI H];obtain⟨k,rfl⟩:∃k:Nat,j=k:=⟨j.toNat,by omega⟩;rw[DO];by_cases h:k<b.places.length
 ·rw[AZ h];exact⟨_,_,rfl,Or.inl ⟨k,h,rfl,rfl,rfl⟩⟩
 rw[CW (by omega)];exact⟨_,_,rfl,Or.inr ⟨Or.inr (by omega),rfl,rfl⟩⟩
theorem ZB(s:Bs)(a:A3)(f:Bs)(w:World)(hg:Gz w)(hs:s.length≤4611686018427387903)(ha:a.len≤4611686018427387903)(hf:f.length≤4611686018427387903):Calls prog 4 #[.string ⟨s.toArray⟩,a.val,.string ⟨f.toArray⟩] w fun e w'=>e=.returned (.bool true)∧Below w.heap.size w w':=by
 have F:=(AD w.heap.size w).alloc (AC _) (.cells a.cells 36);have A:=A1.new w a.cells 36;have a5:=hg.next F;by_cases l:s.length≤2500
 case neg=>
  have h2:(2500:Int)<(s.length:Int):=by omega
  go_enter func4,ntmps4;go_wp2_with fail;go_ret;exact⟨rfl,F⟩
 have h2:¬(2500:Int)<(s.length:Int):=by omega
 have hT:=fun W=>sK a W (by omega)
 have f2:=A.cell;by_cases j4:a.len≤400
 case neg=>
  rw[AX j4]at hT;go_enter func4,ntmps4;go_wp2_with fail;with_reducible refine(hT _).mono ?_
  rintro e w1⟨rfl,N⟩;go_wp2_with fail;go_ret;exact⟨rfl,F.trans (N.mono F.size)⟩
 rw[BD j4]at hT;by_cases u9:f.length≤300
 case neg=>
  have o0:(300:Int)<(f.length:Int):=by omega
  go_enter func4,ntmps4;go_wp2_with fail;with_reducible refine(hT _).mono ?_
  rintro e w1⟨rfl,N⟩;go_wp2_with fail;go_ret;exact⟨rfl,F.trans (N.mono F.size)⟩
 have o0:¬(300:Int)<(f.length:Int):=by omega
 have b1:=fun W(y:Gz W)=>YW s W (by omega) y.r
 have b2:=fun W(y:Gz W)=>WM s W (by omega) y.r
 cases a9:Cx s with
 |error n=>
  rw[a9]at b1 b2;clear a9;go_enter func4,ntmps4;go_wp2_with fail;generalize World.alloc _ _=W1 at F A a5 f2⊢;with_reducible refine(hT _).mono ?_
  rintro e w1⟨rfl,N⟩;have a0:=a5.next N;have d:=F.trans (N.mono F.size);go_wp2_with fail;with_reducible refine(b1 _ a0).mono ?_
  rintro e w2⟨G,o⟩;have b5:=a0.next o;have D:=d.trans (o.mono d.size);rcases G with⟨b',T,l,_⟩|⟨n',I,o1,rfl⟩
  case inl=>cases l
  injection I with I;subst I;go_wp2_with fail;with_reducible refine(b2 _ b5).mono ?_
  rintro e w3⟨G,b3⟩;have c0:=b5.next b3;have U:=D.trans (b3.mono D.size);rcases G with⟨b',T,l,_⟩|⟨n',I,rfl⟩
  case inl=>cases l
  injection I with I;subst I;have Z:=Pj (.iface 30 (.int .i64 n)) n n w3 (Or.inr rfl) c0.r;rw[EJ]at Z;have v4:¬n=0:=by omega
  clear o1 b1 b2 hT;go_wp2_with fail;with_reducible refine Z.mono ?_
  rintro e r⟨rfl,b4⟩;go_wp2_with fail;go_ret;exact⟨rfl,U.trans (b4.mono U.size)⟩
 |ok b=>
 have J:=iK a9;have v5:=VU a9;obtain⟨o2,o3,f3,f4⟩:=YS a9;rw[a9]at b1 b2;clear a9;go_enter func4,ntmps4;go_wp2_with fail;generalize World.alloc _ _=W1 at F A a5 f2⊢;with_reducible refine(hT _).mono ?_
 rintro e w1⟨rfl,N⟩;have a0:=a5.next N;have A:=A.next N A.lt;have d:=F.trans (N.mono F.size);go_wp2_with fail;with_reducible refine(b1 _ a0).mono ?_
 rintro e w2⟨G,o⟩;have b5:=a0.next o;have A:=A.next o A.lt;have D:=d.trans (o.mono d.size);rcases G with⟨b',R,l,rfl,a6⟩|⟨n',l,_⟩
 case inr=>cases l
 injection l with l;subst l;have a6:=F5.Ad (Q:=fun _=>True) (fun _ _ _=>trivial) a6;go_wp2_with fail;with_reducible refine(b2 _ b5).mono ?_
 rintro e w3⟨G,b3⟩;have c0:=b5.next b3;have A:=A.next b3 A.lt;have a6:=a6.next b3;have U:=D.trans (b3.mono D.size);rcases G with⟨b',T,l,rfl,b6⟩|⟨n',l,_⟩
 case inr=>cases l
 injection l with l;subst l;have b6:=Er.Ad (Q:=fun _=>True) (fun _ _ _=>trivial) b6;have Z:=Pj .nilIface 0 0 w3 (Or.inl ⟨rfl,rfl⟩) c0.r;rw[EJ]at Z;clear b1 b2 hT f2 N o b3 F d D a5 a0 b5;go_wp2_with fail;with_reducible refine Z.mono ?_
 rintro e r⟨rfl,b4⟩;have j5:=c0.next b4;have A:=A.next b4 A.lt;have a6:=a6.next b4;have b6:=b6.next b4;have B4:=U.trans (b4.mono U.size);clear Z b4 U c0;have c1:b.places.length≤1000000:=by have h:=J.places;have h2:=J.whole.head;omega
 have c2:b.ids.length≤1000000:=by have h:=J.ids;have h2:=J.whole.head;omega
 have f5:=AB a6;have d6:=AB b6;have HG:=AB j5;have f6:∀W,Below r.heap.size r W→Calls prog 13 #[.pointer (some ⟨T,0,none⟩)] W fun e w'=>e=.returned (.int .i64 (b.root:Int))∧Below W.heap.size W w':=fun W y=>(UC _ T b W (d6.o.next y)).mono fun e w' h=>⟨h.1,h.2▸AD _ _⟩
 have a7:=fun W(y:Below r.heap.size r W)=>Xc _ T b a W (d6.o.next y) (by omega) c1 c2
 have a8:=fun W(y:Below r.heap.size r W)=>Xk _ R b a W (f5.o.next y) (by omega) c1 c2
 clear b6 j5;obtain⟨o4,sa,si,_,c4,j6,j7,o5⟩:=a6;have j8:=AB j6;have j9:=AB j7;clear j6 j7 o5;have f7:=AB c4;have k0:=A.lt;have c6:=c4.lt;have d7:=AB A;have f8:=AB B4;clear B4;go_upto_region 9 with fail;go_cut[74] (fun t wx=>t=.bool false∧Below r.heap.size r wx)
 case first=>
  have r4:r.cell? ⟨R,4,none⟩=some (.int .i64 (b.root:Int)):=c4.cell 4;have o6:∀k,r.drew.cell? ⟨w.heap.size,k,none⟩=a.cells[k]?:=A.cell;have k1:r.drew.cell? ⟨R,4,none⟩=some (.int .i64 (b.root:Int)):=r4;have K0:=(AD r.heap.size r).drew;generalize Ec b a=fv at a7 a8;generalize(b.root:Int)=rv at f6 r4 k1;clear c4 A;go_region_held3(fun W=>(∀k,W.cell? ⟨w.heap.size,k,none⟩=a.cells[k]?)∧W.cell? ⟨R,4,none⟩=some (.int .i64 rv)∧Below r.heap.size r W)
   (first
    |with_reducible exact⟨o6,k1,K0⟩
    |with_reducible exact⟨(d7.o.next K k0).cell,(K.cell (p:=⟨R,4,none⟩) c6).trans r4,K⟩)
   ((
    first
    |(go_at_call 13;go_split_ands;with_reducible refine(f6 _ (by assumption)).mono ?_;rintro e c7⟨rfl,O⟩;have K:=C4 O (w0:=r) (by assumption))
    |(go_at_call 21;go_split_ands;with_reducible refine(a7 _ (by assumption)).mono ?_;rintro e c7⟨rfl,O⟩;have K:=C4 O (w0:=r) (by assumption))
    |(go_at_call 22;go_split_ands;with_reducible refine(a8 _ (by assumption)).mono ?_;rintro e c7⟨rfl,O⟩;have K:=C4 O (w0:=r) (by assumption))))
  all_goals go_split_ands
  all_goals
   go_wp2_with fail;go_meet;exact⟨rfl,by assumption⟩
 case rest=>
 obtain⟨rfl,C⟩:=hcut;obtain⟨w5,rfl⟩:∃x:World,x=wc:=⟨_,rfl⟩;have f9:=AB (d7.o.next C d7.o.lt);have g0:=AB (f7.o.next C f7.o.lt);have k2:=AB (f5.o.next C);have k3:=AB (d6.o.next C);have k4:=AB (A7.next j8.o C);have k5:=AB (j9.o.next C);have k6:=AB (HG.o.next C);have b7:=AB (f8.o.trans (C.mono f8.o.size));clear f6 a7 a8 A c4 k0 c6 C d7 f7 f5 d6 j8 j9 HG f8;have g1:=Wj f w5 (by omega);have o7:∃(x:A3)(ev:Int),Mx f=.tuple #[x.val,.int .i64 ev]∧x.len≤100000000∧(ev=0∨ev=3):=by
  unfold Mx;cases hx:Cl f with
  |none=>exact⟨A3.zero,3,rfl,by decide,Or.inr rfl⟩
  |some x=>exact⟨x,0,rfl,by have:=My hx;omega,Or.inl rfl⟩
 obtain⟨x,ev,hv,k7,c8⟩:=o7;rw[hv]at g1;clear hv;go_wp2_with fail;with_reducible refine g1.mono ?_
 rintro e w6⟨rfl,d8⟩;clear g1;have B6:=b7.o.trans (d8.mono b7.o.size);have X:=A1.new w6 x.cells 36;have BX:=(AD w6.heap.size w6).alloc (AC _) (.cells x.cells 36);have a1:=d8.trans (BX.mono d8.size);have g2:=B6.trans (BX.mono B6.size);clear BX d8 B6 b7;have d9:=AB c8;go_upto_region 12 with fail;generalize World.alloc _ _=L at X a1 g2⊢;have g3:=AB (k2.o.next a1);have g4:=AB (k3.o.next a1);have o8:=AB (f9.o.next a1 f9.o.lt);have g5:=AB (g0.o.next a1 g0.o.lt);have k8:=AB (A7.next k4.o a1);have k9:=AB (k5.o.next a1);have l0:=AB (k6.o.next a1);have E:=AB X;have g6:=AB g2;clear k2 k3 f9 g0 k4 k5 k6 a1 g2 c8;have a7:=fun W(y:Below L.heap.size L W)=>Xc _ T b x W (g4.o.next y) k7 c1 c2
 have a8:=fun W(y:Below L.heap.size L W)=>Xk _ R b x W (g3.o.next y) k7 c1 c2
 generalize w6.heap.size=xb at E X⊢;go_cut[90] (fun t wx=>t=.bool false∧Below L.heap.size L wx)
 case first=>
  have g7:∀k,L.drew.cell? ⟨xb,k,none⟩=x.cells[k]?:=X.cell;have K0:=(AD L.heap.size L).drew;have o9:=X.lt;generalize Ec b x=fv at a7 a8;clear X;rcases d9.o with rfl|rfl
  ·clear d9;go_region_held3(fun W=>(∀k,W.cell? ⟨xb,k,none⟩=x.cells[k]?)∧Below L.heap.size L W)
    (first
     |with_reducible exact⟨g7,K0⟩
     |with_reducible exact⟨(E.o.next K o9).cell,K⟩)
    ((
     first
     |(go_at_call 21;go_split_ands;with_reducible refine(a7 _ (by assumption)).mono ?_;rintro e c7⟨rfl,O⟩;have K:=C4 O (w0:=L) (by assumption))
     |(go_at_call 22;go_split_ands;with_reducible refine(a8 _ (by assumption)).mono ?_;rintro e c7⟨rfl,O⟩;have K:=C4 O (w0:=L) (by assumption))))
   all_goals go_split_ands
   all_goals
    go_wp2_with fail;go_meet;exact⟨rfl,by assumption⟩
  clear d9 a7 a8;go_quiet(fail);go_wp2_with fail;go_meet;exact⟨rfl,CB (AD _ _) _⟩
 case rest=>
 obtain⟨rfl,C⟩:=hcut;obtain⟨w8,rfl⟩:∃x:World,x=wc:=⟨_,rfl⟩;have l1:=AB (g3.o.next C);have g8:=AB (g4.o.next C);have g9:=AB (g5.o.next C g5.o.lt);have l2:=AB (A7.next k8.o C);have l3:=AB (k9.o.next C);have l4:=AB (l0.o.next C);have B8:=g6.o.trans (C.mono g6.o.size);clear g3 g4 o8 g5 k8 k9 l0 E g6 a7 a8 X C d9;have l5:=UE _ T b w8 g8.o J.whole;go_wp2_with fail;with_reducible refine l5.mono ?_
 rintro e w9⟨⟨v,e0,rfl,l6,l7,l8⟩,b9⟩;clear l5;have e1:=Aq.Ad (Q:=fun _=>True) (A0.Dn (by decide) Db l6) (fun _ _ _=>trivial);obtain⟨va,vc,hv,_⟩:=e1.rd;subst hv;obtain⟨n,I⟩:∃n,b.whole.parts.length=n:=⟨_,rfl⟩;have v6:n≤20002:=by have h2:=J.whole.head.2.2;omega
 have h0:=l7.trans I;rw[h0]at e1⊢;have p8:=AB (fun k(l:k<e0.length)(h2:k<b.whole.parts.length)=>A7.Ad (Q:=fun _=>True) (fun _ _ _=>trivial) (l8 k l h2));clear l6 l8 l7;have l9:=AB (l1.o.next b9);have e2:=AB (g8.o.next b9);have b8:=AB (g9.o.next b9 g9.o.lt);obtain⟨h1,e3,m0,m1⟩:=A7.YY (A7.next l2.o b9);have e4:=l3.o.next b9;have a2:=AB (l4.o.next b9);have B9:=B8.trans (b9.mono B8.size);clear l1 g8 g9 l2 l3 l4 b9 B8;obtain⟨qa,qc,hq,_⟩:=e3.rd;obtain⟨pa,pc,hp,_⟩:=e4.rd;have e5:=m0.trans I;have e6:=J.places.trans I;have c3:w9.cell? ⟨R,3,none⟩=some (A9 o4.2.2.2):=b8.o.cell 3;have c5:w9.cell? ⟨R,5,none⟩=some (A9 sa):=b8.o.cell 5;rw[hq,e5]at c3;rw[hp,e6]at c5;rw[hq,e5]at e3;rw[hp,e6]at e4;have p9:=AB m1;have q4:=AB e3;have q5:=AB e4;have q6:=AB e1;have q7:=AB h0;have q8:=AB e5;have m2:=AB e6;have HN:=AB I;have m3:=AB B9;have q9:=b8.o.lt;clear m1 e3 e4 e1 h0 e5 e6 I m0 hq hp B9 c1 c2;go_wp2_with fail;clear q9;have r0:=AB c3;have r1:=AB c5;go_loopw[14] (fun jv wz=>∃j:Int,jv=.int .i64 j∧-1≤j∧j≤(n:Int)+1∧Below w9.heap.size w9 wz) (fun jv _=>((n:Int)+1-intOf jv).toNat)
 case atStart=>exact⟨-1,rfl,by omega,by omega,AD _ _⟩
 obtain⟨j,rfl,e7,e8,B⟩:=hrel;clear c3 c5;by_cases c9:j≤n
 ·obtain⟨m,hm⟩:∃m:Int,m=if(D1 b j).isSome then 0 else 2:=⟨_,rfl⟩
  obtain⟨ll,h3⟩:∃ll,ll=(D1 b j).getD []:=⟨_,rfl⟩;have v7:ll.length≤60002:=by rw[h3];exact YZ j J
  obtain⟨x,eo,m4,m5⟩:=ZA m2.o c9;have r2:=AB m5;have HM:=AB hm;have m6:=AB h3;clear m5 hm h3;have m7:=jE _ R b j wr (l9.o.next B) J (a2.o.next B).r (by omega) (by omega);have m8:=fun W hR hG=>iG (fun _=>True) T b j W hR J hG (by omega) (by omega)
  have hA:=fun W hR=>UF (fun _=>True) T b j W hR (by omega) (by omega)
  rw[m4]at hA;clear m4;go_wp2_with fail;with_reducible refine m7.mono ?_
  rintro e x1⟨G,y1⟩;obtain⟨la,lc,rfl,u⟩:=Pu.YX HM.o m6.o G;have d:=B.trans (y1.mono B.size);clear G m7 y1;go_wp2_with fail;with_reducible refine(m8 x1 (e2.o.next d) (a2.o.next d).r).mono ?_
  rintro e x2⟨G,Y⟩;obtain⟨lb,ld,ev,rfl,M,c8⟩:=Tz.get HM.o m6.o G;have u:=u.next Y;have D:=d.trans (Y.mono d.size);clear G m8 Y d;go_wp2_with fail;with_reducible refine(hA x2 (e2.o.next D)).mono ?_
  rintro e x3⟨rfl,y3⟩;have u:=u.next y3;have M:=M.next y3;have U:=D.trans (y3.mono D.size);have X:=A1.new x3 x.cells 36;have y4:=(AD x3.heap.size x3).alloc (AC _) (.cells x.cells 36);have u:=u.next y4;have M:=M.next y4;have B4:=U.trans (y4.mono U.size);clear hA y3 y4 D U;go_upto_region 23 with fail;generalize World.alloc _ _=x4 at X u M B4⊢;generalize x3.heap.size=xb at X⊢;have Z:=Pj ev m m x4 c8 (a2.o.next B4).r;rw[EJ]at Z;clear c8;go_wp2_with fail;with_reducible refine Z.mono ?_
  rintro e x5⟨rfl,y5⟩;have r3:=AB (u.next y5);have r5:=AB (M.next y5);have X:=X.next y5 X.lt;have E:=AB X;have b7:=AB (B4.trans (y5.mono B4.size));clear u M y5 B4 X Z;go_wp2_with fail;go_loopw[21] (fun qv wz=>∃q:Nat,qv=.int .i64 q∧q≤ll.length∧Below x5.heap.size x5 wz) (fun qv _=>ll.length-(intOf qv).toNat)
  case atStart=>exact⟨0,rfl,by omega,AD _ _⟩
  obtain⟨q,rfl,hq,BZ⟩:=hrel;by_cases m9:q<ll.length
  ·obtain⟨n0,rfl,_,a5,d0⟩:=r3.o.at Jp q m9;obtain⟨n1,rfl,_,a0,h4⟩:=r5.o.at Jp q m9;have n2:=(BZ.cell (p:=⟨n0,q*2+0,none⟩) a5).trans (d0 0 (by decide));have n3:=(BZ.cell (p:=⟨n0,q*2+1,none⟩) a5).trans (d0 1 (by decide));have n4:=(BZ.cell (p:=⟨n1,q*2+0,none⟩) a0).trans (h4 0 (by decide));have n5:=(BZ.cell (p:=⟨n1,q*2+1,none⟩) a0).trans (h4 1 (by decide));clear d0 h4;generalize ll[q]=f at n2 n3 n4 n5;obtain⟨xa,xn⟩:=f;simp only[Hp,BI,AR,AT]at n2 n3 n4 n5;have v8:=TA;have r6:(0:Int)≤(q:Int):=by omega
   have r7:(q:Int)<(ll.length:Int):=by omega
   go_upto_region 28 with fail;go_cut[151] (fun t wx=>t=.bool false∧Below wr.heap.size wr wx)
   case first=>
    go_quiet(fail);go_wp2_with fail;go_meet;exact⟨by simp,CB (AD _ _) _⟩
   case rest=>
   obtain⟨rfl,o⟩:=hcut;obtain⟨w2,rfl⟩:∃x:World,x=wc:=⟨_,rfl⟩;have r8:=BZ.trans (o.mono BZ.size);go_wp2_with fail;go_roundw
   case rel=>exact⟨q+1,by go_num,by omega,r8⟩
   simp[intOf];omega
  obtain rfl:q=ll.length:=by omega
  have H:=AB (b7.o.trans (BZ.mono b7.o.size));have E:=AB (E.o.next BZ E.o.lt);rcases r2.o with⟨k,hk,rfl,rfl,rfl⟩|⟨r9,rfl,rfl⟩
  ·have h5:k<n:=by have:=m2.o;omega
   have v9:¬((k:Int)<0):=by omega
   have w4:((k:Int)==(n:Int))=false:=by rw[AG];omega
   have r6:(0:Int)≤(k:Int):=by omega
   have r7:(k:Int)<(n:Int):=by omega
   have n6:k<e0.length:=by rw[q7.o];exact h5
   have n7:k<h1.length:=by rw[q8.o];exact h5
   have h6:k<b.whole.parts.length:=by rw[HN.o];exact h5
   obtain⟨P,s0,_,a3,a4⟩:=q5.o.at Jo k hk;obtain⟨V,s1,_,d1,d2⟩:=q6.o.at Db k n6;obtain⟨g,s2,_,d3,d4⟩:=q4.o.at Db k n7;have n8:=(J.whole.part (AN h6)).in;have hS:=fun W(y:Below wr.heap.size wr W)=>TB 3 3 3 e0[k] h1[k] b.whole.parts[k] W (A7.next (A7.next (p8.o k n6 h6) H.o) y) (A7.next (A7.next (p9.o k n7 h6) H.o) y) n8
   have c3:=(H.o.cell (p:=⟨R,3,none⟩) b8.o.lt).trans r0.o;have c5:=(H.o.cell (p:=⟨R,5,none⟩) b8.o.lt).trans r1.o;have c6:=CG b8.o.lt H.o.size;subst s1 s0 s2;have s3:=H.o.size;have p0:=(H.o.cell (p:=⟨P,k*8+0,none⟩) a3).trans (a4 0 (by decide));have p1:=(H.o.cell (p:=⟨P,k*8+1,none⟩) a3).trans (a4 1 (by decide));have p2:=(H.o.cell (p:=⟨P,k*8+2,none⟩) a3).trans (a4 2 (by decide));have p3:=(H.o.cell (p:=⟨P,k*8+3,none⟩) a3).trans (a4 3 (by decide));have p4:=(H.o.cell (p:=⟨P,k*8+4,none⟩) a3).trans (a4 4 (by decide));have p5:=(H.o.cell (p:=⟨P,k*8+5,none⟩) a3).trans (a4 5 (by decide));have p6:=(H.o.cell (p:=⟨P,k*8+6,none⟩) a3).trans (a4 6 (by decide));have p7:=(H.o.cell (p:=⟨P,k*8+7,none⟩) a3).trans (a4 7 (by decide));have v0:=(H.o.cell (p:=⟨V,k*4+0,none⟩) d1).trans (d2 0 (by decide));have v1:=(H.o.cell (p:=⟨V,k*4+1,none⟩) d1).trans (d2 1 (by decide));have v2:=(H.o.cell (p:=⟨V,k*4+2,none⟩) d1).trans (d2 2 (by decide));have v3:=(H.o.cell (p:=⟨V,k*4+3,none⟩) d1).trans (d2 3 (by decide));have q0:=(H.o.cell (p:=⟨g,k*4+0,none⟩) d3).trans (d4 0 (by decide));have q1:=(H.o.cell (p:=⟨g,k*4+1,none⟩) d3).trans (d4 1 (by decide));have q2:=(H.o.cell (p:=⟨g,k*4+2,none⟩) d3).trans (d4 2 (by decide));have q3:=(H.o.cell (p:=⟨g,k*4+3,none⟩) d3).trans (d4 3 (by decide));have d5:=E.o.cell;clear a4 d2 d4 n8;generalize b.places[k]=z at p0 p1 p2 p3 p4 p5 p6 p7 d5 E;generalize e0[k]=s4 at v0 v1 v2 v3 hS;generalize h1[k]=s5 at q0 q1 q2 q3 hS;obtain⟨⟨h7,h8,h9⟩,i0,i1,⟨i2,i3,i4⟩⟩:=s4;obtain⟨⟨i5,i6,i7⟩,i8,i9,⟨j0,j1,j2⟩⟩:=s5;simp only[Fv,BI]at p0 p1 p2 p3 p4 p5 p6 p7;simp only[D5,A9,Bm,BI]at v0 v1 v2 v3 q0 q1 q2 q3 hS;replace p0:wr.cell? ⟨P,k*8,none⟩=some (.string ⟨z.scheme.toArray⟩):=p0;replace p1:wr.cell? ⟨P,k*8+1,none⟩=some (.bool z.hasAuth):=p1;replace p2:wr.cell? ⟨P,k*8+2,none⟩=some (.string ⟨z.auth.toArray⟩):=p2;replace p3:wr.cell? ⟨P,k*8+3,none⟩=some (.string ⟨z.path.toArray⟩):=p3;replace p4:wr.cell? ⟨P,k*8+4,none⟩=some (.bool z.hasQuery):=p4;replace p5:wr.cell? ⟨P,k*8+5,none⟩=some (.string ⟨z.query.toArray⟩):=p5;replace p6:wr.cell? ⟨P,k*8+6,none⟩=some (.bool z.hasFrag):=p6;replace p7:wr.cell? ⟨P,k*8+7,none⟩=some (.string ⟨z.frag.toArray⟩):=p7;replace v0:wr.cell? ⟨V,k*4,none⟩=some (.slice h7 h8 h9):=v0;replace v1:wr.cell? ⟨V,k*4+1,none⟩=some (.string ⟨i0.toArray⟩):=v1;replace v2:wr.cell? ⟨V,k*4+2,none⟩=some (.bool i1):=v2;replace v3:wr.cell? ⟨V,k*4+3,none⟩=some (.slice i2 i3 i4):=v3;replace q0:wr.cell? ⟨g,k*4,none⟩=some (.slice i5 i6 i7):=q0;replace q1:wr.cell? ⟨g,k*4+1,none⟩=some (.string ⟨i8.toArray⟩):=q1;replace q2:wr.cell? ⟨g,k*4+2,none⟩=some (.bool i9):=q2;replace q3:wr.cell? ⟨g,k*4+3,none⟩=some (.slice j0 j1 j2):=q3;have s6:=Qw;have u:P<wr.heap.size:=by omega
   have M:V<wr.heap.size:=by omega
   have e9:g<wr.heap.size:=by omega
   have s7:=E.o.lt;clear a3 d1 d3 s3;go_upto_region 33 with fail;go_cut[196] (fun t wx=>t=.bool false∧Below wr.heap.size wr wx)
   case first=>
    have s8:wr.drew.cell? ⟨R,5,none⟩=some (.slice (some ⟨P,0,none⟩) n pc):=c5;have s9:wr.drew.cell? ⟨R,3,none⟩=some (.slice (some ⟨g,0,none⟩) n qc):=c3;have t0:wr.drew.cell? ⟨P,k*8,none⟩=some (.string ⟨z.scheme.toArray⟩):=p0;have t1:wr.drew.cell? ⟨P,k*8+1,none⟩=some (.bool z.hasAuth):=p1;have t2:wr.drew.cell? ⟨P,k*8+2,none⟩=some (.string ⟨z.auth.toArray⟩):=p2;have t3:wr.drew.cell? ⟨P,k*8+3,none⟩=some (.string ⟨z.path.toArray⟩):=p3;have t4:wr.drew.cell? ⟨P,k*8+4,none⟩=some (.bool z.hasQuery):=p4;have t5:wr.drew.cell? ⟨P,k*8+5,none⟩=some (.string ⟨z.query.toArray⟩):=p5;have t6:wr.drew.cell? ⟨P,k*8+6,none⟩=some (.bool z.hasFrag):=p6;have t7:wr.drew.cell? ⟨P,k*8+7,none⟩=some (.string ⟨z.frag.toArray⟩):=p7;have t8:wr.drew.cell? ⟨V,k*4,none⟩=some (.slice h7 h8 h9):=v0;have t9:wr.drew.cell? ⟨V,k*4+1,none⟩=some (.string ⟨i0.toArray⟩):=v1;have u0:wr.drew.cell? ⟨V,k*4+2,none⟩=some (.bool i1):=v2;have u1:wr.drew.cell? ⟨V,k*4+3,none⟩=some (.slice i2 i3 i4):=v3;have u2:wr.drew.cell? ⟨g,k*4,none⟩=some (.slice i5 i6 i7):=q0;have u3:wr.drew.cell? ⟨g,k*4+1,none⟩=some (.string ⟨i8.toArray⟩):=q1;have u4:wr.drew.cell? ⟨g,k*4+2,none⟩=some (.bool i9):=q2;have u5:wr.drew.cell? ⟨g,k*4+3,none⟩=some (.slice j0 j1 j2):=q3;have g7:∀i,wr.drew.cell? ⟨xb,i,none⟩=z.cells[i]?:=d5;have K0:=(AD wr.heap.size wr).drew;go_region_held3(fun W=>(∀i,W.cell? ⟨xb,i,none⟩=z.cells[i]?)∧W.cell? ⟨R,5,none⟩=some (.slice (some ⟨P,0,none⟩) n pc)∧W.cell? ⟨R,3,none⟩=some (.slice (some ⟨g,0,none⟩) n qc)∧W.cell? ⟨P,k*8,none⟩=some (.string ⟨z.scheme.toArray⟩)∧W.cell? ⟨P,k*8+1,none⟩=some (.bool z.hasAuth)∧W.cell? ⟨P,k*8+2,none⟩=some (.string ⟨z.auth.toArray⟩)∧W.cell? ⟨P,k*8+3,none⟩=some (.string ⟨z.path.toArray⟩)∧W.cell? ⟨P,k*8+4,none⟩=some (.bool z.hasQuery)∧W.cell? ⟨P,k*8+5,none⟩=some (.string ⟨z.query.toArray⟩)∧W.cell? ⟨P,k*8+6,none⟩=some (.bool z.hasFrag)∧W.cell? ⟨P,k*8+7,none⟩=some (.string ⟨z.frag.toArray⟩)∧W.cell? ⟨V,k*4,none⟩=some (.slice h7 h8 h9)∧W.cell? ⟨V,k*4+1,none⟩=some (.string ⟨i0.toArray⟩)∧W.cell? ⟨V,k*4+2,none⟩=some (.bool i1)∧W.cell? ⟨V,k*4+3,none⟩=some (.slice i2 i3 i4)∧W.cell? ⟨g,k*4,none⟩=some (.slice i5 i6 i7)∧W.cell? ⟨g,k*4+1,none⟩=some (.string ⟨i8.toArray⟩)∧W.cell? ⟨g,k*4+2,none⟩=some (.bool i9)∧W.cell? ⟨g,k*4+3,none⟩=some (.slice j0 j1 j2)∧Below wr.heap.size wr W)
     (first
      |with_reducible exact⟨g7,s8,s9,t0,t1,t2,t3,t4,t5,t6,t7,t8,t9,u0,u1,u2,u3,u4,u5,K0⟩
      |with_reducible exact⟨(E.o.next K s7).cell,(K.cell (p:=⟨R,5,none⟩) c6).trans c5,(K.cell (p:=⟨R,3,none⟩) c6).trans c3,(K.cell (p:=⟨P,k*8,none⟩) u).trans p0,(K.cell (p:=⟨P,k*8+1,none⟩) u).trans p1,(K.cell (p:=⟨P,k*8+2,none⟩) u).trans p2,(K.cell (p:=⟨P,k*8+3,none⟩) u).trans p3,(K.cell (p:=⟨P,k*8+4,none⟩) u).trans p4,(K.cell (p:=⟨P,k*8+5,none⟩) u).trans p5,(K.cell (p:=⟨P,k*8+6,none⟩) u).trans p6,(K.cell (p:=⟨P,k*8+7,none⟩) u).trans p7,(K.cell (p:=⟨V,k*4,none⟩) M).trans v0,(K.cell (p:=⟨V,k*4+1,none⟩) M).trans v1,(K.cell (p:=⟨V,k*4+2,none⟩) M).trans v2,(K.cell (p:=⟨V,k*4+3,none⟩) M).trans v3,(K.cell (p:=⟨g,k*4,none⟩) e9).trans q0,(K.cell (p:=⟨g,k*4+1,none⟩) e9).trans q1,(K.cell (p:=⟨g,k*4+2,none⟩) e9).trans q2,(K.cell (p:=⟨g,k*4+3,none⟩) e9).trans q3,K⟩)
     ((first|(go_at_call 25;go_split_ands;with_reducible refine(hS _ (by assumption)).mono ?_;rintro e c7⟨rfl,O⟩;have K:=C4 O (w0:=wr) (by assumption))))
    all_goals go_split_ands
    all_goals
     go_wp2_with fail;go_meet;exact⟨by simp,by assumption⟩
   case rest=>
   obtain⟨rfl,o⟩:=hcut;obtain⟨w2,rfl⟩:∃x:World,x=wc:=⟨_,rfl⟩;have BB:=H.o.trans (o.mono H.o.size);clear hS p0 p1 p2 p3 p4 p5 p6 p7 v0 v1 v2 v3 q0 q1 q2 q3 c3 c5 d5 c9 e7 e8;go_wp2_with fail;go_roundw
   case rel=>exact⟨(k:Int)+1,by go_num,by omega,by omega,BB⟩
   simp[intOf]<;>omega
  have S:=Pj (.iface 30 (.int .i64 2)) 2 2 wr (Or.inr rfl) (a2.o.next H.o).r;rw[EJ]at S;have s6:=Qw;rcases r9 with u6|u7
  ·obtain rfl:j=-1:=by omega
   clear c9 e7 e8 u6;go_wp2_with fail;with_reducible refine S.mono ?_
   rintro e w2⟨rfl,o⟩;have d5:=(E.o.next o E.o.lt).cell;have BB:=H.o.trans (o.mono H.o.size);clear o S;go_wp2_with fail;go_roundw
   case rel=>exact⟨0,by first|rfl|go_num,by omega,by omega,BB⟩
   simp[intOf]<;>omega
  subst u7;clear c9 e7 e8;go_wp2_with fail;with_reducible refine S.mono ?_
  rintro e w2⟨rfl,o⟩;have d5:=(E.o.next o E.o.lt).cell;have BB:=H.o.trans (o.mono H.o.size);clear o S;go_wp2_with fail;go_roundw
  case rel=>exact⟨(n:Int)+1,by go_num,by omega,by omega,BB⟩
  simp[intOf]<;>omega
 obtain rfl:j=(n:Int)+1:=by omega
 have BB:=m3.o.trans (B.mono m3.o.size);have hR:=YR _ R b wr (l9.o.next B) J o2 o3 (by omega) f3 f4 (a2.o.next B);have f0:=fun W l h2=>WO (fun _=>True) T b W l J (by omega) h2
 have n9:=AB B;clear B c9 e7 e8;go_wp2_with fail;with_reducible refine hR.mono ?_
 rintro e x1⟨u8,y1⟩;have d:=n9.o.trans (y1.mono n9.o.size);have C1:=BB.trans (y1.mono BB.size);clear hR y1;rcases u8 with⟨t,ht,w7,rfl⟩|⟨c,hc,d0,rfl⟩
 ·go_wp2_with fail;with_reducible refine(f0 x1 (e2.o.next d) (a2.o.next d)).mono ?_
  rintro e x2⟨j3,Y⟩;have D:=d.trans (Y.mono d.size);have C2:=C1.trans (Y.mono C1.size);rcases j3 with⟨t',b0,_,rfl⟩|⟨c,hc,rfl⟩
  case inr=>rw[ht]at hc;cases hc
  rw[ht]at b0;injection b0 with b0;subst b0;have S:=Pj .nilIface 0 0 x2 (Or.inl ⟨rfl,rfl⟩) (a2.o.next D).r;rw[EJ]at S;clear f0 ht Y d C1 f4 f3;go_wp2_with fail;with_reducible refine S.mono ?_
  rintro e x3⟨rfl,y3⟩;go_wp2_with fail;go_ret;exact⟨by simp,C2.trans (y3.mono C2.size)⟩
 go_wp2_with fail;with_reducible refine(f0 x1 (e2.o.next d) (a2.o.next d)).mono ?_
 rintro e x2⟨j3,Y⟩;have D:=d.trans (Y.mono d.size);have C2:=C1.trans (Y.mono C1.size);rcases j3 with⟨t',b0,_,rfl⟩|⟨c',f1,rfl⟩
 case inl=>rw[hc]at b0;cases b0
 rw[hc]at f1;injection f1 with f1;subst f1;have S:=Pj (.iface 30 (.int .i64 c)) c c x2 (Or.inr rfl) (a2.o.next D).r;rw[EJ]at S;clear f0 hc Y d C1 f4 f3 d0;go_wp2_with fail;with_reducible refine S.mono ?_
 rintro e x3⟨rfl,y3⟩;go_wp2_with fail;go_ret;exact⟨by simp,C2.trans (y3.mono C2.size)⟩
end Go.Proofs.YtignjjnflcpiiaaGreatDoor
namespace Go.Proofs.YtignjjnflcpiiaaGreatDoor
open Go Go.ChangeShapes Go.WideShapes Go.ChangeAt Go.RowKit Go.ChangeMaps Go.Conc Go.ConcM
theorem ZC:laidOutB Tryz.prog=true:=by kernel_rfl
theorem ZD{H:Type}{t:List TypeId}{d:List (DataW H)}(h:(DataW.weightsEach Tryz.prog t d).all (·≤reachBytes)=true){j:Nat}{x:A3}(a:t[j]?=some 36)
  (b:d[j]?=some (.agg [.lit (.string x.scheme),.lit (.bool x.hasAuth),.lit (.string x.auth),.lit (.string x.path),.lit (.bool x.hasQuery),.lit (.string x.query),.lit (.bool x.hasFrag),.lit (.string x.frag)])):x.len≤4611686018427387903:=by
 have m:∀n∈[x.scheme.length,x.auth.length,x.path.length,x.query.length,x.frag.length],n≤reachBytes:=fun n c=>by
  have:=AW.1 h _ (DataW.weights_mem_each a b n (by simp[DataW.weights,DataW.weightsEach,Tryz.underlying36];simpa using c));simpa using this
 simp at m;have r:=reachBytes_lt;unfold A3.len;omega
noncomputable def jU(O:Os):World:=let w:=World.holding Tryz.prog O ⟨#[],#[],[]⟩
 {w with heap:=w.heap.modify 0 fun
  | .cells _ t f=>.cells #[.iface 262 (.agg #[.pointer (some ⟨12,25,none⟩)])] t f
  |o=>o}
abbrev Y4:List (String×DataW Unit):=Nv.filter fun x=>x.2.handleName?.isNone
noncomputable def Y5(o:Os):World:=(jU o).layVars Tryz.prog Y4
theorem ZE(o:Os)(args:Array Value):laidMetH Tryz.prog Nv ((Y5 o).forCall (fun _ _=>0) ⟨#[],args,[]⟩).memory:=by
 have h:laidMet Tryz.prog Y4 (Y5 o):=laidMet_layVars (w0:=jU o) (Y4.map (·.1)) [] rfl (by kernel_rfl) (by kernel_rfl) LaidIn.none;exact laidMetH_of_parts (h.of_heap (by simp[World.memory,World.forCall,Input.heap])) (by kernel_rfl)
theorem ZF(o:Os)(S:o.Started)(H:Type)(E:TypeId×Value→H)(F:Stop.Interp):ReturnsInLeavingWide Rows.bundlePlaysRow.assume Tryz.checked o 4 .any (fun w A=>(Rows.bundlePlaysSpec.pre E Tryz.prog Tryz.f4 [] false w A∧laidMetH Tryz.prog Nv w)∧sizedMet E Tryz.prog Tryz.f4 (OpenSpec.ofChange Rows.bundlePlaysSpec) false w A)
   ((OpenSpec.ofChange Rows.bundlePlaysSpec).postWith E Tryz.prog Tryz.f4 F (outsideKept [.timePasses]) false true false):=by
 refine nK (C:=Tryz.checked) (X:=fun w _=>laidMetH Tryz.prog Nv w) (fun _ _ _ r h=>h.of_heap r) zL S (by kernel_rfl) Tryz.func4 ?_ ?_
 ·exact⟨Y5 o,fun _ _=>0,⟨#[],#[.string ⟨#[]⟩,A3.zero.val,.string ⟨#[]⟩],[]⟩,World.layVars_os _ _ _,World.shaped_of_ZipB (by kernel_rfl) (by kernel_rfl),rfl,(Input.okWide_of_okWideB (by kernel_rfl)).2,⟨⟨ChangeSpec.pre_of_preB (fuel:=8) (by kernel_rfl),ZE o _⟩,sizedMet_of_sizedB (fuel:=8) (by kernel_rfl)⟩,by
   change({calm:=true}:Assume).holds _ _;simp only[Assume.holds];exact⟨by simp,fun _ _ _ _=>rfl,by simp,by simp,by simp⟩⟩
 intro W B A d G a0 u f y L g;have l:∀(j:Nat)t v,Tryz.f4.params[j]?=some t→A[j]?=some v→Value.okWide Tryz.prog W .any B t v:=u;have b:(DataW.weightsEach Tryz.prog (Tryz.f4.params.toList++Rows.bundlePlaysSpec.plain.varTypes Tryz.prog) (d++G)).all (·≤reachBytes)=true:=y;have z:Cb W:=⟨Tryz.kU.s1_3 W g⟩;have D:=zP z g L;have i:=f;obtain⟨p,q,I,V,rfl,_,_⟩:=f;have k:DataW.TrodAll E Tryz.prog W 0 (fun _=>true) true Tryz.f4.params.toList A.toList d p:=I;rw[Tryz.params4]at k l b;obtain⟨J,K,M,d0,d1,d2,p0,p1,p2,rfl,rfl,rfl,N,m,O⟩:=trodAll_three k;obtain⟨rfl,rfl⟩:=trodVars_none V;obtain⟨s,rfl,rfl,rfl,P⟩:=open_string Tryz.underlying9 (l 0 9 J rfl rfl) N;obtain⟨a,Q,R,rfl⟩:=sY (l 1 36 K rfl rfl) m;obtain⟨t,rfl,rfl,rfl,T⟩:=open_string Tryz.underlying9 (l 2 9 M rfl rfl) O;simp only[BM]at i;have U:s.data.toList.length≤reachBytes:=sized_string b (j:=0) rfl rfl;have Y:t.data.toList.length≤reachBytes:=sized_string b (j:=2) rfl rfl;have Z:=ZD b (j:=1) (x:=a) rfl (by rw[←R];rfl);have n:=ZB s.data.toList a t.data.toList W D (BC U (by decide)) (BC Z (by decide)) (BC Y (by decide));rw[IU,IU,←Q]at n;refine n.mono fun e W'⟨he,c⟩=>?_
 subst he;exact⟨_,rfl,⟨_,_,_,[],[],[],i,trodAll_mk1 (shut_bool Tryz.underlying4 true),trodAll_mk3 (shut_string Tryz.underlying9 P) (Below.trod (t:=36) ZC (by kernel_rfl) (EE (by kernel_rfl)) m c (fun _ h=>by cases h)) (shut_string Tryz.underlying9 T),rfl,c.frame _,fun h=>by cases h⟩,c.os⟩
theorem ZG:Rows.BundlePlaysSaid:=OpenClaim.holds_of_wide_leaving_time (p:=Tryz.pinned) (s:=Rows.bundlePlaysSpec) (c:=Rows.bundlePlaysRow) 4 Tryz.f4 rfl rfl rfl rfl rfl rfl rfl ⟨rfl,rfl,rfl,rfl,rfl⟩ rfl rfl rfl rfl rfl Yo Tryz.func4 nA nB nC
  (fun o S H e _ F=>ZF o S H e F)
theorem plays_card:Rows.BundlePlaysCardSaid:=nL .later [.data,.data,.data,.data,.handle,.widerDeep,.data,.pinned,.pinned] true (true,"6f0251da0188cf8eafed328b06f003c29786626d0e54394887c6c4c50c66b9af") true true
  ZG nD bundlePlays_row_tie rfl ⟨rfl,rfl⟩ nE rfl
  (fun f F H n=>by
   obtain rfl:f=4:=CS (Yo.symm.trans H) |>.symm
   obtain rfl:F=Tryz.f4:=(CS (Tryz.func4.symm.trans n)).symm;exact⟨nF,fun j t h=>by
    rw[Tryz.params4]at h;have m:t∈[9,36,9]:=by simpa using Array.mem_of_getElem? h
    exact(show Tryz.prog.wantsStandIn t=false by simpa using AW.1 nG t m)⟩)
  nH
end Go.Proofs.YtignjjnflcpiiaaGreatDoor
