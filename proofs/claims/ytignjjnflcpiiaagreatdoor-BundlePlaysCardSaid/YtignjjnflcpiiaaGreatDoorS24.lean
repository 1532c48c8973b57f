/- part.read, part.Read. Condition: what the variables hold; -/
import Derived.Test.YtignjjnflcpiiaaGreatDoorS22
set_option linter.all false
set_option maxHeartbeats 16000000
set_option maxRecDepth 100000
namespace Go.Proofs.YtignjjnflcpiiaaGreatDoor
open Go Go.RowKit Proofs.Tryz Lib
def Bm(r:Ao):Value:=.agg #[A9 r.1,.string ⟨r.2.1.toArray⟩,.bool r.2.2.1,A9 r.2.2.2]
def yQ(B d lb l:Nat)(r:Except Int (A8×Nat))(e:Ending)(w':World):Prop:=(∃p n R,r=.ok (p,n)∧n≤l∧e=.returned (.tuple #[Bm R,.nilIface])∧A7 (fun b=>B≤b) d w' R p∧A1 w' lb #[.int .i64 n] 3)∨(∃c R,r=.error c∧e=.returned (.tuple #[Bm R,.iface 30 (.int .i64 c)]))
abbrev F3(w:World)(B:Nat)(v:Value)(l:List Ao):Prop:=A0 44 4 D5 w B v l
theorem Tc(w:World)(r:Ao)(t:TypeId)(b:Nat)(H:b=w.heap.size):∀j u,([r].flatMap D5)[j]?=some u→(w.alloc (.cells #[A9 r.1,.string ⟨r.2.1.toArray⟩,.bool r.2.2.1,A9 r.2.2.2] t)).cell? ((⟨b,0,none⟩:Go.Addr).add j)=some u:=fun j u h=>by
 subst H;rw[Dz,(A1.new w #[A9 r.1,.string ⟨r.2.1.toArray⟩,.bool r.2.2.1,A9 r.2.2.2] t).cell]
 match j,h with
 |0,h=>exact h
 |1,h=>exact h
 |2,h=>exact h
 |3,h=>exact h
 |j+4,h=>simp[D5]at h
variable {w:World}{a:Act}{o:Oper}{rest:List Oper}{O:Array Oper}{Q:Exit → Act → World → Prop}{β α:Type}{k n m B g cap e size:Nat}{l Y:List A4}{v:Value}
theorem Td(H:o.guard=none)(s x:Operand)
  (d:o.op=.call {callee:=.builtin .append,args:=#[s,x],argTypes:=#[33,33]}) (B:Nat) (v:Value) (xs:List Ao) (y:Ao) (b c:Nat)
  (e:a.eval s=v) (n:F3 w B v xs) (f:a.eval x=.slice (some ⟨b,0,none⟩) 1 c) (g:∀j u,([y].flatMap D5)[j]?=some u→w.cell? ((⟨b,0,none⟩:Go.Addr).add j)=some u) (k:xs.length+1≤1000000000001) (i:B≤w.heap.size)
  (h:∀V W,F3 W B V (xs++[y])→w.grownBy W v.ownBlock→Below B w W→(V.ownBlock=v.ownBlock∨V.ownBlock=some w.heap.size)→wpList prog O Q rest (a.put o.dst V) W):wpList prog O Q (o::rest) a w:=
 Kt (α:=Ao) (cs:=D5) (size:=4) (z:=.agg #[.slice none 0 0,.string ByteArray.empty,.bool false,.slice none 0 0]) Db Wp Wq rfl (by decide) underlying33 H s x d B v xs [y] ⟨b,0,none⟩ 1 c rfl e n f g (by simp;omega) (by unfold maxLen;simp;omega) i h
def Ku(q:List β):Except Int (List β×Nat)→Except Int (List β×Nat)
 | .error e=>.error e
 | .ok (y,m)=>.ok (q++y,m)
theorem Te(r:Except Int (List β×Nat)):Ku [] r=r:=by
 cases r with
 |error e=>rfl
 |ok x=>rfl
theorem Tf{f:Nat→α→Except Int (β×Nat)}{l:List α}{e:Int}(H:k<l.length)(h:f n l[k]=.error e)(q:List β):Ku q (By f n (l.drop k))=.error e:=by
 rw[AE H];unfold By;rw[h];rfl
theorem Tg{f:Nat→α→Except Int (β×Nat)}{l:List α}{y:β}(H:k<l.length)(h:f n l[k]=.ok (y,m))(q:List β):Ku q (By f n (l.drop k))=Ku (q++[y]) (By f m (l.drop (k+1))):=by
 rw[AE H];conv=>lhs;unfold By
 rw[h];simp only;cases By f m (l.drop (k+1))with
 |error e=>rfl
 |ok x=>simp[Ku]
theorem Th{f:Nat→α→Except Int (β×Nat)}{l:List α}(q:List β):Ku q (By f n (l.drop l.length))=.ok (q,n):=by
 rw[AQ];simp[By,Ku]
theorem eR{b:Bs}(h:Dh n l)(H:Bg l=some (some b)):b.length≤n:=by
 unfold Bg at H;cases g:Ai l Bu with
 |none=>rw[g]at H;cases H
 |some v=>
  rw[g]at H;simp only at H;cases k:Ay v with
  |none=>rw[k]at H;cases H
  |some x=>
   obtain⟨m,P⟩:=x;rw[k]at H;simp only at H;split at H
   ·cases p:C5 P C9 with
    |none=>rw[p]at H;cases H
    |some y=>
     rw[p]at H;simp only at H;split at H
     ·cases H
     cases H;exact BC (Si (Oy k).2 p) (Jw h g)
   cases H
theorem Cg.t{xs:List Bs}(h:Cg w B v xs):E9 w B v xs:=by
 unfold E9 A0;unfold Cg at h;have e:xs.flatMap Bi=xs.map fun x=>Value.string ⟨x.toArray⟩:=by
  clear h;induction xs with
  |nil=>rfl
  |cons x xs ih=>rw[BT,DM,ih];rfl
 rw[e];exact h
theorem F3.shape{xs:List Ao}(h:F3 w B v xs):∃a n c,v=.slice a n c:=by
 obtain⟨a,c,H,_⟩:=A0.rd (by decide) Db h;exact⟨a,_,c,H⟩
def Bn:Array Value:=#[.slice none 0 0,.string ⟨#[]⟩,.bool false,.slice none 0 0]
def K5:Ao:=((none,0,0),[],false,(none,0,0))
theorem yR(d:Nat):∀(a4:Nat)(s:Bs)(C:Nat)(dp F:Int)(w:World),Hid (dp=5-(d:Int))→d≤4→Hid (F=a4)→a4≤40→Gr w→3<C→A1 w C #[.int .i64 F] 3→s.length≤20000→Calls prog 87 #[.string ⟨s.toArray⟩,.int .i64 dp,.pointer (some ⟨C,0,none⟩)] w fun e w'=>yQ w.heap.size d C a4 (Az d a4 s) e w'∧A5 C w.heap.size w w':=by
 induction d with
 |zero=>
  intro a4 s C dp F w c2 _ b2 hl hg c3 hb hs;obtain rfl:dp=5:=c2.o;have N:=AB (by rfl:Az 0 a4 s=.error 4);have f5:0≤F∧F≤40:=by have:=b2.o;omega
  have kc:=hb.cell 0;have kf:=hb.free 0;have d6:(w.setCell ⟨C,0,none⟩ (.int .i64 (F-1))).cell? ⟨C,0,none⟩=some (.int .i64 (F-1)):=(hb.set 0 _).cell 0;have f6:=hb.lt;have a6:w.heap.size≠C:=by omega
  have BO:A5 C w.heap.size w (w.setCell ⟨C,0,none⟩ (.int .i64 (F-1))):=(A5.refl _ _ _).set _;by_cases h0:F-1<0;all_goals
   go_enter func87,ntmps87;go_wp2_with fail;refine AL (v:=.tuple #[.agg Bn,.iface 30 (.int .i64 4)]) (by simp[results,results87,go_sem,Bn]) rfl ⟨Or.inr ⟨4,K5,N.o,rfl⟩,?_⟩;exact BO.trans (A5.of ((AD _ _).alloc (by simp) _))
 |succ d ih=>
  intro a4 s C dp F w c2 h2 b2 hl hg c3 hb hs;have h3:1≤dp∧dp≤4:=by have:=c2.o;omega
  have f5:0≤F∧F≤40:=by have:=b2.o;omega
  have kc:=hb.cell 0;have kf:=hb.free 0;have d6:(w.setCell ⟨C,0,none⟩ (.int .i64 (F-1))).cell? ⟨C,0,none⟩=some (.int .i64 (F-1)):=(hb.set 0 _).cell 0;have f6:=hb.lt;have a6:w.heap.size≠C:=by omega
  have BO:A5 C w.heap.size w (w.setCell ⟨C,0,none⟩ (.int .i64 (F-1))):=(A5.refl _ _ _).set _;by_cases h0:F-1<0
  ·have N:=AB (show Az (d+1) a4 s=.error 4 from by
    obtain rfl:a4=0:=by have:=b2.o;omega
    rfl)
   go_enter func87,ntmps87;go_wp2_with fail;refine AL (v:=.tuple #[.agg Bn,.iface 30 (.int .i64 4)]) (by simp[results,results87,go_sem,Bn]) rfl ⟨Or.inr ⟨4,K5,N.o,rfl⟩,?_⟩;exact BO.trans (A5.of ((AD _ _).alloc (by simp) _))
  obtain⟨L,rfl⟩:∃n,a4=n+1:=⟨a4-1,by have:=b2.o;omega⟩;have d7:=AB (by have:=b2.o;omega:F-1=(L:Int));have f:=((hb.set 0 (.int .i64 (F-1))).alloc (.cells Bn 44));have H:=A1.new (w.setCell ⟨C,0,none⟩ (.int .i64 (F-1))) Bn 44;have b8:=BO.trans (A5.of ((AD w.heap.size (w.setCell ⟨C,0,none⟩ (.int .i64 (F-1)))).alloc (by simp) (.cells Bn 44)));have c4:=hg.Ag b8 c3;have d8:((w.setCell ⟨C,0,none⟩ (.int .i64 (F-1))).alloc (.cells Bn 44)).heap.size=w.heap.size+1:=by simp
  rw[EL]at H;have P:=AB (show Az (d+1) (L+1) s=match Dj s with
   |none=>.error 3
   |some (l0,S)=>match Cq l0 with
    |none=>.error 1
    |some l=>match Bg l with
     |none=>.error 3
     |some none=>(match Dg l S with
      | .error e=>.error e
      | .ok b=>.ok (.mk l b false [],L))
     |some (some b)=>match Dm S b with
      |none=>.error 3
      |some D=>match By (Az d) L D with
       | .error e=>.error e
       | .ok (E,n)=>.ok (.mk l [] true E,n)from rfl)
  have c9:=fun W hW=>pD s W (by omega) hW
  have b5:=fun o r(h:Dj s=some (o,r))=>Vq h
  generalize Dj s=rh at P c9 b5;unfold Bn at f H b8 c4 d8;go_enter func87,ntmps87;go_wp2_with fail;generalize World.alloc _ _=W1 at f H b8 c4 d8⊢;clear kc kf d6 BO hg hb h0;with_reducible refine(c9 _ c4.g).mono ?_
  rintro e w2⟨hh,b6⟩;have f:=f.next b6 f.lt;have H:=H.next b6 H.lt;have d0:=c4.next b6;have B2:=b8.next b6 b8.size;have h4:=b6.size;clear c9 b6;rcases hh with⟨o,S,v,rfl,_,_,_,rfl,d9⟩|⟨v,rfl,rfl,hv⟩
  case inr=>
   have N:=AB (show Az (d+1) (L+1) s=.error 3 from P.o);have hT:=Qz v 3 w2 hv d0;obtain⟨t,x,rfl⟩:=(hv.n (by decide)).some;have K:=H.cell;have kf:=H.free;clear P b5;go_wp2_with fail;with_reducible refine hT.mono ?_
   rintro e w3⟨rfl,b3⟩;have H:=H.next b3 H.lt;have K:=H.cell;have kf:=H.free;go_wp2_with fail;refine AL (v:=.tuple #[.agg Bn,.iface 30 (.int .i64 3)]) (by simp[results,results87,go_sem,Bn,K]) rfl ⟨Or.inr ⟨3,K5,N.o,rfl⟩,?_⟩;exact((((B2.next b3 B2.size).own (AC _) _).own (AC _) _).own (AC _) _).own (AC _) _
  obtain⟨h5,f7⟩:=b5 o S rfl;have hC:=pB v o w2 d9 ((Em (n:=20000) (by omega)).ok (by decide));have c5:=fun l(h:Cq o=some l)=>Sj h
  have P:=AB (show Az (d+1) (L+1) s=match Cq o with
   |none=>.error 1
   |some l=>match Bg l with
    |none=>.error 3
    |some none=>(match Dg l S with
     | .error e=>.error e
     | .ok b=>.ok (.mk l b false [],L))
    |some (some b)=>match Dm S b with
     |none=>.error 3
     |some D=>match By (Az d) L D with
      | .error e=>.error e
      | .ok (E,n)=>.ok (.mk l [] true E,n)from P.o)
  clear b5;generalize Cq o=rc at hC c5 P;go_wp2_with fail;with_reducible refine hC.mono ?_
  rintro e w3⟨hh,b3⟩;have f:=f.next b3 f.lt;have H:=H.next b3 H.lt;have c6:=d0.next b3;have B3:=B2.next b3 B2.size;have h6:=b3.size;clear hC d9 b3 B2 d0;rcases hh with⟨l,v2,rfl,rfl,T⟩|⟨v2,rfl,rfl,hv⟩
  case inr=>
   have N:=AB (show Az (d+1) (L+1) s=.error 1 from P.o);have hT:=Qz v2 1 w3 hv c6;obtain⟨t,x,rfl⟩:=(hv.n (by decide)).some;have K:=H.cell;have kf:=H.free;clear P c5;go_wp2_with fail;with_reducible refine hT.mono ?_
   rintro e q⟨rfl,b4⟩;have H:=H.next b4 H.lt;have K:=H.cell;have kf:=H.free;go_wp2_with fail;refine AL (v:=.tuple #[.agg Bn,.iface 30 (.int .i64 1)]) (by simp[results,results87,go_sem,Bn,K]) rfl ⟨Or.inr ⟨1,K5,N.o,rfl⟩,?_⟩;exact((((B3.next b4 B3.size).own (AC _) _).own (AC _) _).own (AC _) _).own (AC _) _
  have d1:=Em (n:=20000) (BC (c5 l rfl) (by omega));have z:=A0.Dn (by decide) Ah T;have hB:=Wr v2 l w3 z.rd (d1.mono (by decide)) c6;obtain⟨G,I,rfl,_⟩:=z.rd;have P:=AB (show Az (d+1) (L+1) s=match Bg l with
   |none=>.error 3
   |some none=>(match Dg l S with
    | .error e=>.error e
    | .ok b=>.ok (.mk l b false [],L))
   |some (some b)=>match Dm S b with
    |none=>.error 3
    |some D=>match By (Az d) L D with
     | .error e=>.error e
     | .ok (E,n)=>.ok (.mk l [] true E,n)from P.o)
  have b9:=fun b=>eR (b:=b) d1
  have z:Aq 2 Au (fun b=>w.heap.size<b∧b<w3.heap.size) w3 (.slice G l.length I) l:=z.Ad fun b J M=>⟨by have:=J.1;omega,M⟩
  clear c5 T;generalize Bg l=Z at hB P b9;go_wp2_with fail;with_reducible refine hB.mono ?_
  rintro e q⟨hh,b4⟩;have f:=f.next b4 f.lt;have H:=H.next b4 H.lt;have c0:=c6.next b4;have B4:=B3.next b4 B3.size;have f8:=b4.size;have z:=z.next b4;clear hB b4 B3 c6;rcases hh with⟨b,rfl,rfl⟩|⟨rfl,rfl⟩|⟨rfl,rfl⟩
  case inr.inl=>
   have P:=AB (show Az (d+1) (L+1) s=match Dg l S with
    | .error e=>.error e
    | .ok b=>.ok (.mk l b false [],L)from P.o)
   have u:=A1.new q #[.slice G l.length I,.string ⟨#[]⟩,.bool false,.slice none 0 0] 44;have A:=(AD q.heap.size q).alloc (AC _) (.cells #[.slice G l.length I,.string ⟨#[]⟩,.bool false,.slice none 0 0] 44);have f:=f.next A f.lt;have H:=H.next A H.lt;have b0:=c0.next A;have B5:=B4.next A B4.size;have z:=z.next A;have hD:=wX _ l S _ z.rd (d1.mono (by decide)) (by omega) b0;clear A b9 B4 c0;generalize Dg l S=rd at hD P;go_wp2_with fail;generalize World.alloc _ _=W5 at u f H b0 B5 z hD⊢;with_reducible refine hD.mono ?_
   rintro e w6⟨hh,O⟩;have u:=u.next O u.lt;have f:=f.next O f.lt;have H:=H.next O H.lt;have z:=z.next O;have B6:=B5.next O B5.size;have c7:w.heap.size≠q.heap.size:=by omega
   have h7:q.heap.size≠w.heap.size:=by omega
   have d2:C≠q.heap.size:=by omega
   have h8:=f8;clear hD O B5;rcases hh with⟨o,rfl,rfl⟩|⟨c,rfl,_,rfl⟩
   ·have N:=AB (show Az (d+1) (L+1) s=.ok (.mk l o false [],L)from P.o);have d3:A1 (w6.setCell ⟨q.heap.size,1,none⟩ (.string ⟨o.toArray⟩)) q.heap.size #[.slice G l.length I,.string ⟨o.toArray⟩,.bool false,.slice none 0 0] 44:=u.set 1 _;have kp:=u.cell;have f9:=u.free;have ks:=d3.cell;have H:=H.A6 (a:=⟨q.heap.size,1,none⟩) c7 (.string ⟨o.toArray⟩);have K:=H.cell;have c8:=H.free;clear P;go_wp2_with fail;refine AL (v:=.tuple #[.agg #[.slice G l.length I,.string ⟨o.toArray⟩,.bool false,.slice none 0 0],.nilIface]) (by simp[results,results87,go_sem,K]) rfl ⟨Or.inl ⟨_,_,((G,l.length,I),o,false,(none,0,0)),N.o,by omega,rfl,⟨rfl,rfl,?_,[],Aq.nil _ _ _ _ _ _,rfl,fun k h=>by simp at h⟩,?_⟩,?_⟩
    ·exact(((((z.set _ (by simp only;omega)).set _ (by simp only;omega)).set _ (by simp only;omega)).set _ (by simp only;omega)).set _ (by simp only;omega)).Ad fun b h _=>GD h.1
    ·have:=(((((f.A6 (a:=⟨q.heap.size,1,none⟩) d2 (.string ⟨o.toArray⟩)).A6 (a:=⟨w.heap.size,0,none⟩) a6.symm (.slice G l.length I)).A6 (a:=⟨w.heap.size,1,none⟩) a6.symm (.string ⟨o.toArray⟩)).A6 (a:=⟨w.heap.size,2,none⟩) a6.symm (.bool false)).A6 (a:=⟨w.heap.size,3,none⟩) a6.symm (.slice none 0 0));rw[d7.o]at this;exact this
    exact((((B6.own (by simp only;omega) _).own (AC _) _).own (AC _) _).own (AC _) _).own (AC _) _
   have N:=AB (show Az (d+1) (L+1) s=.error c from P.o);have d3:A1 (w6.setCell ⟨q.heap.size,1,none⟩ (.string ⟨#[]⟩)) q.heap.size #[.slice G l.length I,.string ⟨#[]⟩,.bool false,.slice none 0 0] 44:=u.set 1 _;have kp:=u.cell;have f9:=u.free;have ks:=d3.cell;have H:=H.A6 (a:=⟨q.heap.size,1,none⟩) c7 (.string ⟨#[]⟩);have K:=H.cell;have c8:=H.free;clear P;go_wp2_with fail;refine AL (v:=.tuple #[.agg #[.slice G l.length I,.string ⟨#[]⟩,.bool false,.slice none 0 0],.iface 30 (.int .i64 c)]) (by simp[results,results87,go_sem,K]) rfl ⟨Or.inr ⟨c,((G,l.length,I),[],false,(none,0,0)),N.o,rfl⟩,?_⟩;exact((((B6.own (by simp only;omega) _).own (AC _) _).own (AC _) _).own (AC _) _).own (AC _) _
  case inl=>
   have h9:=b9 b rfl;have P:=AB (show Az (d+1) (L+1) s=match Dm S b with
    |none=>.error 3
    |some D=>match By (Az d) L D with
     | .error e=>.error e
     | .ok (E,n)=>.ok (.mk l [] true E,n)from P.o)
   have u:=A1.new q #[.slice G l.length I,.string ⟨#[]⟩,.bool true,.slice none 0 0] 44;have A:=(AD q.heap.size q).alloc (AC _) (.cells #[.slice G l.length I,.string ⟨#[]⟩,.bool true,.slice none 0 0] 44);have f:=f.next A f.lt;have H:=H.next A H.lt;have b0:=c0.next A;have B5:=B4.next A B4.size;have z:=z.next A;have g0:(q.alloc (.cells #[.slice G l.length I,.string ⟨#[]⟩,.bool true,.slice none 0 0] 44)).heap.size=q.heap.size+1:=by simp
   have hC:=fun W hW=>xA S b W (by omega) (by omega) hW
   clear A b9 B4 c0;generalize Dm S b=rc at hC P;go_wp2_with fail;generalize World.alloc _ _=W5 at u f H b0 B5 z g0⊢;with_reducible refine(hC _ b0).mono ?_
   rintro e w6⟨hh,O⟩;have u:=u.next O u.lt;have f:=f.next O f.lt;have H:=H.next O H.lt;have z:=z.next O;have e0:=b0.next O;have B6:=B5.next O B5.size;have i0:=O.size;have c7:w.heap.size≠q.heap.size:=by omega
   have d2:C≠q.heap.size:=by omega
   have g1:=u.lt;clear hC O B5 b0;rcases hh with⟨D,v6,rfl,i1,e1,rfl,e2⟩|⟨rfl,rfl⟩
   case inr=>
    have N:=AB (show Az (d+1) (L+1) s=.error 3 from P.o);have K:=H.cell;have c8:=H.free;clear P;go_wp2_with fail;refine AL (v:=.tuple #[.agg Bn,.iface 30 (.int .i64 3)]) (by simp[results,results87,go_sem,Bn,K]) rfl ⟨Or.inr ⟨3,K5,N.o,rfl⟩,?_⟩;exact(((B6.own (AC _) _).own (AC _) _).own (AC _) _).own (AC _) _
   have HR:=AB (show∀r,By (Az d) L D=r→Az (d+1) (L+1) s=match r with
    | .error e=>.error e
    | .ok (E,n)=>.ok (.mk l [] true E,n)from fun r h=>by rw[←h];exact P.o)
   have HX:=AB e1;have U:=A0.Dn (by decide) Cw e2.t;obtain⟨e3,e4,rfl,_⟩:=U.rd;have U:Aq 1 Bi (fun b=>W5.heap.size≤b∧b<w6.heap.size) w6 (.slice e3 D.length e4) D:=U.Ad fun b J M=>⟨J.1,M⟩
   have f:A1 w6 C #[.int .i64 (L:Int)] 3:=by
    have:=f;rw[d7.o]at this;exact this
   clear P e2 e1;go_wp2_with fail;go_loopw[91] (fun i wr=>∃(k n:Nat)(E:List A8)(R:List Ao)(sl:H7),i=.int .i64 k∧k≤D.length∧E.length=k∧R.length=k∧n≤L∧A1 wr C #[.int .i64 (n:Int)] 3∧A1 wr w.heap.size #[.slice none 0 0,.string ⟨#[]⟩,.bool false,.slice none 0 0] 44∧A1 wr q.heap.size #[.slice G l.length I,.string ⟨#[]⟩,.bool true,A9 sl] 44∧F3 wr w6.heap.size (A9 sl) R∧Aq 2 Au (fun b=>w.heap.size<b∧b<w3.heap.size) wr (.slice G l.length I) l∧Aq 1 Bi (fun b=>W5.heap.size≤b∧b<w6.heap.size) wr (.slice e3 D.length e4) D∧Hid (∀j(J:j<R.length)(M:j<E.length),A7 (fun b=>w.heap.size<b∧b≠q.heap.size∧(A9 sl).ownBlock≠some b) d wr R[j] E[j])∧Gr wr∧Hid (Ku E (By (Az d) n (D.drop k))=By (Az d) L D)∧A5 C w.heap.size w wr∧w6.heap.size≤wr.heap.size) (fun i _=>D.length-(intOf i).toNat)
   case atStart=>exact⟨0,L,[],[],(none,0,0),rfl,by omega,rfl,rfl,by omega,f,H,u,A0.nil _ _ _ _ _,z,U,AB (fun j J=>by simp at J),e0,AB (by rw[DP,Te]),B6,AC _⟩
   clear f H u z U e0 B6;obtain⟨k,n,E,R,sl,rfl,hk,i2,i3,hn,f,H,u,T,z,U,a5,d4,b7,B,i4⟩:=hrel;obtain⟨sa,sn,sc⟩:=sl;simp only[A9]at u T a5;by_cases c1:k<D.length
   ·obtain⟨pb,rfl,i5,i6,e5⟩:=U.at Cw k c1;have g2:=BC (HX.o _ (AN c1)) f7;have HE:=AB (fun c(h:Az d n D[k]=.error c)=>Tf c1 h E);have HO:=AB (fun y m(h:Az d n D[k]=.ok (y,m))=>Tg c1 h E);have e6:wr.cell? ⟨pb,k,none⟩=some (.string ⟨(D[k]).toArray⟩):=by have:=e5 0 (by decide);simpa[Bi]using this
    clear e5;generalize D[k]=x at g2 HE HO e6;have hI:=ih n x C (dp+1) n wr (AB (by have:=c2.o;omega)) (by omega) (AB rfl) (by omega) d4 c3 f (by omega);generalize Az d n x=rx at hI HE HO;go_wp2_with fail;with_reducible refine hI.mono ?_
    rintro e w8⟨hh,a7⟩;have i7:=a7.size;have H:=H.Ag a7 (by omega);have u:=u.Ag a7 (by omega);have e7:=A0.Do T;have a9:=A0.Fp T;have T:=T.Ag a7 (by omega);have z:=z.Ag a7 (by first|omega|(simp only;omega));have U:=U.Ag a7 (by first|omega|(simp only;omega));have e8:=d4.Ag a7 c3;have B8:=B.trans (a7.mono (by omega));have a5:=AB (fun j J M=>(a5.o j J M).Ag a7 (by first|omega|(simp only;omega)));clear hI e6 d4 B f;rcases hh with⟨p,m,b1,rfl,hm,rfl,e9,f⟩|⟨c,b1,rfl,rfl⟩
    case inr=>
     have N:=AB (show Az (d+1) (L+1) s=.error c from HR.o _ (b7.o.symm.trans (HE.o c rfl)));obtain⟨⟨ra,rn,a0⟩,Z,rm,⟨a1,a2,a3⟩⟩:=b1;simp only[Bm,A9];have H:=H.alloc (.cells #[.slice ra rn a0,.string ⟨Z.toArray⟩,.bool rm,.slice a1 a2 a3] 44);have K:=H.cell;have c8:=H.free;clear HE HO b7;go_wp2_with fail;refine AL (v:=.tuple #[.agg Bn,.iface 30 (.int .i64 c)]) (by simp[results,results87,go_sem,Bn,K]) rfl ⟨Or.inr ⟨c,K5,N.o,rfl⟩,?_⟩;exact((((B8.next ((AD _ _).alloc (AC _) _) B8.size).own (AC _) _).own (AC _) _).own (AC _) _).own (AC _) _
    have N:=AB (Eq.trans (HO.o p m rfl).symm b7.o);have a5:=AB (show∀j(J:j<(R++[b1]).length)(M:j<(E++[p]).length),A7 (fun b=>w.heap.size<b∧b≠q.heap.size∧(Value.slice sa sn sc).ownBlock≠some b) d w8 (R++[b1])[j] (E++[p])[j]from fun j J M=>by
     by_cases hj:j<R.length
     ·rw[DU hj,DU (by omega)];exact a5.o j hj (by omega)
     obtain rfl:j=R.length:=by simp at J;omega
     have g3:(R++[b1])[R.length]=b1:=by simp
     have g4:(E++[p])[R.length]'M=p:=by rw[FO (by omega)];simp
     rw[g3,g4];refine A7.Ad (fun b J _=>⟨by omega,by omega,fun e=>?_⟩) e9;have:=e7 b e;omega)
    clear HE HO b7 e9;obtain⟨⟨ra,rn,a0⟩,Z,rm,⟨a1,a2,a3⟩⟩:=b1;simp only[Bm,A9];have g5:=A1.new w8 #[.slice ra rn a0,.string ⟨Z.toArray⟩,.bool rm,.slice a1 a2 a3] 44;have A:=(AD w8.heap.size w8).alloc (AC _) (.cells #[.slice ra rn a0,.string ⟨Z.toArray⟩,.bool rm,.slice a1 a2 a3] 44);have f0:(w8.alloc (.cells #[.slice ra rn a0,.string ⟨Z.toArray⟩,.bool rm,.slice a1 a2 a3] 44)).heap.size=w8.heap.size+1:=by simp
    have f:=f.next A f.lt;have H:=H.next A H.lt;have u:=u.next A u.lt;have T:=A0.next T A;have z:=z.next A;have U:=U.next A;have g6:=e8.next A;have B9:=B8.next A B8.size;have a5:=AB (fun j J M=>(a5.o j J M).next A);have kp:=u.cell;have kt:=g5.cell;clear A e8 B8;go_wp2_with(at_builtin;refine Td rfl _ _ rfl w6.heap.size _ R ((ra,rn,a0),Z,rm,(a1,a2,a3)) _ 1 rfl (A0.alloc T _) rfl (Tc _ ((ra,rn,a0),Z,rm,(a1,a2,a3)) _ _ (by simp)) (by omega) (by simp;omega) ?_;intro v' d5 f1 a8 f2 f3;obtain⟨V,X,Y,rfl⟩:=f1.shape;have u:=(u.alloc (.cells #[.slice ra rn a0,.string ⟨Z.toArray⟩,.bool rm,.slice a1 a2 a3] 44)).grown a8 (fun g hg=>by have:=a9 g hg;omega);have i8:=u.cell;have i9:=u.free);have A:=(AD (w8.alloc (.cells #[.slice ra rn a0,.string ⟨Z.toArray⟩,.bool rm,.slice a1 a2 a3] 44)).heap.size (w8.alloc (.cells #[.slice ra rn a0,.string ⟨Z.toArray⟩,.bool rm,.slice a1 a2 a3] 44))).alloc (AC _) (.cells #[.slice ra rn a0,.string ⟨Z.toArray⟩,.bool rm,.slice a1 a2 a3] 44);have g7:=a8.size;rw[AV,f0]at g7;have f:=((f.next A f.lt).grown a8 (fun g hg=>by have:=a9 g hg;omega)).A6 (a:=⟨q.heap.size,3,none⟩) d2 (.slice V X Y);have H:=((H.next A H.lt).grown a8 (fun g hg=>by have:=a9 g hg;omega)).A6 (a:=⟨q.heap.size,3,none⟩) c7 (.slice V X Y);have u:A1 (d5.setCell ⟨q.heap.size,3,none⟩ (.slice V X Y)) q.heap.size #[.slice G l.length I,.string ⟨#[]⟩,.bool true,.slice V X Y] 44:=u.set 3 _;have z:=((z.next A).grown a8 (fun b h e=>by have:=a9 b e.symm;omega)).set (a:=⟨q.heap.size,3,none⟩) (.slice V X Y) (by first|omega|(simp only;omega));have U:=((U.next A).grown a8 (fun b h e=>by have:=a9 b e.symm;omega)).set (a:=⟨q.heap.size,3,none⟩) (.slice V X Y) (by first|omega|(simp only;omega));have a5:=AB (fun j J M=>A7.Ad (Q:=fun b=>w.heap.size<b∧b≠q.heap.size∧(Value.slice V X Y).ownBlock≠some b) (fun b h _=>⟨h.1.1,h.1.2.1,h.2⟩) (((A7.Ad (Q:=fun b=>(w.heap.size<b∧b≠q.heap.size∧(Value.slice sa sn sc).ownBlock≠some b)∧(Value.slice V X Y).ownBlock≠some b) (fun b h c1=>⟨h,fun e=>by
     rcases f3 with ho|ho
     ·exact h.2.2 (ho▸e)
     rw[ho]at e;injection e with e;omega⟩) ((a5.o j J M).next A)).grown a8 (fun b h e=>h.1.2.2 e.symm)).set (a:=⟨q.heap.size,3,none⟩) (.slice V X Y) (fun h=>h.1.2.1 rfl)))
    have T:=f1.A6 (a:=⟨q.heap.size,3,none⟩) (by simp only;omega) (.slice V X Y);have g8:Gr (d5.setCell ⟨q.heap.size,3,none⟩ (.slice V X Y)):=(g6.next A).keep fun b hb=>(Gp _ _ _ b (by simp only;omega)).trans (a8.block b (by rw[AV,f0];omega) (fun e=>by have:=a9 b e.symm;omega))
    have g9:=((B9.next A B9.size).trans (A5.of (f2.mono (by omega)))).own (p:=⟨q.heap.size,3,none⟩) (by simp only;omega) (.slice V X Y);have h1:w6.heap.size≤(d5.setCell ⟨q.heap.size,3,none⟩ (.slice V X Y)).heap.size:=by simp[World.setCell];omega
    clear f3 a8 f2 A e7 a9;go_wp2_with fail;go_roundw
    case rel=>exact⟨k+1,m,E++[p],R++[((ra,rn,a0),Z,rm,(a1,a2,a3))],(V,X,Y),by go_num,by omega,by simp;omega,by simp;omega,by omega,f,H,u,T,z,U,a5,g8,N,g9,h1⟩
    simp[intOf];omega
   obtain rfl:k=D.length:=by omega
   have N:=AB (show Az (d+1) (L+1) s=.ok (.mk l [] true E,n)from HR.o _ (b7.o.symm.trans (Th E)));have kp:=u.cell;have K:=H.cell;have c8:=H.free;have b5:=A0.Dn (by decide) Db T;have a9:=g1;clear b7;go_wp2_with fail;refine AL (v:=.tuple #[.agg #[.slice G l.length I,.string ⟨#[]⟩,.bool true,.slice sa sn sc],.nilIface]) (by simp[results,results87,go_sem,K]) rfl ⟨Or.inl ⟨_,_,((G,l.length,I),[],true,(sa,sn,sc)),N.o,by omega,rfl,⟨rfl,rfl,?_,R,?_,by omega,fun j J M=>?_⟩,?_⟩,?_⟩
   ·exact((((z.set _ (by first|omega|(simp only;omega))).set _ (by first|omega|(simp only;omega))).set _ (by first|omega|(simp only;omega))).set _ (by first|omega|(simp only;omega))).Ad fun b h _=>GD h.1
   ·exact((((b5.set _ (fun h=>by have:=h.1;simp only at this;omega)).set _ (fun h=>by have:=h.1;simp only at this;omega)).set _ (fun h=>by have:=h.1;simp only at this;omega)).set _ (fun h=>by have:=h.1;simp only at this;omega)).Ad fun b h _=>by have:=h.1;omega
   ·exact A7.Ad (fun b h _=>GD h.1) (((((a5.o j J M).set _ (fun h=>by have:=h.1;simp only at this;omega)).set _ (fun h=>by have:=h.1;simp only at this;omega)).set _ (fun h=>by have:=h.1;simp only at this;omega)).set _ (fun h=>by have:=h.1;simp only at this;omega))
   ·exact(((f.A6 (a:=⟨w.heap.size,0,none⟩) a6.symm _).A6 (a:=⟨w.heap.size,1,none⟩) a6.symm _).A6 (a:=⟨w.heap.size,2,none⟩) a6.symm _).A6 (a:=⟨w.heap.size,3,none⟩) a6.symm _
   exact(((B.own (AC _) _).own (AC _) _).own (AC _) _).own (AC _) _
  have N:=AB (show Az (d+1) (L+1) s=.error 3 from P.o);have hT:=Qz _ 3 q (Or.inr (Or.inl rfl)) c0;clear P b9;go_wp2_with fail;with_reducible refine hT.mono ?_
  rintro e w5⟨rfl,f4⟩;have H:=H.next f4 H.lt;have K:=H.cell;have kf:=H.free;go_wp2_with fail;refine AL (v:=.tuple #[.agg Bn,.iface 30 (.int .i64 3)]) (by simp[results,results87,go_sem,Bn,K]) rfl ⟨Or.inr ⟨3,K5,N.o,rfl⟩,?_⟩;exact((((B4.next f4 B4.size).own (AC _) _).own (AC _) _).own (AC _) _).own (AC _) _
def yS(B:Nat)(r:Except Int A8)(e:Ending)(w':World):Prop:=(∃p R,r=.ok p∧e=.returned (.tuple #[Bm R,.nilIface])∧A7 (fun b=>B≤b) 4 w' R p)∨(∃c,r=.error c∧e=.returned (.tuple #[.agg Bn,.iface 30 (.int .i64 c)]))
theorem yT(s:Bs)(w:World)(O:s.length≤1000000000000)(z:Gr w):Calls prog 32 #[.string ⟨s.toArray⟩] w fun e A=>yS w.heap.size (E8 s) e A∧Below w.heap.size w A:=by
 by_cases C:20000<s.length
 ·have N:=AB (by unfold E8;rw[AM C]:E8 s=.error 4);have E:(20000:Int)<s.length:=by omega
  go_enter func32,ntmps32;go_wp2_with fail;refine AL (v:=.tuple #[.agg Bn,.iface 30 (.int .i64 4)]) (by simp[results,results32,go_sem,Bn]) rfl ⟨Or.inr ⟨4,N.o,rfl⟩,?_⟩;go_grown
 have P:=AB (by unfold E8;rw[AI C]:E8 s=(Az 4 40 s).map (·.1));have E:¬(20000:Int)<s.length:=by omega
 have Q:=z.size;have H:=(A1.new w Bn 44).alloc (.cells #[.int .i64 40] 3);have l:=A1.new (w.alloc (.cells Bn 44)) #[.int .i64 40] 3;have B:=((AD w.heap.size w).alloc (AC _) (.cells Bn 44)).alloc (by simp) (.cells #[.int .i64 40] 3);have q:=z.next B;have D:((w.alloc (.cells Bn 44)).alloc (.cells #[.int .i64 40] 3)).heap.size=w.heap.size+1+1:=by simp
 rw[AV]at l;have t:=fun W F G=>yR 4 40 s (w.heap.size+1) 1 40 W (AB rfl) (by decide) (AB rfl) (by decide) F (by omega) G (by omega)
 generalize Az 4 40 s=r at t P;unfold Bn at H l B q D;go_enter func32,ntmps32;go_wp2_with fail;generalize World.alloc _ _=S at H l B q D⊢;with_reducible refine(t _ q l).mono ?_
 rintro e u⟨I,k⟩;have H:=H.Ag k (by omega);have o:=B.trans ((k.mono (B':=w.heap.size) (by omega)).shut (by omega));have T:=k.size;clear t k l;rcases I with⟨p,n,x,rfl,U,rfl,y,l⟩|⟨c,x,rfl,rfl⟩
 ·have N:=AB (show E8 s=.ok p from P.o);obtain⟨⟨R,a,d⟩,f,m,⟨g,i,j⟩⟩:=x;simp only[Bm,A9];have J:=A1.new u #[.slice R a d,.string ⟨f.toArray⟩,.bool m,.slice g i j] 44;have H:=H.alloc (.cells #[.slice R a d,.string ⟨f.toArray⟩,.bool m,.slice g i j] 44);have y:=y.next ((AD u.heap.size u).alloc (AC _) (.cells #[.slice R a d,.string ⟨f.toArray⟩,.bool m,.slice g i j] 44));have L:=o.alloc o.size (.cells #[.slice R a d,.string ⟨f.toArray⟩,.bool m,.slice g i j] 44);have K:=H.cell;have M:=H.free;have V:=J.cell;go_wp2_with fail;refine AL (v:=.tuple #[.agg #[.slice R a d,.string ⟨f.toArray⟩,.bool m,.slice g i j],.nilIface]) (by simp[results,results32,go_sem,K]) rfl ⟨Or.inl ⟨_,((R,a,d),f,m,(g,i,j)),N.o,rfl,?_⟩,?_⟩
  ·exact A7.Ad (fun b h _=>by have:=h;omega) ((((y.set _ (by first|omega|(simp only;omega))).set _ (by first|omega|(simp only;omega))).set _ (by first|omega|(simp only;omega))).set _ (by first|omega|(simp only;omega)))
  go_grown
 have N:=AB (show E8 s=.error c from P.o);obtain⟨⟨R,a,d⟩,f,m,⟨g,i,j⟩⟩:=x;simp only[Bm,A9];have H:=H.alloc (.cells #[.slice R a d,.string ⟨f.toArray⟩,.bool m,.slice g i j] 44);have L:=o.alloc o.size (.cells #[.slice R a d,.string ⟨f.toArray⟩,.bool m,.slice g i j] 44);have K:=H.cell;have M:=H.free;go_wp2_with fail;refine AL (v:=.tuple #[.agg Bn,.iface 30 (.int .i64 c)]) (by simp[results,results32,go_sem,Bn,K]) rfl ⟨Or.inr ⟨c,N.o,rfl⟩,?_⟩;go_grown
def Ha(f:A4):Bool:=A2 f.1==A2 Bl
theorem eS(x y:Bs)(w:World)(r:x.length≤1000000000000)(g:Gr w):Calls prog 195 #[.agg #[.string ⟨x.toArray⟩,.string ⟨y.toArray⟩]] w fun e l=>e=.returned (.bool (Ha (x,y)))∧Below w.heap.size w l:=by
 have C:w.cell? ⟨2,1,none⟩=some (.string ⟨#[67,111,110,116,101,110,116,45,84,114,97,110,115,102,101,114,45,69,110,99,111,100,105,110,103]⟩):=g.ours 1 (by decide);have s:=g.size;have h:=A1.new w #[.string ⟨x.toArray⟩,.string ⟨y.toArray⟩] 92;have b:=(AD w.heap.size w).alloc (AC _) (.cells #[.string ⟨x.toArray⟩,.string ⟨y.toArray⟩] 92);have c:=(b.cell (p:=⟨2,1,none⟩) (by simp only;omega)).trans C;have f:=fun W=>G0 x W (by omega)
 have i:=fun W=>G0 [67,111,110,116,101,110,116,45,84,114,97,110,115,102,101,114,45,69,110,99,111,100,105,110,103] W (by decide)
 have H:=AB (by rfl:Ha (x,y)=(A2 x==A2 [67,111,110,116,101,110,116,45,84,114,97,110,115,102,101,114,45,69,110,99,111,100,105,110,103]));generalize A2 x=L at f H;generalize A2 [67,111,110,116,101,110,116,45,84,114,97,110,115,102,101,114,45,69,110,99,111,100,105,110,103]=t at i H;have z:(w.alloc (.cells #[.string ⟨x.toArray⟩,.string ⟨y.toArray⟩] 92)).heap.size=w.heap.size+1:=by simp
 have j:2<(w.alloc (.cells #[.string ⟨x.toArray⟩,.string ⟨y.toArray⟩] 92)).heap.size:=by rw[z];omega
 clear C;go_enter func195,ntmps195;go_upto_region 1 with fail;generalize World.alloc _ _=a at h b c z j⊢;have m:=(A1.drew h).cell;have n:a.drew.cell? ⟨2,1,none⟩=some (.string ⟨#[67,111,110,116,101,110,116,45,84,114,97,110,115,102,101,114,45,69,110,99,111,100,105,110,103]⟩):=c;have o:=(AD a.heap.size a).drew;go_region_held3(fun W=>(∀k,W.cell? ⟨w.heap.size,k,none⟩=(#[.string ⟨x.toArray⟩,.string ⟨y.toArray⟩])[k]?)∧W.cell? ⟨2,1,none⟩=some (.string ⟨#[67,111,110,116,101,110,116,45,84,114,97,110,115,102,101,114,45,69,110,99,111,100,105,110,103]⟩)∧Below a.heap.size a W)
  (first
   |with_reducible exact⟨m,n,o⟩
   |with_reducible exact⟨(h.next K h.lt).cell,(K.cell (p:=⟨2,1,none⟩) j).trans c,K⟩)
  ((
   first
   |(go_at_call 42;go_split_ands;with_reducible refine(f _).mono ?_;rintro e q⟨rfl,d⟩;have K:=C4 d (w0:=a) (by assumption))
   |(go_at_call 42;go_split_ands;with_reducible refine(i _).mono ?_;rintro e q⟨rfl,d⟩;have K:=C4 d (w0:=a) (by assumption))))
 all_goals go_split_ands
 all_goals go_wp2_with fail
 all_goals
  go_ret;exact⟨Ba (by rw[H.o]),b.trans (GY (B:=a.heap.size) (by assumption) b.size)⟩
def Jk(p:A4→Bool):List A4→Nat→Int
 |[],_=>-1
 |f::l,k=>if p f then k else Jk p l (k+1)
theorem yU(v:Value)(l:List A4)(w:World)(r:C7 w v l)(c:L7 l)(z:Gr w):Calls prog 180 #[v,.func (.func 195) #[] #[]] w fun e W=>e=.returned (.int .i64 (Jk Ha l 0))∧Below w.heap.size w W:=by
 have F:=c.1;have A:=AB c.2;clear c;obtain⟨a,I,rfl,j⟩:=r.open;have D:=AB j;clear j r;go_enter func180,ntmps180;go_wp2_with fail;go_loopw[8] (fun i wr=>∃k:Nat,i=.int .i64 k∧k≤l.length∧Jk Ha l 0=Jk Ha (l.drop k) k∧Below w.heap.size w wr) (fun i _=>l.length-(intOf i).toNat)
 case atStart=>exact⟨0,rfl,by omega,by simp,AD _ _⟩
 obtain⟨k,rfl,J,m,B⟩:=hrel;have d:=AB m;clear m;by_cases t:k<l.length
 ·obtain⟨b,rfl,n,o,q⟩:=D.o k t;have g:=A.o l[k] (AN _);have H:=AB (by rw[AE t];rfl:Jk Ha (l.drop k) k=if Ha l[k]then(k:Int)else Jk Ha (l.drop (k+1)) (k+1));have C:=(B.cell (p:=⟨b,k*2,none⟩) n).trans o;have s:=(B.cell (p:=⟨b,k*2+1,none⟩) n).trans q;clear o q;generalize l[k]=f at g H C s;obtain⟨x,y⟩:=f;simp only at g H C s;have G:=eS x y wr g.1 (z.next B);generalize Ha (x,y)=E at G H;go_wp2_with fail;with_reducible refine G.mono ?_
  rintro e K⟨rfl,u⟩;have B:=B.trans (u.mono B.size);clear u G;cases E with
  |true=>
   have h:=AB (by rw[d.o,H.o];rfl:Jk Ha l 0=(k:Int));go_wp2_with fail;go_ret;exact⟨Es (by rw[h.o]),B⟩
  |false=>
   have h:=AB (by rw[d.o,H.o];rfl:Jk Ha l 0=Jk Ha (l.drop (k+1)) (k+1));go_wp2_with fail;go_roundw
   case rel=>exact⟨k+1,by go_num,by omega,h.o,B⟩
   simp[intOf];omega
 obtain rfl:k=l.length:=by omega
 have h:=AB (by rw[d.o,AQ];rfl:Jk Ha l 0=-1);go_wp2_with fail;go_ret;exact⟨Es (by rw[h.o]),B⟩
theorem yV(a:Go.Addr)(j:Nat):(a.add j).block=a.block:=by unfold Go.Addr.add;split<;>rfl
theorem eT(w:World):Bk (w.alloc (.cells #[] 92)) w.heap.size (.slice (some ⟨w.heap.size,0,none⟩) 0 0) []:=⟨rfl,Or.inr ⟨w.heap.size,0,#[],rfl,AC _,IT w _,AC _,by decide,rfl,rfl⟩⟩
theorem eU(v:Value)(l:List A4)(w:World)(r:C7 w v l)(B:l.length≤1000000000000):Calls prog 194 #[v] w fun e g=>∃V,e=.returned V∧Bk g w.heap.size V l∧Below w.heap.size w g:=by
 obtain⟨a,C,rfl,d⟩:=r;have E:=fun W n c N k=>run_eql_slice_nil W 42 92 a n c N k underlying42
 cases a with
 |none=>
  have f:l=[]:=by
   rcases GA l.length with h|h
   ·exact DI.1 h
   obtain⟨b,h,_⟩:=d h;cases h
  subst f;simp only[Option.isNone]at E;go_enter func194,ntmps194;go_wp2_with fail;go_ret;exact⟨_,rfl,A0.nil _ _ _ _ _,AD _ _⟩
 |some A=>
  simp only[Option.isNone]at E;have i:0<l.length→A.block<w.heap.size∧∀j u,(l.flatMap Au)[j]?=some u→w.cell? (A.add j)=some u:=fun h=>by
   obtain⟨b,e,t,m⟩:=d h;injection e with e;subst e;refine⟨t,fun j u H=>?_⟩;rw[Dz,m j ?_]
   ·exact H
   have:=(CM.1 H).1;rw[Ix Ah]at this;exact this
  have s:∀j u,(l.flatMap Au)[j]?=some u→(w.alloc (.cells #[] 92)).cell? (A.add j)=some u:=fun j u H=>by
   have f:0<l.length:=by
    have:=(CM.1 H).1;rw[Ix Ah]at this;omega
   obtain⟨o,p⟩:=i f;rw[CC _ _ (A.add j) (by rw[yV];exact o)];exact p j u H
  have q:=AB s;clear s i d;go_enter func194,ntmps194;go_wp2_with(at_builtin;refine Kt (α:=A4) (cs:=Au) (size:=2) (z:=.agg #[.string ByteArray.empty,.string ByteArray.empty]) Ah Ju Kj rfl (by decide) underlying42 rfl _ _ rfl w.heap.size _ [] l A _ C rfl rfl (eT w) rfl q.o (by simp;omega) (by unfold maxLen;simp;omega) (by simp) ?_;intro V D x F y G);go_wp2_with fail;go_ret;exact⟨_,rfl,x,((AD _ _).alloc (AC _) _).trans y⟩
theorem A0.row{cs:α→List Value}{xs:List α}(h:A0 e size cs w B (.slice (some ⟨g,0,none⟩) n cap) xs):∃c,w.heap[g]?=some (.cells c e (0,0))∧n=xs.length∧B≤g∧n≤cap∧cap≤maxLen∧c.size=cap*size∧c.toList.take (n*size)=xs.flatMap cs:=by
 rcases h.2 with⟨v,_⟩|⟨G,C,c,v,a,b,d,p,z,f⟩
 ·cases v
 injection v with H i j;injection H with H;injection H with H;subst H i j;exact⟨c,b,rfl,a,d,p,z,f⟩
theorem A0.mk{cs:α→List Value}(h:∀x,(cs x).length=size){xs:List α}{c:Array Value}(H:w.heap[g]?=some (.cells c e (0,0)))(a:n=xs.length)(b:B≤g)(d:n≤cap)(f:cap≤maxLen)(i:c.size=cap*size)(j:c.toList.take (n*size)=xs.flatMap cs):A0 e size cs w B (.slice (some ⟨g,0,none⟩) n cap) xs:=by
 subst a;exact⟨Ix h xs,Or.inr ⟨g,cap,c,rfl,b,H,d,f,i,j⟩⟩
theorem A0.free{cs:α→List Value}{xs:List α}(h:A0 e size cs w B (.slice (some ⟨g,0,none⟩) n cap) xs)(j:Nat):w.frozen? ⟨g,j,none⟩=false:=by
 obtain⟨c,H,_⟩:=h.row;simp[World.frozen?,H]
theorem A0.cellAt{cs:α→List Value}(s:∀x,(cs x).length=size){xs:List α}(h:A0 e size cs w B (.slice (some ⟨g,0,none⟩) n cap) xs)(k:Nat)(H:k<xs.length)(i:Nat)(b:i<size):w.cell? ⟨g,k*size+i,none⟩=(cs xs[k])[i]?:=by
 obtain⟨c,d,f,_,_,_,_,j⟩:=h.row;subst f;have l:(k+1)*size≤xs.length*size:=EM _ H;rw[DN]at l;have a:(c.toList.take (xs.length*size))[k*size+i]?=(xs.flatMap cs)[k*size+i]?:=by rw[j]
 rw[EA,AM (by omega),Kg s xs k H i b]at a;simp[World.cell?,d];simpa using a
theorem eV:∀(Y:List A4)(i:Nat)(x y:Bs),i<Y.length→((Y.flatMap Au).set (i*2) (.string ⟨x.toArray⟩)).set (i*2+1) (.string ⟨y.toArray⟩)=(Y.set i (x,y)).flatMap Au
 |[],i,_,_,h=>by simp at h
 |f::Y,0,x,y,_=>rfl
 |f::Y,i+1,x,y,h=>by
  have ih:=eV Y i x y (by simpa using h);rw[IX,BT,BT,←ih,FI _ _ (by show 2≤_;omega),FI _ _ (by show 2≤_;omega)];have e:(i+1)*2-(Au f).length=i*2:=by show(i+1)*2-2=_;omega
  have E:(i+1)*2+1-(Au f).length=i*2+1:=by show(i+1)*2+1-2=_;omega
  rw[e,E]
theorem Bk.setAt(h:Bk w B (.slice (some ⟨g,0,none⟩) n cap) Y)(i:Nat)(a:i<Y.length)(x y:Bs):Bk ((w.setCell ⟨g,i*2,none⟩ (.string ⟨x.toArray⟩)).setCell ⟨g,i*2+1,none⟩ (.string ⟨y.toArray⟩)) B (.slice (some ⟨g,0,none⟩) n cap) (Y.set i (x,y)):=by
 obtain⟨_,_,b,_⟩:=h.row;subst b;unfold Bk A0 at h⊢;have c:=(FR h (i*2) (.string ⟨x.toArray⟩)).1;have H:=(FR c (i*2+1) (.string ⟨y.toArray⟩)).1;rw[eV Y i x y a]at H;rw[EV];exact H
theorem yW(w:World)(T:TypeId)(g o m c:Nat)(C:Array Value)(d:0<m)(b:w.heap[g]?=some (.cells C 92 (0,0)))(e:o+m*2≤C.size):∃z:List Value,z.length=m*2∧(Builtin.clear_ #[42] T #[.slice (some ⟨g,o,none⟩) m c]).run prog w=.ok (.tuple #[]) (w.setRow g (C.toList.take o++z++C.toList.drop (o+m*2)).toArray):=by
 have H:(Builtin.zeroCells #[Value.string ⟨#[]⟩,Value.string ⟨#[]⟩] m).toList.length=m*2:=by simp[Builtin.zeroCells]
 refine⟨(Builtin.zeroCells #[Value.string ⟨#[]⟩,Value.string ⟨#[]⟩] m).toList,H,?_⟩;have t:=run_storeCells_at (P:=prog) g o 92 (Builtin.zeroCells #[Value.string ⟨#[]⟩,Value.string ⟨#[]⟩] m).toList 0 C w b (by rw[H];omega) (fun v a=>by
  simp only[Builtin.zeroCells,Array.toList_map,DY]at a;obtain⟨i,_,rfl⟩:=a;have:i%2=0∨i%2=1:=by omega
  rcases this with h|h
  ·simp[h];rfl
  simp[h];rfl)
 rw[H]at t;simp only[BI]at t;obtain⟨m,rfl⟩:∃k,m=k+1:=⟨m-1,by omega⟩;simp[Builtin.clear_,run_underlying underlying42,Value.cells,t,Result.andThen]
theorem yX(d:o.guard=none)(x:Operand)
  (f:o.op=.call {callee:=.builtin .clear,args:=#[x],argTypes:=#[42]}) (B g n cap i m c:Nat) (y:List A4) (E:i<n) (j:m=n-i)
  (l:Bk w B (.slice (some ⟨g,0,none⟩) n cap) y) (p:a.eval x=.slice (some ⟨g,i*2,none⟩) m c)
  (h:∀W,Bk W B (.slice (some ⟨g,0,none⟩) i cap) (y.take i)→A5 g w.heap.size w W→wpList prog O Q rest (a.put o.dst (.tuple #[])) W):wpList prog O Q (o::rest) a w:=by
 obtain⟨C,H,F,q,G,r,z,s⟩:=l.row;obtain⟨Z,t,u⟩:=yW w o.type g (i*2) m c C (by omega) H (by rw[z,j];omega);refine wpList_plain d fun K v=>?_
 unfold Oper.wp;simp[execOp,f,resolve,invoke,builtin,p,u,Result.andThen];refine v _ _ (h _ ?_ ?_)
 ·refine A0.mk Ah (setRow_heap w g C _ _ _ H) (by rw[BV];omega) q (by omega) r ?_ ?_
  ·simp[t];omega
  have b:(C.toList.take (n*2)).take (i*2)=(y.flatMap Au).take (i*2):=by rw[s]
  rw[GQ,EN (by omega)]at b;have A:(y.flatMap Au).take (i*2)=(y.take i).flatMap Au:=by
   conv=>lhs;rw[←BQ i y,CR]
   rw[CY (by rw[Ix Ah,BV];omega),CH (by rw[Ix Ah,BV];omega)]
  rw[←A,←b];have I:(C.toList.take (i*2)).length=i*2:=by rw[BV,Array.length_toList,z];omega
  show List.take (i*2) (List.take (i*2) C.toList++(Z++List.drop (i*2+m*2) C.toList))=List.take (i*2) C.toList;rw[CY (by omega),CH (by omega)]
 exact⟨rfl,rfl,rfl,by simp[World.setRow],fun k _ D=>by simp[World.setRow,IH];intro e;exact absurd e.symm D⟩
end Go.Proofs.YtignjjnflcpiiaaGreatDoor
