/- The document's answer's readPart: as the program's. Condi -/
import Derived.Test.YtignjjnflcpiiaaGreatDoorS28
import Derived.Test.YtignjjnflcpiiaaGreatDoorS42
import Derived.Test.YtignjjnflcpiiaaGreatDoorS43
set_option linter.all false
set_option maxHeartbeats 16000000
set_option maxRecDepth 100000
namespace Go.Proofs.YtignjjnflcpiiaaGreatDoor
open Go Go.RowKit Proofs.Tryz Lib
def XF(B d lb l:Nat)(r:Except Int (A8×Nat))(e:Ending)(w':World):Prop:=(∃p n R,r=.ok (p,n)∧n≤l∧e=.returned (.tuple #[Bm R,.int .i64 0])∧A7 (fun b=>B≤b) d w' R p∧A1 w' lb #[.int .i64 (40-(n:Int))] 3)∨(∃c R,r=.error c∧1≤c∧e=.returned (.tuple #[Bm R,.int .i64 c]))
def Y2:Bs:=[99,111,110,116,101,110,116,45,116,114,97,110,115,102,101,114,45,101,110,99,111,100,105,110,103]
theorem XG:A2 Y2=A2 Bl:=by decide
theorem XH(l:List A4)(s:Bs):Dg l s=if(!(Ai l Bl).isSome||(A2 ((Ai l Bl).getD [])==Iz||(A2 ((Ai l Bl).getD [])==Mo||A2 ((Ai l Bl).getD [])==Mp)))=true then .ok s
  else if(A2 ((Ai l Bl).getD [])==Ib)=true then(match Ef s with|none=>.error 3|some x=>.ok x)
  else if(A2 ((Ai l Bl).getD [])==Hw)=true then(match E6 s with|none=>.error 3|some x=>.ok x)
  else .error 5:=by
 unfold Dg;cases Ai l Bl with
 |none=>simp
 |some v=>
  simp only[EK,CT,ED,IV,EW,BG];by_cases h:A2 v=Iz∨A2 v=Mo∨A2 v=Mp
  ·rw[AM h,AM h]
  rw[AI h,AI h];by_cases H:A2 v=Ib
  ·rw[AM H,AM H];cases Ef s<;>rfl
  rw[AI H,AI H];by_cases a:A2 v=Hw
  ·rw[AM a,AM a];cases E6 s<;>rfl
  rw[AI a,AI a]
variable {b:Nat}{w:World}
theorem A1.Ht{t:TypeId}{x X d e:Value}(h:A1 w b #[x,X,d,e] t)(y Y a c:Value):A1 ((((w.setCell ⟨b,0,none⟩ y).setCell ⟨b,1,none⟩ Y).setCell ⟨b,2,none⟩ a).setCell ⟨b,3,none⟩ c) b #[y,Y,a,c] t:=by
 have H:=(((h.set 0 y).set 1 Y).set 2 a).set 3 c;simpa using H
theorem A5.drew{lb B:Nat}{a w:World}(h:A5 lb B a w):A5 lb B a w.drew:=h.trans (A5.of ((AD B w).drew))
theorem Gr.Ht(h:Gr w)(H:3<b)(y Y a c:Value):Gr ((((w.setCell ⟨b,0,none⟩ y).setCell ⟨b,1,none⟩ Y).setCell ⟨b,2,none⟩ a).setCell ⟨b,3,none⟩ c):=h.keep fun k d=>(Gp _ _ _ k (by simp only;omega)).trans ((Gp _ _ _ k (by simp only;omega)).trans ((Gp _ _ _ k (by simp only;omega)).trans (Gp _ _ _ k (by simp only;omega))))
theorem XI(d:Nat):∀(a7:Nat)(s:Bs)(I:Nat)(ab J:Int)(w:World),Hid (ab=4-(d:Int))→d≤4→Hid (J=40-(a7:Int))→a7≤40→Gr w→3<I→A1 w I #[.int .i64 J] 3→s.length≤20000→Calls prog 113 #[.string ⟨s.toArray⟩,.int .i64 ab,.pointer (some ⟨I,0,none⟩)] w fun e w'=>XF w.heap.size d I a7 (Az d a7 s) e w'∧A5 I w.heap.size w w':=by
 induction d with
 |zero=>
  intro a7 s I ab J w d8 _ c3 hl hg d9 hb hs;obtain rfl:ab=4:=d8.o;have N:=AB (by rfl:Az 0 a7 s=.error 4);have h5:0≤J∧J≤40:=by have:=c3.o;omega
  have kc:=hb.cell 0;have h6:=hb.lt;have u:w.heap.size≠I:=by omega
  by_cases h0:(40:Int)≤J;all_goals
   go_enter func113,ntmps113;go_wp2_with fail;refine AL (v:=.tuple #[.agg Bn,.int .i64 4]) (by simp[results,results113,go_sem,Bn]) rfl ⟨Or.inr ⟨4,K5,N.o,by decide,rfl⟩,?_⟩;exact A5.of ((AD _ _).alloc (by simp) _)
 |succ d ih=>
  intro a7 s I ab J w d8 j1 c3 hl hg d9 hb hs;have j2:0≤ab∧ab≤3:=by have:=d8.o;omega
  have h5:0≤J∧J≤40:=by have:=c3.o;omega
  have kc:=hb.cell 0;have kf:=hb.free 0;have h7:(w.setCell ⟨I,0,none⟩ (.int .i64 (J+1))).cell? ⟨I,0,none⟩=some (.int .i64 (J+1)):=(hb.set 0 _).cell 0;have h6:=hb.lt;have u:w.heap.size≠I:=by omega
  have BO:A5 I w.heap.size w (w.setCell ⟨I,0,none⟩ (.int .i64 (J+1))):=(A5.refl _ _ _).set _;have f3:3<w.heap.size:=hg.size;by_cases h0:(40:Int)≤J
  ·have N:=AB (show Az (d+1) a7 s=.error 4 from by
    obtain rfl:a7=0:=by have:=c3.o;omega
    rfl)
   go_enter func113,ntmps113;go_wp2_with fail;refine AL (v:=.tuple #[.agg Bn,.int .i64 4]) (by simp[results,results113,go_sem,Bn]) rfl ⟨Or.inr ⟨4,K5,N.o,by decide,rfl⟩,?_⟩;exact A5.of ((AD _ _).alloc (by simp) _)
  obtain⟨L,rfl⟩:∃n,a7=n+1:=⟨a7-1,by have:=c3.o;omega⟩;have b4:=AB (by have:=c3.o;omega:J+1=40-(L:Int));have f:=((hb.set 0 (.int .i64 (J+1))).alloc (.cells Bn 44));have H:=A1.new (w.setCell ⟨I,0,none⟩ (.int .i64 (J+1))) Bn 44;have d2:=BO.trans (A5.of ((AD w.heap.size (w.setCell ⟨I,0,none⟩ (.int .i64 (J+1)))).alloc (by simp) (.cells Bn 44)));have e0:=hg.Ag d2 d9;have f4:((w.setCell ⟨I,0,none⟩ (.int .i64 (J+1))).alloc (.cells Bn 44)).heap.size=w.heap.size+1:=by simp
  rw[EL]at H;have P:=AB (show Az (d+1) (L+1) s=match Dj s with
   |none=>.error 3
   |some (l0,q)=>match Cq l0 with
    |none=>.error 1
    |some l=>match Bg l with
     |none=>.error 3
     |some none=>(match Dg l q with
      | .error e=>.error e
      | .ok b=>.ok (.mk l b false [],L))
     |some (some b)=>match Dm q b with
      |none=>.error 3
      |some F=>match By (Az d) L F with
       | .error e=>.error e
       | .ok (G,n)=>.ok (.mk l [] true G,n)from rfl)
  have e8:=fun W hW=>RO s W (by omega) hW
  have c4:=fun o r(h:Dj s=some (o,r))=>Vq h
  generalize Dj s=rh at P e8 c4;unfold Bn at f H d2 e0 f4;go_enter func113,ntmps113;go_wp2_with fail;generalize World.alloc _ _=W1 at f H d2 e0 f4⊢;clear kc kf h7 BO hg hb h0;with_reducible refine(e8 _ e0.g).mono ?_
  rintro e z⟨hh,c5⟩;have f:=f.next c5 f.lt;have H:=H.next c5 H.lt;have d3:=e0.next c5;have B2:=d2.next c5 d2.size;have j3:=c5.size;clear e8 c5;rcases hh with⟨o,q,v,rfl,_,_,_,rfl,e1⟩|⟨rfl,fn,rfl⟩
  case inr=>
   have N:=AB (show Az (d+1) (L+1) s=.error 3 from P.o);have V:=A1.new z #[.int .i64 3,.int .i64 fn] 113;have H:=H.alloc (.cells #[.int .i64 3,.int .i64 fn] 113);have B3:=B2.next ((AD z.heap.size z).alloc (AC _) (.cells #[.int .i64 3,.int .i64 fn] 113)) B2.size;have K:=H.cell;have c6:=H.free;have b5:=V.cell;clear P c4;go_wp2_with fail;go_region;go_wp2_with fail;refine AL (v:=.tuple #[.agg Bn,.int .i64 3]) (by simp[results,results113,go_sem,Bn,K]) rfl ⟨Or.inr ⟨3,K5,N.o,by decide,rfl⟩,?_⟩;first
    |exact B3
    |exact((((B3.own (AC _) _).own (AC _) _).own (AC _) _).own (AC _) _).drew
  obtain⟨j4,h8⟩:=c4 o q rfl;have V:=A1.new z #[.int .i64 0,.int .i64 (-1)] 113;have BF:=(AD z.heap.size z).alloc (AC _) (.cells #[.int .i64 0,.int .i64 (-1)] 113);have h9:(z.alloc (.cells #[.int .i64 0,.int .i64 (-1)] 113)).heap.size=z.heap.size+1:=by simp
  have f:=f.next BF f.lt;have H:=H.next BF H.lt;have d3:=d3.next BF;have B2:=B2.next BF B2.size;have e1:=A0.next e1 BF;have hC:=fun W(h:C7 W v o)=>RR v o W h ((Em (n:=20000) (by omega)).ok (by decide))
  have f5:=A0.rd (by decide) Ah e1;have hC:=hC _ f5;have e2:=fun l(h:Cq o=some l)=>Sj h
  have P:=AB (show Az (d+1) (L+1) s=match Cq o with
   |none=>.error 1
   |some l=>match Bg l with
    |none=>.error 3
    |some none=>(match Dg l q with
     | .error e=>.error e
     | .ok b=>.ok (.mk l b false [],L))
    |some (some b)=>match Dm q b with
     |none=>.error 3
     |some F=>match By (Az d) L F with
      | .error e=>.error e
      | .ok (G,n)=>.ok (.mk l [] true G,n)from P.o)
  have b5:=V.cell;clear c4 BF e1 f5;generalize Cq o=rc at hC e2 P;go_wp2_with fail;generalize World.alloc _ _=WF at V h9 f H d3 B2 hC b5⊢;with_reducible refine hC.mono ?_
  rintro e w3⟨hh,b6⟩;have f:=f.next b6 f.lt;have H:=H.next b6 H.lt;have V:=V.next b6 V.lt;have f6:=d3.next b6;have B3:=B2.next b6 B2.size;have j5:=b6.size;clear hC b6 B2 d3 b5;rcases hh with⟨l,v2,rfl,rfl,X⟩|⟨rfl,fn,rfl⟩
  case inr=>
   have N:=AB (show Az (d+1) (L+1) s=.error 1 from P.o);have f7:=V.free;have f8:=V.cell;have d4:A1 ((w3.setCell ⟨z.heap.size,0,none⟩ (.int .i64 1)).setCell ⟨z.heap.size,1,none⟩ (.int .i64 fn)) z.heap.size #[.int .i64 1,.int .i64 fn] 113:=(V.set 0 _).set 1 _;have H:=(H.A6 (a:=⟨z.heap.size,0,none⟩) (by simp only;omega) (.int .i64 1)).A6 (a:=⟨z.heap.size,1,none⟩) (by simp only;omega) (.int .i64 fn);have B4:=(B3.own (p:=⟨z.heap.size,0,none⟩) (by simp only;omega) (.int .i64 1)).own (p:=⟨z.heap.size,1,none⟩) (by simp only;omega) (.int .i64 fn);have K:=H.cell;have c6:=H.free;have b5:=d4.cell;clear P e2;go_wp2_with fail;go_region;go_wp2_with fail;refine AL (v:=.tuple #[.agg Bn,.int .i64 1]) (by simp[results,results113,go_sem,Bn,K]) rfl ⟨Or.inr ⟨1,K5,N.o,by decide,rfl⟩,?_⟩;first
    |exact B4
    |exact((((B4.own (AC _) _).own (AC _) _).own (AC _) _).own (AC _) _).drew
  have e3:=Em (n:=20000) (BC (e2 l rfl) (by omega));have t:=A0.Dn (by decide) Ah X;obtain⟨A,C,rfl,_⟩:=t.rd;have P:=AB (show Az (d+1) (L+1) s=match Bg l with
   |none=>.error 3
   |some none=>(match Dg l q with
    | .error e=>.error e
    | .ok b=>.ok (.mk l b false [],L))
   |some (some b)=>match Dm q b with
    |none=>.error 3
    |some F=>match By (Az d) L F with
     | .error e=>.error e
     | .ok (G,n)=>.ok (.mk l [] true G,n)from P.o)
  have d5:=fun b=>eR (b:=b) e3
  have t:Aq 2 Au (fun b=>z.heap.size<b∧b<w3.heap.size) w3 (.slice A l.length C) l:=t.Ad fun b M S=>⟨by have:=M.1;omega,S⟩
  have f7:=V.free;have f8:=V.cell;have d4:A1 ((w3.setCell ⟨z.heap.size,0,none⟩ (.int .i64 0)).setCell ⟨z.heap.size,1,none⟩ (.int .i64 (-1))) z.heap.size #[.int .i64 0,.int .i64 (-1)] 113:=(V.set 0 _).set 1 _;have H:=(H.A6 (a:=⟨z.heap.size,0,none⟩) (by simp only;omega) (.int .i64 0)).A6 (a:=⟨z.heap.size,1,none⟩) (by simp only;omega) (.int .i64 (-1));have f:=(f.A6 (a:=⟨z.heap.size,0,none⟩) (by simp only;omega) (.int .i64 0)).A6 (a:=⟨z.heap.size,1,none⟩) (by simp only;omega) (.int .i64 (-1));have t:=(t.set (a:=⟨z.heap.size,0,none⟩) (.int .i64 0) (by simp only;omega)).set (a:=⟨z.heap.size,1,none⟩) (.int .i64 (-1)) (by simp only;omega);have e4:Gr ((w3.setCell ⟨z.heap.size,0,none⟩ (.int .i64 0)).setCell ⟨z.heap.size,1,none⟩ (.int .i64 (-1))):=f6.keep fun b hb=>(Gp _ _ _ b (by simp only;omega)).trans (Gp _ _ _ b (by simp only;omega))
  have B4:=(B3.own (p:=⟨z.heap.size,0,none⟩) (by simp only;omega) (.int .i64 0)).own (p:=⟨z.heap.size,1,none⟩) (by simp only;omega) (.int .i64 (-1));have i0:((w3.setCell ⟨z.heap.size,0,none⟩ (.int .i64 0)).setCell ⟨z.heap.size,1,none⟩ (.int .i64 (-1))).heap.size=w3.heap.size:=by simp[World.setCell]
  have b5:=d4.cell;have hB:=fun W(h:C7 W (.slice A l.length C) l)hg=>jC (.slice A l.length C) l W h (e3.mono (by decide)) hg
  clear e2 X V B3 f6;generalize Bg l=Y at hB P d5;go_wp2_with fail;generalize World.setCell (World.setCell _ _ _) _ _=w4 at d4 H f t e4 B4 i0 b5⊢;with_reducible refine(hB _ t.rd e4).mono ?_
  rintro e w5⟨rfl,b7⟩;have f:=f.next b7 f.lt;have H:=H.next b7 H.lt;have e5:=e4.next b7;have B5:=B4.next b7 B4.size;have j6:=b7.size;have t:=t.next b7;clear hB b7 B4 e4 b5 d4 f7 f8;rcases Y with _|_|b
  ·have N:=AB (show Az (d+1) (L+1) s=.error 3 from P.o);simp only[Rl];have K:=H.cell;have c6:=H.free;clear P d5;go_wp2_with fail;refine AL (v:=.tuple #[.agg Bn,.int .i64 3]) (by simp[results,results113,go_sem,Bn,K]) rfl ⟨Or.inr ⟨3,K5,N.o,by decide,rfl⟩,?_⟩;first
    |exact B5
    |exact(((B5.own (AC _) _).own (AC _) _).own (AC _) _).own (AC _) _
  ·have P:=AB (show Az (d+1) (L+1) s=match Dg l q with
    | .error e=>.error e
    | .ok b=>.ok (.mk l b false [],L)from P.o)
   have E:=AB (XH l q);have hG:=fun W(h:C7 W (.slice A l.length C) l)=>P8 (.slice A l.length C) l Y2 W h (e3.ok (by decide)) (by decide)
   simp only[Pt l XG]at hG;have e6:=fun x=>Jw (s:=Bl) (v:=x) e3
   generalize Dg l q=rd at E P;generalize Ai l Bl=rg at hG E e6;have e6:(rg.getD []).length≤20000:=by
    cases rg with
    |none=>simp
    |some x=>have:=e6 x rfl;simp;omega
   generalize rg.getD []=gv at hG E e6;generalize rg.isSome=q0 at hG E;simp only[Rl];unfold Y2 at hG;have K:=H.cell;have c6:=H.free;have H:=H.Ht (.slice A l.length C) (.string ⟨#[]⟩) (.bool false) (.slice none 0 0);have f:=(((f.A6 (a:=⟨w.heap.size,0,none⟩) u.symm (.slice A l.length C)).A6 (a:=⟨w.heap.size,1,none⟩) u.symm (.string ⟨#[]⟩)).A6 (a:=⟨w.heap.size,2,none⟩) u.symm (.bool false)).A6 (a:=⟨w.heap.size,3,none⟩) u.symm (.slice none 0 0);have t:=(((t.set (a:=⟨w.heap.size,0,none⟩) (.slice A l.length C) (by simp only;omega)).set (a:=⟨w.heap.size,1,none⟩) (.string ⟨#[]⟩) (by simp only;omega)).set (a:=⟨w.heap.size,2,none⟩) (.bool false) (by simp only;omega)).set (a:=⟨w.heap.size,3,none⟩) (.slice none 0 0) (by simp only;omega);have b1:=e5.Ht (b:=w.heap.size) f3 (.slice A l.length C) (.string ⟨#[]⟩) (.bool false) (.slice none 0 0);have B6:=(((B5.own (p:=⟨w.heap.size,0,none⟩) (AC _) (.slice A l.length C)).own (p:=⟨w.heap.size,1,none⟩) (AC _) (.string ⟨#[]⟩)).own (p:=⟨w.heap.size,2,none⟩) (AC _) (.bool false)).own (p:=⟨w.heap.size,3,none⟩) (AC _) (.slice none 0 0);clear d5 B5 e5;go_wp2_with fail;generalize World.setCell (World.setCell (World.setCell (World.setCell _ _ _) _ _) _ _) _ _=W6 at H f t b1 B6⊢;clear K c6;with_reducible refine(hG _ t.rd).mono ?_
   rintro e w7⟨rfl,c7⟩;have f:=f.next c7 f.lt;have H:=H.next c7 H.lt;have t:=t.next c7;have f9:=b1.next c7;have B7:=B6.next c7 B6.size;have e9:=I1 gv w7 (by omega);generalize A2 gv=d6 at e9 E;clear hG c7 b1 B6;go_wp2_with fail;with_reducible refine e9.mono ?_
   rintro e w8⟨rfl,c8⟩;have f:=f.next c8 f.lt;have H:=H.next c8 H.lt;have t:=t.next c8;have e7:=(f9.next c8).g;have O:=B7.next c8 B7.size;unfold Iz Mo Mp Ib Hw at E;clear e9 c8 f9 B7;have c9:=AB (fun(o:Bs)(h:rd=.ok o)=>show Az (d+1) (L+1) s=.ok (.mk l o false [],L)from by rw[P.o,h]);have f0:=AB (fun(c:Int)(h:rd=.error c)=>show Az (d+1) (L+1) s=.error c from by rw[P.o,h]);cases q0 with
   |false=>
    have N:=AB (c9.o q E.o);have D:=H.set 1 (.string ⟨q.toArray⟩);have a8:=H.cell;have a9:=H.free;have b8:=D.cell;have c0:=D.free;have K:=(D.Ht (.slice A l.length C) (.string ⟨q.toArray⟩) (.bool false) (.slice none 0 0)).cell;clear P;go_wp2_with fail;refine AL (v:=.tuple #[.agg #[.slice A l.length C,.string ⟨q.toArray⟩,.bool false,.slice none 0 0],.int .i64 0]) (by simp[results,results113,go_sem,K]) rfl ⟨Or.inl ⟨_,_,((A,l.length,C),q,false,(none,0,0)),N.o,by omega,rfl,⟨rfl,rfl,?_,[],Aq.nil _ _ _ _ _ _,rfl,fun k h=>by simp at h⟩,?_⟩,?_⟩
    ·exact(((((t.set _ (by simp only;omega)).set _ (by simp only;omega)).set _ (by simp only;omega)).set _ (by simp only;omega)).set _ (by simp only;omega)).Ad fun b h _=>by have:=h.1;omega
    ·have:=((((f.A6 (a:=⟨w.heap.size,1,none⟩) u.symm (.string ⟨q.toArray⟩)).A6 (a:=⟨w.heap.size,0,none⟩) u.symm (.slice A l.length C)).A6 (a:=⟨w.heap.size,1,none⟩) u.symm (.string ⟨q.toArray⟩)).A6 (a:=⟨w.heap.size,2,none⟩) u.symm (.bool false)).A6 (a:=⟨w.heap.size,3,none⟩) u.symm (.slice none 0 0);rw[b4.o]at this;exact this
    exact((((O.own (AC _) _).own (AC _) _).own (AC _) _).own (AC _) _).own (AC _) _
   |true=>
   generalize j7:(d6==[55,98,105,116])=q1 at E;cases q1 with
   |true=>
    have N:=AB (c9.o q E.o);have D:=H.set 1 (.string ⟨q.toArray⟩);have a8:=H.cell;have a9:=H.free;have b8:=D.cell;have c0:=D.free;have K:=(D.Ht (.slice A l.length C) (.string ⟨q.toArray⟩) (.bool false) (.slice none 0 0)).cell;clear P;go_wp2_with fail;refine AL (v:=.tuple #[.agg #[.slice A l.length C,.string ⟨q.toArray⟩,.bool false,.slice none 0 0],.int .i64 0]) (by simp[results,results113,go_sem,K]) rfl ⟨Or.inl ⟨_,_,((A,l.length,C),q,false,(none,0,0)),N.o,by omega,rfl,⟨rfl,rfl,?_,[],Aq.nil _ _ _ _ _ _,rfl,fun k h=>by simp at h⟩,?_⟩,?_⟩
    ·exact(((((t.set _ (by simp only;omega)).set _ (by simp only;omega)).set _ (by simp only;omega)).set _ (by simp only;omega)).set _ (by simp only;omega)).Ad fun b h _=>by have:=h.1;omega
    ·have:=((((f.A6 (a:=⟨w.heap.size,1,none⟩) u.symm (.string ⟨q.toArray⟩)).A6 (a:=⟨w.heap.size,0,none⟩) u.symm (.slice A l.length C)).A6 (a:=⟨w.heap.size,1,none⟩) u.symm (.string ⟨q.toArray⟩)).A6 (a:=⟨w.heap.size,2,none⟩) u.symm (.bool false)).A6 (a:=⟨w.heap.size,3,none⟩) u.symm (.slice none 0 0);rw[b4.o]at this;exact this
    exact((((O.own (AC _) _).own (AC _) _).own (AC _) _).own (AC _) _).own (AC _) _
   |false=>
   generalize j8:(d6==[56,98,105,116])=q2 at E;cases q2 with
   |true=>
    have N:=AB (c9.o q E.o);have D:=H.set 1 (.string ⟨q.toArray⟩);have a8:=H.cell;have a9:=H.free;have b8:=D.cell;have c0:=D.free;have K:=(D.Ht (.slice A l.length C) (.string ⟨q.toArray⟩) (.bool false) (.slice none 0 0)).cell;clear P;go_wp2_with fail;refine AL (v:=.tuple #[.agg #[.slice A l.length C,.string ⟨q.toArray⟩,.bool false,.slice none 0 0],.int .i64 0]) (by simp[results,results113,go_sem,K]) rfl ⟨Or.inl ⟨_,_,((A,l.length,C),q,false,(none,0,0)),N.o,by omega,rfl,⟨rfl,rfl,?_,[],Aq.nil _ _ _ _ _ _,rfl,fun k h=>by simp at h⟩,?_⟩,?_⟩
    ·exact(((((t.set _ (by simp only;omega)).set _ (by simp only;omega)).set _ (by simp only;omega)).set _ (by simp only;omega)).set _ (by simp only;omega)).Ad fun b h _=>by have:=h.1;omega
    ·have:=((((f.A6 (a:=⟨w.heap.size,1,none⟩) u.symm (.string ⟨q.toArray⟩)).A6 (a:=⟨w.heap.size,0,none⟩) u.symm (.slice A l.length C)).A6 (a:=⟨w.heap.size,1,none⟩) u.symm (.string ⟨q.toArray⟩)).A6 (a:=⟨w.heap.size,2,none⟩) u.symm (.bool false)).A6 (a:=⟨w.heap.size,3,none⟩) u.symm (.slice none 0 0);rw[b4.o]at this;exact this
    exact((((O.own (AC _) _).own (AC _) _).own (AC _) _).own (AC _) _).own (AC _) _
   |false=>
   generalize j9:(d6==[98,105,110,97,114,121])=q3 at E;cases q3 with
   |true=>
    have N:=AB (c9.o q E.o);have D:=H.set 1 (.string ⟨q.toArray⟩);have a8:=H.cell;have a9:=H.free;have b8:=D.cell;have c0:=D.free;have K:=(D.Ht (.slice A l.length C) (.string ⟨q.toArray⟩) (.bool false) (.slice none 0 0)).cell;clear P;go_wp2_with fail;refine AL (v:=.tuple #[.agg #[.slice A l.length C,.string ⟨q.toArray⟩,.bool false,.slice none 0 0],.int .i64 0]) (by simp[results,results113,go_sem,K]) rfl ⟨Or.inl ⟨_,_,((A,l.length,C),q,false,(none,0,0)),N.o,by omega,rfl,⟨rfl,rfl,?_,[],Aq.nil _ _ _ _ _ _,rfl,fun k h=>by simp at h⟩,?_⟩,?_⟩
    ·exact(((((t.set _ (by simp only;omega)).set _ (by simp only;omega)).set _ (by simp only;omega)).set _ (by simp only;omega)).set _ (by simp only;omega)).Ad fun b h _=>by have:=h.1;omega
    ·have:=((((f.A6 (a:=⟨w.heap.size,1,none⟩) u.symm (.string ⟨q.toArray⟩)).A6 (a:=⟨w.heap.size,0,none⟩) u.symm (.slice A l.length C)).A6 (a:=⟨w.heap.size,1,none⟩) u.symm (.string ⟨q.toArray⟩)).A6 (a:=⟨w.heap.size,2,none⟩) u.symm (.bool false)).A6 (a:=⟨w.heap.size,3,none⟩) u.symm (.slice none 0 0);rw[b4.o]at this;exact this
    exact((((O.own (AC _) _).own (AC _) _).own (AC _) _).own (AC _) _).own (AC _) _
   |false=>
   generalize k0:(d6==[98,97,115,101,54,52])=q4 at E;cases q4 with
   |true=>
    have E:=AB (show rd=(match Ef q with|none=>.error 3|some x=>.ok x)from E.o);have hU:=SN q w8 (by omega);generalize Ef q=ru at E hU;go_wp2_with fail;with_reducible refine hU.mono ?_
    rintro e w9⟨rfl,b9⟩;have f:=f.next b9 f.lt;have H:=H.next b9 H.lt;have t:=t.next b9;have B9:=O.next b9 O.size;clear hU b9 O;cases ru with
    |none=>
     have N:=AB (f0.o 3 E.o);simp only[Np];have D:=H.set 1 (.string ⟨#[]⟩);have a8:=H.cell;have a9:=H.free;have b8:=D.cell;have c0:=D.free;have K:=(D.Ht (.slice A l.length C) (.string ⟨#[]⟩) (.bool false) (.slice none 0 0)).cell;clear P;go_wp2_with fail;refine AL (v:=.tuple #[.agg #[.slice A l.length C,.string ⟨#[]⟩,.bool false,.slice none 0 0],.int .i64 3]) (by simp[results,results113,go_sem,K]) rfl ⟨Or.inr ⟨3,((A,l.length,C),[],false,(none,0,0)),N.o,by decide,rfl⟩,?_⟩;exact((((B9.own (AC _) _).own (AC _) _).own (AC _) _).own (AC _) _).own (AC _) _
    |some T=>
     have N:=AB (c9.o T E.o);simp only[Np];have D:=H.set 1 (.string ⟨T.toArray⟩);have a8:=H.cell;have a9:=H.free;have b8:=D.cell;have c0:=D.free;have K:=(D.Ht (.slice A l.length C) (.string ⟨T.toArray⟩) (.bool false) (.slice none 0 0)).cell;clear P;go_wp2_with fail;refine AL (v:=.tuple #[.agg #[.slice A l.length C,.string ⟨T.toArray⟩,.bool false,.slice none 0 0],.int .i64 0]) (by simp[results,results113,go_sem,K]) rfl ⟨Or.inl ⟨_,_,((A,l.length,C),T,false,(none,0,0)),N.o,by omega,rfl,⟨rfl,rfl,?_,[],Aq.nil _ _ _ _ _ _,rfl,fun k h=>by simp at h⟩,?_⟩,?_⟩
     ·exact(((((t.set _ (by simp only;omega)).set _ (by simp only;omega)).set _ (by simp only;omega)).set _ (by simp only;omega)).set _ (by simp only;omega)).Ad fun b h _=>by have:=h.1;omega
     ·have:=((((f.A6 (a:=⟨w.heap.size,1,none⟩) u.symm (.string ⟨T.toArray⟩)).A6 (a:=⟨w.heap.size,0,none⟩) u.symm (.slice A l.length C)).A6 (a:=⟨w.heap.size,1,none⟩) u.symm (.string ⟨T.toArray⟩)).A6 (a:=⟨w.heap.size,2,none⟩) u.symm (.bool false)).A6 (a:=⟨w.heap.size,3,none⟩) u.symm (.slice none 0 0);rw[b4.o]at this;exact this
     exact((((B9.own (AC _) _).own (AC _) _).own (AC _) _).own (AC _) _).own (AC _) _
   |false=>
   generalize k1:(d6==[113,117,111,116,101,100,45,112,114,105,110,116,97,98,108,101])=q5 at E;cases q5 with
   |true=>
    have E:=AB (show rd=(match E6 q with|none=>.error 3|some x=>.ok x)from E.o);have hU:=vD q w8 (by omega) e7;generalize E6 q=ru at E hU;go_wp2_with fail;with_reducible refine hU.mono ?_
    rintro e w9⟨rfl,b9⟩;have f:=f.next b9 f.lt;have H:=H.next b9 H.lt;have t:=t.next b9;have B9:=O.next b9 O.size;clear hU b9 O;cases ru with
    |none=>
     have N:=AB (f0.o 3 E.o);simp only[Np];have D:=H.set 1 (.string ⟨#[]⟩);have a8:=H.cell;have a9:=H.free;have b8:=D.cell;have c0:=D.free;have K:=(D.Ht (.slice A l.length C) (.string ⟨#[]⟩) (.bool false) (.slice none 0 0)).cell;clear P;go_wp2_with fail;refine AL (v:=.tuple #[.agg #[.slice A l.length C,.string ⟨#[]⟩,.bool false,.slice none 0 0],.int .i64 3]) (by simp[results,results113,go_sem,K]) rfl ⟨Or.inr ⟨3,((A,l.length,C),[],false,(none,0,0)),N.o,by decide,rfl⟩,?_⟩;exact((((B9.own (AC _) _).own (AC _) _).own (AC _) _).own (AC _) _).own (AC _) _
    |some T=>
     have N:=AB (c9.o T E.o);simp only[Np];have D:=H.set 1 (.string ⟨T.toArray⟩);have a8:=H.cell;have a9:=H.free;have b8:=D.cell;have c0:=D.free;have K:=(D.Ht (.slice A l.length C) (.string ⟨T.toArray⟩) (.bool false) (.slice none 0 0)).cell;clear P;go_wp2_with fail;refine AL (v:=.tuple #[.agg #[.slice A l.length C,.string ⟨T.toArray⟩,.bool false,.slice none 0 0],.int .i64 0]) (by simp[results,results113,go_sem,K]) rfl ⟨Or.inl ⟨_,_,((A,l.length,C),T,false,(none,0,0)),N.o,by omega,rfl,⟨rfl,rfl,?_,[],Aq.nil _ _ _ _ _ _,rfl,fun k h=>by simp at h⟩,?_⟩,?_⟩
     ·exact(((((t.set _ (by simp only;omega)).set _ (by simp only;omega)).set _ (by simp only;omega)).set _ (by simp only;omega)).set _ (by simp only;omega)).Ad fun b h _=>by have:=h.1;omega
     ·have:=((((f.A6 (a:=⟨w.heap.size,1,none⟩) u.symm (.string ⟨T.toArray⟩)).A6 (a:=⟨w.heap.size,0,none⟩) u.symm (.slice A l.length C)).A6 (a:=⟨w.heap.size,1,none⟩) u.symm (.string ⟨T.toArray⟩)).A6 (a:=⟨w.heap.size,2,none⟩) u.symm (.bool false)).A6 (a:=⟨w.heap.size,3,none⟩) u.symm (.slice none 0 0);rw[b4.o]at this;exact this
     exact((((B9.own (AC _) _).own (AC _) _).own (AC _) _).own (AC _) _).own (AC _) _
   |false=>
    have N:=AB (f0.o 5 E.o);have a8:=H.cell;have a9:=H.free;have K:=(H.Ht (.slice A l.length C) (.string ⟨#[]⟩) (.bool false) (.slice none 0 0)).cell;clear P;go_wp2_with fail;refine AL (v:=.tuple #[.agg #[.slice A l.length C,.string ⟨#[]⟩,.bool false,.slice none 0 0],.int .i64 5]) (by simp[results,results113,go_sem,K]) rfl ⟨Or.inr ⟨5,((A,l.length,C),[],false,(none,0,0)),N.o,by decide,rfl⟩,?_⟩;exact(((O.own (AC _) _).own (AC _) _).own (AC _) _).own (AC _) _
  have k2:=d5 b rfl;have P:=AB (show Az (d+1) (L+1) s=match Dm q b with
   |none=>.error 3
   |some F=>match By (Az d) L F with
    | .error e=>.error e
    | .ok (G,n)=>.ok (.mk l [] true G,n)from P.o)
  have hC:=fun W hW=>WV q b W (by omega) (by omega) hW
  generalize Dm q b=rc at hC P;simp only[Rl];have K:=H.cell;have c6:=H.free;have H:=H.Ht (.slice A l.length C) (.string ⟨#[]⟩) (.bool true) (.slice none 0 0);have f:=(((f.A6 (a:=⟨w.heap.size,0,none⟩) u.symm (.slice A l.length C)).A6 (a:=⟨w.heap.size,1,none⟩) u.symm (.string ⟨#[]⟩)).A6 (a:=⟨w.heap.size,2,none⟩) u.symm (.bool true)).A6 (a:=⟨w.heap.size,3,none⟩) u.symm (.slice none 0 0);have t:=(((t.set (a:=⟨w.heap.size,0,none⟩) (.slice A l.length C) (by simp only;omega)).set (a:=⟨w.heap.size,1,none⟩) (.string ⟨#[]⟩) (by simp only;omega)).set (a:=⟨w.heap.size,2,none⟩) (.bool true) (by simp only;omega)).set (a:=⟨w.heap.size,3,none⟩) (.slice none 0 0) (by simp only;omega);have b1:=e5.Ht (b:=w.heap.size) f3 (.slice A l.length C) (.string ⟨#[]⟩) (.bool true) (.slice none 0 0);have B6:=(((B5.own (p:=⟨w.heap.size,0,none⟩) (AC _) (.slice A l.length C)).own (p:=⟨w.heap.size,1,none⟩) (AC _) (.string ⟨#[]⟩)).own (p:=⟨w.heap.size,2,none⟩) (AC _) (.bool true)).own (p:=⟨w.heap.size,3,none⟩) (AC _) (.slice none 0 0);have g0:((((w5.setCell ⟨w.heap.size,0,none⟩ (.slice A l.length C)).setCell ⟨w.heap.size,1,none⟩ (.string ⟨#[]⟩)).setCell ⟨w.heap.size,2,none⟩ (.bool true)).setCell ⟨w.heap.size,3,none⟩ (.slice none 0 0)).heap.size=w5.heap.size:=by simp[World.setCell]
  clear d5 B5 e5;go_wp2_with fail;generalize World.setCell (World.setCell (World.setCell (World.setCell _ _ _) _ _) _ _) _ _=W5 at H f t b1 B6 g0⊢;clear K c6;have k3:=H.lt;have k4:w3.heap.size≤W5.heap.size:=by omega
  clear g0;with_reducible refine(hC _ b1.g).mono ?_
  rintro e w6⟨hh,c1⟩;have f:=f.next c1 f.lt;have H:=H.next c1 H.lt;have t:=t.next c1;have b1:=b1.next c1;have B6:=B6.next c1 B6.size;have k5:=c1.size;clear hC c1;rcases hh with⟨F,v6,rfl,k6,g1,rfl,g2⟩|⟨rfl,rfl⟩
  case inr=>
   have N:=AB (show Az (d+1) (L+1) s=.error 3 from P.o);have a8:=H.cell;have a9:=H.free;have K:=(H.Ht (.slice A l.length C) (.string ⟨#[]⟩) (.bool true) (.slice none 0 0)).cell;clear P;go_wp2_with fail;refine AL (v:=.tuple #[.agg #[.slice A l.length C,.string ⟨#[]⟩,.bool true,.slice none 0 0],.int .i64 3]) (by simp[results,results113,go_sem,K]) rfl ⟨Or.inr ⟨3,((A,l.length,C),[],true,(none,0,0)),N.o,by decide,rfl⟩,?_⟩;first
   |exact B6
   |exact(((B6.own (AC _) _).own (AC _) _).own (AC _) _).own (AC _) _
  have HR:=AB (show∀r,By (Az d) L F=r→Az (d+1) (L+1) s=match r with
   | .error e=>.error e
   | .ok (G,n)=>.ok (.mk l [] true G,n)from fun r h=>by rw[←h];exact P.o)
  have HX:=AB g1;have Z:=A0.Dn (by decide) Cw g2;obtain⟨g3,g4,rfl,_⟩:=Z.rd;have Z:Aq 1 Bi (fun b=>W5.heap.size≤b∧b<w6.heap.size) w6 (.slice g3 F.length g4) F:=Z.Ad fun b M S=>⟨M.1,S⟩
  have t:Aq 2 Au (fun b=>z.heap.size<b∧b<w3.heap.size) w6 (.slice A l.length C) l:=t;have k7:w.heap.size<w6.heap.size:=by omega
  have f:A1 w6 I #[.int .i64 (40-(L:Int))] 3:=by
   have:=f;rw[b4.o]at this;exact this
  clear P g2 g1;go_wp2_with fail;go_loopw[119] (fun i wr=>∃(k n:Nat)(G:List A8)(U:List Ao)(sl:H7),i=.int .i64 k∧k≤F.length∧G.length=k∧U.length=k∧n≤L∧A1 wr I #[.int .i64 (40-(n:Int))] 3∧A1 wr w.heap.size #[.slice A l.length C,.string ⟨#[]⟩,.bool true,A9 sl] 44∧F3 wr w6.heap.size (A9 sl) U∧Aq 2 Au (fun b=>z.heap.size<b∧b<w3.heap.size) wr (.slice A l.length C) l∧Aq 1 Bi (fun b=>W5.heap.size≤b∧b<w6.heap.size) wr (.slice g3 F.length g4) F∧Hid (∀j(M:j<U.length)(S:j<G.length),A7 (fun b=>w.heap.size<b∧(A9 sl).ownBlock≠some b) d wr U[j] G[j])∧Gr wr∧Hid (Ku G (By (Az d) n (F.drop k))=By (Az d) L F)∧A5 I w.heap.size w wr∧w6.heap.size≤wr.heap.size) (fun i _=>F.length-(intOf i).toNat)
  case atStart=>exact⟨0,L,[],[],(none,0,0),rfl,by omega,rfl,rfl,by omega,f,H,A0.nil _ _ _ _ _,t,Z,AB (fun j M=>by simp at M),b1,AB (by rw[DP,Te]),B6,AC _⟩
  clear f H t Z b1 B6;obtain⟨k,n,G,U,sl,rfl,hk,k8,k9,hn,f,H,X,t,Z,b0,f1,d0,B,l1⟩:=hrel;obtain⟨sa,sn,sc⟩:=sl;simp only[A9]at H X b0;by_cases d7:k<F.length
  ·obtain⟨pb,rfl,l2,l3,g5⟩:=Z.at Cw k d7;have i1:=BC (HX.o _ (AN d7)) h8;have HE:=AB (fun c(h:Az d n F[k]=.error c)=>Tf d7 h G);have HO:=AB (fun y m(h:Az d n F[k]=.ok (y,m))=>Tg d7 h G);have g6:wr.cell? ⟨pb,k,none⟩=some (.string ⟨(F[k]).toArray⟩):=by have:=g5 0 (by decide);simpa[Bi]using this
   clear g5;generalize F[k]=x at i1 HE HO g6;have hI:=ih n x I (ab+1) (40-(n:Int)) wr (AB (by have:=d8.o;omega)) (by omega) (AB rfl) (by omega) f1 d9 f (by omega);generalize Az d n x=rx at hI HE HO;go_wp2_with fail;with_reducible refine hI.mono ?_
   rintro e w8⟨hh,b2⟩;have l4:=b2.size;have H:=H.Ag b2 (by omega);have g7:=A0.Do X;have d1:=A0.Fp X;have X:=X.Ag b2 (by omega);have t:=t.Ag b2 (by first|omega|(simp only;omega));have Z:=Z.Ag b2 (by first|omega|(simp only;omega));have e7:=f1.Ag b2 d9;have O:=B.trans (b2.mono (by omega));have b0:=AB (fun j M S=>(b0.o j M S).Ag b2 (by first|omega|(simp only;omega)));clear hI g6 f1 B f;rcases hh with⟨p,m,c2,rfl,hm,rfl,g8,f⟩|⟨c,c2,rfl,g9,rfl⟩
   case inr=>
    have N:=AB (show Az (d+1) (L+1) s=.error c from HR.o _ (d0.o.symm.trans (HE.o c rfl)));obtain⟨⟨ra,rn,a3⟩,Y,rm,⟨a4,a5,a6⟩⟩:=c2;simp only[Bm,A9];have H:=H.alloc (.cells #[.slice ra rn a3,.string ⟨Y.toArray⟩,.bool rm,.slice a4 a5 a6] 44);have a8:=H.cell;have a9:=H.free;have K:=(H.Ht (.slice A l.length C) (.string ⟨#[]⟩) (.bool true) (.slice sa sn sc)).cell;have i2:=AB g9;have l5:¬c=0:=by omega
    clear HE HO d0 g9;go_wp2_with fail;refine AL (v:=.tuple #[.agg #[.slice A l.length C,.string ⟨#[]⟩,.bool true,.slice sa sn sc],.int .i64 c]) (by simp[results,results113,go_sem,K]) rfl ⟨Or.inr ⟨c,((A,l.length,C),[],true,(sa,sn,sc)),N.o,i2.o,rfl⟩,?_⟩;exact((((O.next ((AD _ _).alloc (AC _) _) O.size).own (AC _) _).own (AC _) _).own (AC _) _).own (AC _) _
   have N:=AB (Eq.trans (HO.o p m rfl).symm d0.o);have b0:=AB (show∀j(M:j<(U++[c2]).length)(S:j<(G++[p]).length),A7 (fun b=>w.heap.size<b∧(Value.slice sa sn sc).ownBlock≠some b) d w8 (U++[c2])[j] (G++[p])[j]from fun j M S=>by
    by_cases hj:j<U.length
    ·rw[DU hj,DU (by omega)];exact b0.o j hj (by omega)
    obtain rfl:j=U.length:=by simp at M;omega
    have i3:(U++[c2])[U.length]=c2:=by simp
    have i4:(G++[p])[U.length]'S=p:=by rw[FO (by omega)];simp
    rw[i3,i4];refine A7.Ad (fun b M _=>⟨by omega,fun e=>?_⟩) g8;have:=g7 b e;omega)
   clear HE HO d0 g8;obtain⟨⟨ra,rn,a3⟩,Y,rm,⟨a4,a5,a6⟩⟩:=c2;simp only[Bm,A9];have i5:=A1.new w8 #[.slice ra rn a3,.string ⟨Y.toArray⟩,.bool rm,.slice a4 a5 a6] 44;have R:=(AD w8.heap.size w8).alloc (AC _) (.cells #[.slice ra rn a3,.string ⟨Y.toArray⟩,.bool rm,.slice a4 a5 a6] 44);have h1:(w8.alloc (.cells #[.slice ra rn a3,.string ⟨Y.toArray⟩,.bool rm,.slice a4 a5 a6] 44)).heap.size=w8.heap.size+1:=by simp
   have f:=f.next R f.lt;have H:=H.next R H.lt;have X:=A0.next X R;have t:=t.next R;have Z:=Z.next R;have i6:=e7.next R;have B9:=O.next R O.size;have b0:=AB (fun j M S=>(b0.o j M S).next R);have kp:=H.cell;have kt:=i5.cell;clear R e7 O;go_wp2_with(at_builtin;refine Td rfl _ _ rfl w6.heap.size _ U ((ra,rn,a3),Y,rm,(a4,a5,a6)) _ 1 rfl (A0.alloc X _) rfl (Tc _ ((ra,rn,a3),Y,rm,(a4,a5,a6)) _ _ (by simp)) (by omega) (by simp;omega) ?_;intro v' f2 h2 b3 h3 h4;obtain⟨a0,a1,a2,rfl⟩:=h2.shape;have H:=(H.alloc (.cells #[.slice ra rn a3,.string ⟨Y.toArray⟩,.bool rm,.slice a4 a5 a6] 44)).grown b3 (fun g hg=>by have:=d1 g hg;omega);have l6:=H.cell;have l7:=H.free);have R:=(AD (w8.alloc (.cells #[.slice ra rn a3,.string ⟨Y.toArray⟩,.bool rm,.slice a4 a5 a6] 44)).heap.size (w8.alloc (.cells #[.slice ra rn a3,.string ⟨Y.toArray⟩,.bool rm,.slice a4 a5 a6] 44))).alloc (AC _) (.cells #[.slice ra rn a3,.string ⟨Y.toArray⟩,.bool rm,.slice a4 a5 a6] 44);have i7:=b3.size;rw[AV,h1]at i7;have f:=((f.next R f.lt).grown b3 (fun g hg=>by have:=d1 g hg;omega)).A6 (a:=⟨w.heap.size,3,none⟩) u.symm (.slice a0 a1 a2);have H:A1 (f2.setCell ⟨w.heap.size,3,none⟩ (.slice a0 a1 a2)) w.heap.size #[.slice A l.length C,.string ⟨#[]⟩,.bool true,.slice a0 a1 a2] 44:=H.set 3 _;have t:=((t.next R).grown b3 (fun b h e=>by have:=d1 b e.symm;omega)).set (a:=⟨w.heap.size,3,none⟩) (.slice a0 a1 a2) (by first|omega|(simp only;omega));have Z:=((Z.next R).grown b3 (fun b h e=>by have:=d1 b e.symm;omega)).set (a:=⟨w.heap.size,3,none⟩) (.slice a0 a1 a2) (by first|omega|(simp only;omega));have b0:=AB (fun j M S=>A7.Ad (Q:=fun b=>w.heap.size<b∧(Value.slice a0 a1 a2).ownBlock≠some b) (fun b h _=>⟨h.1.1,h.2⟩) (((A7.Ad (Q:=fun b=>(w.heap.size<b∧(Value.slice sa sn sc).ownBlock≠some b)∧(Value.slice a0 a1 a2).ownBlock≠some b) (fun b h d7=>⟨h,fun e=>by
    rcases h4 with ho|ho
    ·exact h.2 (ho▸e)
    rw[ho]at e;injection e with e;omega⟩) ((b0.o j M S).next R)).grown b3 (fun b h e=>h.1.2 e.symm)).set (a:=⟨w.heap.size,3,none⟩) (.slice a0 a1 a2) (fun h=>Nat.lt_irrefl _ h.1.1)))
   have X:=h2.A6 (a:=⟨w.heap.size,3,none⟩) (by simp only;omega) (.slice a0 a1 a2);have i8:Gr (f2.setCell ⟨w.heap.size,3,none⟩ (.slice a0 a1 a2)):=(i6.next R).keep fun b hb=>(Gp _ _ _ b (by simp only;omega)).trans (b3.block b (by rw[AV,h1];omega) (fun e=>by have:=d1 b e.symm;omega))
   have i9:=((B9.next R B9.size).trans (A5.of (h3.mono (by omega)))).own (p:=⟨w.heap.size,3,none⟩) (AC _) (.slice a0 a1 a2);have j0:w6.heap.size≤(f2.setCell ⟨w.heap.size,3,none⟩ (.slice a0 a1 a2)).heap.size:=by simp[World.setCell];omega
   clear h4 b3 h3 R g7 d1;go_wp2_with fail;go_roundw
   case rel=>exact⟨k+1,m,G++[p],U++[((ra,rn,a3),Y,rm,(a4,a5,a6))],(a0,a1,a2),by go_num,by omega,by simp;omega,by simp;omega,by omega,f,H,X,t,Z,b0,i8,N,i9,j0⟩
   simp[intOf];omega
  obtain rfl:k=F.length:=by omega
  have N:=AB (show Az (d+1) (L+1) s=.ok (.mk l [] true G,n)from HR.o _ (d0.o.symm.trans (Th G)));have a8:=H.cell;have a9:=H.free;have K:=(H.Ht (.slice A l.length C) (.string ⟨#[]⟩) (.bool true) (.slice sa sn sc)).cell;have c4:=A0.Dn (by decide) Db X;clear d0;go_wp2_with fail;refine AL (v:=.tuple #[.agg #[.slice A l.length C,.string ⟨#[]⟩,.bool true,.slice sa sn sc],.int .i64 0]) (by simp[results,results113,go_sem,K]) rfl ⟨Or.inl ⟨_,_,((A,l.length,C),[],true,(sa,sn,sc)),N.o,by omega,rfl,⟨rfl,rfl,?_,U,?_,by omega,fun j M S=>?_⟩,?_⟩,?_⟩
  ·exact((((t.set _ (by first|omega|(simp only;omega))).set _ (by first|omega|(simp only;omega))).set _ (by first|omega|(simp only;omega))).set _ (by first|omega|(simp only;omega))).Ad fun b h _=>by have:=h.1;omega
  ·exact((((c4.set _ (fun h=>by have:=h.1;simp only at this;omega)).set _ (fun h=>by have:=h.1;simp only at this;omega)).set _ (fun h=>by have:=h.1;simp only at this;omega)).set _ (fun h=>by have:=h.1;simp only at this;omega)).Ad fun b h _=>by have:=h.1;omega
  ·exact A7.Ad (fun b h _=>GD h.1) (((((b0.o j M S).set _ (fun h=>by have:=h.1;simp only at this;omega)).set _ (fun h=>by have:=h.1;simp only at this;omega)).set _ (fun h=>by have:=h.1;simp only at this;omega)).set _ (fun h=>by have:=h.1;simp only at this;omega))
  ·exact(((f.A6 (a:=⟨w.heap.size,0,none⟩) u.symm _).A6 (a:=⟨w.heap.size,1,none⟩) u.symm _).A6 (a:=⟨w.heap.size,2,none⟩) u.symm _).A6 (a:=⟨w.heap.size,3,none⟩) u.symm _
  exact(((B.own (AC _) _).own (AC _) _).own (AC _) _).own (AC _) _
def XJ(B:Nat)(r:Except Int A8)(e:Ending)(w':World):Prop:=(∃p R,r=.ok p∧e=.returned (.tuple #[Bm R,.int .i64 0])∧A7 (fun b=>B≤b) 4 w' R p)∨(∃c,r=.error c∧1≤c∧e=.returned (.tuple #[.agg Bn,.int .i64 c]))
theorem XK(s:Bs)(w:World)(S:s.length≤1000000000000)(z:Gr w):Calls prog 53 #[.string ⟨s.toArray⟩] w fun e A=>XJ w.heap.size (E8 s) e A∧Below w.heap.size w A:=by
 by_cases C:20000<s.length
 ·have N:=AB (by unfold E8;rw[AM C]:E8 s=.error 4);have F:(20000:Int)<s.length:=by omega
  go_enter func53,ntmps53;go_wp2_with fail;refine AL (v:=.tuple #[.agg Bn,.int .i64 4]) (by simp[results,results53,go_sem,Bn]) rfl ⟨Or.inr ⟨4,N.o,by decide,rfl⟩,?_⟩;go_grown
 have P:=AB (by unfold E8;rw[AI C]:E8 s=(Az 4 40 s).map (·.1));have F:¬(20000:Int)<s.length:=by omega
 have T:=z.size;have H:=(A1.new w Bn 44).alloc (.cells #[.int .i64 0] 3);have l:=A1.new (w.alloc (.cells Bn 44)) #[.int .i64 0] 3;have B:=((AD w.heap.size w).alloc (AC _) (.cells Bn 44)).alloc (by simp) (.cells #[.int .i64 0] 3);have q:=z.next B;have D:((w.alloc (.cells Bn 44)).alloc (.cells #[.int .i64 0] 3)).heap.size=w.heap.size+1+1:=by simp
 rw[AV]at l;have t:=fun W G I=>XI 4 40 s (w.heap.size+1) 0 0 W (AB rfl) (by decide) (AB rfl) (by decide) G (by omega) I (by omega)
 generalize Az 4 40 s=r at t P;unfold Bn at H l B q D;go_enter func53,ntmps53;go_wp2_with fail;generalize World.alloc _ _=U at H l B q D⊢;with_reducible refine(t _ q l).mono ?_
 rintro e u⟨J,k⟩;have H:=H.Ag k (by omega);have o:=B.trans ((k.mono (B':=w.heap.size) (by omega)).shut (by omega));have V:=k.size;clear t k l;rcases J with⟨p,n,x,rfl,X,rfl,y,l⟩|⟨c,x,rfl,E,rfl⟩
 ·have N:=AB (show E8 s=.ok p from P.o);obtain⟨⟨R,a,d⟩,f,m,⟨g,i,j⟩⟩:=x;simp only[Bm,A9];have L:=A1.new u #[.slice R a d,.string ⟨f.toArray⟩,.bool m,.slice g i j] 44;have H:=H.alloc (.cells #[.slice R a d,.string ⟨f.toArray⟩,.bool m,.slice g i j] 44);have y:=y.next ((AD u.heap.size u).alloc (AC _) (.cells #[.slice R a d,.string ⟨f.toArray⟩,.bool m,.slice g i j] 44));have M:=o.alloc o.size (.cells #[.slice R a d,.string ⟨f.toArray⟩,.bool m,.slice g i j] 44);have K:=H.cell;have O:=H.free;have Y:=L.cell;go_wp2_with fail;refine AL (v:=.tuple #[.agg #[.slice R a d,.string ⟨f.toArray⟩,.bool m,.slice g i j],.int .i64 0]) (by simp[results,results53,go_sem,K]) rfl ⟨Or.inl ⟨_,((R,a,d),f,m,(g,i,j)),N.o,rfl,?_⟩,?_⟩
  ·exact A7.Ad (fun b h _=>by have:=h;omega) ((((y.set _ (by first|omega|(simp only;omega))).set _ (by first|omega|(simp only;omega))).set _ (by first|omega|(simp only;omega))).set _ (by first|omega|(simp only;omega)))
  go_grown
 have N:=AB (show E8 s=.error c from P.o);obtain⟨⟨R,a,d⟩,f,m,⟨g,i,j⟩⟩:=x;simp only[Bm,A9];have H:=H.alloc (.cells #[.slice R a d,.string ⟨f.toArray⟩,.bool m,.slice g i j] 44);have M:=o.alloc o.size (.cells #[.slice R a d,.string ⟨f.toArray⟩,.bool m,.slice g i j] 44);have K:=H.cell;have O:=H.free;have Q:=AB E;have Z:¬c=0:=by omega
 clear E;go_wp2_with fail;refine AL (v:=.tuple #[.agg Bn,.int .i64 c]) (by simp[results,results53,go_sem,Bn,K]) rfl ⟨Or.inr ⟨c,N.o,Q.o,rfl⟩,?_⟩;go_grown
end Go.Proofs.YtignjjnflcpiiaaGreatDoor
