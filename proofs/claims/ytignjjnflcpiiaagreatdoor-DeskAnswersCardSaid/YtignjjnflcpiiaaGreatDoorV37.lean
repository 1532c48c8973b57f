/- The document's answer's readPart: as the program's. Condi -/
import Derived.Test.YtignjjnflcpiiaaGreatDoorV26
import Derived.Test.YtignjjnflcpiiaaGreatDoorV33
import Derived.Test.YtignjjnflcpiiaaGreatDoorV34
set_option maxHeartbeats 16000000
set_option maxRecDepth 100000 set_option linter.all false
namespace Go.Proofs.YtignjjnflcpiiaaGreatDoor
open Go Go.RowKit Proofs.Tryz Lib
def kh(B d lb l:Nat)(r:Except Int (A7×Nat))(e:Ending)(w':World):Prop:=(∃p n R,r=.ok (p,n)/\n<=l/\e=.returned (.tuple #[C3 R,.int .i64 0])/\A8 (fun b=>B<=b) d w' R p/\A0 w' lb #[.int .i64 (40-(n:Int))] 3)\/(∃c R,r=.error c/\1<=c/\e=.returned (.tuple #[C3 R,.int .i64 c]))
def cM:Bs:=[99,111,110,116,101,110,116,45,116,114,97,110,115,102,101,114,45,101,110,99,111,100,105,110,103]
def kj:A2 cM=A2 Bn:=ae
def kk(l:List A4)(s:Bs):Dd l s=if(!(Aj l Bn).isSome||(A2 ((Aj l Bn).getD [])==Kl||(A2 ((Aj l Bn).getD [])==Ph||A2 ((Aj l Bn).getD [])==Pi)))=true then .ok s
  else if(A2 ((Aj l Bn).getD [])==Jq)=true then(match Dr s with|none=>.error 3|some x=>.ok x)
  else if(A2 ((Aj l Bn).getD [])==I2)=true then(match Df s with|none=>.error 3|some x=>.ok x)
  else .error 5:=by
 unfold Dd;cases Aj l Bn with
 |none=>simp
 |some v=>
  simp only[EE,DA,EK,JX,FM,BL];by_cases h:A2 v=Kl\/A2 v=Ph\/A2 v=Pi
  ·rw[AN h,AN h]
  rw[AL h,AL h];by_cases H:A2 v=Jq
  ·rw[AN H,AN H];cases Dr s<;>rfl
  rw[AL H,AL H];by_cases a:A2 v=I2
  ·rw[AN a,AN a];cases Df s<;>rfl
  rw[AL a,AL a]
variable {b:Nat}{w:World}
def A0.J3{t:TypeId}{x X d e:Value}(h:A0 w b #[x,X,d,e] t)(y Y a c:Value):A0 ((((w.setCell ⟨b,0,none⟩ y).setCell ⟨b,1,none⟩ Y).setCell ⟨b,2,none⟩ a).setCell ⟨b,3,none⟩ c) b #[y,Y,a,c] t:=by
 have H:=(((h.set 0 y).set 1 Y).set 2 a).set 3 c;simpa using H
def A5.drew{lb B:Nat}{a w:World}(h:A5 lb B a w):A5 lb B a w.drew:=h.trans (A5.of ((AG B w).drew))
def Gr.J3(h:Gr w)(H:3<b)(y Y a c:Value):Gr ((((w.setCell ⟨b,0,none⟩ y).setCell ⟨b,1,none⟩ Y).setCell ⟨b,2,none⟩ a).setCell ⟨b,3,none⟩ c):=h.keep fun k d=>(D3 _ _ _ k ai).trans ((D3 _ _ _ k ai).trans ((D3 _ _ _ k ai).trans (D3 _ _ _ k ai)))
def kl(d:Nat):∀(a7:Nat)(s:Bs)(I:Nat)(ab J:Int)(w:World),Hid (ab=4-(d:Int))->d<=4->Hid (J=40-(a7:Int))->a7<=40->Gr w->3<I->A0 w I #[J] 3->s.length<=20000->Calls prog 113 #[s,ab,.pointer (some ⟨I,0,none⟩)] w fun e w'=>kh w.heap.size d I a7 (Bd d a7 s) e w'/\A5 I w.heap.size w w':=by
 induction d with
 |zero=>
  intro a7 s I ab J w d8 _ c3 hl hg d9 hb hs;obtain rfl:ab=4:=d8.o;have N:=AE (ca:Bd 0 a7 s=.error 4);have h4:0<=J/\J<=40:=oy
  have kc:=hb.cell 0;have h5:=hb.lt;have u:w.heap.size≠I:=aa
  by_cases h0:(40:Int)<=J;all_goals
   go_enter func113,ntmps113;go_wp2_with fail;refine AO (v:=.tuple #[.agg Bu,.int .i64 4]) (by simp[results,results113,go_sem,Bu]) rfl ⟨Or.inr ⟨4,Mk,N.o,ae,rfl⟩,?_⟩;exact A5.of ((AG _ _).alloc ah _)
 |succ d ih=>
  intro a7 s I ab J w d8 j0 c3 hl hg d9 hb hs;have j1:0<=ab/\ab<=3:=by have:=d8.o;omega
  have h4:0<=J/\J<=40:=oy
  have kc:=hb.cell 0;have kf:=hb.free 0;have h6:(w.setCell ⟨I,0,none⟩ (.int .i64 (J+1))).cell? ⟨I,0,none⟩=some (.int .i64 (J+1)):=(hb.set 0 _).cell 0;have h5:=hb.lt;have u:w.heap.size≠I:=aa
  have BO:A5 I w.heap.size w (w.setCell ⟨I,0,none⟩ (.int .i64 (J+1))):=(A5.refl _ _ _).set _;have f2:3<w.heap.size:=hg.size;by_cases h0:(40:Int)<=J
  ·have N:=AE (show Bd (d+1) a7 s=.error 4 from by
    obtain rfl:a7=0:=oy
    rfl)
   go_enter func113,ntmps113;go_wp2_with fail;refine AO (v:=.tuple #[.agg Bu,.int .i64 4]) (by simp[results,results113,go_sem,Bu]) rfl ⟨Or.inr ⟨4,Mk,N.o,ae,rfl⟩,?_⟩;exact A5.of ((AG _ _).alloc ah _)
  obtain⟨L,rfl⟩:∃n,a7=n+1:=⟨a7-1,oy⟩;have b4:=AE (oy:J+1=40-(L:Int));have f:=((hb.set 0 (.int .i64 (J+1))).alloc (.cells Bu 44));have H:=A0.new (w.setCell ⟨I,0,none⟩ (.int .i64 (J+1))) Bu 44;have d2:=BO.trans (A5.of ((AG w.heap.size (w.setCell ⟨I,0,none⟩ (.int .i64 (J+1)))).alloc ah (.cells Bu 44)));have e0:=hg.Ai d2 d9;have f3:((w.setCell ⟨I,0,none⟩ (.int .i64 (J+1))).alloc (.cells Bu 44)).heap.size=w.heap.size+1:=ah
  rw[ER]at H;have P:=AE (show Bd (d+1) (L+1) s=match E7 s with
   |none=>.error 3
   |some (l0,q)=>match Cz l0 with
    |none=>.error 1
    |some l=>match Bo l with
     |none=>.error 3
     |some none=>(match Dd l q with
      | .error e=>.error e
      | .ok b=>.ok (.mk l b false [],L))
     |some (some b)=>match Eb q b with
      |none=>.error 3
      |some F=>match Bz (Bd d) L F with
       | .error e=>.error e
       | .ok (G,n)=>.ok (.mk l [] true G,n)from rfl)
  have e7:=fun W hW=>YP s W aa hW
  have c4:=fun o r(h:E7 s=some (o,r))=>Zb h
  generalize E7 s=rh at P e7 c4;unfold Bu at f H d2 e0 f3;go_enter func113,ntmps113;go_wp2_with fail;generalize World.alloc _ _=W1 at f H d2 e0 f3|-;clear kc kf h6 BO hg hb h0;with_reducible refine(e7 _ e0.g).mono ?_
  rintro e z⟨hh,c5⟩;have f:=f.next c5 f.lt;have H:=H.next c5 H.lt;have d3:=e0.next c5;have B2:=d2.next c5 d2.size;have j2:=c5.size;clear e7 c5;rcases hh with⟨o,q,v,rfl,_,_,_,rfl,e1⟩|⟨rfl,fn,rfl⟩
  case inr=>
   have N:=AE (show Bd (d+1) (L+1) s=.error 3 from P.o);have V:=A0.new z #[.int .i64 3,fn] 113;have H:=H.alloc (.cells #[.int .i64 3,fn] 113);have B3:=B2.next ((AG z.heap.size z).alloc (AF _) (.cells #[.int .i64 3,fn] 113)) B2.size;have K:=H.cell;have c6:=H.free;have b5:=V.cell;clear P c4;go_wp2_with fail;go_region;go_wp2_with fail;refine AO (v:=.tuple #[.agg Bu,.int .i64 3]) ju rfl ⟨Or.inr ⟨3,Mk,N.o,ae,rfl⟩,?_⟩;first
    |exact B3
    |exact((((B3.own (AF _) _).own (AF _) _).own (AF _) _).own (AF _) _).drew
  obtain⟨j3,h7⟩:=c4 o q rfl;have V:=A0.new z #[.int .i64 0,.int .i64 (-1)] 113;have BF:=(AG z.heap.size z).alloc (AF _) (.cells #[.int .i64 0,.int .i64 (-1)] 113);have h8:(z.alloc (.cells #[.int .i64 0,.int .i64 (-1)] 113)).heap.size=z.heap.size+1:=ah
  have f:=f.next BF f.lt;have H:=H.next BF H.lt;have d3:=d3.next BF;have B2:=B2.next BF B2.size;have e1:=A1.next e1 BF;have hC:=fun W(h:Cq W v o)=>YR v o W h ((F1 (n:=20000) aa).ok ae)
  have f4:=A1.rd ae Af e1;have hC:=hC _ f4;have hcw:=fun l(h:Cz o=some l)=>W8 h
  have P:=AE (show Bd (d+1) (L+1) s=match Cz o with
   |none=>.error 1
   |some l=>match Bo l with
    |none=>.error 3
    |some none=>(match Dd l q with
     | .error e=>.error e
     | .ok b=>.ok (.mk l b false [],L))
    |some (some b)=>match Eb q b with
     |none=>.error 3
     |some F=>match Bz (Bd d) L F with
      | .error e=>.error e
      | .ok (G,n)=>.ok (.mk l [] true G,n)from P.o)
  have b5:=V.cell;clear c4 BF e1 f4;generalize Cz o=rc at hC hcw P;go_wp2_with fail;generalize World.alloc _ _=WF at V h8 f H d3 B2 hC b5|-;with_reducible refine hC.mono ?_
  rintro e w3⟨hh,b6⟩;have f:=f.next b6 f.lt;have H:=H.next b6 H.lt;have V:=V.next b6 V.lt;have f5:=d3.next b6;have B3:=B2.next b6 B2.size;have j4:=b6.size;clear hC b6 B2 d3 b5;rcases hh with⟨l,v2,rfl,rfl,X⟩|⟨rfl,fn,rfl⟩
  case inr=>
   have N:=AE (show Bd (d+1) (L+1) s=.error 1 from P.o);have f6:=V.free;have f7:=V.cell;have d4:A0 ((w3.setCell ⟨z.heap.size,0,none⟩ (.int .i64 1)).setCell ⟨z.heap.size,1,none⟩ fn) z.heap.size #[.int .i64 1,fn] 113:=(V.set 0 _).set 1 _;have H:=(H.A6 (a:=⟨z.heap.size,0,none⟩) ai (.int .i64 1)).A6 (a:=⟨z.heap.size,1,none⟩) ai fn;have B4:=(B3.own (p:=⟨z.heap.size,0,none⟩) ai (.int .i64 1)).own (p:=⟨z.heap.size,1,none⟩) ai fn;have K:=H.cell;have c6:=H.free;have b5:=d4.cell;clear P hcw;go_wp2_with fail;go_region;go_wp2_with fail;refine AO (v:=.tuple #[.agg Bu,.int .i64 1]) ju rfl ⟨Or.inr ⟨1,Mk,N.o,ae,rfl⟩,?_⟩;first
    |exact B4
    |exact((((B4.own (AF _) _).own (AF _) _).own (AF _) _).own (AF _) _).drew
  have e2:=F1 (n:=20000) (AV (hcw l rfl) aa);have t:=A1.Dq ae Af X;obtain⟨A,C,rfl,_⟩:=t.rd;have P:=AE (show Bd (d+1) (L+1) s=match Bo l with
   |none=>.error 3
   |some none=>(match Dd l q with
    | .error e=>.error e
    | .ok b=>.ok (.mk l b false [],L))
   |some (some b)=>match Eb q b with
    |none=>.error 3
    |some F=>match Bz (Bd d) L F with
     | .error e=>.error e
     | .ok (G,n)=>.ok (.mk l [] true G,n)from P.o)
  have d5:=fun b=>lO (b:=b) e2
  have t:Ba 2 Bc (fun b=>z.heap.size<b/\b<w3.heap.size) w3 (.slice A l.length C) l:=t.Ac fun b M S=>⟨by have:=M.1;omega,S⟩
  have f6:=V.free;have f7:=V.cell;have d4:A0 ((w3.setCell ⟨z.heap.size,0,none⟩ (.int .i64 0)).setCell ⟨z.heap.size,1,none⟩ (.int .i64 (-1))) z.heap.size #[.int .i64 0,.int .i64 (-1)] 113:=(V.set 0 _).set 1 _;have H:=(H.A6 (a:=⟨z.heap.size,0,none⟩) ai (.int .i64 0)).A6 (a:=⟨z.heap.size,1,none⟩) ai (.int .i64 (-1));have f:=(f.A6 (a:=⟨z.heap.size,0,none⟩) ai (.int .i64 0)).A6 (a:=⟨z.heap.size,1,none⟩) ai (.int .i64 (-1));have t:=(t.set (a:=⟨z.heap.size,0,none⟩) (.int .i64 0) ai).set (a:=⟨z.heap.size,1,none⟩) (.int .i64 (-1)) ai;have e3:Gr ((w3.setCell ⟨z.heap.size,0,none⟩ (.int .i64 0)).setCell ⟨z.heap.size,1,none⟩ (.int .i64 (-1))):=f5.keep fun b hb=>(D3 _ _ _ b ai).trans (D3 _ _ _ b ai)
  have B4:=(B3.own (p:=⟨z.heap.size,0,none⟩) ai (.int .i64 0)).own (p:=⟨z.heap.size,1,none⟩) ai (.int .i64 (-1));have h9:((w3.setCell ⟨z.heap.size,0,none⟩ (.int .i64 0)).setCell ⟨z.heap.size,1,none⟩ (.int .i64 (-1))).heap.size=w3.heap.size:=ec
  have b5:=d4.cell;have hB:=fun W(h:Cq W (.slice A l.length C) l)hg=>pE (.slice A l.length C) l W h (e2.mono ae) hg
  clear hcw X V B3 f5;generalize Bo l=Y at hB P d5;go_wp2_with fail;generalize World.setCell (World.setCell _ _ _) _ _=w4 at d4 H f t e3 B4 h9 b5|-;with_reducible refine(hB _ t.rd e3).mono ?_
  rintro e w5⟨rfl,b7⟩;have f:=f.next b7 f.lt;have H:=H.next b7 H.lt;have e4:=e3.next b7;have B5:=B4.next b7 B4.size;have j5:=b7.size;have t:=t.next b7;clear hB b7 B4 e3 b5 d4 f6 f7;rcases Y with _|_|b
  ·have N:=AE (show Bd (d+1) (L+1) s=.error 3 from P.o);simp only[Ur];have K:=H.cell;have c6:=H.free;clear P d5;go_wp2_with fail;refine AO (v:=.tuple #[.agg Bu,.int .i64 3]) ju rfl ⟨Or.inr ⟨3,Mk,N.o,ae,rfl⟩,?_⟩;first
    |exact B5
    |exact(((B5.own (AF _) _).own (AF _) _).own (AF _) _).own (AF _) _
  ·have P:=AE (show Bd (d+1) (L+1) s=match Dd l q with
    | .error e=>.error e
    | .ok b=>.ok (.mk l b false [],L)from P.o)
   have E:=AE (kk l q);have hG:=fun W(h:Cq W (.slice A l.length C) l)=>Sg (.slice A l.length C) l cM W h (e2.ok ae) ae
   simp only[Sz l kj]at hG;have e5:=fun x=>Mc (s:=Bn) (v:=x) e2
   generalize Dd l q=rd at E P;generalize Aj l Bn=rg at hG E e5;have e5:(rg.getD []).length<=20000:=by
    cases rg with
    |none=>simp
    |some x=>have:=e5 x rfl;simp;omega
   generalize rg.getD []=gv at hG E e5;generalize rg.isSome=q0 at hG E;simp only[Ur];unfold cM at hG;have K:=H.cell;have c6:=H.free;have H:=H.J3 (.slice A l.length C) (.string ⟨#[]⟩) false (.slice none 0 0);have f:=(((f.A6 (a:=⟨w.heap.size,0,none⟩) u.symm (.slice A l.length C)).A6 (a:=⟨w.heap.size,1,none⟩) u.symm (.string ⟨#[]⟩)).A6 (a:=⟨w.heap.size,2,none⟩) u.symm false).A6 (a:=⟨w.heap.size,3,none⟩) u.symm (.slice none 0 0);have t:=(((t.set (a:=⟨w.heap.size,0,none⟩) (.slice A l.length C) ai).set (a:=⟨w.heap.size,1,none⟩) (.string ⟨#[]⟩) ai).set (a:=⟨w.heap.size,2,none⟩) false ai).set (a:=⟨w.heap.size,3,none⟩) (.slice none 0 0) ai;have b1:=e4.J3 (b:=w.heap.size) f2 (.slice A l.length C) (.string ⟨#[]⟩) false (.slice none 0 0);have B6:=(((B5.own (p:=⟨w.heap.size,0,none⟩) (AF _) (.slice A l.length C)).own (p:=⟨w.heap.size,1,none⟩) (AF _) (.string ⟨#[]⟩)).own (p:=⟨w.heap.size,2,none⟩) (AF _) false).own (p:=⟨w.heap.size,3,none⟩) (AF _) (.slice none 0 0);clear d5 B5 e4;go_wp2_with fail;generalize World.setCell (World.setCell (World.setCell (World.setCell _ _ _) _ _) _ _) _ _=W6 at H f t b1 B6|-;clear K c6;with_reducible refine(hG _ t.rd).mono ?_
   rintro e w7⟨rfl,c7⟩;have f:=f.next c7 f.lt;have H:=H.next c7 H.lt;have t:=t.next c7;have f8:=b1.next c7;have B7:=B6.next c7 B6.size;have e8:=Ix gv w7 aa;generalize A2 gv=d6 at e8 E;clear hG c7 b1 B6;go_wp2_with fail;with_reducible refine e8.mono ?_
   rintro e w8⟨rfl,c8⟩;have f:=f.next c8 f.lt;have H:=H.next c8 H.lt;have t:=t.next c8;have e6:=(f8.next c8).g;have O:=B7.next c8 B7.size;unfold Kl Ph Pi Jq I2 at E;clear e8 c8 f8 B7;have c9:=AE (fun(o:Bs)(h:rd=.ok o)=>show Bd (d+1) (L+1) s=.ok (.mk l o false [],L)from by rw[P.o,h]);have e9:=AE (fun(c:Int)(h:rd=.error c)=>show Bd (d+1) (L+1) s=.error c from by rw[P.o,h]);cases q0 with
   |false=>
    have N:=AE (c9.o q E.o);have D:=H.set 1 q;have a8:=H.cell;have a9:=H.free;have b8:=D.cell;have c0:=D.free;have K:=(D.J3 (.slice A l.length C) q false (.slice none 0 0)).cell;clear P;go_wp2_with fail;refine AO (v:=.tuple #[.agg #[.slice A l.length C,q,false,.slice none 0 0],.int .i64 0]) du rfl ⟨Or.inl ⟨_,_,((A,l.length,C),q,false,(none,0,0)),N.o,aa,rfl,⟨rfl,rfl,?_,[],Ba.nil _ _ _ _ _ _,rfl,fun k h=>en⟩,?_⟩,?_⟩
    ·exact(((((t.set _ ai).set _ ai).set _ ai).set _ ai).set _ ai).Ac fun b h _=>ew
    ·have:=((((f.A6 (a:=⟨w.heap.size,1,none⟩) u.symm q).A6 (a:=⟨w.heap.size,0,none⟩) u.symm (.slice A l.length C)).A6 (a:=⟨w.heap.size,1,none⟩) u.symm q).A6 (a:=⟨w.heap.size,2,none⟩) u.symm false).A6 (a:=⟨w.heap.size,3,none⟩) u.symm (.slice none 0 0);rw[b4.o]at this;exact this
    exact((((O.own (AF _) _).own (AF _) _).own (AF _) _).own (AF _) _).own (AF _) _
   |true=>
   generalize j6:(d6==[55,98,105,116])=q1 at E;cases q1 with
   |true=>
    have N:=AE (c9.o q E.o);have D:=H.set 1 q;have a8:=H.cell;have a9:=H.free;have b8:=D.cell;have c0:=D.free;have K:=(D.J3 (.slice A l.length C) q false (.slice none 0 0)).cell;clear P;go_wp2_with fail;refine AO (v:=.tuple #[.agg #[.slice A l.length C,q,false,.slice none 0 0],.int .i64 0]) du rfl ⟨Or.inl ⟨_,_,((A,l.length,C),q,false,(none,0,0)),N.o,aa,rfl,⟨rfl,rfl,?_,[],Ba.nil _ _ _ _ _ _,rfl,fun k h=>en⟩,?_⟩,?_⟩
    ·exact(((((t.set _ ai).set _ ai).set _ ai).set _ ai).set _ ai).Ac fun b h _=>ew
    ·have:=((((f.A6 (a:=⟨w.heap.size,1,none⟩) u.symm q).A6 (a:=⟨w.heap.size,0,none⟩) u.symm (.slice A l.length C)).A6 (a:=⟨w.heap.size,1,none⟩) u.symm q).A6 (a:=⟨w.heap.size,2,none⟩) u.symm false).A6 (a:=⟨w.heap.size,3,none⟩) u.symm (.slice none 0 0);rw[b4.o]at this;exact this
    exact((((O.own (AF _) _).own (AF _) _).own (AF _) _).own (AF _) _).own (AF _) _
   |false=>
   generalize j7:(d6==[56,98,105,116])=q2 at E;cases q2 with
   |true=>
    have N:=AE (c9.o q E.o);have D:=H.set 1 q;have a8:=H.cell;have a9:=H.free;have b8:=D.cell;have c0:=D.free;have K:=(D.J3 (.slice A l.length C) q false (.slice none 0 0)).cell;clear P;go_wp2_with fail;refine AO (v:=.tuple #[.agg #[.slice A l.length C,q,false,.slice none 0 0],.int .i64 0]) du rfl ⟨Or.inl ⟨_,_,((A,l.length,C),q,false,(none,0,0)),N.o,aa,rfl,⟨rfl,rfl,?_,[],Ba.nil _ _ _ _ _ _,rfl,fun k h=>en⟩,?_⟩,?_⟩
    ·exact(((((t.set _ ai).set _ ai).set _ ai).set _ ai).set _ ai).Ac fun b h _=>ew
    ·have:=((((f.A6 (a:=⟨w.heap.size,1,none⟩) u.symm q).A6 (a:=⟨w.heap.size,0,none⟩) u.symm (.slice A l.length C)).A6 (a:=⟨w.heap.size,1,none⟩) u.symm q).A6 (a:=⟨w.heap.size,2,none⟩) u.symm false).A6 (a:=⟨w.heap.size,3,none⟩) u.symm (.slice none 0 0);rw[b4.o]at this;exact this
    exact((((O.own (AF _) _).own (AF _) _).own (AF _) _).own (AF _) _).own (AF _) _
   |false=>
   generalize j8:(d6==[98,105,110,97,114,121])=q3 at E;cases q3 with
   |true=>
    have N:=AE (c9.o q E.o);have D:=H.set 1 q;have a8:=H.cell;have a9:=H.free;have b8:=D.cell;have c0:=D.free;have K:=(D.J3 (.slice A l.length C) q false (.slice none 0 0)).cell;clear P;go_wp2_with fail;refine AO (v:=.tuple #[.agg #[.slice A l.length C,q,false,.slice none 0 0],.int .i64 0]) du rfl ⟨Or.inl ⟨_,_,((A,l.length,C),q,false,(none,0,0)),N.o,aa,rfl,⟨rfl,rfl,?_,[],Ba.nil _ _ _ _ _ _,rfl,fun k h=>en⟩,?_⟩,?_⟩
    ·exact(((((t.set _ ai).set _ ai).set _ ai).set _ ai).set _ ai).Ac fun b h _=>ew
    ·have:=((((f.A6 (a:=⟨w.heap.size,1,none⟩) u.symm q).A6 (a:=⟨w.heap.size,0,none⟩) u.symm (.slice A l.length C)).A6 (a:=⟨w.heap.size,1,none⟩) u.symm q).A6 (a:=⟨w.heap.size,2,none⟩) u.symm false).A6 (a:=⟨w.heap.size,3,none⟩) u.symm (.slice none 0 0);rw[b4.o]at this;exact this
    exact((((O.own (AF _) _).own (AF _) _).own (AF _) _).own (AF _) _).own (AF _) _
   |false=>
   generalize j9:(d6==[98,97,115,101,54,52])=q4 at E;cases q4 with
   |true=>
    have E:=AE (show rd=(match Dr q with|none=>.error 3|some x=>.ok x)from E.o);have hU:=nK q w8 aa;generalize Dr q=ru at E hU;go_wp2_with fail;with_reducible refine hU.mono ?_
    rintro e w9⟨rfl,b9⟩;have f:=f.next b9 f.lt;have H:=H.next b9 H.lt;have t:=t.next b9;have B9:=O.next b9 O.size;clear hU b9 O;cases ru with
    |none=>
     have N:=AE (e9.o 3 E.o);simp only[Ok];have D:=H.set 1 (.string ⟨#[]⟩);have a8:=H.cell;have a9:=H.free;have b8:=D.cell;have c0:=D.free;have K:=(D.J3 (.slice A l.length C) (.string ⟨#[]⟩) false (.slice none 0 0)).cell;clear P;go_wp2_with fail;refine AO (v:=.tuple #[.agg #[.slice A l.length C,.string ⟨#[]⟩,false,.slice none 0 0],.int .i64 3]) du rfl ⟨Or.inr ⟨3,((A,l.length,C),[],false,(none,0,0)),N.o,ae,rfl⟩,?_⟩;exact((((B9.own (AF _) _).own (AF _) _).own (AF _) _).own (AF _) _).own (AF _) _
    |some T=>
     have N:=AE (c9.o T E.o);simp only[Ok];have D:=H.set 1 T;have a8:=H.cell;have a9:=H.free;have b8:=D.cell;have c0:=D.free;have K:=(D.J3 (.slice A l.length C) T false (.slice none 0 0)).cell;clear P;go_wp2_with fail;refine AO (v:=.tuple #[.agg #[.slice A l.length C,T,false,.slice none 0 0],.int .i64 0]) du rfl ⟨Or.inl ⟨_,_,((A,l.length,C),T,false,(none,0,0)),N.o,aa,rfl,⟨rfl,rfl,?_,[],Ba.nil _ _ _ _ _ _,rfl,fun k h=>en⟩,?_⟩,?_⟩
     ·exact(((((t.set _ ai).set _ ai).set _ ai).set _ ai).set _ ai).Ac fun b h _=>ew
     ·have:=((((f.A6 (a:=⟨w.heap.size,1,none⟩) u.symm T).A6 (a:=⟨w.heap.size,0,none⟩) u.symm (.slice A l.length C)).A6 (a:=⟨w.heap.size,1,none⟩) u.symm T).A6 (a:=⟨w.heap.size,2,none⟩) u.symm false).A6 (a:=⟨w.heap.size,3,none⟩) u.symm (.slice none 0 0);rw[b4.o]at this;exact this
     exact((((B9.own (AF _) _).own (AF _) _).own (AF _) _).own (AF _) _).own (AF _) _
   |false=>
   generalize k0:(d6==[113,117,111,116,101,100,45,112,114,105,110,116,97,98,108,101])=q5 at E;cases q5 with
   |true=>
    have E:=AE (show rd=(match Df q with|none=>.error 3|some x=>.ok x)from E.o);have hU:=jW q w8 aa e6;generalize Df q=ru at E hU;go_wp2_with fail;with_reducible refine hU.mono ?_
    rintro e w9⟨rfl,b9⟩;have f:=f.next b9 f.lt;have H:=H.next b9 H.lt;have t:=t.next b9;have B9:=O.next b9 O.size;clear hU b9 O;cases ru with
    |none=>
     have N:=AE (e9.o 3 E.o);simp only[Ok];have D:=H.set 1 (.string ⟨#[]⟩);have a8:=H.cell;have a9:=H.free;have b8:=D.cell;have c0:=D.free;have K:=(D.J3 (.slice A l.length C) (.string ⟨#[]⟩) false (.slice none 0 0)).cell;clear P;go_wp2_with fail;refine AO (v:=.tuple #[.agg #[.slice A l.length C,.string ⟨#[]⟩,false,.slice none 0 0],.int .i64 3]) du rfl ⟨Or.inr ⟨3,((A,l.length,C),[],false,(none,0,0)),N.o,ae,rfl⟩,?_⟩;exact((((B9.own (AF _) _).own (AF _) _).own (AF _) _).own (AF _) _).own (AF _) _
    |some T=>
     have N:=AE (c9.o T E.o);simp only[Ok];have D:=H.set 1 T;have a8:=H.cell;have a9:=H.free;have b8:=D.cell;have c0:=D.free;have K:=(D.J3 (.slice A l.length C) T false (.slice none 0 0)).cell;clear P;go_wp2_with fail;refine AO (v:=.tuple #[.agg #[.slice A l.length C,T,false,.slice none 0 0],.int .i64 0]) du rfl ⟨Or.inl ⟨_,_,((A,l.length,C),T,false,(none,0,0)),N.o,aa,rfl,⟨rfl,rfl,?_,[],Ba.nil _ _ _ _ _ _,rfl,fun k h=>en⟩,?_⟩,?_⟩
     ·exact(((((t.set _ ai).set _ ai).set _ ai).set _ ai).set _ ai).Ac fun b h _=>ew
     ·have:=((((f.A6 (a:=⟨w.heap.size,1,none⟩) u.symm T).A6 (a:=⟨w.heap.size,0,none⟩) u.symm (.slice A l.length C)).A6 (a:=⟨w.heap.size,1,none⟩) u.symm T).A6 (a:=⟨w.heap.size,2,none⟩) u.symm false).A6 (a:=⟨w.heap.size,3,none⟩) u.symm (.slice none 0 0);rw[b4.o]at this;exact this
     exact((((B9.own (AF _) _).own (AF _) _).own (AF _) _).own (AF _) _).own (AF _) _
   |false=>
    have N:=AE (e9.o 5 E.o);have a8:=H.cell;have a9:=H.free;have K:=(H.J3 (.slice A l.length C) (.string ⟨#[]⟩) false (.slice none 0 0)).cell;clear P;go_wp2_with fail;refine AO (v:=.tuple #[.agg #[.slice A l.length C,.string ⟨#[]⟩,false,.slice none 0 0],.int .i64 5]) du rfl ⟨Or.inr ⟨5,((A,l.length,C),[],false,(none,0,0)),N.o,ae,rfl⟩,?_⟩;exact(((O.own (AF _) _).own (AF _) _).own (AF _) _).own (AF _) _
  have k1:=d5 b rfl;have P:=AE (show Bd (d+1) (L+1) s=match Eb q b with
   |none=>.error 3
   |some F=>match Bz (Bd d) L F with
    | .error e=>.error e
    | .ok (G,n)=>.ok (.mk l [] true G,n)from P.o)
  have hC:=fun W hW=>jk q b W aa aa hW
  generalize Eb q b=rc at hC P;simp only[Ur];have K:=H.cell;have c6:=H.free;have H:=H.J3 (.slice A l.length C) (.string ⟨#[]⟩) true (.slice none 0 0);have f:=(((f.A6 (a:=⟨w.heap.size,0,none⟩) u.symm (.slice A l.length C)).A6 (a:=⟨w.heap.size,1,none⟩) u.symm (.string ⟨#[]⟩)).A6 (a:=⟨w.heap.size,2,none⟩) u.symm true).A6 (a:=⟨w.heap.size,3,none⟩) u.symm (.slice none 0 0);have t:=(((t.set (a:=⟨w.heap.size,0,none⟩) (.slice A l.length C) ai).set (a:=⟨w.heap.size,1,none⟩) (.string ⟨#[]⟩) ai).set (a:=⟨w.heap.size,2,none⟩) true ai).set (a:=⟨w.heap.size,3,none⟩) (.slice none 0 0) ai;have b1:=e4.J3 (b:=w.heap.size) f2 (.slice A l.length C) (.string ⟨#[]⟩) true (.slice none 0 0);have B6:=(((B5.own (p:=⟨w.heap.size,0,none⟩) (AF _) (.slice A l.length C)).own (p:=⟨w.heap.size,1,none⟩) (AF _) (.string ⟨#[]⟩)).own (p:=⟨w.heap.size,2,none⟩) (AF _) true).own (p:=⟨w.heap.size,3,none⟩) (AF _) (.slice none 0 0);have f9:((((w5.setCell ⟨w.heap.size,0,none⟩ (.slice A l.length C)).setCell ⟨w.heap.size,1,none⟩ (.string ⟨#[]⟩)).setCell ⟨w.heap.size,2,none⟩ true).setCell ⟨w.heap.size,3,none⟩ (.slice none 0 0)).heap.size=w5.heap.size:=ec
  clear d5 B5 e4;go_wp2_with fail;generalize World.setCell (World.setCell (World.setCell (World.setCell _ _ _) _ _) _ _) _ _=W5 at H f t b1 B6 f9|-;clear K c6;have k2:=H.lt;have k3:w3.heap.size<=W5.heap.size:=aa
  clear f9;with_reducible refine(hC _ b1.g).mono ?_
  rintro e w6⟨hh,c1⟩;have f:=f.next c1 f.lt;have H:=H.next c1 H.lt;have t:=t.next c1;have b1:=b1.next c1;have B6:=B6.next c1 B6.size;have k4:=c1.size;clear hC c1;rcases hh with⟨F,v6,rfl,k5,g0,rfl,g1⟩|⟨rfl,rfl⟩
  case inr=>
   have N:=AE (show Bd (d+1) (L+1) s=.error 3 from P.o);have a8:=H.cell;have a9:=H.free;have K:=(H.J3 (.slice A l.length C) (.string ⟨#[]⟩) true (.slice none 0 0)).cell;clear P;go_wp2_with fail;refine AO (v:=.tuple #[.agg #[.slice A l.length C,.string ⟨#[]⟩,true,.slice none 0 0],.int .i64 3]) du rfl ⟨Or.inr ⟨3,((A,l.length,C),[],true,(none,0,0)),N.o,ae,rfl⟩,?_⟩;first
   |exact B6
   |exact(((B6.own (AF _) _).own (AF _) _).own (AF _) _).own (AF _) _
  have HR:=AE (show∀r,Bz (Bd d) L F=r->Bd (d+1) (L+1) s=match r with
   | .error e=>.error e
   | .ok (G,n)=>.ok (.mk l [] true G,n)from fun r h=>by rw[<-h];exact P.o)
  have HX:=AE g0;have Z:=A1.Dq ae By g1;obtain⟨g2,g3,rfl,_⟩:=Z.rd;have Z:Ba 1 Bl (fun b=>W5.heap.size<=b/\b<w6.heap.size) w6 (.slice g2 F.length g3) F:=Z.Ac fun b M S=>⟨M.1,S⟩
  have t:Ba 2 Bc (fun b=>z.heap.size<b/\b<w3.heap.size) w6 (.slice A l.length C) l:=t;have k6:w.heap.size<w6.heap.size:=aa
  have f:A0 w6 I #[.int .i64 (40-(L:Int))] 3:=by
   have:=f;rw[b4.o]at this;exact this
  clear P g1 g0;go_wp2_with fail;go_loopw[119] (fun i wr=>∃(k n:Nat)(G:List A7)(U:List Au)(sl:Je),i=k/\k<=F.length/\G.length=k/\U.length=k/\n<=L/\A0 wr I #[.int .i64 (40-(n:Int))] 3/\A0 wr w.heap.size #[.slice A l.length C,.string ⟨#[]⟩,true,A9 sl] 44/\Gk wr w6.heap.size (A9 sl) U/\Ba 2 Bc (fun b=>z.heap.size<b/\b<w3.heap.size) wr (.slice A l.length C) l/\Ba 1 Bl (fun b=>W5.heap.size<=b/\b<w6.heap.size) wr (.slice g2 F.length g3) F/\Hid (∀j(M:j<U.length)(S:j<G.length),A8 (fun b=>w.heap.size<b/\(A9 sl).ownBlock≠some b) d wr U[j] G[j])/\Gr wr/\Hid (N9 G (Bz (Bd d) n (F.drop k))=Bz (Bd d) L F)/\A5 I w.heap.size w wr/\w6.heap.size<=wr.heap.size) (fun i _=>F.length-(intOf i).toNat)
  case atStart=>exact⟨0,L,[],[],(none,0,0),rfl,aa,rfl,rfl,aa,f,H,A1.nil _ _ _ _ _,t,Z,AE (fun j M=>by simp at M),b1,AE (by rw[DR,Wz]),B6,AF _⟩
  clear f H t Z b1 B6;obtain⟨k,n,G,U,sl,rfl,hk,k7,k8,hn,f,H,X,t,Z,b0,f0,d0,B,k9⟩:=hrel;obtain⟨sa,sn,sc⟩:=sl;simp only[A9]at H X b0;by_cases d7:k<F.length
  ·obtain⟨pb,rfl,l1,l2,g4⟩:=Z.at By k d7;have i0:=AV (HX.o _ (AQ d7)) h7;have HE:=AE (fun c(h:Bd d n F[k]=.error c)=>X0 d7 h G);have HO:=AE (fun y m(h:Bd d n F[k]=.ok (y,m))=>X1 d7 h G);have g5:wr.cell? ⟨pb,k,none⟩=some (F[k]):=by have:=g4 0 ae;simpa[Bl]using this
   clear g4;generalize F[k]=x at i0 HE HO g5;have hI:=ih n x I (ab+1) (40-(n:Int)) wr (AE (by have:=d8.o;omega)) aa (AE rfl) aa f0 d9 f aa;generalize Bd d n x=rx at hI HE HO;go_wp2_with fail;with_reducible refine hI.mono ?_
   rintro e w8⟨hh,b2⟩;have l3:=b2.size;have H:=H.Ai b2 aa;have g6:=A1.Dj X;have d1:=A1.Ha X;have X:=X.Ai b2 aa;have t:=t.Ai b2 ar;have Z:=Z.Ai b2 ar;have e6:=f0.Ai b2 d9;have O:=B.trans (b2.mono aa);have b0:=AE (fun j M S=>(b0.o j M S).Ai b2 ar);clear hI g5 f0 B f;rcases hh with⟨p,m,c2,rfl,hm,rfl,g7,f⟩|⟨c,c2,rfl,g8,rfl⟩
   case inr=>
    have N:=AE (show Bd (d+1) (L+1) s=.error c from HR.o _ (d0.o.symm.trans (HE.o c rfl)));obtain⟨⟨ra,rn,a3⟩,Y,rm,⟨a4,a5,a6⟩⟩:=c2;simp only[C3,A9];have H:=H.alloc (.cells #[.slice ra rn a3,Y,rm,.slice a4 a5 a6] 44);have a8:=H.cell;have a9:=H.free;have K:=(H.J3 (.slice A l.length C) (.string ⟨#[]⟩) true (.slice sa sn sc)).cell;have i1:=AE g8;have l4:¬c=0:=aa
    clear HE HO d0 g8;go_wp2_with fail;refine AO (v:=.tuple #[.agg #[.slice A l.length C,.string ⟨#[]⟩,true,.slice sa sn sc],c]) du rfl ⟨Or.inr ⟨c,((A,l.length,C),[],true,(sa,sn,sc)),N.o,i1.o,rfl⟩,?_⟩;exact((((O.next ((AG _ _).alloc (AF _) _) O.size).own (AF _) _).own (AF _) _).own (AF _) _).own (AF _) _
   have N:=AE (Eq.trans (HO.o p m rfl).symm d0.o);have b0:=AE (show∀j(M:j<(U++[c2]).length)(S:j<(G++[p]).length),A8 (fun b=>w.heap.size<b/\(Value.slice sa sn sc).ownBlock≠some b) d w8 (U++[c2])[j] (G++[p])[j]from fun j M S=>by
    by_cases hj:j<U.length
    ·rw[EC hj,EC aa];exact b0.o j hj aa
    obtain rfl:j=U.length:=by simp at M;omega
    have i2:(U++[c2])[U.length]=c2:=ah
    have i3:(G++[p])[U.length]'S=p:=uu
    rw[i2,i3];refine A8.Ac (fun b M _=>⟨aa,fun e=>?_⟩) g7;have:=g6 b e;omega)
   clear HE HO d0 g7;obtain⟨⟨ra,rn,a3⟩,Y,rm,⟨a4,a5,a6⟩⟩:=c2;simp only[C3,A9];have i4:=A0.new w8 #[.slice ra rn a3,Y,rm,.slice a4 a5 a6] 44;have R:=(AG w8.heap.size w8).alloc (AF _) (.cells #[.slice ra rn a3,Y,rm,.slice a4 a5 a6] 44);have g9:(w8.alloc (.cells #[.slice ra rn a3,Y,rm,.slice a4 a5 a6] 44)).heap.size=w8.heap.size+1:=ah
   have f:=f.next R f.lt;have H:=H.next R H.lt;have X:=A1.next X R;have t:=t.next R;have Z:=Z.next R;have i5:=e6.next R;have B9:=O.next R O.size;have b0:=AE (fun j M S=>(b0.o j M S).next R);have kp:=H.cell;have kt:=i4.cell;clear R e6 O;go_wp2_with(at_builtin;refine Wy rfl _ _ rfl w6.heap.size _ U ((ra,rn,a3),Y,rm,(a4,a5,a6)) _ 1 rfl (A1.alloc X _) rfl (Wx _ ((ra,rn,a3),Y,rm,(a4,a5,a6)) _ _ ah) aa ag ?_;intro v' f1 h1 b3 h2 h3;obtain⟨a0,a1,a2,rfl⟩:=h1.shape;have H:=(H.alloc (.cells #[.slice ra rn a3,Y,rm,.slice a4 a5 a6] 44)).grown b3 (fun g hg=>by have:=d1 g hg;omega);have l5:=H.cell;have l6:=H.free);have R:=(AG (w8.alloc (.cells #[.slice ra rn a3,Y,rm,.slice a4 a5 a6] 44)).heap.size (w8.alloc (.cells #[.slice ra rn a3,Y,rm,.slice a4 a5 a6] 44))).alloc (AF _) (.cells #[.slice ra rn a3,Y,rm,.slice a4 a5 a6] 44);have i6:=b3.size;rw[AX,g9]at i6;have f:=((f.next R f.lt).grown b3 (fun g hg=>by have:=d1 g hg;omega)).A6 (a:=⟨w.heap.size,3,none⟩) u.symm (.slice a0 a1 a2);have H:A0 (f1.setCell ⟨w.heap.size,3,none⟩ (.slice a0 a1 a2)) w.heap.size #[.slice A l.length C,.string ⟨#[]⟩,true,.slice a0 a1 a2] 44:=H.set 3 _;have t:=((t.next R).grown b3 (fun b h e=>um)).set (a:=⟨w.heap.size,3,none⟩) (.slice a0 a1 a2) ar;have Z:=((Z.next R).grown b3 (fun b h e=>um)).set (a:=⟨w.heap.size,3,none⟩) (.slice a0 a1 a2) ar;have b0:=AE (fun j M S=>A8.Ac (Q:=fun b=>w.heap.size<b/\(Value.slice a0 a1 a2).ownBlock≠some b) (fun b h _=>⟨h.1.1,h.2⟩) (((A8.Ac (Q:=fun b=>(w.heap.size<b/\(Value.slice sa sn sc).ownBlock≠some b)/\(Value.slice a0 a1 a2).ownBlock≠some b) (fun b h d7=>⟨h,fun e=>by
    rcases h3 with ho|ho
    ·exact h.2 (ho▸e)
    rw[ho]at e;injection e with e;omega⟩) ((b0.o j M S).next R)).grown b3 (fun b h e=>h.1.2 e.symm)).set (a:=⟨w.heap.size,3,none⟩) (.slice a0 a1 a2) (fun h=>FO _ h.1.1)))
   have X:=h1.A6 (a:=⟨w.heap.size,3,none⟩) ai (.slice a0 a1 a2);have i7:Gr (f1.setCell ⟨w.heap.size,3,none⟩ (.slice a0 a1 a2)):=(i5.next R).keep fun b hb=>(D3 _ _ _ b ai).trans (b3.block b (by rw[AX,g9];omega) (fun e=>um))
   have i8:=((B9.next R B9.size).trans (A5.of (h2.mono aa))).own (p:=⟨w.heap.size,3,none⟩) (AF _) (.slice a0 a1 a2);have i9:w6.heap.size<=(f1.setCell ⟨w.heap.size,3,none⟩ (.slice a0 a1 a2)).heap.size:=by simp[World.setCell];omega
   clear h3 b3 h2 R g6 d1;go_wp2;go_roundw
   case rel=>exact⟨k+1,m,G++[p],U++[((ra,rn,a3),Y,rm,(a4,a5,a6))],(a0,a1,a2),aj,aa,ag,ag,aa,f,H,X,t,Z,b0,i7,N,i8,i9⟩
   simp[intOf];omega
  obtain rfl:k=F.length:=aa
  have N:=AE (show Bd (d+1) (L+1) s=.ok (.mk l [] true G,n)from HR.o _ (d0.o.symm.trans (X2 G)));have a8:=H.cell;have a9:=H.free;have K:=(H.J3 (.slice A l.length C) (.string ⟨#[]⟩) true (.slice sa sn sc)).cell;have c4:=A1.Dq ae Dx X;clear d0;go_wp2_with fail;refine AO (v:=.tuple #[.agg #[.slice A l.length C,.string ⟨#[]⟩,true,.slice sa sn sc],.int .i64 0]) du rfl ⟨Or.inl ⟨_,_,((A,l.length,C),[],true,(sa,sn,sc)),N.o,aa,rfl,⟨rfl,rfl,?_,U,?_,aa,fun j M S=>?_⟩,?_⟩,?_⟩
  ·exact((((t.set _ ar).set _ ar).set _ ar).set _ ar).Ac fun b h _=>ew
  ·exact((((c4.set _ (fun h=>av)).set _ (fun h=>av)).set _ (fun h=>av)).set _ (fun h=>av)).Ac fun b h _=>ew
  ·exact A8.Ac (fun b h _=>HJ h.1) (((((b0.o j M S).set _ (fun h=>av)).set _ (fun h=>av)).set _ (fun h=>av)).set _ (fun h=>av))
  ·exact(((f.A6 (a:=⟨w.heap.size,0,none⟩) u.symm _).A6 (a:=⟨w.heap.size,1,none⟩) u.symm _).A6 (a:=⟨w.heap.size,2,none⟩) u.symm _).A6 (a:=⟨w.heap.size,3,none⟩) u.symm _
  exact(((B.own (AF _) _).own (AF _) _).own (AF _) _).own (AF _) _
def km(B:Nat)(r:Except Int A7)(e:Ending)(w':World):Prop:=(∃p R,r=.ok p/\e=.returned (.tuple #[C3 R,.int .i64 0])/\A8 (fun b=>B<=b) 4 w' R p)\/(∃c,r=.error c/\1<=c/\e=.returned (.tuple #[.agg Bu,.int .i64 c]))
def kq(s:Bs)(w:World)(S:s.length<=1000000000000)(z:Gr w):Calls prog 53 #[s] w fun e A=>km w.heap.size (Ef s) e A/\Below w.heap.size w A:=by
 by_cases C:20000<s.length
 ·have N:=AE (by unfold Ef;rw[AN C]:Ef s=.error 4);have F:(20000:Int)<s.length:=by omega
  go_enter func53,ntmps53;go_wp2_with fail;refine AO (v:=.tuple #[.agg Bu,.int .i64 4]) (by simp[results,results53,go_sem,Bu]) rfl ⟨Or.inr ⟨4,N.o,ae,rfl⟩,?_⟩;go_grown
 have P:=AE (by unfold Ef;rw[AL C]:Ef s=(Bd 4 40 s).map (·.1));have F:¬(20000:Int)<s.length:=aa
 have T:=z.size;have H:=(A0.new w Bu 44).alloc (.cells #[.int .i64 0] 3);have l:=A0.new (w.alloc (.cells Bu 44)) #[.int .i64 0] 3;have B:=((AG w.heap.size w).alloc (AF _) (.cells Bu 44)).alloc ah (.cells #[.int .i64 0] 3);have q:=z.next B;have D:((w.alloc (.cells Bu 44)).alloc (.cells #[.int .i64 0] 3)).heap.size=w.heap.size+1+1:=ah
 rw[AX]at l;have t:=fun W G I=>kl 4 40 s (w.heap.size+1) 0 0 W (AE rfl) ae (AE rfl) ae G aa I aa
 generalize Bd 4 40 s=r at t P;unfold Bu at H l B q D;go_enter func53,ntmps53;go_wp2_with fail;generalize World.alloc _ _=U at H l B q D|-;with_reducible refine(t _ q l).mono ?_
 rintro e u⟨J,k⟩;have H:=H.Ai k aa;have o:=B.trans ((k.mono (B':=w.heap.size) aa).shut aa);have V:=k.size;clear t k l;rcases J with⟨p,n,x,rfl,X,rfl,y,l⟩|⟨c,x,rfl,E,rfl⟩
 ·have N:=AE (show Ef s=.ok p from P.o);obtain⟨⟨R,a,d⟩,f,m,⟨g,i,j⟩⟩:=x;simp only[C3,A9];have L:=A0.new u #[.slice R a d,f,m,.slice g i j] 44;have H:=H.alloc (.cells #[.slice R a d,f,m,.slice g i j] 44);have y:=y.next ((AG u.heap.size u).alloc (AF _) (.cells #[.slice R a d,f,m,.slice g i j] 44));have M:=o.alloc o.size (.cells #[.slice R a d,f,m,.slice g i j] 44);have K:=H.cell;have O:=H.free;have Y:=L.cell;go_wp2_with fail;refine AO (v:=.tuple #[.agg #[.slice R a d,f,m,.slice g i j],.int .i64 0]) (by simp[results,results53,go_sem,K]) rfl ⟨Or.inl ⟨_,((R,a,d),f,m,(g,i,j)),N.o,rfl,?_⟩,?_⟩
  ·exact A8.Ac (fun b h _=>by have:=h;omega) ((((y.set _ ar).set _ ar).set _ ar).set _ ar)
  go_grown
 have N:=AE (show Ef s=.error c from P.o);obtain⟨⟨R,a,d⟩,f,m,⟨g,i,j⟩⟩:=x;simp only[C3,A9];have H:=H.alloc (.cells #[.slice R a d,f,m,.slice g i j] 44);have M:=o.alloc o.size (.cells #[.slice R a d,f,m,.slice g i j] 44);have K:=H.cell;have O:=H.free;have Q:=AE E;have Z:¬c=0:=aa
 clear E;go_wp2_with fail;refine AO (v:=.tuple #[.agg Bu,c]) (by simp[results,results53,go_sem,Bu,K]) rfl ⟨Or.inr ⟨c,N.o,Q.o,rfl⟩,?_⟩;go_grown
end Go.Proofs.YtignjjnflcpiiaaGreatDoor
