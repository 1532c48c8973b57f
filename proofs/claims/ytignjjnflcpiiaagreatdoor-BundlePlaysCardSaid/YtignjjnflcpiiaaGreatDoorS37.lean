/- The document's answer's bundle in memory; its Find: as th -/
import Derived.Test.YtignjjnflcpiiaaGreatDoorS13
import Derived.Test.YtignjjnflcpiiaaGreatDoorS16
import Derived.Test.YtignjjnflcpiiaaGreatDoorS33
set_option linter.all false
set_option maxHeartbeats 16000000
set_option maxRecDepth 100000
namespace Go.Proofs.YtignjjnflcpiiaaGreatDoor
open Go Go.RowKit Proofs.Tryz Lib
def F5(P:Nat→Prop)(w:World)(B:Nat)(b:Aw):Prop:=∃(r:Ao)(s S:H7),P B∧A1 w B (Gi r b.root s S) 57∧A7 P 4 w r b.whole∧Aq 8 Fv P w (A9 s) b.places∧Aq 1 Bi P w (A9 S) b.ids
theorem F5.keep{P:Nat→Prop}{w w':World}{B:Nat}{b:Aw}(h:F5 P w B b)(s:w.heap.size≤w'.heap.size)(H:∀b,P b→b<w.heap.size→w'.heap[b]?=w.heap[b]?):F5 P w' B b:=by
 obtain⟨r,S,i,a,c,d,e,f⟩:=h;exact⟨r,S,i,a,(H B a c.lt).trans c,A7.keep s H d,e.keep s H,f.keep s H⟩
variable {b:Aw}{B k:Nat}{a z:A3}
theorem F5.next{P:Nat→Prop}{w w':World}(h:F5 P w B b)(H:Below w.heap.size w w'):F5 P w' B b:=h.keep H.size fun b _ t=>H.block b t
theorem F5.Ad{P Q:Nat→Prop}{w:World}{B:Nat}{b:Aw}(H:∀b,P b→b<w.heap.size→Q b)(h:F5 P w B b):F5 Q w B b:=by
 obtain⟨r,s,S,c,a,d,e,f⟩:=h;exact⟨r,s,S,H B c a.lt,a,A7.Ad H d,e.Ad H,f.Ad H⟩
def Xj(z:A3):Bool:=(z.scheme==[99,105,100])&&(!z.hasAuth&&!z.hasQuery)
def O2(z:A3)(i:Bs):Bool:=Xj z&&(!i.isEmpty&&(i==z.path))
theorem VH(t:k<b.ids.length)(l:I6 (Cd a)=true→Bj (Cd a).path b.ids 0=Bj (Cd a).path (b.ids.drop k) k)(h:O2 (Cd a) b.ids[k]=true):Ec b a=k:=by
 rw[Xb];unfold O2 Xj at h;simp only[BL,BG,Bool.not_eq_eq_eq_not,ED]at h;obtain⟨⟨d,e,f⟩,g,H⟩:=h;have c:I6 (Cd a)=true:=by
  unfold I6;rw[d,e,f,←H,g];rfl
 have i:Bj (Cd a).path b.ids 0=k:=by
  rw[l c,AE t];unfold Bj;rw[AM H]
 rw[c,i];simp
theorem VI{i:List Bs}(t:k<i.length)(l:I6 z=true→Bj z.path i 0=Bj z.path (i.drop k) k)(h:O2 z i[k]=false):I6 z=true→Bj z.path i 0=Bj z.path (i.drop (k+1)) (k+1):=by
 intro H;rw[l H,AE t];conv=>lhs;unfold Bj
 rw[AI (fun e=>?_)];unfold O2 Xj at h;unfold I6 at H;simp only[BL,BG,FJ]at H;obtain⟨a,b,c,d⟩:=H;rw[a,b,c,e,d]at h;simp at h
theorem VJ(h:I6 (Cd a)=true→Bj (Cd a).path b.ids 0=Bj (Cd a).path (b.ids.drop b.ids.length) b.ids.length):Ec b a=if Cd a=A3.zero then-1 else Bj (Cd a) b.places 0:=by
 rw[Xb];cases H:I6 (Cd a)with
 |false=>simp
 |true=>
  rw[h H,AQ];simp[Bj]
theorem VK(z:A3)(w:World):(binOp .neq 36 (.agg z.cells) (.agg Bb)).run prog w=.ok (.bool (!decide (z=A3.zero))) w:=sZ z A3.zero w
theorem Xk(P:Nat→Prop)(J:Nat)(b:Aw)(a:A3)(w:World)(h:F5 P w J b)(ha:a.len≤100000000)(b9:b.places.length≤1000000)(c8:b.ids.length≤1000000):Calls prog 22 #[.pointer (some ⟨J,0,none⟩),a.val] w fun e w'=>e=.returned (.int .i64 (Ec b a))∧Below w.heap.size w w':=by
 have L:=fun W=>bM a W (by unfold A3.len at ha;omega) (by unfold A3.len at ha;omega)
 have hb:=F5.Ad (Q:=fun _=>True) (fun _ _ _=>trivial) h;have H:=A1.new w a.cells 36;have n:=(AD w.heap.size w).alloc (AC _) (.cells a.cells 36);have c9:J<w.heap.size:=by obtain⟨b4,sa,si,c,d,_⟩:=h;exact d.lt
 have M:=AB (fun k j R h=>VH (b:=b) (a:=a) (k:=k) j R h);have S:=AB (fun R=>VJ (b:=b) (a:=a) R);generalize Cd a=z at L M S;clear h;go_enter func22,ntmps22;go_upto_region 1 with fail;generalize World.alloc _ _=W1 at H n⊢;go_cut[10] (fun _ m=>A1 m w.heap.size z.cells 36∧Below w.heap.size w m)
 case first=>
  have k1:=H.cell;go_wp2_with fail;with_reducible refine(L _).mono ?_
  rintro e o⟨rfl,T⟩;have U:=H.next T H.lt;have B:=n.trans (T.mono n.size);have k2:=U.cell;have f2:=U.free;clear T n;go_wp2_with fail;go_meet;exact⟨(((((((U.set 0 _).set 1 _).set 2 _).set 3 _).set 4 _).set 5 _).set 6 _).set 7 _,by go_grown⟩
 case rest=>
 obtain⟨H,B⟩:=hcut;obtain⟨o,rfl⟩:∃x:World,x=wc:=⟨_,rfl⟩;have b5:=hb.next B;have a3:=B.size;clear L n hb;obtain⟨b4,sa,si,_,V,_,X,Z⟩:=b5;have K:=H.cell;have a4:=V.cell;unfold Gi at a4 V;obtain⟨s0,sn,sc⟩:=si;obtain⟨p0,pn,pc⟩:=sa;simp only[A9]at a4 Z X V;obtain⟨d0,d1,b6,a5⟩:=Z.rd.opens Cw;injection b6 with e1 e2 e3;subst e1 e2 e3;have a6:=AB a5;clear a5 Z;go_wp2_with fail;go_loop[16] (fun i=>∃k:Nat,i=.int .i64 k∧k≤b.ids.length∧Hid (I6 z=true→Bj z.path b.ids 0=Bj z.path (b.ids.drop k) k)) (fun i=>b.ids.length-(intOf i).toNat)
 case atStart=>exact⟨0,rfl,by omega,AB (fun _=>by simp)⟩
 obtain⟨k,rfl,d2,l⟩:=hrel;by_cases j:k<b.ids.length
 ·obtain⟨g,rfl,a7,c⟩:=a6.o k j;have c1:o.cell? ⟨g,k,none⟩=some (.string ⟨(b.ids[k]).toArray⟩):=by
   have:=c 0 (by decide);simpa[Bi]using this
  have Y:=AB (fun h=>M.o k j l.o h);have O:=AB (fun h=>VI j l.o h);clear c l;generalize b.ids[k]=I at c1 Y O;go_upto_region 5 with fail;go_cut[43] (fun t m=>t=.bool (O2 z I)∧m=o)
  case first=>
   have C:=AB (by rfl:O2 z I=(((z.scheme==[99,105,100])&&(!z.hasAuth&&!z.hasQuery))&&(!I.isEmpty&&(I==z.path))));obtain⟨z1,z2,z3,z4,z5,z6,z7,z8⟩:=z;simp only at K C;generalize r:(z1==[99,105,100])=u at C;cases u with
   |false=>
    go_wp2_with fail;go_meet;exact⟨by rw[C.o];rfl,rfl⟩
   |true=>
    cases z2 with
    |true=>
     go_wp2_with fail;go_meet;exact⟨by rw[C.o];rfl,rfl⟩
    |false=>
     cases z5 with
     |true=>
      go_wp2_with fail;go_meet;exact⟨by rw[C.o];rfl,rfl⟩
     |false=>
      generalize d3:I.isEmpty=q4 at C;cases q4 with
      |true=>
       go_wp2_with fail;go_meet;exact⟨by rw[C.o];rfl,rfl⟩
      |false=>
       generalize d4:(I==z4)=q5 at C;go_wp2_with fail;go_meet;exact⟨by rw[C.o];rfl,rfl⟩
  case rest=>
  obtain⟨rfl,s⟩:=hcut;obtain rfl:=s.symm;clear s;cases v:O2 z I with
  |true=>
   have N:=AB (Y.o v);clear v Y O;go_wp2_with fail;go_ret;exact⟨Es N.o.symm,B⟩
  |false=>
   have N:=AB (O.o v);clear v Y O;go_wp2_with fail
   go_round
   case rel=>exact⟨k+1,by go_num,by omega,N⟩
   simp[intOf];omega
 obtain rfl:k=b.ids.length:=by omega
 have a8:=AB (S.o l.o);clear l M S a6;obtain⟨d5,d6,b7,a9⟩:=X.rd.opens Jo;injection b7 with e1 e2 e3;subst e1 e2 e3;have b8:=AB a9;clear a9 X;have d7:=Qw;go_wp2_with fail;go_loopw[51] (fun i wr=>∃k:Nat,i=.int .i64 k∧k≤b.places.length∧Hid (z≠A3.zero→Bj z b.places 0=Bj z (b.places.drop k) k)∧A1 wr w.heap.size z.cells 36∧Below o.heap.size o wr) (fun i _=>b.places.length-(intOf i).toNat)
 case atStart=>exact⟨0,rfl,by omega,AB (fun _=>by simp),H,AD _ _⟩
 clear H K;obtain⟨k,rfl,d8,l,H,A⟩:=hrel;have K:=H.cell;by_cases j:k<b.places.length
 ·obtain⟨g,rfl,a7,c⟩:=b8.o k j;have D:=AB (by rw[AE j];rfl:Bj z (b.places.drop k) k=if b.places[k]=z then(k:Int)else Bj z (b.places.drop (k+1)) (k+1));have f:=fun i hi=>(A.cell (p:=⟨g,k*8+i,none⟩) a7).trans (c i hi)
  generalize b.places[k]=y at D f;have c0:=f 0 (by decide);have c1:=f 1 (by decide);have c2:=f 2 (by decide);have c3:=f 3 (by decide);have c4:=f 4 (by decide);have c5:=f 5 (by decide);have c6:=f 6 (by decide);have c7:=f 7 (by decide);simp only[Fv,BI,AR,AT]at c0 c1 c2 c3 c4 c5 c6 c7;have i0:(0:Int)≤k:=by omega
  have i1:(k:Int)<b.places.length:=by omega
  have b0:=A1.new wr y.cells 36;have a0:=H.alloc (.cells y.cells 36);have B4:=A.alloc A.size (.cells y.cells 36);clear c f;have b1:=AB (show z=y→z≠A3.zero→Ec b a=k from fun c d=>by
   rw[a8.o,AI d,l.o d,D.o,AM c.symm])
  have b2:=AB (show¬(z=y∧z≠A3.zero)→z≠A3.zero→Bj z b.places 0=Bj z (b.places.drop (k+1)) (k+1)from fun c d=>by
   rw[l.o d,D.o,AI (fun e=>c ⟨e.symm,d⟩)])
  have he:=bR z y;have b3:=VK z;obtain⟨u,r⟩:∃q,q=decide (z=y):=⟨_,rfl⟩;obtain⟨q2,E⟩:∃q,q=decide (z=A3.zero):=⟨_,rfl⟩;obtain⟨F,G⟩:∃q,q=(u&&!q2):=⟨_,rfl⟩;have HQ:=AB G;have a1:=AB (show F=true→Ec b a=k from fun h=>by
   rw[G,BL,r,E]at h;exact b1.o (EE h.1) (fun e=>by rw[e]at h;simp at h))
  have a2:=AB (show F=false→z≠A3.zero→Bj z b.places 0=Bj z (b.places.drop (k+1)) (k+1)from fun h=>b2.o (fun d=>by
   rw[G,r,E,BD d.1,AX d.2]at h;cases h))
  rw[←r]at he;rw[←E]at b3;clear D l K b1 b2 r E G;go_upto_region 11 with fail;generalize World.alloc _ _=W at b0 a0 B4⊢;have K:=a0.cell;have ky:=b0.cell;go_cut[63] (fun t m=>t=.bool F∧m=W)
  case first=>
   cases u with
   |true=>
    go_wp2_with fail;go_meet;exact⟨by rw[HQ.o];rfl,rfl⟩
   |false=>
    go_wp2_with fail;go_meet;exact⟨by rw[HQ.o];rfl,rfl⟩
  case rest=>
  obtain⟨rfl,s⟩:=hcut;obtain rfl:=s.symm;clear s K ky HQ he b3;cases F with
  |true=>
   have N:=AB (a1.o rfl);clear a1 a2;go_wp2_with fail;go_ret;exact⟨Es N.o.symm,B.trans (B4.mono a3)⟩
  |false=>
   have N:=AB (a2.o rfl);clear a1 a2;go_wp2_with fail;go_roundw
   case rel=>exact⟨k+1,by go_num,by omega,N,a0,B4⟩
   simp[intOf];omega
 obtain rfl:k=b.places.length:=by omega
 have N:=AB (show Ec b a=-1 from by
  rw[a8.o];by_cases hz:z=A3.zero
  ·rw[AM hz]
  rw[AI hz,l.o hz,AQ];rfl)
 go_wp2_with fail;go_ret;exact⟨Es N.o.symm,B.trans (A.mono a3)⟩
end Go.Proofs.YtignjjnflcpiiaaGreatDoor
