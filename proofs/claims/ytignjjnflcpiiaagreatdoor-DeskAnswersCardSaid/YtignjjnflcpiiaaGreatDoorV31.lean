/- The document's answer's bundle in memory; its Find: as th -/
import Derived.Test.YtignjjnflcpiiaaGreatDoorV15
import Derived.Test.YtignjjnflcpiiaaGreatDoorV28
set_option maxHeartbeats 16000000
set_option maxRecDepth 100000 set_option linter.all false
namespace Go.Proofs.YtignjjnflcpiiaaGreatDoor
open Go Go.RowKit Proofs.Tryz Lib
def Ej(P:Nat->Prop)(w:World)(B:Nat)(b:Al):Prop:=∃(r:Au)(s S:Je),P B/\A0 w B (Ii r b.root s S) 57/\A8 P 4 w r b.whole/\Ba 8 Gm P w (A9 s) b.places/\Ba 1 Bl P w (A9 S) b.ids
def Ej.keep{P:Nat->Prop}{w w':World}{B:Nat}{b:Al}(h:Ej P w B b)(s:w.heap.size<=w'.heap.size)(H:∀b,P b->b<w.heap.size->w'.heap[b]?=w.heap[b]?):Ej P w' B b:=by
 obtain⟨r,S,i,a,c,d,e,f⟩:=h;exact⟨r,S,i,a,(H B a c.lt).trans c,A8.keep s H d,e.keep s H,f.keep s H⟩
variable {b:Al}{B k:Nat}{a z:A3}
def Ej.next{P:Nat->Prop}{w w':World}(h:Ej P w B b)(H:Below w.heap.size w w'):Ej P w' B b:=h.keep H.size fun b _ t=>H.block b t
def Ej.Ac{P Q:Nat->Prop}{w:World}{B:Nat}{b:Al}(H:∀b,P b->b<w.heap.size->Q b)(h:Ej P w B b):Ej Q w B b:=by
 obtain⟨r,s,S,c,a,d,e,f⟩:=h;exact⟨r,s,S,H B c a.lt,a,A8.Ac H d,e.Ac H,f.Ac H⟩
def bY(z:A3):Bool:=(z.scheme==[99,105,100])&&(!z.hasAuth&&!z.hasQuery)
def Ra(z:A3)(i:Bs):Bool:=bY z&&(!i.isEmpty&&(i==z.path))
def ft(t:k<b.ids.length)(l:Jh (Cn a)=true->Br (Cn a).path b.ids 0=Br (Cn a).path (b.ids.drop k) k)(h:Ra (Cn a) b.ids[k]=true):D8 b a=k:=by
 rw[bG];unfold Ra bY at h;simp only[BR,BL,Bool.not_eq_eq_eq_not,EK]at h;obtain⟨⟨d,e,f⟩,g,H⟩:=h;have c:Jh (Cn a)=true:=by
  unfold Jh;rw[d,e,f,<-H,g];rfl
 have i:Br (Cn a).path b.ids 0=k:=by
  rw[l c,AH t];unfold Br;rw[AN H]
 rw[c,i];simp
def fw{i:List Bs}(t:k<i.length)(l:Jh z=true->Br z.path i 0=Br z.path (i.drop k) k)(h:Ra z i[k]=false):Jh z=true->Br z.path i 0=Br z.path (i.drop (k+1)) (k+1):=by
 intro H;rw[l H,AH t];conv=>lhs;unfold Br
 rw[AL (fun e=>?_)];unfold Ra bY at h;unfold Jh at H;simp only[BR,BL,GH]at H;obtain⟨a,b,c,d⟩:=H;rw[a,b,c,e,d]at h;simp at h
def fx(h:Jh (Cn a)=true->Br (Cn a).path b.ids 0=Br (Cn a).path (b.ids.drop b.ids.length) b.ids.length):D8 b a=if Cn a=A3.zero then-1 else Br (Cn a) b.places 0:=by
 rw[bG];cases H:Jh (Cn a)with
 |false=>simp
 |true=>
  rw[h H,AS];simp[Br]
def fz(z:A3)(w:World):(binOp .neq 36 (.agg z.cells) (.agg Bg)).run prog w=.ok (.bool (!decide (z=A3.zero))) w:=vG z A3.zero w
def oU(P:Nat->Prop)(J:Nat)(b:Al)(a:A3)(w:World)(h:Ej P w J b)(ha:a.len<=100000000)(b9:b.places.length<=1000000)(c8:b.ids.length<=1000000):Calls prog 22 #[.pointer (some ⟨J,0,none⟩),a.val] w fun e w'=>e=.returned (.int .i64 (D8 b a))/\Below w.heap.size w w':=by
 have L:=fun W=>jL a W (by unfold A3.len at ha;omega) (by unfold A3.len at ha;omega)
 have hb:=Ej.Ac (Q:=fun _=>True) (fun _ _ _=>trivial) h;have H:=A0.new w a.cells 36;have n:=(AG w.heap.size w).alloc (AF _) (.cells a.cells 36);have c9:J<w.heap.size:=by obtain⟨b4,sa,si,c,d,_⟩:=h;exact d.lt
 have M:=AE (fun k j R h=>ft (b:=b) (a:=a) (k:=k) j R h);have S:=AE (fun R=>fx (b:=b) (a:=a) R);generalize Cn a=z at L M S;clear h;go_enter func22,ntmps22;go_upto_region 1 with fail;generalize World.alloc _ _=W1 at H n|-;go_cut[10] (fun _ m=>A0 m w.heap.size z.cells 36/\Below w.heap.size w m)
 case first=>
  have k1:=H.cell;go_wp2_with fail;with_reducible refine(L _).mono ?_
  rintro e o⟨rfl,T⟩;have U:=H.next T H.lt;have B:=n.trans (T.mono n.size);have k2:=U.cell;have f2:=U.free;clear T n;go_wp2;go_meet;exact⟨(((((((U.set 0 _).set 1 _).set 2 _).set 3 _).set 4 _).set 5 _).set 6 _).set 7 _,cu⟩
 case rest=>
 obtain⟨H,B⟩:=hcut;obtain⟨o,rfl⟩:∃x:World,x=wc:=⟨_,rfl⟩;have b5:=hb.next B;have a3:=B.size;clear L n hb;obtain⟨b4,sa,si,_,V,_,X,Z⟩:=b5;have K:=H.cell;have a4:=V.cell;unfold Ii at a4 V;obtain⟨s0,sn,sc⟩:=si;obtain⟨p0,pn,pc⟩:=sa;simp only[A9]at a4 Z X V;obtain⟨d0,d1,b6,a5⟩:=Z.rd.opens By;injection b6 with e1 e2 e3;subst e1 e2 e3;have a6:=AE a5;clear a5 Z;go_wp2_with fail;go_loop[16] (fun i=>∃k:Nat,i=k/\k<=b.ids.length/\Hid (Jh z=true->Br z.path b.ids 0=Br z.path (b.ids.drop k) k)) (fun i=>b.ids.length-(intOf i).toNat)
 case atStart=>exact⟨0,rfl,aa,AE (fun _=>ah)⟩
 obtain⟨k,rfl,d2,l⟩:=hrel;by_cases j:k<b.ids.length
 ·obtain⟨g,rfl,a7,c⟩:=a6.o k j;have c1:o.cell? ⟨g,k,none⟩=some (b.ids[k]):=by
   have:=c 0 ae;simpa[Bl]using this
  have Y:=AE (fun h=>M.o k j l.o h);have O:=AE (fun h=>fw j l.o h);clear c l;generalize b.ids[k]=I at c1 Y O;go_upto_region 5 with fail;go_cut[43] (fun t m=>t=.bool (Ra z I)/\m=o)
  case first=>
   have C:=AE (ca:Ra z I=(((z.scheme==[99,105,100])&&(!z.hasAuth&&!z.hasQuery))&&(!I.isEmpty&&(I==z.path))));obtain⟨z1,z2,z3,z4,z5,z6,z7,z8⟩:=z;simp only at K C;generalize r:(z1==[99,105,100])=u at C;cases u with
   |false=>
    go_wp2;go_meet;exact⟨ic,rfl⟩
   |true=>
    cases z2 with
    |true=>
     go_wp2;go_meet;exact⟨ic,rfl⟩
    |false=>
     cases z5 with
     |true=>
      go_wp2;go_meet;exact⟨ic,rfl⟩
     |false=>
      generalize d3:I.isEmpty=q4 at C;cases q4 with
      |true=>
       go_wp2;go_meet;exact⟨ic,rfl⟩
      |false=>
       generalize d4:(I==z4)=q5 at C;go_wp2;go_meet;exact⟨ic,rfl⟩
  case rest=>
  obtain⟨rfl,s⟩:=hcut;obtain rfl:=s.symm;clear s;cases v:Ra z I with
  |true=>
   have N:=AE (Y.o v);clear v Y O;go_wp2;go_ret;exact⟨Fg N.o.symm,B⟩
  |false=>
   have N:=AE (O.o v);clear v Y O;go_wp2_with fail
   go_round
   case rel=>exact⟨k+1,aj,aa,N⟩
   simp[intOf];omega
 obtain rfl:k=b.ids.length:=aa
 have a8:=AE (S.o l.o);clear l M S a6;obtain⟨d5,d6,b7,a9⟩:=X.rd.opens Lj;injection b7 with e1 e2 e3;subst e1 e2 e3;have b8:=AE a9;clear a9 X;have d7:=Yz;go_wp2_with fail;go_loopw[51] (fun i wr=>∃k:Nat,i=k/\k<=b.places.length/\Hid (z≠A3.zero->Br z b.places 0=Br z (b.places.drop k) k)/\A0 wr w.heap.size z.cells 36/\Below o.heap.size o wr) (fun i _=>b.places.length-(intOf i).toNat)
 case atStart=>exact⟨0,rfl,aa,AE (fun _=>ah),H,AG _ _⟩
 clear H K;obtain⟨k,rfl,d8,l,H,A⟩:=hrel;have K:=H.cell;by_cases j:k<b.places.length
 ·obtain⟨g,rfl,a7,c⟩:=b8.o k j;have D:=AE (by rw[AH j];rfl:Br z (b.places.drop k) k=if b.places[k]=z then(k:Int)else Br z (b.places.drop (k+1)) (k+1));have f:=fun i hi=>(A.cell (p:=⟨g,k*8+i,none⟩) a7).trans (c i hi)
  generalize b.places[k]=y at D f;have c0:=f 0 ae;have c1:=f 1 ae;have c2:=f 2 ae;have c3:=f 3 ae;have c4:=f 4 ae;have c5:=f 5 ae;have c6:=f 6 ae;have c7:=f 7 ae;simp only[Gm,BI,AU,AR]at c0 c1 c2 c3 c4 c5 c6 c7;have i0:(0:Int)<=k:=aa
  have i1:(k:Int)<b.places.length:=aa
  have b0:=A0.new wr y.cells 36;have a0:=H.alloc (.cells y.cells 36);have B4:=A.alloc A.size (.cells y.cells 36);clear c f;have b1:=AE (show z=y->z≠A3.zero->D8 b a=k from fun c d=>by
   rw[a8.o,AL d,l.o d,D.o,AN c.symm])
  have b2:=AE (show¬(z=y/\z≠A3.zero)->z≠A3.zero->Br z b.places 0=Br z (b.places.drop (k+1)) (k+1)from fun c d=>by
   rw[l.o d,D.o,AL (fun e=>c ⟨e.symm,d⟩)])
  have he:=fB z y;have b3:=fz z;obtain⟨u,r⟩:∃q,q=decide (z=y):=⟨_,rfl⟩;obtain⟨q2,E⟩:∃q,q=decide (z=A3.zero):=⟨_,rfl⟩;obtain⟨F,G⟩:∃q,q=(u&&!q2):=⟨_,rfl⟩;have HQ:=AE G;have a1:=AE (show F=true->D8 b a=k from fun h=>by
   rw[G,BR,r,E]at h;exact b1.o (EU h.1) (fun e=>by rw[e]at h;simp at h))
  have a2:=AE (show F=false->z≠A3.zero->Br z b.places 0=Br z (b.places.drop (k+1)) (k+1)from fun h=>b2.o (fun d=>by
   rw[G,r,E,BH d.1,AY d.2]at h;cases h))
  rw[<-r]at he;rw[<-E]at b3;clear D l K b1 b2 r E G;go_upto_region 11 with fail;generalize World.alloc _ _=W at b0 a0 B4|-;have K:=a0.cell;have ky:=b0.cell;go_cut[63] (fun t m=>t=F/\m=W)
  case first=>
   cases u with
   |true=>
    go_wp2;go_meet;exact⟨by rw[HQ.o];rfl,rfl⟩
   |false=>
    go_wp2;go_meet;exact⟨by rw[HQ.o];rfl,rfl⟩
  case rest=>
  obtain⟨rfl,s⟩:=hcut;obtain rfl:=s.symm;clear s K ky HQ he b3;cases F with
  |true=>
   have N:=AE (a1.o rfl);clear a1 a2;go_wp2;go_ret;exact⟨Fg N.o.symm,B.trans (B4.mono a3)⟩
  |false=>
   have N:=AE (a2.o rfl);clear a1 a2;go_wp2;go_roundw
   case rel=>exact⟨k+1,aj,aa,N,a0,B4⟩
   simp[intOf];omega
 obtain rfl:k=b.places.length:=aa
 have N:=AE (show D8 b a=-1 from by
  rw[a8.o];by_cases hz:z=A3.zero
  ·rw[AN hz]
  rw[AL hz,l.o hz,AS];rfl)
 go_wp2;go_ret;exact⟨Fg N.o.symm,B.trans (A.mono a3)⟩
end Go.Proofs.YtignjjnflcpiiaaGreatDoor
