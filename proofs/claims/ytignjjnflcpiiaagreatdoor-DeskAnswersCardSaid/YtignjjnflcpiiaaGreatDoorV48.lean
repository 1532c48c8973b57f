/- The document's does: a line's first word by a table of ho -/
import Derived.LaidMore
import Derived.Lay
import Derived.Test.YtignjjnflcpiiaaGreatDoorCards
import Derived.Test.YtignjjnflcpiiaaGreatDoorTie
import Derived.Test.YtignjjnflcpiiaaGreatDoorV01
import Derived.Test.YtignjjnflcpiiaaGreatDoorV21
import Derived.Test.YtignjjnflcpiiaaGreatDoorV44
import Derived.Test.YtignjjnflcpiiaaGreatDoorV46
import Derived.Test.YtignjjnflcpiiaaGreatDoorV47
set_option maxHeartbeats 32000000
set_option maxRecDepth 100000 set_option linter.all false
namespace Go.Proofs.YtignjjnflcpiiaaGreatDoor
open Go Go.RowKit Proofs.Tryz Lib
variable {w W w':World}{l:List Bs}{d:Nat}{e:Ending}{a:Ff}
def zw{O:Array Oper}{rest:List Oper}{o:Oper}{a:Act}{Q:Exit->Act->World->Prop}(B:Nat)(w0:World)(r:Nat)(s:List Bs)(V:List Value)(k:Bs)(v:Value)
  (g:o.guard=none) (m x y:Operand) (p:o.op=Op.insert 222 m x y) (j:a.eval m=.map (some r)) (n:a.eval x=k) (q:a.eval y=v) (u:s.contains k=false) (M:O7 B w0 w r s V)
  (h:∀W,O7 B w0 W r (s++[k]) (V++[v])->wpList prog O Q rest (a.put o.dst undef) W):wpList prog O Q (o::rest) a w:=by
 obtain⟨z,H,l,e,b,c⟩:=M;refine JJ g fun K A=>?_
 obtain⟨f,C,d⟩:=Uo k s V e.toList 0 l c;rw[bS u]at d;obtain rfl:f=none:=by cases f with
  |none=>rfl
  |some _=>cases d
 have D:=underlying222;have t:=underlying9;have E:(Instr.checkKey false 10000 9 k).run prog w=.ok () w:=IP (k:=k) t py false 9999;unfold Oper.wp;simp only[execOp,p,j,n,q];have F:(Instr.mapUpdate 222 (.map (some r)) k v).run prog w=.ok () {w with heap:=w.heap.setIfInBounds r (.map (e.push {key:=k,val:=v,born:=e.size}) (e.size+1))}:=by
  simp[Instr.mapUpdate,FI D,FA b,E,FV t C,MapKept.run_setObj_map _ b,Result.andThen]
 simp[F,Result.andThen];refine A _ _ (h _ ⟨z,?_,by simp[l],e.push {key:=k,val:=v,born:=e.size},?_,?_⟩)
 ·exact⟨H.os,H.tape,H.output,by have:=H.size;simpa using this,fun i G=>by
   have:=H.block i G;rw[<-this];simp only[CW];rw[AL aa]⟩
 ·rw[(MapKept.heap_set b).1,Array.size_push]
 rw[Array.toList_push,FJ,c,List.zip_append l,FJ];rfl
def zx(B:Nat)(w0 w:World)(r:Nat)(K:List Bs)(v:List Value)(n:Bs)(M:O7 B w0 w r K v):(Instr.lookup 222 (.map (some r)) n true).run prog w=.ok (.tuple #[(Ci K v n).getD (.int .i64 0),.bool (Ci K v n).isSome]) w:=by
 obtain⟨_,_,d,e,H,g⟩:=M;obtain⟨f,a,l⟩:=Uo n K v e.toList 0 d g;have t:=underlying222;have h:=underlying9;have c:=fun b=>IP (P:=prog) (w:=w) (k:=n) h py b 9999
 have z:(zeroValue 3).run prog w=.ok (.int .i64 0) w:=af
 cases f with
 |none=>
  rw[<-l];simp[Instr.lookup,FI t,FA H,c,FV h a,Result.andThen,z]
 |some x=>
  rw[<-l];simp[Instr.lookup,FI t,FA H,c,FV h a,Result.andThen]
def Y1(m:Nat):List Value:=[m,.int .i64 1,.int .i64 0,.int .i64 1,.int .i64 1,.int .i64 0,m,.int .i64 1,m,.int .i64 0,m,.int .i64 0,m,.int .i64 2,m,m]
def Q0(n:Bs)(l:List Bs):Prop:=n=Kx\/(n=Mn/\l.length=1)\/(n=Mo/\l.length=0)\/n=Kc\/n=Lp\/(n=Ky/\l.length=0)\/n=Mp\/n=Mq\/(n=L0/\l.length=2)\/n=Mr\/n=Ms
def zz(d:Ap)(n:Bs)(l:List Bs):(Ci Ng (Y1 l.length) n=none/\Cd d n l=(d,.error 3))\/∃m:Nat,Ci Ng (Y1 l.length) n=some m/\((l.length≠m/\Cd d n l=(d,.error 3))\/(l.length=m/\(Va n l\/Q0 n l))):=by
 rcases Ss n with rfl|rfl|rfl|rfl|rfl|rfl|rfl|rfl|rfl|rfl|rfl|rfl|rfl|rfl|rfl|rfl|h
 ·exact Or.inr ⟨l.length,rfl,Or.inr ⟨rfl,Or.inr (Or.inl rfl)⟩⟩
 ·refine Or.inr ⟨1,rfl,(FZ (l.length=1)).symm.imp (fun h=>⟨h,?_⟩) fun h=>⟨h,Or.inl (Or.inr (Or.inl ⟨rfl,h⟩))⟩⟩;show(d,G7 d l)=_;unfold G7;rw[AN h]
 ·refine Or.inr ⟨0,rfl,(FZ (l.length=0)).symm.imp (fun h=>⟨h,?_⟩) fun h=>⟨h,Or.inl (Or.inr (Or.inr (Or.inr (Or.inr ⟨rfl,h⟩))))⟩⟩;show(d,G8 d l)=_;unfold G8;rw[AN h]
 ·refine Or.inr ⟨1,rfl,(FZ (l.length=1)).symm.imp (fun h=>⟨h,?_⟩) fun h=>⟨h,Or.inr (Or.inr (Or.inl ⟨rfl,h⟩))⟩⟩;show(d,Nc l)=_;unfold Nc;rw[AN h]
 ·refine Or.inr ⟨1,rfl,(FZ (l.length=1)).symm.imp (fun h=>⟨h,?_⟩) fun h=>⟨h,Or.inl (Or.inr (Or.inr (Or.inl ⟨rfl,h⟩)))⟩⟩;show(d,Hf d l)=_;unfold Hf;rw[AN h]
 ·refine Or.inr ⟨0,rfl,(FZ (l.length=0)).symm.imp (fun h=>⟨h,?_⟩) fun h=>⟨h,Or.inr (Or.inr (Or.inr (Or.inl ⟨rfl,h⟩)))⟩⟩;show(d,L1 l)=_;unfold L1;rw[AN h]
 ·exact Or.inr ⟨l.length,rfl,Or.inr ⟨rfl,Or.inr yb⟩⟩
 ·refine Or.inr ⟨1,rfl,(FZ (l.length=1)).symm.imp (fun h=>⟨h,?_⟩) fun h=>⟨h,Or.inl (Or.inr (Or.inr (Or.inr (Or.inl ⟨rfl,h⟩))))⟩⟩;show(d,G9 d l)=_;unfold G9;rw[AN h]
 ·exact Or.inr ⟨l.length,rfl,Or.inr ⟨rfl,Or.inr yb⟩⟩
 ·refine Or.inr ⟨0,rfl,(FZ (l.length=0)).symm.imp (fun h=>⟨h,?_⟩) fun h=>⟨h,Or.inr (Or.inr (Or.inr (Or.inr (Or.inr (Or.inr (Or.inl ⟨rfl,h⟩))))))⟩⟩;show Gn d l=_;unfold Gn;rw[AN h]
 ·exact Or.inr ⟨l.length,rfl,Or.inr ⟨rfl,Or.inr yb⟩⟩
 ·refine Or.inr ⟨0,rfl,(FZ (l.length=0)).symm.imp (fun h=>⟨h,?_⟩) fun h=>⟨h,Or.inl (Or.inl ⟨rfl,h⟩)⟩⟩;show(d,Hi d l)=_;unfold Hi;rw[AN h]
 ·exact Or.inr ⟨l.length,rfl,Or.inr ⟨rfl,Or.inr yb⟩⟩
 ·refine Or.inr ⟨2,rfl,(FZ (l.length=2)).symm.imp (fun h=>⟨h,?_⟩) fun h=>⟨h,Or.inr (by simp[Q0,h])⟩⟩;show(d,Lq l)=_;unfold Lq;rw[AN h]
 ·exact Or.inr ⟨l.length,rfl,Or.inr ⟨rfl,Or.inr yb⟩⟩
 ·exact Or.inr ⟨l.length,rfl,Or.inr ⟨rfl,Or.inr yb⟩⟩
 exact Or.inl ⟨by
  obtain⟨h0,H,a,b,c,e,f,g,i,j,k,o,p,q,r,s⟩:=h;unfold Ng Y1;rw[Ci,AL h0,Ci,AL H,Ci,AL a,Ci,AL b,Ci,AL c,Ci,AL e,Ci,AL f,Ci,AL g,Ci,AL i,Ci,AL j,Ci,AL k,Ci,AL o,Ci,AL p,Ci,AL q,Ci,AL r,Ci,AL s];rfl,St h⟩
def Aa0{n:Bs}(h:Va n l):(n==Mp)=false/\(n==Mq)=false/\(n==Mr)=false/\(n==Ms)=false/\(n==Kc)=false/\(n==L0)=false/\(n==Mn)=false/\(n==Lp)=false/\(n==Kx)=false/\(n==Ky)=false/\(n==Mo)=false:=by
 rcases h with⟨rfl,_⟩|⟨rfl,_⟩|⟨rfl,_⟩|⟨rfl,_⟩|⟨rfl,_⟩<;>decide
def Aa1(d:Nat)(D:Ap)(n:Bs)(v:Value)(l:List Bs)(w:World)(h:Ke w d D v l)(a:Va n l):Calls prog 161 #[.pointer (some ⟨d,0,none⟩),n,v] w fun e W=>J5 (Cd D n l).2 e/\Below w.heap.size w W:=by
 cases H:D.bundle with
 |none=>exact zm d D n v l w h a H
 |some b=>
  rcases a with⟨rfl,h0⟩|⟨rfl,h0⟩|⟨rfl,h0⟩|⟨rfl,h0⟩|⟨rfl,h0⟩
  ·exact zq d D b v l w h h0 H
  ·obtain⟨x,rfl⟩:=EA.1 h0;exact qU d D b Jj v x w h (Or.inl rfl) H
  ·obtain⟨x,rfl⟩:=EA.1 h0;exact zp d D b v x w h H
  ·obtain⟨x,rfl⟩:=EA.1 h0;exact qU d D b Ik v x w h (Or.inr rfl) H
  exact zn d D b v l w h h0 H
def Ke.next{w w':World}{d:Nat}{D:Ap}{v:Value}{l:List Bs}(h:Ke w d D v l)(H:Below w.heap.size w w'):Ke w' d D v l:=⟨h.desk.next H,h.rd.next H,h.len,h.cnt,h.each,h.g.next H,h.far,h.said⟩
def qV(B:Below w.heap.size w W)(d i:Nat)(v:Value):Bi (fun k=>k<w.heap.size/\k≠d) w (W.setCell ⟨d,i,none⟩ v):=⟨B.os,B.tape,B.output,by have:=B.size;simpa[World.setCell]using this,fun k h=>(D3 _ _ _ k h.2).trans (B.block k h.1)⟩
def qW{a:World}(K:Bi (fun k=>k<w.heap.size/\k≠d) w W)(B:Below W.heap.size W a):Bi (fun k=>k<w.heap.size/\k≠d) w a:=K.trans ⟨B.os,B.tape,B.output,B.size,fun k h=>B.block k (BN h.1 K.size)⟩
def qX(w:World)(d:Nat)(r:Ap×Ff)(e:Ending)(w':World):Prop:=J5 r.2 e/\Oa w' d r.1/\Bi (fun k=>k<w.heap.size/\k≠d) w w'
def Ke.pure{D:Ap}{v:Value}(h:Ke w d D v l){r:Ap×Ff}(b:r=(D,a))(c:J5 a e)(H:Below w.heap.size w w'):qX w d r e w':=by
 subst b;exact⟨c,h.desk.next H,Bi.of (fun _ h=>h.1) H⟩
def J5.get(h:J5 a e)(H:Ev a):∃(t:ByteArray)(k:Int),e=.returned (.tuple #[.string t,k])/\Hid ((k=0/\t=⟨(R4 a).toArray⟩)\/(1<=k/\k<=1000/\R4 a=Nf k)):=by
 cases a with
 |ok t=>exact⟨_,_,h,AE (Or.inl ⟨rfl,rfl⟩)⟩
 |error c=>
  obtain⟨s,h⟩:=h;exact⟨_,_,h,AE (Or.inr ⟨(H c rfl).1,(H c rfl).2,rfl⟩)⟩
attribute [local go_sem] Kx Jj Ln Mn Lo Mo Kc Ik Lp Ky Mp Kz Mq L0 Mr Ms
def qY(d:Nat)(D:Ap)(n:Bs)(v:Value)(l:List Bs)(w:World)(h:Ke w d D v l):Calls prog 86 #[.pointer (some ⟨d,0,none⟩),n,v] w fun e w'=>qX w d (Cd D n l) e w':=by
 have a5:=zz D n l;have hJ:=fun W(B:Below w.heap.size w W)=>Py v l W (h.rd.next B) h.len h.cnt
 have R:=AE h;have n0:=h.cnt;obtain⟨bk,o,c,rfl,b7,_,b8⟩:=h.rd;have c8:=AE b8;have HM:=AE (O7.new w);have h9:∀(w:World),(Instr.makeMap 222 none).run prog w=.ok (.map (some w.heap.size)) (w.alloc (.map #[] 0)):=fun w=>by simp[Instr.makeMap]
 clear h b8;go_enter func86,ntmps86;go_wp2_with(refine zw w.heap.size w w.heap.size _ _ _ _ rfl _ _ _ rfl rfl rfl rfl ae HM.o ?_;clear HM;intro w' hm;have HM:=AE hm;clear hm);rw[zx _ _ _ _ Ng (Y1 l.length) n HM.o];have B1:=HM.o.2.1;clear HM h9;simp only[Result.andThen];rw[FQ];rcases a5 with⟨b2,hd⟩|⟨m,b2,a5⟩
 ·rw[b2];have HD:=AE hd;clear hd b2;simp only[EH,FB];go_wp2;go_ret2;exact R.o.pure HD.o ⟨_,rfl⟩ B1
 rw[b2];clear b2;simp only[DA,EE];rcases a5 with⟨c9,hd⟩|⟨rfl,a5⟩
 ·have HD:=AE hd;have c9:((l.length:Int)!=(m:Int))=true:=by rw[DD];omega
  clear hd;go_wp2;go_ret2;exact R.o.pure HD.o ⟨_,rfl⟩ B1
 have d0:=hJ _ B1;generalize e9:Ax l=A at d0;have a1:=AE e9;clear e9 hJ;have HC:=AE a5;clear a5;go_wp2_with fail;with_reducible refine d0.mono ?_
 rintro e Z⟨rfl,f0⟩;have f:=B1.trans (f0.mono B1.size);clear d0 f0 B1;go_upto_region 6 with fail;rcases HC.o with T|T
 ·have c9:=Aa0 T;obtain⟨e1,e2,i0,i1,i2,i3,i4,i5,i6,i7,i8⟩:=c9;unfold Mp at e1;unfold Mq at e2;unfold Mr at i0;unfold Ms at i1;unfold Kc at i2;unfold L0 at i3;unfold Mn at i4;unfold Lp at i5;unfold Kx at i6;unfold Ky at i7;unfold Mo at i8;have hA:=Aa1 d D n _ l Z (R.o.next f) T;have HA:=AE (show(Cd D n l).1=D from by
   rcases T with⟨rfl,_⟩|⟨rfl,_⟩|⟨rfl,_⟩|⟨rfl,_⟩|⟨rfl,_⟩<;>rfl)
  clear T HC;go_wp2_with fail;with_reducible refine hA.mono ?_
  rintro e J⟨U,g⟩;have HH:=AE U;have u:=f.trans (g.mono f.size);obtain⟨s,k,rfl⟩:∃s k,e=.returned (.tuple #[.string s,.int .i64 k]):=by
   cases C:(Cd D n l).2 with
   |ok t=>rw[C]at U;exact⟨_,_,U⟩
   |error c=>rw[C]at U;obtain⟨s,hs⟩:=U;exact⟨_,_,hs⟩
  clear U hA;go_wp2;go_ret2;exact R.o.pure (a:=(Cd D n l).2) (Prod.ext HA.o rfl) HH.o u
 have i9:A.length<=1000000:=by rw[<-a1.o];exact R.o.len
 have a3:=R.o.g.next f;rcases T with rfl|⟨rfl,h0⟩|⟨rfl,h0⟩|rfl|rfl|⟨rfl,h0⟩|rfl|rfl|⟨rfl,h0⟩|rfl|rfl
 ·
  have H:=AE (qe:Cd D Kx l=(⟨D.bundle,D.said++(A++[13,10])⟩,.ok Kx));obtain⟨a6,G,hb⟩:=R.o.desk.next f;have kc:=G.cell;have kf:=G.free;have j0:=R.o.said;have HB:=AE hb;have d1:=G.lt;clear hb;go_wp2;go_ret2;rw[H.o];exact⟨rfl,⟨a6,by simpa using G.set 1 (D.said++(A++[13,10]):Bs),HB.o.imp id fun⟨b,E,P,S,h3,h4⟩=>⟨b,E,P,S,h3.keep ec (fun k G _=>D3 _ _ _ k G),h4⟩⟩,qV f d _ _⟩
 ·
  obtain⟨x,rfl⟩:=EA.1 h0;have H:=AE (ca:Cd D Mn [x]=(D,.ok (105::115::32::Fh x)));have f1:Z.cell? ⟨bk,o,none⟩=some x:=(f.cell (p:=⟨bk,o,none⟩) b7).trans (c8.o 0 x rfl);have a2:=R.o.each x ah;have hD:=Sd x Z aa a3.r.g;have d1:=Qf x;generalize Fh x=dx at hD H d1;clear h0;go_wp2_with fail;with_reducible refine hD.mono ?_
  rintro e J⟨rfl,g⟩;go_wp2;go_ret2;exact R.o.pure H.o rfl (f.trans (g.mono f.size))
 ·
  have H:=AE (by show(D,L1 l)=_;unfold L1;rw[AL aa]:Cd D Mo l=(D,.ok bO));clear h0;go_wp2;go_ret2;exact R.o.pure H.o rfl f
 ·
  have F:=AE (qe:Cd D Kc l=(D,match Ay A with|none=>.error 3|some (m,l)=>match Cl m l with|none=>.error 1|some s=>.ok s));have hK:=Sy A Z aa a3.r.g;go_wp2_with fail;with_reducible refine hK.mono ?_
  rintro e J⟨U,g⟩;have u:=f.trans (g.mono f.size);have a7:=a3.next g;clear hK;rcases U with⟨m,ps,kv,C,rfl,a0⟩|⟨C,rfl⟩
  ·have T:=Ql C;have a8:=T.2.mono i9;have n1:=T.1;have F:=AE (by rw[F.o,C]:Cd D Kc l=(D,match Cl m ps with|none=>.error 1|some s=>.ok s));have V:=cN m kv ps J (A1.rd ae Af a0) aa a8.1 a8.2 a7.r.g;obtain⟨n2,n3,j1,_⟩:=A1.rd ae Af a0;subst j1;generalize Cl m ps=wk at V F;clear C a0 T a8;go_wp2_with fail;with_reducible refine V.mono ?_
   rintro e w4⟨U,X⟩;have B4:=u.trans (X.mono u.size);obtain⟨t,I,M,rfl,HH⟩:∃t I M,e=.returned (.tuple #[.string t,.agg #[.int .i64 I,.int .i64 M]])/\Hid (∃a,Cd D Kc l=(D,a)/\J5 a (.returned (.tuple #[.string t,.int .i64 I]))):=by
    rcases U with⟨t,rfl,rfl⟩|⟨rfl,i,rfl⟩
    ·exact⟨_,_,_,rfl,AE ⟨_,F.o,rfl⟩⟩
    exact⟨_,_,_,rfl,AE ⟨_,F.o,_,rfl⟩⟩
   have k7:=(A0.new w4 #[I,M] 113).drew.cell;clear V U F;go_upto_region 22 with fail;go_quiet(fail);go_wp2;go_ret2;obtain⟨a,P,S⟩:=HH.o;exact R.o.pure P S (CO (B4.alloc B4.size _) _)
  have H:=AE (by rw[F.o,C]:Cd D Kc l=(D,.error 3));clear C F;go_wp2;go_ret2;exact R.o.pure H.o ⟨_,rfl⟩ u
 ·
  have H:=AE (qe:Cd D Lp l=(D,.ok (108::105::110::107::115::32::D4 ((Bf A).map Hg))));have d2:=Xp A Z aa;have f2:=AE (O5 A);have f3:=AE ((I3 A).1.mem);have j2:=(I3 A).2;generalize Bf A=L at d2 H f2 f3 j2;go_wp2_with fail;with_reducible refine d2.mono ?_
  rintro e J⟨v2,rfl,f4,g⟩;have f5:=A1.Dq ae G3 f4;obtain⟨la,lc,j3,_⟩:=f5.rd;subst j3;have u:=f.trans (g.mono f.size);have a7:=a3.next g;have j4:=u.size;clear d2 f4 g a3 f;go_wp2_with fail;go_loopw[24,143] (fun ov iv wr=>∃(k:Nat)(O:List Bs),iv=k/\k<=L.length/\O.length<=k/\Do wr J.heap.size ov O/\Hid (O++(L.drop k).map Hg=L.map Hg)/\Hid (∀x∈O,x.length<=3000100)/\Below J.heap.size J wr) (fun _ iv _=>L.length-(intOf iv).toNat)
  case atStart=>exact⟨0,[],rfl,aa,ah,A1.nil _ _ _ _ _,AE ah,AE (fun x h=>ee),AG _ _⟩
  obtain⟨k,O,rfl,G,n4,a0,b9,HO,B⟩:=hrel;have j5:=B.size;by_cases c0:k<L.length
  ·obtain⟨lb,rfl,_,d3,c1⟩:=f5.at G3 k c0;have f6:=(B.cell (p:=⟨lb,k*3+0,none⟩) d3).trans (c1 0 ae);have e1:=(B.cell (p:=⟨lb,k*3+1,none⟩) d3).trans (c1 1 ae);have e2:=(B.cell (p:=⟨lb,k*3+2,none⟩) d3).trans (c1 2 ae);have f7:=f2.o _ (AQ c0);have a2:=f3.o _ (AQ c0);have HS:=AE (show∀y,L[k]=y->(O++[Hg y])++(L.drop (k+1)).map Hg=L.map Hg from fun y hy=>by
    rw[<-b9.o,AH c0,CD,hy];simp)
   have HS:=AE (HS.o _ rfl);clear c1 b9;generalize L[k]=x at f6 e1 e2 f7 a2 HS;obtain⟨x1,x2,x3⟩:=x;simp only[I4,BI,AU,AR]at f6 e1 e2 f7 a2;have a9:=AE (ca:Hg (x1,x2,x3)=itoa x1++32::(itoa x2++32::C1 x3));have b0:=fun W V=>Fj (x1:Int) aa aa W V
   have b3:=fun W V=>Fj (x2:Int) aa aa W V
   have d4:=BE (x1:Int) aa aa;have d5:=BE (x2:Int) aa aa;have f8:=fun W=>Ov x3 W aa
   have j6:=L2 x3;generalize Hg (x1,x2,x3)=lt at HS a9;generalize itoa (x1:Int)=I at b0 d4 a9;generalize itoa (x2:Int)=M at b3 d5 a9;generalize C1 x3=sx at f8 j6 a9;have j7:=AE (fun e=>FO _ (A1.Dj a0 wr.heap.size e));have BA:=(AG wr.heap.size wr).alloc (AF _) (.cells #[x1,x2,x3] 96);have k7:=A0.new wr #[x1,x2,x3] 96;have a0:=A1.next a0 BA;have B1:=B.trans (BA.mono j5);have a4:=a7.next B1;go_upto_region 36 with fail;generalize World.alloc _ _=W5 at BA k7 a0 B1 a4|-;have j8:=k7.drew.cell;have f9:Gz W5.drew:=a4.next (AG W5.heap.size W5).drew;have g0:=AE f9;have j9:=AE (show A0 W5.drew wr.heap.size #[x1,x2,x3] 96 from k7.drew);have k0:=AE (show wr.heap.size<W5.drew.heap.size from k7.lt);have k1:=AE a0;have c2:=AE B1;have z1:¬9223372036854775807<I.length+1:=aa
   have z2:¬9223372036854775807<I.length+1+M.length:=aa
   have z3:¬9223372036854775807<I.length+(M.length+1)+1:=aa
   have z4:¬9223372036854775807<I.length+(M.length+1+1)+sx.length:=aa
   have q1:=AE (ag:(O.length+[(I++32::(M++32::sx):Bs)].length)*16<=140737488355328);have q2:=AE (ao:O.length+[(I++32::(M++32::sx):Bs)].length<=maxLen);have k2:=AE (show∀x∈O++[lt],x.length<=3000100 from fun x hx=>by
    rcases BY.1 hx with hx|hx
    ·exact HO.o x hx
    rw[CS.1 hx,a9.o];simp only[AJ,AK];omega)
   clear a4 k7 a0 f9
   go_region_held_law (fun W=>∀k,W.cell? ⟨wr.heap.size,k,none⟩=(#[.int .i64 (x1:Int),.int .i64 (x2:Int),.string ⟨x3.toArray⟩])[k]?)
    (first
     |with_reducible exact j8
     |with_reducible exact k4
     |with_reducible exact k6
     |with_reducible exact k8
     |with_reducible exact k9
     |with_reducible exact l0)
    ((
     first
     |(refine Lg (α:=Bs) (cs:=Bl) (size:=1) (z:=.string ByteArray.empty) By R8 R7 rfl ae underlying55 rfl _ _ rfl J.heap.size _ O [(I++32::(M++32::sx):Bs)] ⟨d6.heap.size,0,none⟩ 1 1 rfl ae rfl l1.o rfl l2 q1.o q2.o l3.o ?_;intro v' n5 l4 l5 l6;have l0:=(Lv g1.o l5 (fun e=>j7.o e.symm)).cell)
     |(go_simp;with_reducible refine(b0 _ g0.o).mono ?_;rintro e g2⟨rfl,d7⟩;have l7:=AE (Bp d7 (w0:=W5) ((AG W5.heap.size W5).drew));have g3:=AE (Gz.next g0.o d7);have d8:=AE (A0.next j9.o d7 k0.o);have k4:=d8.o.cell)
     |(go_simp;with_reducible refine(b3 _ g3.o).mono ?_;rintro e n6⟨rfl,d9⟩;have l8:=AE (Bp d9 (w0:=W5) l7.o);have n7:=AE (Gz.next g3.o d9);have e0:=AE (A0.next d8.o d9 (A0.lt d8.o));have k6:=e0.o.cell)
     |(go_simp;with_reducible refine(f8 _).mono ?_;rintro e d6⟨rfl,g4⟩;have c3:=AE (Bp g4 (w0:=W5) l8.o);have g5:=AE (A0.next e0.o g4 (A0.lt e0.o));have k8:=g5.o.cell;have l1:=AE (A1.alloc (A1.next (w:=W5) k1.o c3.o) (.cells #[(I++32::(M++32::sx):Bs)] 9));have l2:=Il d6 (I++32::(M++32::sx)) 9;have g1:=AE (g5.o.alloc (.cells #[(I++32::(M++32::sx):Bs)] 9));have k9:=g1.o.cell;have l3:=AE (by have P:=c3.o.size;have S:=c2.o.size;simp at P S|-;omega:J.heap.size<=(d6.alloc (.cells #[(I++32::(M++32::sx):Bs)] 9)).heap.size))))
   all_goals
    go_wp2;go_roundw
    case rel=>exact⟨k+1,O++[lt],aj,aa,ag,by rw[a9.o];exact l4,HS,k2,((c2.o.trans (c3.o.mono c2.o.size)).alloc (AV c2.o.size c3.o.size) _).trans l6⟩
    simp[intOf];omega
  obtain rfl:k=L.length:=aa
  have F:=AE (by rw[<-b9.o,AS];simp:L.map Hg=O);have b8:=T2 HO.o;have l9:(D4 O).length<=3000102000000:=by
   have:=CV (3000100+2) (show O.length<=1000000 by omega);omega
  have hJ:=T3 _ _ O wr a0 aa aa;have H:=AE (by rw[H.o,F.o]:Cd D Lp l=(D,.ok (108::105::110::107::115::32::D4 O)));generalize D4 O=ct at hJ H l9;obtain⟨oa,oc,m0,_⟩:=A1.rd ae By a0;subst m0;clear b8 b9 F;go_wp2_with fail;with_reducible refine hJ.mono ?_
  rintro e W6⟨rfl,g⟩;go_wp2;go_ret2;exact R.o.pure H.o rfl ((u.trans (B.mono j4)).trans (g.mono aa))
 ·
  have F:=AE (show Cd D Ky l=match C4 D.said with
   | .error e=>(⟨D.bundle,[]⟩,.error e)
   | .ok b=>(⟨some b,[]⟩,.ok (itoa b.whole.parts.length++32::itoa b.root))from by show Gn D l=_;unfold Gn;rw[AL aa];rfl)
  obtain⟨a6,G,hb⟩:=R.o.desk.next f;have kc:=G.cell;have kf:=G.free;have j0:=R.o.said;have d1:=G.lt;have hO:=fun W V=>zv D.said W aa V
  have c4:=fun b(h:C4 D.said=.ok b)=>(show RB b from⟨Sw h,(Xy h).1,(Xy h).2.1,by have:=Xn h;have:=(Sw h).whole.head.2.2;omega,(Xy h).2.2.1,(Xy h).2.2.2⟩)
  generalize C4 D.said=ro at hO F c4;have c5:A0 (Z.setCell ⟨d,1,none⟩ (.string ⟨#[]⟩)) d #[a6,.string ⟨#[]⟩] 154:=by simpa using G.set 1 (.string ⟨#[]⟩)
  have HB:=AE (show((D.bundle=none/\a6=.pointer none)\/∃b E,D.bundle=some b/\a6=.pointer (some ⟨E,0,none⟩)/\Ej (fun c=>c≠d) (Z.setCell ⟨d,1,none⟩ (.string ⟨#[]⟩)) E b/\RB b)from hb.imp id fun⟨b,E,P,S,h3,h4⟩=>⟨b,E,P,S,h3.keep ec (fun k G _=>D3 _ _ _ k G),h4⟩);have K3:=qV f d 1 (.string ⟨#[]⟩);clear hb h0;go_upto_region 45 with fail;generalize Z.setCell ⟨d,1,none⟩ (.string ⟨#[]⟩)=J at c5 HB K3|-;have a7:Gz J:=R.o.g.Pz (fun j hj=>⟨by have:=R.o.g.size;omega,R.o.far j hj⟩) K3;have g6:=hO J a7.r;have m1:=c5.lt;clear kc kf G hO;go_wp2_with fail;with_reducible refine g6.mono ?_
  rintro e w4⟨U,X⟩;have b4:=c5.next X m1;have K4:=qW K3 X;clear g6;rcases U with⟨b,E,rfl,rfl,g7⟩|⟨ce,rfl,n8,rfl⟩
  ·have H:=AE (show Cd D Ky l=(⟨some b,[]⟩,.ok (itoa b.whole.parts.length++32::itoa b.root))from F.o);have b5:=c4 b rfl;have kc:=b4.cell;have kf:=b4.free;have e3:A0 (w4.setCell ⟨d,0,none⟩ (.pointer (some ⟨E,0,none⟩))) d #[.pointer (some ⟨E,0,none⟩),.string ⟨#[]⟩] 154:=by simpa using b4.set 0 (.pointer (some ⟨E,0,none⟩))
   have e4:=Ej.keep (w':=w4.setCell ⟨d,0,none⟩ (.pointer (some ⟨E,0,none⟩))) (Ej.Ac (Q:=fun c=>c≠d) (fun c hc _=>aa) g7) ec (fun k G _=>D3 _ _ _ k G);have K5:Bi (fun k=>k<w.heap.size/\k≠d) w (w4.setCell ⟨d,0,none⟩ (.pointer (some ⟨E,0,none⟩))):=⟨K4.os,K4.tape,K4.output,by have:=K4.size;simpa[World.setCell]using this,fun k G=>(D3 _ _ _ k G.2).trans (K4.block k G)⟩;clear c4 F HB g7 c5;go_upto_region 49 with fail;generalize w4.setCell ⟨d,0,none⟩ (.pointer (some ⟨E,0,none⟩))=N at e3 e4 K5|-;have a4:Gz N:=R.o.g.Pz (fun j hj=>⟨by have:=R.o.g.size;omega,R.o.far j hj⟩) K5;have m2:=AE (show Oa N d ⟨some b,[]⟩from⟨_,e3,Or.inr ⟨b,E,rfl,rfl,e4,b5⟩⟩);obtain⟨n9,sa,si,_,b1,_,g8,_⟩:=e4;obtain⟨s0,sn,sc⟩:=sa;obtain rfl:sn=b.places.length:=by
    obtain⟨a,c,e,_⟩:=g8;injection e
   have g9:=b5.into.places;have a8:=b5.into.whole.head.2.2;have o0:=b5.root;rw[<-g9]at H a8;unfold Ii at b1;simp only[A9]at b1;have h1:=b1.lt;have r4:=b1.cell 4;have r5:=b1.cell 5;simp at r4 r5;have b0:=fun W(B:Below N.heap.size N W)=>Fj b.places.length aa aa W (a4.next B)
   have b3:=fun W(B:Below N.heap.size N W)=>Fj b.root aa aa W (a4.next B)
   have d4:=BE (b.places.length:Int) aa aa;have d5:=BE (b.root:Int) aa aa;generalize itoa (b.places.length:Int)=I at b0 H d4;generalize itoa (b.root:Int)=M at b3 H d5;generalize b.places.length=pn at r5 b0 a8;have m3:N.drew.cell? ⟨E,4,none⟩=_:=r4;have m4:N.drew.cell? ⟨E,5,none⟩=_:=r5;have K0:=(AG N.heap.size N).drew;have z1:¬9223372036854775807<I.length+1:=aa
   have z2:¬9223372036854775807<I.length+1+M.length:=aa
   have z3:¬9223372036854775807<I.length+(1+M.length):=aa
   clear kc kf b1 g8 e3 a4 b4 g9 a7 b5;go_region_held3(fun W=>W.cell? ⟨E,4,none⟩=some (.int .i64 b.root)/\W.cell? ⟨E,5,none⟩=some (.slice s0 pn sc)/\Below N.heap.size N W)
    (first
     |with_reducible exact⟨m3,m4,K0⟩
     |with_reducible exact⟨(K.cell (p:=⟨E,4,none⟩) h1).trans r4,(K.cell (p:=⟨E,5,none⟩) h1).trans r5,K⟩)
    ((
     first
     |(go_at_call 41;go_split_ands;with_reducible refine(b0 _ ax).mono ?_;rintro e g2⟨rfl,hb⟩;have K:=Bp hb (w0:=N) ax)
     |(go_at_call 41;go_split_ands;with_reducible refine(b3 _ ax).mono ?_;rintro e g2⟨rfl,hb⟩;have K:=Bp hb (w0:=N) ax)))
   all_goals go_split_ands
   all_goals
    go_wp2;go_ret2;rw[H.o];exact⟨rfl,m2.o.next ax,qW K5 ax⟩
  have H:=AE (show Cd D Ky l=(⟨D.bundle,[]⟩,.error ce)from F.o);have hz:(ce !=0)=true:=gi
  clear c4 F;go_wp2;go_ret2;rw[H.o];exact⟨⟨_,rfl⟩,⟨a6,b4,HB.o.imp id fun⟨b,E,P,S,h3,h4⟩=>⟨b,E,P,S,h3.next X,h4⟩⟩,K4⟩
 ·
  have H:=AE (qe:Cd D Mp l=(D,.ok (C1 (Dn A))));have hP:=fun W=>kB A W aa
  have Y:=fun W=>Ov (Dn A) W (by have:=cQ A;omega)
  generalize C1 (Dn A)=r at Y H;generalize Dn A=q at hP Y;go_wp2_with fail;with_reducible refine(hP _).mono ?_
  rintro e J⟨rfl,g⟩;have u:=f.trans (g.mono f.size);go_wp2_with fail;with_reducible refine(Y _).mono ?_
  rintro e w4⟨rfl,X⟩;go_wp2;go_ret2;exact R.o.pure H.o rfl (u.trans (X.mono u.size))
 ·
  have H:=AE (qe:Cd D Mq l=(D,.ok (C1 (E5 A))));have hP:=fun W=>jQ A W aa
  have Y:=fun W=>Ov (E5 A) W (by have:=Q4 A;omega)
  generalize C1 (E5 A)=r at Y H;generalize E5 A=q at hP Y;go_wp2_with fail;with_reducible refine(hP _).mono ?_
  rintro e J⟨rfl,g⟩;have u:=f.trans (g.mono f.size);go_wp2_with fail;with_reducible refine(Y _).mono ?_
  rintro e w4⟨rfl,X⟩;go_wp2;go_ret2;exact R.o.pure H.o rfl (u.trans (X.mono u.size))
 ·
  obtain⟨x,y,rfl⟩:∃x y,l=[x,y]:=by
   match l,h0 with
   |[x,y],_=>exact⟨x,y,rfl⟩
  have F:=AE (show Cd D L0 [x,y]=(D,match Be x with
   |none=>.error 3
   |some a=>match Be y with
    |none=>.error 3
    |some b=>.ok (Kb (Ea (Ar a b))))from rfl)
  have f1:Z.cell? ⟨bk,o,none⟩=some x:=(f.cell (p:=⟨bk,o,none⟩) b7).trans (c8.o 0 x rfl);have c6:Z.cell? ⟨bk,o+1,none⟩=some y:=(f.cell (p:=⟨bk,o+1,none⟩) b7).trans (c8.o 1 y rfl);have m5:bk<Z.heap.size:=BN b7 f.size;have a2:=R.o.each x ah;have o1:=R.o.each y ah;have b6:=U5 x Z aa;have e5:=fun W=>U5 y W aa
  have e6:=fun a(h:Be x=some a)=>Iv h
  have hV:∃(z:A3)(n:Int),z.len<=8000000/\N6 y=.tuple #[z.val,n]/\((Be y=none/\n=3)\/(Be y=some z/\n=0)):=by
   unfold N6;cases C:Be y with
   |none=>exact⟨A3.zero,3,ae,rfl,Or.inl ⟨rfl,rfl⟩⟩
   |some b=>exact⟨b,0,by have:=Iv C;omega,rfl,Or.inr ⟨rfl,rfl⟩⟩
  obtain⟨z,n,hz,hV,h2⟩:=hV;rw[hV]at e5;unfold N6 at b6;generalize Be x=rx at b6 F e6;clear h0 hV;cases rx with
  |none=>
   have H:=AE (show Cd D L0 [x,y]=(D,.error 3)from F.o);go_wp2_with fail;with_reducible refine b6.mono ?_
   rintro e J⟨rfl,g⟩;have u:=f.trans (g.mono f.size);go_wp2;go_ret2;exact R.o.pure H.o ⟨_,rfl⟩ (u.alloc u.size _)
  |some a=>
  have m6:=e6 a rfl;have T:Hid (∃s,Cd D L0 [x,y]=(D,s)/\J5 s (.returned (.tuple #[(105::115::32::Ea (Ar a z):Bs),n]))):=by
   rcases h2 with⟨C,rfl⟩|⟨C,rfl⟩
   ·exact AE ⟨.error 3,by rw[F.o,C],_,rfl⟩
   exact AE ⟨.ok (Kb (Ea (Ar a z))),by rw[F.o,C],rfl⟩
  clear h2;have h5:=fun W V=>Zy a z W (by unfold A3.len at m6;omega) (by unfold A3.len at hz;omega) V
  have m7:=(Nw a z).1;have h6:=Pp (Ar a z);have e7:=fun W=>Zr (Ar a z) W aa
  generalize Ea (Ar a z)=wa at e7 h6 T;generalize Ar a z=r at h5 m7 h6 e7;clear F e6;go_wp2_with fail;with_reducible refine b6.mono ?_
  rintro e J⟨rfl,g⟩;have c7:=g.alloc g.size (.cells a.cells 36);have k3:=A0.new J a.cells 36;have c6:=(c7.cell (p:=⟨bk,o+1,none⟩) m5).trans c6;clear b6 f1;go_upto_region 25 with fail;generalize World.alloc _ _=w4 at c7 k3 c6|-;go_wp2_with fail;with_reducible refine(e5 _).mono ?_
  rintro e N⟨rfl,h7⟩;have e8:=h7.alloc h7.size (.cells z.cells 36);have k5:=A0.new N z.cells 36;have h8:=k3.next e8 k3.lt;have B5:=c7.trans (e8.mono c7.size);clear e5 c6 k3;go_upto_region 28 with fail;generalize World.alloc _ _=w6 at e8 k5 h8 B5|-;have o2:=k5.cell;have o3:=h8.cell;go_wp2_with fail;with_reducible refine(h5 _ (a3.next B5).r.g).mono ?_
  rintro e w7⟨rfl,m8⟩;go_wp2_with fail;with_reducible refine(e7 _).mono ?_
  rintro e w8⟨rfl,m9⟩;have B7:=B5.trans (m8.mono B5.size);have B8:=B7.trans (m9.mono B7.size);go_wp2;go_ret2;obtain⟨s,P,S⟩:=T.o;exact R.o.pure P S (f.trans (B8.mono f.size))
 ·
  have hP:=fun W=>nK A W aa
  have a2:=fun o(h:Dr A=some o)=>Tu _ _ _ _ _ h
  obtain⟨s,k,hs,H,hV⟩:∃(s:Bs)(k:Int),s.length<=4000000/\Hid (∃a,Cd D Mr l=(D,a)/\J5 a (.returned (.tuple #[C1 s,k])))/\Ok (Dr A)=.tuple #[s,k]:=by
   cases C:Dr A with
   |none=>exact⟨[],3,ah,AE ⟨.error 3,by show(D,Lr l)=_;unfold Lr;rw[a1.o,C],_,rfl⟩,rfl⟩
   |some o=>exact⟨o,0,by have:=a2 o C;omega,AE ⟨.ok (C1 o),by show(D,Lr l)=_;unfold Lr;rw[a1.o,C],rfl⟩,rfl⟩
  rw[hV]at hP;have Y:=fun W=>Ov s W aa
  clear hV a2;generalize C1 s=r at Y H;go_wp2_with fail;with_reducible refine(hP _).mono ?_
  rintro e J⟨rfl,g⟩;have u:=f.trans (g.mono f.size);go_wp2_with fail;with_reducible refine(Y _).mono ?_
  rintro e w4⟨rfl,X⟩;go_wp2;go_ret2;obtain⟨a,P,S⟩:=H.o;exact R.o.pure P S (u.trans (X.mono u.size))
 ·
  have hP:=fun W V=>jW A W aa V
  have a2:=fun o(h:Df A=some o)=>cP h
  obtain⟨s,k,hs,H,hV⟩:∃(s:Bs)(k:Int),s.length<=4000000/\Hid (∃a,Cd D Ms l=(D,a)/\J5 a (.returned (.tuple #[C1 s,k])))/\Ok (Df A)=.tuple #[s,k]:=by
   cases C:Df A with
   |none=>exact⟨[],3,ah,AE ⟨.error 3,by show(D,Ls l)=_;unfold Ls;rw[a1.o,C],_,rfl⟩,rfl⟩
   |some o=>exact⟨o,0,by have:=a2 o C;omega,AE ⟨.ok (C1 o),by show(D,Ls l)=_;unfold Ls;rw[a1.o,C],rfl⟩,rfl⟩
  rw[hV]at hP;have Y:=fun W=>Ov s W aa
  clear hV a2;generalize C1 s=r at Y H;go_wp2_with fail;with_reducible refine(hP _ a3.r.g).mono ?_
  rintro e J⟨rfl,g⟩;have u:=f.trans (g.mono f.size);go_wp2_with fail;with_reducible refine(Y _).mono ?_
  rintro e w4⟨rfl,X⟩;go_wp2;go_ret2;obtain⟨a,P,S⟩:=H.o;exact R.o.pure P S (u.trans (X.mono u.size))
theorem dD:∀(s a:Bs),Ec a s=(match Ad 32 s with|h::t=>(a++h)::t|[]=>[]).filter fun x=>!x.isEmpty
 |[],[]=>rfl
 |[],x::l=>by simp[Ec,Ad]
 |c::s,a=>by
  unfold Ad;by_cases H:c=32
  ·rw[AN H];have ih:=dD s [];have ih:Ec [] s=(Ad 32 s).filter fun x=>!x.isEmpty:=by
    rw[ih];cases h:Ad 32 s with
    |nil=>exact absurd h (Lx 32 s)
    |cons y r=>rfl
   cases a with
   |nil=>rw[Ec,AN H,ih];rfl
   |cons x l=>rw[Ec,AN H,ih];simp
  rw[AL H];have ih:=dD s (a++[c]);have e:Ec a (c::s)=Ec (a++[c]) s:=by
   cases a with
   |nil=>rw[Ec,AL H];rfl
   |cons x l=>rw[Ec,AL H]
  rw[e,ih];cases h:Ad 32 s with
  |nil=>exact absurd h (Lx 32 s)
  |cons y r=>simp
def Aa2(s:Bs):(Ad 32 s).filter (fun x=>!x.isEmpty)=I8 s:=by
 unfold I8;rw[dD s []];cases h:Ad 32 s with
 |nil=>exact absurd h (Lx 32 s)
 |cons y r=>rfl
theorem qZ{c y:UInt8}(H:y≠c):∀a:Bs,∃L z,Ad c (a++[y])=L++[z]/\z≠[]
 |[]=>⟨[],[y],by simp[Ad,H],ah⟩
 |x::a=>by
  obtain⟨L,z,h,b⟩:=qZ H a;show∃L z,Ad c (x::(a++[y]))=L++[z]/\z≠[];unfold Ad;rw[h];by_cases d:x=c
  ·rw[AN d];exact⟨[]::L,z,rfl,b⟩
  rw[AL d];cases L with
  |nil=>exact⟨[],x::z,rfl,ah⟩
  |cons u L=>exact⟨(x::u)::L,z,rfl,b⟩
def Aa3(s:Bs):(∃M,M≠[]/\Ad 10 s=M++[[]]/\Ad 10 (trimSuffix s [10])=M)\/(Ad 10 (trimSuffix s [10])=Ad 10 s/\((Ad 10 s).length=1\/∃M z,Ad 10 s=M++[z]/\z≠[])):=by
 rcases DH s with rfl|⟨a,y,h⟩
 ·exact Or.inr ⟨rfl,Or.inl rfl⟩
 rw[DI]at h;subst h;by_cases H:y=10
 ·subst H;refine Or.inl ⟨Ad 10 a,Lx 10 a,qI 10 [] a,by rw[rl]⟩
 refine Or.inr ⟨?_,Or.inr (qZ H a)⟩;have:hasSuffix (a++[y]) [10]=false:=by
  unfold hasSuffix;rw[AT];intro h;rw[GI]at h;obtain⟨r,h⟩:=h;have:=List.append_inj' h rfl;simp at this;exact H this.2.symm
 unfold trimSuffix;rw[this];rfl
def Aa4(s:Bs)(w:World)(hg:Gz w)(hs:s.length<=20000)(b2:(Ed ⟨none,[]⟩ (Ad 10 (trimSuffix s [10]))).length<=140737488355328):Calls prog 30 #[s] w fun e w'=>e=.returned (Ed ⟨none,[]⟩ (Ad 10 (trimSuffix s [10])))/\Below w.heap.size w w':=by
 have c2:=Rv 10 (trimSuffix s [10]);have a0:(trimSuffix s [10]).length<=s.length:=KW _ _;have S:=Ta s 10 w aa hg.r.g;have HC:=AE (Aa3 s);have U:=Rv 10 s;generalize Ad 10 (trimSuffix s [10])=T at c2 b2 HC|-;generalize Ad 10 s=L at S HC U;have f6:¬(20000:Int)<(s.length:Int):=aa
 have k1:=A0.new w (Ds L) 9;have B1:=(AG w.heap.size w).alloc (AF _) (.cells (Ds L) 9);have a7:w.heap.size<(w.alloc (.cells (Ds L) 9)).heap.size:=ah
 go_enter func30,ntmps30;go_wp2_with fail;with_reducible refine S.mono ?_
 rintro e b⟨rfl,rfl⟩;generalize w.alloc (.cells (Ds L) 9)=b at k1 B1 a7|-;clear S;have A:=k1.cell;go_upto_region 4 with fail;generalize c3:L.length=N at U|-;have V:=AE c3;clear c3;go_cut[29] (fun t C=>C=b/\∃q,t=.bool q/\Hid ((q=true/\L=T++[[]])\/(q=false/\T=L)))
 case first=>
  have c4:=AE U;clear U;rcases HC.o with⟨M,hM,rfl,e3⟩|⟨rfl,X|⟨M,z,rfl,hz⟩⟩
  ·subst e3;have c5:b.cell? ⟨w.heap.size,T.length,none⟩=some (.string ⟨#[]⟩):=by rw[A];simp[Ds]
   have hn:T.length+1=N:=po
   have hm:0<T.length:=BK.2 hM;have hq:(N:Int)-1=(T.length:Int):=aa
   have z2:(1:Int)<(N:Int):=aa
   have z3:(T.length:Int)<(N:Int):=aa
   have z4:T.length<=100000:=by have:=c4.o;omega
   clear hM hm A hn;go_wp2;go_meet;exact⟨rfl,true,rfl,AE ah⟩
  ·have z2:¬(1:Int)<(N:Int):=by have:=V.o;omega
   clear A;go_wp2;go_meet;exact⟨rfl,false,rfl,AE ah⟩
  have c5:b.cell? ⟨w.heap.size,M.length,none⟩=some z:=by rw[A];simp[Ds]
  have f7:z.isEmpty=false:=by simpa using hz
  have hn:M.length+1=N:=po
  have z4:M.length<=100000:=by have:=c4.o;omega
  have z3:(M.length:Int)<(N:Int):=aa
  have hq:(N:Int)-1=(M.length:Int):=aa
  clear A hz hn;by_cases z2:(1:Int)<(N:Int)
  ·go_wp2;go_meet;exact⟨rfl,false,rfl,AE ah⟩
  clear hq;go_wp2;go_meet;exact⟨rfl,false,rfl,AE ah⟩
 case rest=>
 obtain⟨a1,q,rfl,HQ⟩:=hcut;obtain rfl:=a1.symm;clear a1 HC;go_upto_if 29 with fail;go_cut[3] (fun t C=>C=b/\∃c,t=.slice (some ⟨w.heap.size,0,none⟩) T.length c/\Hid (∀k(h:k<T.length),b.cell? ⟨w.heap.size,k,none⟩=some (T[k])))
 case first=>
  rcases HQ.o with⟨rfl,rfl⟩|⟨rfl,rfl⟩
  ·have E:∀k(h:k<T.length),b.cell? ⟨w.heap.size,k,none⟩=some (T[k]):=fun k h=>by rw[A];unfold Ds;rw[List.getElem?_toArray,EV,GO h,BC h];rfl
   have G:=AE E;have hn:T.length+1=N:=po
   have hq:(N:Int)-1=(T.length:Int):=aa
   have z3:(T.length:Int)<=(N:Int):=aa
   have z4:T.length<=100000:=aa
   clear A E hn U;go_wp2;go_meet;exact⟨rfl,_,rfl,G⟩
  have E:∀k(h:k<T.length),b.cell? ⟨w.heap.size,k,none⟩=some (T[k]):=fun k h=>by rw[A];simp[Ds,h]
  have G:=AE E;clear A E;go_wp2;go_meet;exact⟨rfl,_,by rw[V.o],G⟩
 case rest=>
 obtain⟨a1,c,rfl,G⟩:=hcut;obtain rfl:=a1.symm;clear a1 HQ k1 A U V;have c6:=hg.next B1;have f8:=hg.size;have kd:=A0.new b #[.pointer none,.string ⟨#[]⟩] 154;have BA:=(AG b.heap.size b).alloc (AF _) (.cells #[.pointer none,.string ⟨#[]⟩] 154);have c7:b.heap.size<(b.alloc (.cells #[.pointer none,.string ⟨#[]⟩] 154)).heap.size:=ah
 go_upto_region 7 with fail;generalize World.alloc _ _=B at kd BA c7|-;have c8:Oa B b.heap.size ⟨none,[]⟩:=⟨_,kd,Or.inl ⟨rfl,rfl⟩⟩;have a2:=c6.next BA;have B2:=B1.trans (BA.mono B1.size);have e4:=AE (show∀k(h:k<T.length),B.cell? ⟨w.heap.size,k,none⟩=some (T[k])from fun k h=>(BA.cell (p:=⟨w.heap.size,k,none⟩) a7).trans (G.o k h));have f9:(Ed ⟨none,[]⟩ T).length<=140737488355328:=b2;have g0:T.length<=20001:=aa
 have b3:=AE c8;have a3:=AE B2;have e5:w.heap.size<b.heap.size:=a7;have c9:0+lens T+3*T.length<=100000:=aa
 clear c8 kd BA B1 hg c6 G B2 c2 a0 b2 a7;generalize b.heap.size=d at b3 c7 e5|-;go_wp2_with fail;go_loopw[5,39] (fun ov Q wr=>∃(k:Nat)(O:Bs)(D:Ap),Q=k/\k<=T.length/\ov=O/\Hid (O++Ed D (T.drop k)=Ed ⟨none,[]⟩ T)/\Hid (Oa wr d D)/\Hid (Bi (fun j=>j<B.heap.size/\j≠d) B wr)/\D.said.length+lens (T.drop k)+3*(T.length-k)<=100000) (fun _ Q _=>T.length-(intOf Q).toNat)
 case atStart=>exact⟨0,[],⟨none,[]⟩,rfl,aa,rfl,AE rfl,b3,AE ⟨rfl,rfl,rfl,AF _,fun _ _=>rfl⟩,by simpa using c9⟩
 clear b3 c9;obtain⟨k,O,D,rfl,hk,rfl,a8,HD,i,e6⟩:=hrel;by_cases d0:k<T.length
 ·have hc:=((i.o.block w.heap.size ⟨aa,aa⟩:_=_));have a4:wr.cell? ⟨w.heap.size,k,none⟩=some (T[k]):=by
   rw[<-e4.o k d0];unfold World.cell?;simp only[hc]
  have I:=AE (AH d0);have e7:lens (T.drop k)=(T[k]).length+lens (T.drop (k+1)):=by rw[I.o];unfold lens;rw[CD,DT]
  have b4:=qG D T[k];have HS:=AE (show(O++((Cb D T[k]).2++[10]))++Ed (Cb D T[k]).1 (T.drop (k+1))=Ed ⟨none,[]⟩ T from by
   rw[<-a8.o,I.o];show _=O++((Cb D T[k]).2++10::Ed (Cb D T[k]).1 (T.drop (k+1)));simp)
  have a0:O.length+((Cb D T[k]).2.length+1)<=140737488355328:=by
   have:=CI List.length HS.o;simp only[AJ,AK,BG]at this;omega
  clear hc I a8;generalize T[k]=x at a4 e7 b4 HS a0;have g1:x.length<=100000:=aa
  have b5:Gz wr:=a2.Pz (fun j H=>⟨by have:=a2.size;omega,aa⟩) i.o;have S:=Ta x 32 wr aa b5.r.g;have e8:=Rv 32 x;have HP:=AE (Aa2 x);have b6:=V5 x;generalize Ad 32 x=P at S e8 HP;have k5:=A0.new wr (Ds P) 9;have B5:=(AG wr.heap.size wr).alloc (AF _) (.cells (Ds P) 9);obtain⟨W,rfl⟩:∃y:World,y=wr:=⟨_,rfl⟩;go_wp2_with fail;with_reducible refine S.mono ?_
  rintro e w3⟨rfl,rfl⟩;generalize W.alloc (.cells (Ds P) 9)=w3 at k5 B5|-;clear S;have d1:=AE k5;have e9:=k5.lt;have d2:=b5.next B5;clear k5 a4;go_wp2_with fail;go_loopw[8,46] (fun ov Q wr=>∃(j:Nat)(o:List Bs),Q=j/\j<=P.length/\o.length<=j/\Do wr w3.heap.size ov o/\Hid (o++(P.drop j).filter (fun y=>!y.isEmpty)=I8 x)/\Below w3.heap.size w3 wr) (fun _ Q _=>P.length-(intOf Q).toNat)
  case atStart=>exact⟨0,[],rfl,aa,ah,A1.nil _ _ _ _ _,AE HP.o,AG _ _⟩
  obtain⟨j,o,rfl,H,g2,Y,Z,J⟩:=hrel;by_cases d3:j<P.length
  ·have d4:wr.cell? ⟨W.heap.size,j,none⟩=some (P[j]):=by rw[(d1.o.next J e9).cell];simp[Ds,d3]
   have I:=AE (AH d3);cases f:(P[j]).isEmpty with
   |true=>
    have a9:=AE (by rw[<-Z.o,I.o,DB,f];rfl:o++(P.drop (j+1)).filter (fun y=>!y.isEmpty)=I8 x);clear I Z;generalize P[j]=y at d4 f;obtain rfl:y=[]:=by simpa using f
    clear f;go_wp2;go_roundw
    case rel=>exact⟨j+1,o,aj,aa,aa,Y,a9,J⟩
    simp[intOf];omega
   |false=>
    have a9:=AE (by rw[<-Z.o,I.o,DB,f];simp:(o++[P[j]])++(P.drop (j+1)).filter (fun y=>!y.isEmpty)=I8 x);clear I Z;generalize P[j]=y at d4 f a9;go_wp2_with(at_builtin;refine Mt rfl _ _ rfl w3.heap.size _ o y _ 1 rfl (A1.alloc Y _) rfl (Il _ y _) aa (by have:=J.size;simp;omega) ?_;intro v' w6 f0 g3 f1 g4);go_wp2;go_roundw
    case rel=>exact⟨j+1,o++[y],aj,aa,ag,f0,a9,(J.alloc J.size _).trans f1⟩
    simp[intOf];omega
  obtain rfl:j=P.length:=aa
  have HW:=AE (by rw[<-Z.o,AS];simp:I8 x=o);have R:Below W.heap.size W wr:=B5.trans (J.mono B5.size);have b0:=d2.next J;have b7:=AE (HD.o.next R);have a5:=AE (show Bi (fun j=>j<B.heap.size/\j≠d) B wr from i.o.trans ⟨R.os,R.tape,R.output,R.size,fun j H=>R.block j (BN H.1 i.o.size)⟩);have d5:=a5.o.size;rw[HW.o]at b6;clear Z HP d1 J R B5 i HD b5 d2;obtain⟨wa,wc,rfl,d6⟩:=A1.rd ae By Y;go_upto_if 59 with fail;go_cut[11,12] (fun a e C=>∃(t:ByteArray)(K:Int),a=.string t/\e=K/\Hid ((K=0/\t=⟨(Cb D x).2.toArray⟩)\/(1<=K/\K<=1000/\(Cb D x).2=Nf K))/\Hid (Oa C d (Cb D x).1)/\Hid (Bi (fun j=>j<B.heap.size/\j≠d) B C))
  case first=>
   cases o with
   |nil=>
    have F:=AE (by unfold Cb;rw[HW.o]:Cb D x=(D,[111,107]));go_wp2;go_meet;exact⟨_,0,rfl,rfl,by rw[F.o];exact AE (Or.inl ⟨rfl,rfl⟩),by rw[F.o];exact b7,a5⟩
   |cons n l=>
    have F:=AE (by unfold Cb;rw[HW.o]:Cb D x=((Cd D n l).1,R4 (Cd D n l).2));obtain⟨g,rfl,d7,d8⟩:=d6 ah;have d9:l.length+1<=wc:=by
     rcases Y.2 with⟨X,_⟩|⟨g5,g6,g7,X,_,_,d9,_⟩
     ·cases X
     injection X with X h2 h3;subst h3;exact d9
    have E:∀j y,(n::l)[j]?=some y->wr.cell? ⟨g,j,none⟩=some (.string ⟨y.toArray⟩):=fun j y H=>by
     have e0:=(CB.1 H).1;rw[d8 j aa];have:=L8 By (n::l) j e0 0 ae;rw[IE,BI]at this;rw[this];rw[BC e0]at H;injection H with H;rw[H];rfl
    have c5:wr.drew.cell? ⟨g,0,none⟩=some n:=E 0 n rfl;have e1:=V6 (l:=l) (n:=x.length+1) (by simp only[CD,DT,AK]at b6;omega);have e2:=bR D n l;have b1:∀v,Fm wr.drew v l->Ke wr.drew d D v l:=fun v hv=>⟨b7.o.next (AG _ wr).drew,hv,aa,aa,fun y f=>by have:=e1.2.2 y f;omega,b0.next (AG _ wr).drew,fun j H=>by have:=a2.size;omega,aa⟩
    have G:=AE E;clear E d8 Y e1 b6;by_cases a4:wc=1
    ·subst a4;obtain rfl:l=[]:=ES aa;have hD:=qY d D n _ [] wr.drew (b1 (.slice (some ⟨g,0,none⟩) 0 0) ⟨g,0,0,rfl,d7,AF _,fun j y f=>by simp at f⟩);clear b1 b0;go_upto_region 20 with fail;go_region_law((go_simp;refine hD.mono ?_;rintro e w5⟨hh,b9,u⟩;obtain⟨t,K,rfl,HH⟩:=J5.get hh e2));all_goals
      go_wp2;go_meet;exact⟨t,K,rfl,rfl,by rw[F.o];exact HH,by rw[F.o];exact AE b9,AE (a5.o.trans ⟨u.os,u.tape,u.output,u.size,fun j H=>u.block j ⟨BN H.1 d5,H.2⟩⟩)⟩
    obtain⟨m,rfl⟩:∃m,wc=m+2:=⟨wc-2,aa⟩;clear a4;have g8:(l.length:Int)<=(m:Int)+1:=aa
    have g9:0<(n::l).length:=Nat.succ_pos _;have z1:(1:Int)<=(l.length:Int)+1:=aa
    have hD:=qY d D n _ l wr.drew (b1 (.slice (some ⟨g,1,none⟩) l.length (m+1)) ⟨g,1,m+1,rfl,d7,aa,fun j y f=>by
     have:=G.o (j+1) y (by simpa using f);rw[KI]at this;exact this⟩)
    clear b1 b0;go_upto_region 20 with fail;go_region_law((go_simp;refine hD.mono ?_;rintro e w5⟨hh,b9,u⟩;obtain⟨t,K,rfl,HH⟩:=J5.get hh e2));all_goals
     go_wp2;go_meet;exact⟨t,K,rfl,rfl,by rw[F.o];exact HH,by rw[F.o];exact AE b9,AE (a5.o.trans ⟨u.os,u.tape,u.output,u.size,fun j H=>u.block j ⟨BN H.1 d5,H.2⟩⟩)⟩
  case rest=>
  obtain⟨t,K,rfl,rfl,HH,c0,a6⟩:=hcut;obtain⟨w6,rfl⟩:∃y:World,y=wc:=⟨_,rfl⟩;clear b7 a5 Y d6 b0;go_upto_if 71 with fail;go_cut[11] (fun a C=>a=.string ⟨(Cb D x).2.toArray⟩/\Hid (Oa C d (Cb D x).1)/\Hid (Bi (fun j=>j<B.heap.size/\j≠d) B C))
  case first=>
   rcases HH.o with⟨rfl,rfl⟩|⟨X,h2,he⟩
   ·go_wp2;go_meet;exact⟨rfl,c0,a6⟩
   have hz:(K !=0)=true:=gi
   have hI:=Fj K aa aa w6 (a2.Pz (fun j H=>⟨by have:=a2.size;omega,aa⟩) a6.o);have HE:=AE (show(Cb D x).2=101::114::114::111::114::32::itoa K from he);have f2:=BE K aa aa;generalize itoa K=ik at hI HE f2;clear he;go_wp2_with fail;with_reducible refine hI.mono ?_
   rintro e w8⟨rfl,b8⟩;go_wp2;go_meet;exact⟨by rw[HE.o],AE (c0.o.next b8),AE (a6.o.trans ⟨b8.os,b8.tape,b8.output,b8.size,fun j H=>b8.block j (BN H.1 a6.o.size)⟩)⟩
  case rest=>
  obtain⟨rfl,c1,f3⟩:=hcut;obtain⟨w7,rfl⟩:∃y:World,y=wc:=⟨_,rfl⟩;clear HH c0 a6 HW;generalize Cb D x=r at b4 HS a0 c1;obtain⟨f4,f5⟩:=r;simp only at b4 HS a0 c1;go_wp2;go_roundw
  case rel=>exact⟨k+1,O++(f5++[10]),f4,aj,aa,rfl,HS,c1,f3,aa⟩
  simp[intOf];omega
 obtain rfl:k=T.length:=aa
 have F:=AE (by rw[<-a8.o,AS];simp[Ed]:Ed ⟨none,[]⟩ T=O);have HB:Below w.heap.size w wr:=⟨i.o.os.trans a3.o.os,i.o.tape.trans a3.o.tape,i.o.output.trans a3.o.output,AV a3.o.size i.o.size,fun j H=>(i.o.block j ⟨aa,aa⟩).trans (a3.o.block j H)⟩;clear a8 HD i e6;go_wp2;go_ret;exact⟨ui,HB⟩
def Aa5(s:Bs)(w:World)(H:20000<s.length):Calls prog 30 #[s] w fun e W=>e=.returned (.string ⟨#[101,114,114,111,114,32,52,10]⟩)/\Below w.heap.size w W:=by
 have h:(20000:Int)<(s.length:Int):=aa
 go_enter func30,ntmps30;go_wp2;go_ret;exact⟨rfl,AG _ _⟩
def Aa6(s:Bs)(w:World)(H:20000<s.length):Calls prog 27 #[s] w fun e W=>e=.returned (.string ⟨#[101,114,114,111,114,32,52,10]⟩)/\Below w.heap.size w W:=by
 have h:(20000:Int)<(s.length:Int):=aa
 refine(GD (n:=5)).1 ?_;refine callsIn_of_wp_marks func27 rfl trivial ?_ rfl;simp only[ntmps27,KJ,AK,BG,Nat.reduceAdd,Nat.reduceSub,JR,JQ,KK,JW,CT,CR];gi_wp2;exact⟨_,results_tmp rfl _ _ _,rfl,AG _ _⟩
def Aa7(s:Bs)(w:World)(d:Gz w)(n:s.length<=4611686018427387903):Calls prog 7 #[s] w fun e a=>e=.returned true/\Below w.heap.size w a:=by
 have g:∀r:Bs,Calls prog 27 #[s] w (fun e a=>e=.returned r/\Below w.heap.size w a)->(∀W,Gz W->Calls prog 30 #[s] W fun e a=>e=.returned r/\Below W.heap.size W a)->(s.length<=2500\/(20000<s.length/\s.length<=30000))->Calls prog 7 #[s] w fun e a=>e=.returned true/\Below w.heap.size w a:=by
  intro r H h l;have j:(¬(2500:Int)<(s.length:Int)/\¬(30000:Int)<(s.length:Int))\/((2500:Int)<(s.length:Int)/\¬(s.length:Int)<=20000/\¬(30000:Int)<(s.length:Int)):=aa
  rcases j with⟨c,C⟩|⟨c,f,C⟩
  all_goals
   clear l;go_enter func7,ntmps7;go_wp2_with fail;with_reducible refine H.mono ?_
   rintro e k⟨rfl,b⟩;have h:=h k (d.next b);go_wp2_with fail;with_reducible refine h.mono ?_
   rintro e o⟨rfl,B⟩;go_wp2;go_ret;exact⟨rfl,b.trans (B.mono b.size)⟩
 by_cases H:s.length<=2500
 ·exact g _ (xp s w d aa (qK s aa)) (fun W m=>Aa4 s W m aa (qK s aa)) (Or.inl H)
 by_cases h:20000<s.length
 ·by_cases i:s.length<=30000
  ·exact g [101,114,114,111,114,32,52,10] (Aa6 s w h) (fun W _=>Aa5 s W h) (Or.inr ⟨h,i⟩)
  have c:(2500:Int)<(s.length:Int):=aa
  have f:¬(s.length:Int)<=20000:=aa
  have C:(30000:Int)<(s.length:Int):=aa
  clear H h i g;go_enter func7,ntmps7;go_wp2;go_ret;exact⟨rfl,AG _ _⟩
 have c:(2500:Int)<(s.length:Int):=aa
 have f:(s.length:Int)<=20000:=aa
 clear H h g;go_enter func7,ntmps7;go_wp2;go_ret;exact⟨rfl,AG _ _⟩
end Go.Proofs.YtignjjnflcpiiaaGreatDoor
namespace Go.Proofs.YtignjjnflcpiiaaGreatDoor
open Go Go.ChangeShapes Go.WideShapes Go.ChangeAt Go.RowKit Go.ChangeMaps
abbrev Ri:List (String×DataW Unit):=Rows.deskAnswersRow.laid
def Aa8:ownKnob Tryz.prog.godebug=none:=af
def Aa9:(Tryz.prog.cutTypes.find? (·.1== "internal/reflectlite.rtype")).map (·.2)=some 262:=af
def Ab0:((List.range 1000).filter fun t=>Tryz.prog.rowNamed t [101,114,114,111,114])=[25]:=af
def Ab1:Tryz.prog.types.size<=1000:=EU af
def Ab2{W:World}(G:Cj W)(h:laidMetH Tryz.prog Ri W):Gz W:=by
 have a:laidMet Tryz.prog (Ri.filter fun x=>x.2.handleName?.isNone) W/\handlesMet Tryz.prog [("errors.errorType",Rows.laid_errors_errorType)] W:=h;obtain⟨N,u,T,E,b,c,f,e⟩:=a.2 _ (CS.2 rfl);have g:N=[101,114,114,111,114]:=(CU E).symm;subst g;obtain rfl:=CU (Aa9.symm.trans b);have m:T∈(List.range 1000).filter fun t=>Tryz.prog.rowNamed t [101,114,114,111,114]:=DP.2 ⟨BT.2 (BN c Ab1),f⟩
 rw[Ab0]at m;obtain rfl:=CS.1 m;have j:typeHandle Tryz.prog 25=.pointer (some ⟨12,25,none⟩):=af
 rw[j]at e;have H:=fun n d(m:(n,d)∈Ri.filter fun x=>x.2.handleName?.isNone)=>Lib.laidMet.reads a.1 m
 exact WC G (H "bindery/page.signs" Rows.laid_bindery_page_signs (CP (i:=6) af)) (H "bindery/part.ours" Rows.laid_bindery_part_ours (CP (i:=7) af)) (H _ Rows.laid_internal_strconv_uint64pow10 (CP (i:=2) af)) (H "strconv.ErrSyntax" Rows.laid_strconv_ErrSyntax (CP (i:=5) af)) (H "strconv.ErrRange" Rows.laid_strconv_ErrRange (CP (i:=4) af))
  (by simpa using JN (show Tryz.prog.globalNamed "errors.errorType" =some 0 by kernel_rfl) e 0)
end Go.Proofs.YtignjjnflcpiiaaGreatDoor
namespace Go.Proofs.YtignjjnflcpiiaaGreatDoor
open Go Go.ChangeShapes Go.WideShapes Go.ChangeAt Go.RowKit Go.ChangeMaps Go.Conc Go.ConcM
noncomputable def rA(O:Os):World:=let w:=World.holding Tryz.prog O ⟨#[],#[],[]⟩
 {w with heap:=w.heap.modify 0 fun
  | .cells _ t f=>.cells #[.iface 262 (.agg #[.pointer (some ⟨12,25,none⟩)])] t f
  |o=>o}
abbrev dE:List (String×DataW Unit):=Ri.filter fun x=>x.2.handleName?.isNone
noncomputable def dF(o:Os):World:=(rA o).layVars Tryz.prog dE
def Ab3(o:Os)(args:Array Value):laidMetH Tryz.prog Ri ((dF o).forCall (fun _ _=>0) ⟨#[],args,[]⟩).memory:=by
 have h:laidMet Tryz.prog dE (dF o):=laidMet_layVars (w0:=rA o) (dE.map (·.1)) [] af af af LaidIn.none;exact laidMetH_of_parts (h.of_heap (by simp[World.memory,World.forCall,Input.heap])) af
def Ab4(o:Os)(S:o.Started)(H:Type)(enc:TypeId×Value->H)(F:Stop.Interp):ReturnsInLeavingWide Rows.deskAnswersRow.assume Tryz.checked o 7 .any (fun w a=>(Rows.deskAnswersSpec.pre enc Tryz.prog Tryz.f7 [] false w a/\laidMetH Tryz.prog Ri w)/\sizedMet enc Tryz.prog Tryz.f7 (OpenSpec.ofChange Rows.deskAnswersSpec) false w a)
   ((OpenSpec.ofChange Rows.deskAnswersSpec).postWith enc Tryz.prog Tryz.f7 F (outsideKept [.timePasses]) false true false):=by
 refine tP (C:=Tryz.checked) (X:=fun w _=>laidMetH Tryz.prog Ri w) (fun _ _ _ k h=>h.of_heap k) Aa8 S af Tryz.func7 ?_ ?_
 ·exact⟨dF o,fun _ _=>0,⟨#[],#[.string ⟨#[]⟩],[]⟩,World.layVars_os _ _ _,World.shaped_of_ZipB af af,rfl,(Input.okWide_of_okWideB af).2,⟨⟨ChangeSpec.pre_of_preB (fuel:=8) af,Ab3 o _⟩,sizedMet_of_sizedB (fuel:=8) af⟩,by
   change({calm:=true}:Assume).holds _ _;simp only[Assume.holds];exact⟨ah,fun _ _ _ _=>rfl,ah,ah,ah⟩⟩
 intro W B a d G J m b n L r;have l:∀(j:Nat)t v,Tryz.f7.params[j]?=some t->a[j]?=some v->Value.okWide Tryz.prog W .any B t v:=m;have c:(DataW.weightsEach Tryz.prog (Tryz.f7.params.toList++Rows.deskAnswersSpec.plain.varTypes Tryz.prog) (d++G)).all (·<=reachBytes)=true:=n;have u:Cj W:=⟨Tryz.rO.s1_3 W r⟩;have x:=Ab2 u L;have f:=b;obtain⟨p,q,y,V,rfl,_,_⟩:=b;have A:DataW.TrodAll enc Tryz.prog W 0 (fun _=>true) true Tryz.f7.params.toList a.toList d p:=y;rw[Tryz.params7]at A l c;obtain⟨z,K,rfl,rfl,h0⟩:=trodAll_one A;obtain⟨rfl,rfl⟩:=trodVars_none V;obtain⟨s,rfl,rfl,rfl,D⟩:=open_string Tryz.underlying9 (l 0 9 z rfl rfl) h0;simp only[BU]at f;have E:s.data.toList.length<=reachBytes:=sized_string c (j:=0) rfl rfl;have g:=Aa7 s.data.toList W x (AV E ae);rw[Lib.mk_data]at g;refine g.mono fun e M⟨I,i⟩=>?_
 subst I;exact⟨_,rfl,⟨_,_,_,[],[],[],f,trodAll_mk1 (shut_bool Tryz.underlying4 true),trodAll_mk1 (shut_string Tryz.underlying9 D),rfl,i.frame _,fun h=>ee⟩,i.os⟩
end Go.Proofs.YtignjjnflcpiiaaGreatDoor
namespace Go.Proofs.YtignjjnflcpiiaaGreatDoor
open Go Go.ChangeShapes Go.WideShapes Go.ChangeAt Go.RowKit Go.ChangeMaps
def Ab5:Rows.DeskAnswersSaid:=OpenClaim.holds_of_wide_leaving_time (p:=Tryz.pinned) (s:=Rows.deskAnswersSpec) (c:=Rows.deskAnswersRow) 7 Tryz.f7 rfl rfl rfl rfl rfl rfl rfl ⟨rfl,rfl,rfl,rfl,rfl⟩ rfl rfl rfl rfl rfl eK Tryz.func7 uK uL uM
  (fun o S H e _ F=>Ab4 o S H e F)
theorem answers_card:Rows.DeskAnswersCardSaid:=tQ .later [.data,.data,.data,.data,.handle,.sentinel,.sentinel,.widerDeep,.data,.pinned,.pinned] true (true,"6f0251da0188cf8eafed328b06f003c29786626d0e54394887c6c4c50c66b9af") true true
  Ab5 uN deskAnswers_row_tie rfl ⟨rfl,rfl⟩ uO rfl
  (fun f F H n=>by
   obtain rfl:f=7:=CU (eK.symm.trans H) |>.symm
   obtain rfl:F=Tryz.f7:=(CU (Tryz.func7.symm.trans n)).symm;exact⟨uP,fun j t h=>by
    rw[Tryz.params7]at h;have m:t∈[9]:=by simpa using Array.mem_of_getElem? h
    exact(show Tryz.prog.wantsStandIn t=false by simpa using AW.1 uQ t m)⟩)
  uR
end Go.Proofs.YtignjjnflcpiiaaGreatDoor
