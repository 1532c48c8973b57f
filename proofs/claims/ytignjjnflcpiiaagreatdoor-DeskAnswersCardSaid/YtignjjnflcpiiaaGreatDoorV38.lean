/- A value with parameters written, by the document's answer -/
import Derived.Test.YtignjjnflcpiiaaGreatDoorV16
import Derived.Test.YtignjjnflcpiiaaGreatDoorV26
import Derived.Test.YtignjjnflcpiiaaGreatDoorV29
import Derived.Test.YtignjjnflcpiiaaGreatDoorV33
import Derived.Test.YtignjjnflcpiiaaGreatDoorV36
set_option maxHeartbeats 16000000
set_option maxRecDepth 100000 set_option linter.all false
namespace Go.Proofs.YtignjjnflcpiiaaGreatDoor
open Go Go.RowKit Proofs.Tryz Lib
def Xq(n:Int)(r:Option Bs)(e:Ending):Prop:=(∃t,r=some t/\e=.returned (.tuple #[.string ⟨t.toArray⟩,.agg #[.int .i64 0,.int .i64 (-1)]]))\/(r=none/\∃i:Int,e=.returned (.tuple #[.string ⟨#[]⟩,.agg #[n,i]]))
variable {k o qc S M B C t hc pb:Nat}{α β:Type}{first m:Bool}{line word y b body s x:Bs}{e:Ending}{r:Option Bs}{w w':World}{L h:List A4}{q qs:List Bs}{l qa O ha:Option Go.Addr}{p P:Ending → World → Prop}{d K U:Act}{x0 x2 x3:Value}{Q:Exit → Act → World → Prop}{F:List Value}
def kr(f:α->List β){l:List α}(h:k<l.length):(l.take (k+1)).flatMap f=(l.take k).flatMap f++f l[k]:=by
 rw[AZ h,CZ];simp
def kz(p:α->Bool)(q:Bool){l:List α}(h:k<l.length):((q&&(l.take k).all p)&&p l[k])=(q&&(l.take (k+1)).all p):=by
 rw[AZ h,IL,IW];simp
def lf(m:Bs)(l:List A4):Cl m l=if Ld m&&(A2 m==m)then(Ee l).map (m++·)else none:=by
 rw[iN];rfl
def pL(y:Bs):(y.any fun c=>!C6 c)=!(y.all C6):=by
 induction y with
 |nil=>rfl
 |cons c y ih=>rw[GB,FP,ih];cases C6 c<;>simp
def cN(m:Bs)(v:Value)(l:List A4)(w:World)(hr:Cq w v l)(hm:m.length<=1000000)(c7:l.length<=1000000)(b0:∀f∈l,f.1.length<=1000000/\f.2.length<=1000000)(hg:Cj w):Calls prog 73 #[m,v] w fun e Z=>Xq 1 (Cl m l) e/\Below w.heap.size w Z:=by
 have b9:=AE b0;clear b0;obtain⟨a,c8,rfl,hc⟩:=hr.open;have HC:=AE hc;clear hc hr;have F:=AE (lf m l);have d:=A0.new w #[.int .i64 0,.int .i64 0] 113;have B:=(AG w.heap.size w).alloc (AF _) (.cells #[.int .i64 0,.int .i64 0] 113);generalize c0:w.alloc (.cells #[.int .i64 0,.int .i64 0] 113)=w1 at d B;have M:=nG m w1 aa (hg.next B);go_enter func73,ntmps73;go_upto_region 1 with fail;clear c0;go_cut[21] (fun t r=>t=.bool (!(Ld m&&(A2 m==m)))/\A0 r w.heap.size #[.int .i64 0,.int .i64 0] 113/\Below w.heap.size w r)
 case first=>
  clear F;generalize o:Ld m=q at M|-;have s:=AE o;clear o;cases q with
  |false=>
   go_wp2_with fail;with_reducible refine M.mono ?_
   rintro e w2⟨rfl,H⟩;have d:=d.next H d.lt;have B:=B.trans (H.mono B.size);clear H M;go_wp2;go_meet;exact⟨by rw[s.o];rfl,d,B⟩
  |true=>
   go_wp2_with fail;with_reducible refine M.mono ?_
   rintro e w2⟨rfl,H⟩;have d:=d.next H d.lt;have B:=B.trans (H.mono B.size);clear H M;go_wp2_with fail;with_reducible refine(Ix m _ aa).mono ?_
   rintro e w3⟨rfl,H⟩;have d:=d.next H d.lt;have B:=B.trans (H.mono B.size);clear H;by_cases o:A2 m=m
   ·have Q:(A2 m !=m)=false:=by simp[o]
    have a0:=AE (ya:(A2 m==m)=true);clear o;go_wp2;go_meet;exact⟨by rw[s.o,a0.o];rfl,d,B⟩
   have Q:(A2 m !=m)=true:=ya
   have a0:=AE (ya:(A2 m==m)=false);clear o;go_wp2;go_meet;exact⟨by rw[s.o,a0.o];rfl,d,B⟩
 case rest=>
 clear M d B;obtain⟨rfl,d,B⟩:=hcut;obtain⟨w2,rfl⟩:∃x:World,x=wc:=⟨_,rfl⟩;generalize(Ld m&&(A2 m==m))=a1 at F|-;cases a1 with
 |false=>
  have HN:=AE (ui:Cl m l=none);have G:=d.cell 0;have I:=d.cell 1;have z:=d.free;go_wp2_with fail;with_reducible refine(U1 1 _).mono ?_
  rintro e w3⟨rfl,H⟩;have d:=d.next H d.lt;have B:=B.trans (H.mono B.size);clear H G I z;have n:=d.cell;have z:=d.free;go_wp2_with fail;refine AO (v:=.tuple #[.string ⟨#[]⟩,.agg #[.int .i64 1,.int .i64 (-1)]]) (by simp[results,results73,go_sem,n]) rfl ⟨Or.inr ⟨HN.o,-1,rfl⟩,(B.setCell (AF _) _).setCell (AF _) _⟩
 |true=>
  have HN:=AE (ui:Cl m l=(Ee l).map (m++·));clear F;simp only[EK];go_wp2_with fail;go_loopw[6,26] (fun t i wr=>∃(k:Nat)(O:Bs),i=k/\k<=l.length/\t=O/\O.length<=1000000+k*4000000/\Hid ((Ee (l.drop k)).map (O++·)=Cl m l)/\A0 wr w.heap.size #[.int .i64 0,.int .i64 0] 113/\Below w.heap.size w wr) (fun _ i _=>l.length-(intOf i).toNat)
  case atStart=>exact⟨0,m,rfl,aa,rfl,aa,AE HN.o.symm,d,B⟩
  clear B d;obtain⟨k,O,rfl,hk,rfl,c9,a2,d,B⟩:=hrel;by_cases b1:k<l.length
  ·obtain⟨b,rfl,b2,h1,h2⟩:=HC.o k b1;have hf:=b9.o l[k] (AQ _);have P:=AE (by rw[AH b1];rfl:Ee (l.drop k)=match Hm l[k]with|none=>none|some x=>(Ee (l.drop (k+1))).map (x++·));have c1:=(B.cell (p:=⟨b,k*2,none⟩) b2).trans h1;have c2:=(B.cell (p:=⟨b,k*2+1,none⟩) b2).trans h2;clear h1 h2;generalize l[k]=f at hf P c1 c2;obtain⟨x,y⟩:=f;simp only at hf c1 c2;obtain⟨hx,hy⟩:=hf;have b3:=d.lt;have g:=A0.new wr #[x,y] 119;have d:=d.alloc (.cells #[x,y] 119);have R:=B.alloc B.size (.cells #[x,y] 119);have S:=AE (fun(h:(Ag x&&(A2 x==x)&&y.all C6)=false)=>show Cl m l=none from by rw[<-a2.o,P.o,kC (by rw[pL,Bool.not_not];exact h)];rfl);have Y:=AE (fun(h:(Ag x&&(A2 x==x)&&y.all C6)=true)=>show(Ee (l.drop (k+1))).map ((O++(59::32::(x++61::Dc y)))++·)=Cl m l from by rw[<-a2.o,P.o,kD (by rw[pL,Bool.not_not];exact h)];cases Ee (l.drop (k+1))<;>simp);clear P B;go_upto_region 7 with fail;generalize b4:wr.heap.size=pb at g|-;have d0:w.heap.size<pb:=by rw[<-b4];exact(show w.heap.size<wr.heap.size from b3)
   generalize(wr.alloc (.cells #[x,y] 119))=w1 at g d R|-;clear b4;have J:∀W,Calls prog 125 #[x] W fun e Z=>e=.returned (.bool (Ag x))/\Below W.heap.size W Z:=fun W=>(Si x W aa).mono fun _ _ h=>⟨h.1,h.2▸AG _ _⟩
   have T:=fun W=>Ix x W aa
   go_cut[9,10] (fun v ok r=>v=.string ⟨#[]⟩/\ok=.bool (Ag x&&(A2 x==x))/\Below w1.heap.size w1 r)
   case first=>
    have d1:=(A0.drew g).cell;have K0:=(AG w1.heap.size w1).drew;generalize b5:Ag x=c3 at J;have a3:=AE b5;clear b5;cases c3 with
    |false=>
     first
     |go_region_law((first
      |(go_simp;with_reducible refine(J _).mono ?_;rintro e b6⟨rfl,H⟩;have K:=Bp H (w0:=w1) ax;have n:=(g.next K g.lt).cell)
      |(go_simp;with_reducible refine(T _).mono ?_;rintro e b7⟨rfl,H⟩;have K:=Bp H (w0:=w1) ax;have n:=(g.next K g.lt).cell)))
     |fail
     all_goals
      go_wp2;go_meet;exact⟨rfl,by rw[a3.o];rfl,K⟩
    |true=>
     by_cases o:A2 x=x
     ·have s:=AE (ya:(A2 x==x)=true);first
      |go_region_law((first
       |(go_simp;with_reducible refine(J _).mono ?_;rintro e b6⟨rfl,H⟩;have K:=Bp H (w0:=w1) ax;have n:=(g.next K g.lt).cell)
       |(go_simp;with_reducible refine(T _).mono ?_;rintro e b7⟨rfl,H⟩;have K:=Bp H (w0:=w1) ax;have n:=(g.next K g.lt).cell)))
      |fail
      all_goals
       go_wp2;go_meet;exact⟨rfl,by rw[a3.o,s.o];simp,K⟩
     have s:=AE (ya:(A2 x==x)=false);have Q:=s.o;first
     |go_region_law((first
      |(go_simp;with_reducible refine(J _).mono ?_;rintro e b6⟨rfl,H⟩;have K:=Bp H (w0:=w1) ax;have n:=(g.next K g.lt).cell)
      |(go_simp;with_reducible refine(T _).mono ?_;rintro e b7⟨rfl,H⟩;have K:=Bp H (w0:=w1) ax;have n:=(g.next K g.lt).cell)))
     |fail
     all_goals
      go_wp2;go_meet;exact⟨rfl,by rw[a3.o,s.o];rfl,K⟩
   case rest=>
   clear J T;obtain⟨rfl,rfl,K⟩:=hcut;obtain⟨w2,rfl⟩:∃x:World,x=wc:=⟨_,rfl⟩;have g:=g.next K g.lt;have d:=d.next K d.lt;have B:=R.trans (K.mono R.size);clear K R;generalize(Ag x&&(A2 x==x))=U at S Y|-;clear c1 c2 b3;have n:=g.cell;go_wp2_with fail;clear n;go_loopw[9,10,45] (fun t q i wr=>∃j:Nat,i=j/\j<=y.length/\t=((y.take j).flatMap E8)/\q=.bool (U&&(y.take j).all C6)/\A0 wr pb #[x,y] 119/\A0 wr w.heap.size #[.int .i64 0,.int .i64 0] 113/\Below w.heap.size w wr) (fun _ _ i _=>y.length-(intOf i).toNat)
   case atStart=>exact⟨0,rfl,aa,ah,ah,g,d,B⟩
   clear g d B;obtain⟨j,rfl,hj,rfl,rfl,g,d,B⟩:=hrel;have n:=g.cell;by_cases a4:j<y.length
   ·have A:=AE (kz C6 U a4);have E:=AE (kr E8 a4);have a5:((y.take j).flatMap E8).length<=2000000:=by
     have:=aL (y.take j);rw[CH]at this;omega
    generalize(y.take j).flatMap E8=C at E a5|-;generalize b8:y[j]=c at A E;have c4:=AE b8;clear b8;generalize(U&&(y.take j).all C6)=Q at A|-;have hI:=fun W=>Ju (c.toNat:Int) 32 126 W
    rw[<-Qp]at hI;go_upto_region 11 with fail;go_cut[12] (fun cv r=>cv=.int .u8 (c.toNat:Int)/\r=wr)
    case first=>
     go_wp2;go_meet;exact⟨by rw[c4.o],rfl⟩
    case rest=>
    obtain⟨rfl,L⟩:=hcut;obtain rfl:=L.symm;clear L n;have d2:(c.toNat:Int)<256:=eo
    go_upto_region 12 with fail;go_cut[10] (fun q r=>q=.bool (Q&&C6 c)/\r=wr)
    case first=>
     clear A;cases Q with
     |false=>
      go_wp2;go_meet;exact⟨rfl,rfl⟩
     |true=>
      go_wp2_with fail;with_reducible refine(hI _).mono ?_
      rintro e w9⟨rfl,rfl⟩;go_wp2;go_meet;exact⟨rfl,rfl⟩
    case rest=>
    obtain⟨rfl,L⟩:=hcut;obtain rfl:=L.symm;clear L hI;generalize(Q&&C6 c)=q2 at A|-;by_cases u:c=34
    ·have N:=AE (show(y.take (j+1)).flatMap E8=C++[92]++[c] by rw[E.o,u];simp[E8]);have c5:((c.toNat:Int)==34)=true:=by rw[u];rfl
     clear E u;go_wp2;go_roundw
     case rel=>exact⟨j+1,aj,aa,by rw[N.o];simp,by rw[A.o],g.alloc _,d.alloc _,B.alloc B.size _⟩
     simp[intOf];omega
    have c5:((c.toNat:Int)==34)=false:=by rw[AI];exact fun e=>u (BQ.1 ag)
    by_cases D:c=92
    ·have N:=AE (show(y.take (j+1)).flatMap E8=C++[92]++[c] by rw[E.o,D];simp[E8]);have c6:((c.toNat:Int)==92)=true:=by rw[D];rfl
     clear E u D;go_wp2;go_roundw
     case rel=>exact⟨j+1,aj,aa,by rw[N.o];simp,by rw[A.o],g.alloc _,d.alloc _,B.alloc B.size _⟩
     simp[intOf];omega
    have N:=AE (show(y.take (j+1)).flatMap E8=C++[c] by rw[E.o];simp[E8,u,D]);have c6:((c.toNat:Int)==92)=false:=by rw[AI];exact fun e=>D (BQ.1 ag)
    clear E u D;go_wp2;go_roundw
    case rel=>exact⟨j+1,aj,aa,fo,by rw[A.o],g.alloc _,d.alloc _,B.alloc B.size _⟩
    simp[intOf];omega
   obtain rfl:j=y.length:=aa
   have e1:y.take y.length=y:=CY;rw[e1];clear e1 hj a4;have a6:=kE y;have V:=AE (ca:Dc y=if Ag y then y else 34::(y.flatMap E8++[34]));have a5:=aL y;have a7:=Si y wr aa;generalize y.flatMap E8=C at V a5|-;generalize(U&&y.all C6)=a1 at S Y|-;cases a1 with
   |false=>
    have a8:=AE (S.o rfl);have G:=d.cell 0;have I:=d.cell 1;have z:=d.free;go_wp2_with fail;refine AO (v:=.tuple #[.string ⟨#[]⟩,.agg #[.int .i64 1,k]]) (by simp[results,results73,go_sem,G,I]) rfl ⟨Or.inr ⟨a8.o,k,rfl⟩,(B.setCell (AF _) _).setCell (AF _) _⟩
   |true=>
    have X:=AE (Y.o rfl);clear S Y;generalize Ag y=ty at V a7;go_wp2_with fail;with_reducible refine a7.mono ?_
    rintro e w9⟨rfl,rfl⟩;clear a7;cases ty with
    |true=>
     have a9:=AE (by rw[V.o];rfl:Dc y=y);rw[a9.o]at X a6;go_wp2;go_roundw
     case rel=>exact⟨k+1,O++(59::32::(x++61::y)),aj,aa,ah,ag,X,d,B⟩
     simp[intOf];omega
    |false=>
     have a9:=AE (by rw[V.o];rfl:Dc y=34::(C++[34]));rw[a9.o]at X a6;simp only[AK,AJ,BG]at a6;go_wp2;go_roundw
     case rel=>exact⟨k+1,O++(59::32::(x++61::34::(C++[34]))),aj,aa,ah,ag,X,d,B⟩
     simp[intOf];omega
  have a8:=AE (show Cl m l=some O by
   have:l.drop k=[]:=BP aa;rw[<-a2.o,this];simp[Ee])
  have G:=d.cell 0;have I:=d.cell 1;have z:=d.free;go_wp2_with fail;with_reducible refine(U1 0 _).mono ?_
  rintro e w3⟨rfl,H⟩;have d:=d.next H d.lt;have B:=B.trans (H.mono B.size);clear H G I z;have n:=d.cell;have z:=d.free;go_wp2_with fail;refine AO (v:=.tuple #[O,.agg #[.int .i64 0,.int .i64 (-1)]]) (by simp[results,results73,go_sem,n]) rfl ⟨Or.inl ⟨O,a8.o,rfl⟩,(B.setCell (AF _) _).setCell (AF _) _⟩
def Rd(y:Bs)(k:Nat):Bool:=decide (k=0)||(y.getD (k-1) 0 !=32)
def L4(y:Bs)(k:Nat)(line word:Bs)(first:Bool):Bs:=if k<=y.length then G1 (y.drop k) (Rd y k) line word first else line++[13,10]
def O9(y:Bs)(k:Nat):Bool:=decide (k=y.length)||(y.getD k 0==32&&Rd y k)
def pM(y:Bs)(k:Nat)(h:k<y.length):Rd y (k+1)=(y[k]!=32):=by
 unfold Rd;rw[AY aa,AM];simp[h]
def lg(a:k<=y.length)(h:O9 y k=true):L4 y k line word first=(Hs line word first).1++L4 y (k+1) (Hs line word first).2 (if k<y.length then[y.getD k 0]else[]) false:=by
 unfold L4;rw[AN a];by_cases H:k<y.length
 ·rw[AN H,AN (show k+1<=y.length from H),AH H];conv=>lhs;unfold G1
  have g:y.getD k 0=y[k]:=by rw[AM];simp[H]
  unfold O9 at h;rw[AY aa,g,JX,BR,BL]at h;rw[AN h,pM y k H,g]
 obtain rfl:k=y.length:=aa
 rw[AL aa,AS];conv=>lhs;unfold G1
def lh(b:k<=y.length)(h:O9 y k=false):k<y.length/\L4 y k line word first=L4 y (k+1) line (word++[y.getD k 0]) first:=by
 unfold O9 at h;rw[JP,EG]at h;have H:k<y.length:=aa
 refine⟨H,?_⟩;have g:y.getD k 0=y[k]:=by rw[AM];simp[H]
 unfold L4;rw[AN b,AN (show k+1<=y.length from H),AH H,g];conv=>lhs;unfold G1
 rw[AL (fun a=>by rw[g,a.1,a.2]at h;simp at h),pM y k H]
def lj(line word:Bs)(first:Bool):(Hs line word first).1.length+(Hs line word first).2.length<=line.length+word.length+2:=by
 unfold Hs;split<;>simp<;>omega
def pN(v:Value)(l:List A4)(w:World)(hr:Cq w v l)(c1:l.length<=1000000)(a3:∀f∈l,f.1.length<=1000000/\f.2.length<=1000000):Calls prog 215 #[v] w fun e w'=>Xq 1 (D7 l) e/\Below w.heap.size w w':=by
 have b6:=AE a3;clear a3;obtain⟨a,c2,rfl,hc⟩:=hr.open;have HC:=AE hc;clear hc hr;have K:=A0.new w #[.int .i64 0,.int .i64 0] 113;have B:=(AG w.heap.size w).alloc (AF _) (.cells #[.int .i64 0,.int .i64 0] 113);have b7:=fun W=>U1 0 W
 go_enter func215,ntmps215;go_wp2_with fail;generalize w.alloc (.cells #[.int .i64 0,.int .i64 0] 113)=w1 at K B|-;go_loopw[4,13] (fun o i wr=>∃(k:Nat)(O:Bs),o=O/\i=k/\k<=l.length/\O.length<=k*5000010/\Hid ((G0 (l.drop k)).map (O++·)=G0 l)/\bE wr w.heap.size/\Below w.heap.size w wr) (fun _ i _=>l.length-(intOf i).toNat)
 case atStart=>exact⟨0,[],rfl,rfl,aa,ah,AE ah,K,B⟩
 clear K B;obtain⟨k,O,rfl,rfl,hk,c3,J,K,B⟩:=hrel;by_cases a4:k<l.length
 ·obtain⟨b,rfl,a5,h1,h2⟩:=HC.o k a4;have P:=b6.o l[k] (AQ _);have D:=AE (by rw[AH a4,yZ];rfl:G0 (l.drop k)=if Ck [l[k]]then(G0 (l.drop (k+1))).map (G1 l[k].2 true (l[k].1++[58,32]) [] true++·)else none);have Q:=(B.cell (p:=⟨b,k*2,none⟩) a5).trans h1;have S:=(B.cell (p:=⟨b,k*2+1,none⟩) a5).trans h2;clear h1 h2;generalize l[k]=f at P D Q S;obtain⟨x,y⟩:=f;simp only at P D Q S;obtain⟨hx,hy⟩:=P;have u:=(A0.new wr #[x,y] 92).alloc (.cells #[x,y] 92);have U:=eG (wr.alloc (.cells #[x,y] 92)) x y 92;have K:=(K.alloc (.cells #[x,y] 92)).alloc (.cells #[x,y] 92);have B:=(B.alloc B.size (.cells #[x,y] 92)).alloc (B.alloc B.size (.cells #[x,y] 92)).size (.cells #[x,y] 92);rw[AX]at U;have V:=jN _ [(x,y)] _ U ⟨ah,fun q hq=>by simp at hq;subst hq;exact⟨ag,ag⟩⟩;generalize Ck [(x,y)]=rf at V D;go_wp2_with fail;with_reducible refine V.mono ?_
  rintro e w2⟨rfl,L⟩;have u:=u.next L u.lt;have K:=K.next L K.lt;have B:=B.trans (L.mono B.size);clear L U Q S V;cases rf with
  |false=>
   have X:=AE (by unfold D7;rw[<-J.o,D.o];rfl:D7 l=none);have a6:=K.cell 0;have a7:=K.cell 1;have b8:=K.free;go_wp2_with fail;refine AO (v:=.tuple #[.string ⟨#[]⟩,.agg #[.int .i64 1,k]]) (by simp[results,results215,go_sem,a6,a7]) rfl ⟨Or.inr ⟨X.o,_,rfl⟩,(B.setCell (AF _) _).setCell (AF _) _⟩
  |true=>
   have HT:=AE (show(G0 (l.drop (k+1))).map ((O++L4 y 0 (x++[58,32]) [] true)++·)=G0 l from by
    rw[<-J.o,D.o];have:L4 y 0 (x++[58,32]) [] true=G1 y true (x++[58,32]) [] true:=by
     unfold L4;rw[AN (DE _)];rfl
    rw[this];simp only[DK];cases G0 (l.drop (k+1))<;>simp)
   clear D J;have a6:=u.cell 0;have a7:=u.cell 1;generalize a8:O++L4 y 0 (x++[58,32]) [] true=T at HT;have a9:=AE a8;clear a8;go_wp2_with fail;go_loopw[4,7,8,9,10] (fun o ln wd fs j g=>∃(m:Nat)(A line word:Bs)(first:Bool),o=A/\ln=line/\wd=word/\fs=first/\j=m/\m<=y.length+1/\A.length+line.length+word.length<=O.length+x.length+2+3*m/\Hid (A++L4 y m line word first=T)/\g=w2) (fun _ _ _ _ j _=>y.length+1-(intOf j).toNat)
   case atStart=>exact⟨0,O,x++[58,32],[],true,rfl,ah,rfl,rfl,rfl,aa,ag,a9,rfl⟩
   clear a9;obtain⟨m,A,line,word,first,rfl,rfl,rfl,rfl,rfl,hm,c4,r,rfl⟩:=hrel;by_cases b0:m<=y.length
   ·have c5:(m:Int)<=y.length:=by omega
    have Y:=AE (fun h=>lh (y:=y) (k:=m) (line:=line) (word:=word) (first:=first) b0 h);have Z:=AE (fun h=>lg (y:=y) (k:=m) (line:=line) (word:=word) (first:=first) b0 h);go_upto_region 12 with fail;go_cut[57] (fun t g=>t=.bool (O9 y m)/\g=wr)
    case first=>
     by_cases b1:m=y.length
     ·subst b1;have E:=AE (by unfold O9;simp:O9 y y.length=true);go_wp2;go_meet;exact⟨by rw[E.o],rfl⟩
     have c:m<y.length:=aa
     have c6:((m:Int)==(y.length:Int))=false:=di
     have c7:((0:Int)==(y.length:Int))=false:=di
     have n:y.getD m 0=y[m]:=by rw[AM];simp[c]
     have c8:(y[m].toNat:Int)<256:=by have:=y[m].toNat_lt;omega
     have E:=AE (by unfold O9;rw[AY b1,n,F2];rfl:O9 y m=(((y[m].toNat:Int)==32)&&Rd y m));by_cases s:((y[m].toNat:Int)==32)=true
     ·by_cases b2:m=0
      ·subst b2;go_wp2;go_meet;exact⟨by rw[E.o,s];rfl,rfl⟩
      have b9:m-1<y.length:=aa
      have a0:y.getD (m-1) 0=y[m-1]:=by rw[AM];simp[b9]
      have b3:=AE (by unfold Rd;rw[AY b2,a0,bne,F2];rfl:Rd y m=!((y[m-1].toNat:Int)==32));have c9:wrap64 ((m:Int)-1)=((m-1:Nat):Int):=da
      have d0:((m:Int)==0)=false:=di
      have d1:(y[m-1].toNat:Int)<256:=by have:=y[m-1].toNat_lt;omega
      cases b4:((y[m-1].toNat:Int)!=32)with
      |false=>
       have a1:=AE (Qt b4);go_wp2;go_meet;exact⟨by rw[E.o,b3.o,s,a1.o];rfl,rfl⟩
      |true=>
       have a1:=AE (Qs b4);go_wp2;go_meet;exact⟨by rw[E.o,b3.o,s,a1.o];rfl,rfl⟩
     have s:=AT.2 s;go_wp2;go_meet;exact⟨by rw[E.o,s];rfl,rfl⟩
    case rest=>
    obtain⟨rfl,d⟩:=hcut;obtain rfl:=d.symm;clear d;cases M:O9 y m with
    |false=>
     obtain⟨c,z⟩:=Y.o M;have H:=AE (by rw[<-r.o,z]:A++L4 y (m+1) line (word++[y.getD m 0]) first=T);have T1:=AE (by rw[AH c];rfl:(y.drop m).take 1=[y[m]]);have n:y.getD m 0=y[m]:=by rw[AM];simp[c]
     rw[n]at H;clear M z Y Z r n;go_wp2;go_roundw
     case rel=>exact⟨m+1,A,line,word++[y[m]],first,rfl,rfl,by first|(simp;done)|(simp;exact T1.o),rfl,aj,aa,ag,H,bo⟩
     simp[intOf];omega
    |true=>
     have z:=Z.o M;have H:=AE (by rw[<-r.o,z,AP]:(A++(Hs line word first).1)++L4 y (m+1) (Hs line word first).2 (if m<y.length then[y.getD m 0]else[]) false=T);have a2:=lj line word first
     have R:=AE (ca:Hs line word first=if !first&&(!word.isEmpty&&decide (76<line.length+word.length))then(line++[13,10],word)else([],line++word));clear M z Y Z r;generalize Hs line word first=fr at H a2 R
     obtain⟨N,f2⟩:=fr;simp only at H a2 R;go_upto_region 13 with fail;go_cut[71] (fun t g=>t=.bool (!first&&(!word.isEmpty&&decide (76<line.length+word.length)))/\g=wr)
     case first=>
      cases first with
      |true=>
       go_wp2;go_meet;exact⟨rfl,rfl⟩
      |false=>
       cases b5:word.isEmpty with
       |true=>
        have HW:=AE b5;go_wp2;go_meet;exact⟨by rw[HW.o];rfl,rfl⟩
       |false=>
        have HW:=AE b5;go_wp2;go_meet;exact⟨by rw[HW.o,Value.bool.injEq];simp only[EN,FR,decide_eq_decide];omega,rfl⟩
     case rest=>
     obtain⟨rfl,d⟩:=hcut;obtain rfl:=d.symm;clear d;generalize(!first&&(!word.isEmpty&&decide (76<line.length+word.length)))=q at R|-;go_upto_if 71 with fail;go_cut[4,7] (fun s1 s2 g=>∃g1 G:Bs,s1=g1/\s2=G/\g1=A++N/\G++word=f2/\g=wr)
     case first=>
      cases q with
      |true=>
       have C:=R.o;simp only[DK,EB]at C;obtain⟨F,I⟩:=C;have E1:=AE F;have E2:=AE I;clear F I R;go_wp2;go_meet;exact⟨A++(line++[13,10]),[],ah,rfl,by rw[E1.o],by rw[E2.o];rfl,rfl⟩
      |false=>
       have C:=R.o;simp only[CC,DM,EB]at C;obtain⟨F,I⟩:=C;have E1:=AE F;have E2:=AE I;clear F I R;go_wp2;go_meet;exact⟨A,line,rfl,rfl,by rw[E1.o];simp,by rw[E2.o],rfl⟩
     case rest=>
     obtain⟨g1,G,rfl,rfl,a0,c0,d⟩:=hcut;obtain rfl:=d.symm;clear d R;subst a0 c0;have d2:A.length+N.length+(G.length+word.length)<=O.length+x.length+2+3*m+2:=by simp at a2;omega
     by_cases c:m<y.length
     ·have n:y.getD m 0=y[m]:=by rw[AM];simp[c]
      rw[AN c,n]at H;have T1:=AE (by rw[AH c];rfl:(y.drop m).take 1=[y[m]]);clear n;go_wp2;go_roundw
      case rel=>exact⟨m+1,A++N,G++word,[y[m]],false,ah,ah,by first|(simp;done)|(simp;exact T1.o),rfl,aj,aa,ag,H,bo⟩
      simp[intOf];omega
     obtain rfl:m=y.length:=aa
     rw[AL c]at H;go_wp2;go_roundw
     case rel=>exact⟨y.length+1,A++N,G++word,[],false,ah,ah,ah,rfl,aj,aa,ag,H,bo⟩
     simp[intOf]<;>omega
   obtain rfl:m=y.length+1:=aa
   have H:=AE (show A++(line++[13,10])=T from by
    rw[<-r.o];unfold L4;rw[AL aa])
   have d3:¬((y.length:Int)+1<=y.length):=aa
   clear r;go_wp2;go_roundw
   case rel=>exact⟨k+1,T,by first|(rw[<-H.o];done)|(rw[<-H.o];simp),aj,aa,by rw[<-H.o];simp;omega,HT,K,B⟩
   simp[intOf];omega
 obtain rfl:k=l.length:=aa
 have X:=AE (by unfold D7;rw[<-J.o,AS];simp[G0]:D7 l=some (O++[13,10]));go_wp2_with fail;with_reducible refine(b7 _).mono ?_
 rintro e w2⟨rfl,hb⟩;have K:=K.next hb K.lt;have B:=B.trans (hb.mono B.size);have kc:=K.cell;have b8:=K.free;clear hb;go_wp2_with fail;refine AO (v:=.tuple #[(O++[13,10]:Bs),.agg #[.int .i64 0,.int .i64 (-1)]]) (by simp[results,results215,go_sem,kc]) rfl ⟨Or.inl ⟨_,X.o,rfl⟩,(B.setCell (AF _) _).setCell (AF _) _⟩
noncomputable def Pw:Code:=Ak (Ak (Ak (Ak (Ak (Ak ((f127.body).getD .skip))))))
noncomputable def Re:Code:=Ak Pw
noncomputable def Rf:Code:=Ak (Ak (Ak (Ak (Ak Re))))
noncomputable def Xr:Code:=Ak Rf
def Xq.get{n:Int}(h:Xq n r e):∃i j:Int,e=.returned (.tuple #[r.getD [],.agg #[i,j]]):=by
 rcases h with⟨t,rfl,rfl⟩|⟨rfl,i,rfl⟩
 ·exact⟨_,_,rfl⟩
 exact⟨_,_,rfl⟩
def lk(b x:Bs)(l:List Bs):Eo b (x::l)=45::45::(b++13::10::(x++[13,10]))++Eo b l:=by simp[Eo]
def lp{P:Nat}{Q:Option Go.Addr}{m:Nat}
  (r:Ho 250 [(3,.pointer (some ⟨P,0,none⟩)),(9,true),(11,.slice Q q.length m),(18,b),(19,.slice l L.length o)] d) (s:F9 1 Bl w (.slice Q q.length m) q) (t:Cq w (.slice l L.length o) L) (n:L.length<=1000000/\∀f∈L,f.1.length<=1000000/\f.2.length<=1000000) (u:((D7 L).getD []).length<=1000000000000) (a1:(Eo b q).length<=1000000000000) (a2:b.length<=1000) (a3:q.length<=1000000)
  (v:∀y,Below w.heap.size w y->p (.returned (.tuple #[(((D7 L).getD [])++(Eo b q++45::45::(b++[45,45,13,10])):Bs),.int .i64 0])) y):
  Code.wp prog Xr (bodyPost prog f127 p) d w:=by
 obtain⟨fr,rfl⟩:=r.op;clear r;simp only[Fp,↓reduceIte,Nat.reduceAdd,Nat.reduceEqDiff];generalize N:bodyPost prog f127 _=QQ;delta Xr Rf Re Pw f127;dsimp only[Ak,Option.getD];subst N;have R:=AE v;have c:=pN _ L w t n.1 n.2;generalize D7 L=rw at c R u;generalize z:rw.getD []=h at R u;clear v t n;go_wp2_with fail;with_reducible refine c.mono ?_
 rintro e O⟨C,D⟩;obtain⟨i,j,rfl⟩:=C.get;rw[z];have B:Below w.heap.size w (O.alloc (.cells #[i,j] 113)):=D.alloc D.size _;have E:=s.next B;obtain⟨a4,a5,S,F⟩:=E.opens By;injection S with T U V;subst T V;clear U c C z s E;have G:=AE F;clear F;go_wp2_with fail;generalize World.alloc _ _=W at B G|-;go_loopw[28,201] (fun X I wr=>∃(k:Nat)(a:Bs),X=a/\I=k/\k<=q.length/\Hid (a++Eo b (q.drop k)=h++Eo b q)/\wr=W) (fun _ I _=>q.length-(intOf I).toNat)
 case atStart=>exact⟨0,h,rfl,rfl,aa,AE (by rw[DR]),rfl⟩
 obtain⟨k,a,rfl,rfl,hk,A,rfl⟩:=hrel;by_cases J:k<q.length
 ·obtain⟨g,rfl,_,K⟩:=G.o k J;have Y:wr.cell? ⟨g,k,none⟩=some (q[k]):=by
   have:=K 0 ae;simpa[Bl]using this
  have H:=AE (show a++(45::45::(b++13::10::(q[k]++[13,10])))++Eo b (q.drop (k+1))=h++Eo b q from by
   rw[<-A.o,AH J,lk];simp)
  have M:=CI List.length H.o;simp only[AJ,AK,BG]at M;have Z:a.length<=2000000000000:=aa
  have a0:(q[k]).length<=2000000000000:=aa
  clear A K M;generalize q[k]=x at Y H a0;go_wp2;go_roundw
  case rel=>exact⟨k+1,_,rfl,aj,aa,AE (by rw[<-H.o]),bo⟩
  simp[intOf];omega
 obtain rfl:k=q.length:=aa
 have H:=AE (by have:=A.o;rw[AS]at this;simpa[Eo]using this:a=h++Eo b q);have Z:a.length<=2000000000000:=by have:=CI List.length H.o;simp at this;omega
 have h2:=H.o;subst h2;clear A H;go_wp2_with fail;exact R.o _ B
def lq
  (T:Ho 250 [(3,.pointer (some ⟨M,0,none⟩)),(9,false),(11,.slice qa qs.length qc),(18,b),(19,.slice O L.length S)] K) (k:A0 w M #[x0,body,x2,x3] 44) (d:Bt w B (.slice O L.length S) L) (hB:B<=w.heap.size) (U:L.length<=999999/\∀f∈L,f.1.length<=1000000/\f.2.length<=1000000) (a9:body.length<=40000000) (l:∀g,g.length<=16->((D7 (L++[(Bn,g)])).getD []).length<=1000000000000)
  (V:∀m,Below B w m->P (.returned (.tuple #[(((D7 (L++[(Bn,(Cv body).1)])).getD [])++(Cv body).2:Bs),.int .i64 0])) m):
  Code.wp prog Xr (bodyPost prog f127 P) K w:=by
 obtain⟨fr,rfl⟩:=T.op;clear T;simp only[Fp,↓reduceIte,Nat.reduceAdd,Nat.reduceEqDiff];generalize a2:bodyPost prog f127 _=QQ;delta Xr Rf Re Pw f127;dsimp only[Ak,Option.getD];subst a2;have R:=AE V;have a3:=AE l;have u:=AE U;have a:=AE (show(Js body=true->Cv body=(Kl,body))/\(Js body=false->(Dn body).length<(E5 body).length->Cv body=(Jq,Dn body))/\(Js body=false->¬(Dn body).length<(E5 body).length->Cv body=(I2,E5 body))from⟨mB,fun h h2=>mD h aa,fun h h2=>mC h aa⟩);have A:∀W,Calls prog 216 #[body] W fun e m=>e=.returned (.bool (Js body))/\m=W:=fun W=>by
  have h:=AB body W aa;rw[yX body.length body (AF _)]at h;exact h
 have z:=fun W=>jQ body W aa
 have C:=fun W=>kB body W aa
 have X:=k.cell;generalize Js body=pq at A a;generalize a4:Cv body=sh at R a;have Y:=Q4 body;have Z:(Dn body).length<=2*body.length+6:=Ue body 0;clear a4 V l U;generalize E5 body=q at z a Y;generalize Dn body=p at C a Z;go_upto_region 50 with fail;go_quiet(fail);have Q:=CO (AG w.heap.size w) nq;generalize w.drewN nq=w0 at Q|-;have k:=k.next Q k.lt;have X:=k.cell;go_upto_if 225 with(with_reducible refine(A _).mono ?_;rintro e D⟨rfl,g⟩;obtain rfl:=g.symm);go_cut[32,33] (fun x y wx=>∃H t:Bs,x=H/\y=t/\Hid (sh=(H,t))/\H.length<=16/\t.length<=1000000000/\Below w.heap.size w wx)
 case first=>
  cases pq with
  |true=>
   have N:=AE (a.o.1 rfl);go_wp2;go_meet;exact⟨Kl,body,rfl,rfl,N,ae,aa,Q⟩
  |false=>
   have E:=AE (a.o.2.1 rfl);have F:=AE (a.o.2.2 rfl);clear a;go_wp2_with fail;with_reducible refine(z _).mono ?_
   rintro e w2⟨rfl,G⟩;have k2:=(k.next G k.lt).cell;go_wp2_with fail;with_reducible refine(C _).mono ?_
   rintro e w3⟨rfl,n⟩;have o:=Q.trans ((G.trans (n.mono G.size)).mono Q.size);by_cases r:p.length<q.length
   ·have N:=AE (E.o r);have a5:(p.length:Int)<q.length:=by omega
    clear E F r;go_wp2;go_meet;exact⟨Jq,p,rfl,rfl,N,ae,aa,o⟩
   have N:=AE (F.o r);have a5:¬(p.length:Int)<q.length:=aa
   clear E F r;go_wp2;go_meet;exact⟨I2,q,rfl,rfl,N,ae,aa,o⟩
 case rest=>
 obtain⟨H,t,rfl,rfl,N,a6,b0,I⟩:=hcut;obtain⟨D,rfl⟩:∃x:World,x=wc:=⟨_,rfl⟩;have J:=R.o;rw[N.o]at J;have R:=AE J;have d:=A1.next d I;have b1:=I.size;clear a A z C Y Z N J X;have l:=a3.o H a6;have s:=AE (fun(W:World)(v:Value)(h:Bt W B v (L++[(Bn,H)]))=>pN v _ W (A1.rd ae Af h) (by have:=u.o.1;simp;omega) (fun f c=>by
  rcases BY.1 c with c|c
  ·exact u.o.2 f c
  simp at c;subst c;exact⟨by show Bn.length<=1000000;decide,ag⟩))
 have b2:=u.o.1;unfold Bn at s R l;generalize D7 (L++[([67,111,110,116,101,110,116,45,84,114,97,110,115,102,101,114,45,69,110,99,111,100,105,110,103],H)])=rw at s R l;generalize a0:rw.getD []=hd at R l;go_wp2_with(at_builtin;refine Q8 rfl _ _ rfl B _ L ([67,111,110,116,101,110,116,45,84,114,97,110,115,102,101,114,45,69,110,99,111,100,105,110,103],H) D.heap.size 1 rfl (A1.alloc d _) rfl (I0 D ([67,111,110,116,101,110,116,45,84,114,97,110,115,102,101,114,45,69,110,99,111,100,105,110,103],H) _) aa ag ?_;intro v' w2 a7 a8 a1);have B2:=((I.mono (B':=B) hB).alloc aa (.cells #[.string ⟨#[67,111,110,116,101,110,116,45,84,114,97,110,115,102,101,114,45,69,110,99,111,100,105,110,103]⟩,H] 92)).trans a1;have hW:=s.o _ _ a7;have b3:=B2.size;clear a8 a1 d s;with_reducible refine hW.mono ?_
 rintro e w3⟨hh,n⟩;obtain⟨i,j,rfl⟩:=hh.get;rw[a0];have o:=(B2.trans (n.mono aa)).alloc (by have:=n.size;omega) (.cells #[i,j] 113);clear hh a0 hW;go_wp2_with fail;exact R.o _ o
noncomputable def pO:Code:=Gj (Hc (Ak (Ak (Gj (Gj (Ak (Hc Rf)))))))
noncomputable def pP:Code:=Ak (Hc (Ak (Ak pO)))
def cD.get(h:cD B (Ay s) e w'):∃(m:Bs)(p:List A4)(k:Option Go.Addr)(K:Nat)(E:Int),e=.returned (.tuple #[m,.slice k p.length K,E])/\Kq w' B (.slice k p.length K) p/\(Ay s).getD ([],[])=(m,p)/\m.length<=s.length/\Dw s.length p:=by
 rcases h with⟨m,l,v,H,b,d⟩|⟨H,b⟩
 ·have n:=Ql H;obtain⟨a,c,g,_⟩:=A1.rd ae Af d;subst g;exact⟨m,l,a,c,_,b,d,uq,n.1,n.2⟩
 exact⟨[],[],_,_,_,b,A1.nil _ _ _ _ _,uq,ah,⟨ah,fun f i=>by cases i⟩⟩
def lr
  (L:A0 w o #[x,y] 92) (hv:y.length<=1000000) (hb:b.length<=1000000) (M:Gr w)
  (a2:Ho 250 [(9,true),(18,b),(22,.pointer (some ⟨o,0,none⟩)),(152,true)] ⟨F.toArray,[]⟩)
  (O:∀(R:World)(ac:Act),Kp [(0,20),(21,23),(28,153),(188,250)] [(20,true)] F ac->A0 R o #[x,Fa y b] 92->A5 o w.heap.size w R->Q .normal ac R):
  Code.wp prog pP Q ⟨F.toArray,[]⟩ w:=by
 obtain⟨fr,rfl⟩:=a2.Qc;clear a2;simp only[Fp,↓reduceIte,Nat.reduceAdd,Nat.reduceEqDiff]at O|-;let b5:=bodyPost prog f127 (fun _ _=>True);delta pP pO Rf Re Pw f127;dsimp only[Ak,Hc,Gj,Option.getD];have a7:=AE O;clear O;have hK:=Sy y w aa M.g;have N:=AE (ca:Fa y b=(Cl ((Ay y).getD ([],[])).1 (Cs ((Ay y).getD ([],[])).2 Ch b)).getD []);have kc:=L.cell;go_wp2_with fail;with_reducible refine hK.mono ?_
 rintro e w1⟨u,J⟩;obtain⟨m,P,U,a3,er,rfl,H,a4,b6,v⟩:=u.get;clear u hK kc;rw[a4]at N;have N:=AE (show Fa y b=(Cl m (Cs P Ch b)).getD []from N.o);have a5:=M.next J;have v:=v.mono hv;have hW:=fun W(h1:Cq W (.slice U P.length a3) (Cs P Ch b))(d:Cj W)=>cN m _ _ W h1 aa (aX hb v).1 (aX hb v).2 d
 have a6:=AE (ah:Cs P Ch b=P.take 0++Cs (P.drop 0) Ch b);have b7:=v.1;have b8:=J.size;clear a4;go_wp2_with fail;go_loopw[26,162] (fun dv V wr=>∃(k:Nat)(D:Bool)(C:List A4),dv=D/\V=k/\k<=P.length/\C.length=P.length/\Kq wr w.heap.size (.slice U P.length a3) C/\Hid ((D=true/\C=Cs P Ch b)\/(D=false/\C=P/\Cs P Ch b=P.take k++Cs (P.drop k) Ch b))/\Gr wr/\Below w.heap.size w wr) (fun _ V _=>P.length-(intOf V).toNat)
 case atStart=>exact⟨0,false,P,rfl,rfl,aa,rfl,H,AE (Or.inr ⟨rfl,rfl,a6.o⟩),a5,J⟩
 clear H a6 a5 J;obtain⟨k,D,C,rfl,rfl,b9,z,H,S,A,B⟩:=hrel;by_cases c0:k<P.length
 ·have r:k<C.length:=by omega
  obtain⟨g,a8⟩:∃g,U=some ⟨g,0,none⟩:=by
   obtain⟨a,c,h,E⟩:=Cq.open (A1.rd ae Af H);injection h with h _ _;obtain⟨b,d,_⟩:=E k r;exact⟨b,h.trans d⟩
  subst a8;have Y:=A1.cellAt Af H k r 0 ae;have Z:=A1.cellAt Af H k r 1 ae;have c1:=A1.free H;have a9:=A1.Ha H g rfl;have t:=H.X5 k r b;have G:=AE (fun(h:D=false)(E:(C[k]).1≠Ch)=>show C=P/\Cs P Ch b=P.take (k+1)++Cs (P.drop (k+1)) Ch b from by
   rcases S.o with d|⟨_,n,I⟩
   ·rw[h]at d;cases d.1
   subst n;exact⟨rfl,mG r E I⟩)
  have l:=AE (fun(h:D=false)(E:(C[k]).1=Ch)=>show C.set k ((C[k]).1,b)=Cs P Ch b from by
   rcases S.o with d|⟨_,n,I⟩
   ·rw[h]at d;cases d.1
   subst n;exact(mH r E I).symm)
  have T:=AE (fun(h:D=true)=>show C=Cs P Ch b from by
   rcases S.o with d|⟨n,_⟩
   ·exact d.2
   rw[h]at n;cases n)
  simp only[Bc,BI,AU,AR]at Y Z;generalize C[k]=f at Y Z t G l;obtain⟨X,y1⟩:=f;simp only at Y Z t G l;have i0:(0:Int)<=k:=aa
  have i1:(k:Int)<P.length:=aa
  cases D with
  |true=>
   have T:=AE (T.o rfl);generalize hq:(X==[98,111,117,110,100,97,114,121])=q;cases q with
   |true=>
    clear t G l;go_wp2;go_roundw
    case rel=>exact⟨k+1,true,C,rfl,aj,aa,z,H,AE (Or.inl ⟨rfl,T.o⟩),A,B⟩
    simp[intOf];omega
   |false=>
    clear t G l;go_wp2;go_roundw
    case rel=>exact⟨k+1,true,C,rfl,aj,aa,z,H,AE (Or.inl ⟨rfl,T.o⟩),A,B⟩
    simp[intOf];omega
  |false=>
   by_cases s:X=Ch
   ·have l:=AE (l.o rfl s);have b0:(X==[98,111,117,110,100,97,114,121])=true:=by rw[BL];exact s
    have b1:Gr (wr.setCell ⟨g,k*2+1,none⟩ b):=A.keep fun c hc=>D3 _ _ _ c (by have:=M.size;simp only;omega)
    have B2:=B.setCell (p:=⟨g,k*2+1,none⟩) a9 b;rw[l.o]at t;clear G l S T s H;go_wp2;go_roundw
    case rel=>exact⟨k+1,true,Cs P Ch b,rfl,aj,aa,aW _ _ _,t,AE (Or.inl ⟨rfl,rfl⟩),b1,B2⟩
    simp[intOf];omega
   have G:=AE (G.o rfl s);have b0:(X==[98,111,117,110,100,97,114,121])=false:=by rw[AI];exact s
   clear l s S T t;go_wp2;go_roundw
   case rel=>exact⟨k+1,false,C,rfl,aj,aa,z,H,AE (Or.inr ⟨rfl,G.o.1,G.o.2⟩),A,B⟩
   simp[intOf];omega
 obtain rfl:k=P.length:=aa
 have HC:=AE (show C=Cs P Ch b from by
  rcases S.o with d|⟨_,n,I⟩
  ·exact d.2
  rw[I,CY,AS,n];simp[Cs])
 have K:=A1.rd ae Af H;rw[HC.o,<-z]at K;have b2:C.length=P.length:=z;have a0:=hW _ (by rw[b2]at K;exact K) A.g;generalize Cl m (Cs P Ch b)=c2 at a0 N;clear S hW K HC;go_wp2_with fail;with_reducible refine a0.mono ?_
 rintro e w3⟨u,b3⟩;obtain⟨i,j,rfl⟩:=u.get;rw[<-N.o];have B3:=B.trans (b3.mono B.size);have a1:=L.next B3 L.lt;have c3:=a1.free;have c4:=a1.cell;have b4:A0 (w3.setCell ⟨o,1,none⟩ (Fa y b)) o #[x,Fa y b] 92:=a1.set 1 _;clear u a0 b3 H;go_wp2_with fail;refine a7.o _ _ ⟨_,rfl,rfl,af,rfl⟩ b4 ?_;exact(A5.of B3).set _
noncomputable def Px:Code:=Ak (Ak (Ak (Ak (Ak (Ak (Ak ((f26.body).getD .skip)))))))
noncomputable def Ux:Code:=Ak Px
noncomputable def pQ:Code:=Gj (Hc (Ak (Ak (Gj (Gj (Ak (Hc Px)))))))
noncomputable def pR:Code:=Ak (Hc (Ak pQ))
noncomputable def Xs:Code:=Gj (Hc (Ak (Ak (Gj (Gj (Ak (Hc Ux)))))))
noncomputable def pS:Code:=Hc (Ak (Ak Xs))
noncomputable def pT:Code:=Hc (Ak (Ak (Ak (Ak (Ak (Ak Xs))))))
def lz{d s:Nat}{k r:Int}
  (L:A0 w d #[x,y] 92) (a2:w.cell? ⟨s,0,none⟩=some (.pointer (some ⟨t,0,none⟩))) (a3:w.cell? ⟨C,0,none⟩=some k) (a4:w.cell? ⟨t,4,none⟩=some r)
  (hy:y.length<=100000) (a5:-9223372036854775808<=r) (a6:r<=9223372036854775807) (a7:-9223372036854775808<=k) (a8:k<=9223372036854775807) (u:Gz w)
  (a9:Ho 213 [(1,.pointer (some ⟨s,0,none⟩)),(6,.func (.func 72) #[] #[.pointer (some ⟨C,0,none⟩)]),(10,.pointer (some ⟨d,0,none⟩)),(56,true)] ⟨F.toArray,[]⟩)
  (N:∀(M:World)(ac:Act),Kp [(0,8),(9,11),(15,16),(17,57),(96,213)] [(8,false)] F ac->A0 M d #[x,Jy y (Co (64::98::itoa k) r)] 92->A5 d w.heap.size w M->Q .normal ac M):
  Code.wp prog pR Q ⟨F.toArray,[]⟩ w:=by
 obtain⟨fr,rfl⟩:=a9.Qc;clear a9;simp only[Fp,↓reduceIte,Nat.reduceAdd,Nat.reduceEqDiff]at N|-;let d5:=bodyPost prog f26 (fun _ _=>True);delta pR pQ Px f26;dsimp only[Ak,Hc,Gj,Option.getD];have b0:=AE N;clear N;have c3:s<w.heap.size:=BJ w _ a2;have c4:C<w.heap.size:=BJ w _ a3;have c5:t<w.heap.size:=BJ w _ a4;have hK:=Sy y w aa u.r.g;have c6:(Co (64::98::itoa k) r).length<=1000:=by
  have h1:=BE k a7 a8;have h2:=BE r a5 a6;unfold Co;simp;omega
 have O:=fun W hc u=>cL r k C W a5 a6 a7 a8 hc u
 generalize Co (64::98::itoa k) r=n at O c6 b0;have H:=AE (ca:Jy y n=(Cl ((Ay y).getD ([],[])).1 ((((Ay y).getD ([],[])).2.filter fun f=>!(f.1==Bw))++[(Bw,Fu n)])).getD []);have kc:=L.cell;go_wp2_with fail;with_reducible refine hK.mono ?_
 rintro e g⟨i,z⟩;obtain⟨m,P,ka,d6,er,rfl,c7,b1,d7,l⟩:=i.get;rw[b1]at H;have H:=AE (show Jy y n=(Cl m ((P.filter fun f=>!(f.1==Bw))++[(Bw,Fu n)])).getD []from H.o);have l:=l.mono (show y.length<=100000 by omega);have b2:=u.next z;have b3:=z.size;clear i hK b1 kc;have c8:=A1.Dq ae Af c7;have d8:=l.1;have c9:=AE l.2;clear l;go_wp2_with fail;go_loopw[14,66] (fun pv S wq=>∃(j:Nat)(o:List A4),S=j/\j<=P.length/\o.length<=j/\Kq wq g.heap.size pv o/\Hid (o++(P.drop j).filter (fun f=>!(f.1==Bw))=P.filter fun f=>!(f.1==Bw))/\Below g.heap.size g wq) (fun _ S _=>P.length-(intOf S).toNat)
 case atStart=>exact⟨0,[],rfl,aa,ah,A1.nil _ _ _ _ _,AE ah,AG _ _⟩
 obtain⟨j,o,rfl,hj,d9,A,D,B⟩:=hrel;by_cases b4:j<P.length
 ·obtain⟨qb,rfl,_,b5,T⟩:=c8.at Af j b4;have c0:=(B.cell (p:=⟨qb,j*2+0,none⟩) b5).trans (T 0 ae);have b6:=(B.cell (p:=⟨qb,j*2+1,none⟩) b5).trans (T 1 ae);have R:=AE (show(o++(if !(P[j].1==Bw)then P[j]::(P.drop (j+1)).filter (fun f=>!(f.1==Bw))else(P.drop (j+1)).filter (fun f=>!(f.1==Bw))))=P.filter fun f=>!(f.1==Bw)from by
   rw[<-D.o,AH b4,DB])
  clear T D;generalize P[j]=q at c0 b6 R;obtain⟨a,b⟩:=q;simp only[Bc,BI,AU,AR]at c0 b6 R;have U:=A1.next A ((AG wr.heap.size wr).alloc (AF _) (.cells #[a,b] 119));have E:=B.alloc B.size (.cells #[a,b] 119);have d0:=(A0.new wr #[a,b] 119).cell;unfold Bw at R;go_upto_region 18 with fail;generalize World.alloc _ _=wa at U E d0|-;generalize hq:(a==[115,116,97,114,116])=bq at R;cases bq with
  |true=>
   have V:=AE (show o++(P.drop (j+1)).filter (fun f=>!(f.1==Bw))=P.filter fun f=>!(f.1==Bw)from R.o);clear R;go_wp2;go_roundw
   case rel=>exact⟨j+1,o,aj,aa,aa,U,V,E⟩
   simp[intOf];omega
  |false=>
   have V:=AE (show(o++[(a,b)])++(P.drop (j+1)).filter (fun f=>!(f.1==Bw))=P.filter fun f=>!(f.1==Bw)from by
    have:=R.o;simp only[EN,DK]at this;rw[AP];exact this)
   clear R;have d1:=E.size;go_wp2_with(at_builtin;refine Tz rfl _ _ rfl g.heap.size _ o (a,b) wa.heap.size 1 rfl (A1.alloc U _) rfl (I0 wa (a,b) _) aa ag ?_;intro v' w9 G b7 I);go_wp2;go_roundw
   case rel=>exact⟨j+1,o++[(a,b)],aj,aa,ag,G,V,(E.alloc d1 _).trans I⟩
   simp[intOf];omega
 obtain rfl:j=P.length:=aa
 have X:=AE (by have:=D.o;simpa using this:o=P.filter fun f=>!(f.1==Bw));have J:=z.trans (B.mono b3);have Y:=b2.next B;have e0:=(J.cell (p:=⟨s,0,none⟩) c3).trans a2;have d2:=(J.cell (p:=⟨C,0,none⟩) c4).trans a3;have e1:=(J.cell (p:=⟨t,4,none⟩) c5).trans a4;have b8:=O _ d2 Y;have e2:=J.size;have e3:¬9223372036854775807<1+n.length:=aa
 have e4:¬9223372036854775807<n.length+1+1:=aa
 have Z:=AE (fun(W:World)(v:Value)(h:Kq W g.heap.size v (o++[(Bw,Fu n)]))(hG:Cj W)=>cN m v _ W (A1.rd ae Af h) aa ag (fun f c=>by
  rcases BY.1 c with c|c
  ·have:=c9.o f (by rw[X.o]at c;exact(DP.1 c).1);omega
  simp at c;subst c;exact⟨by show Bw.length<=1000000;decide,by simp[Fu];omega⟩) hG)
 have H:=AE (by rw[H.o,X.o]:Jy y n=(Cl m (o++[(Bw,Fu n)])).getD []);unfold Bw Fu at Z H;generalize Cl m (o++[([115,116,97,114,116],60::(n++[62]))])=e5 at Z H;clear D O X;go_wp2_with fail;with_reducible refine b8.mono ?_
 rintro e w5⟨rfl,K⟩;have A:=A1.next A K;have a0:=B.trans (K.mono B.size);have e6:=Y.next K;clear b8 K Y;go_wp2_with(at_builtin;refine Tz rfl _ _ rfl g.heap.size _ o ([115,116,97,114,116],60::(n++[62])) w5.heap.size 1 rfl (A1.alloc A _) rfl (I0 w5 ([115,116,97,114,116],60::(n++[62])) _) aa (by have:=a0.size;simp;omega) ?_;intro v' w9 G b7 I;have B9:=(a0.alloc a0.size (.cells #[([115,116,97,114,116]:Bs),(60::(n++[62]):Bs)] 119)).trans I;have b9:=Z.o w9 v' G (b2.next B9).r.g);with_reducible refine b9.mono ?_
 rintro e d3⟨i,c1⟩;obtain⟨i1,i2,rfl⟩:=i.get;rw[<-H.o];have c2:=z.trans ((B9.trans (c1.mono B9.size)).mono b3);have a1:=L.next c2 L.lt;have e7:=a1.free;have e8:=a1.cell;have d4:A0 (d3.setCell ⟨d,1,none⟩ (Jy y n)) d #[x,Jy y n] 92:=a1.set 1 _;clear i b9 c1 G b7 I;go_wp2_with fail;refine b0.o _ _ ⟨_,rfl,rfl,af,rfl⟩ d4 ?_;exact(A5.of c2).set _
def Uy(h:List A4)(body:Bs)(m:Bool)(b:Bs)(l:List Bs):Bs:=if m then((D7 (D0 m false b h)).getD [])++(Eo b l++45::45::(b++[45,45,13,10]))else((D7 (D0 m false b h++[(Bn,(Cv body).1)])).getD [])++(Cv body).2
def pU(h:List A4)(body:Bs)(m:Bool)(l:List Bs):Uy h body m (Cu l) l=R2 h body m l:=(ZV h body m l).symm
def pV(m n:Bool)(b:Bs)(l:List A4):Az (D0 m n b l)<=6*Az l+5*b.length:=by
 have h:=aY b (C8 l);have H:=X7 l;unfold D0;split<;>omega
def Xt{n:Nat}(h:∀o,r=some o->o.length<=n):(r.getD []).length<=n:=by
 cases r with
 |none=>simp
 |some o=>simpa using h o rfl
def mb{Q:List Bs}
  (a5:Ho 250 [(3,.pointer (some ⟨pb,0,none⟩)),(9,m),(11,.slice qa Q.length qc),(18,b),(19,.slice none 0 0),(20,false)] U) (V:A0 w pb #[.slice ha h.length hc,body,m,x3] 44) (hH:Cq w (.slice ha h.length hc) h) (b6:Az h<=120000) (a6:body.length<=40000000)
  (hQ:F9 1 Bl w (.slice qa Q.length qc) Q) (a7:(Eo b Q).length<=1000000000000) (i:b.length<=1000) (a8:Q.length<=1000000) (hg:Gr w)
  (hR:∀a,Below w.heap.size w a->P (.returned (.tuple #[Uy h body m b Q,.int .i64 0])) a):
  Code.wp prog Rf (bodyPost prog f127 P) U w:=by
 obtain⟨fr,rfl⟩:=a5.op;clear a5;simp only[Fp,↓reduceIte,Nat.reduceAdd,Nat.reduceEqDiff];have R:=AE hR;have HL:=AE (ca:D0 m false b h=D0 m false b h);have b7:=pV m false b h;have X:=F1 b6;have b8:=AE X.2;have d1:=X.1;clear hR X;have kc:=V.cell;obtain⟨d2,d3,b9,a9⟩:=hH.open;injection b9 with e1 e2 e3;subst e1 e3;have HC:=AE a9;clear a9 hH e2;generalize c0:bodyPost prog f127 _=QQ;delta Rf Re Pw f127;dsimp only[Ak,Option.getD];subst c0;go_upto_block 4 with fail;go_cut[19] (fun Z z=>∃(L:Option Go.Addr)(s:Nat),Z=.slice L (D0 m false b h).length s/\Bt z w.heap.size (.slice L (D0 m false b h).length s) (D0 m false b h)/\Below w.heap.size w z)
 case first=>
  clear hQ a7 a8 a6 R;go_wp2_with fail;go_loopw[19,20,134] (fun Z nv iv wr=>∃(k:Nat)(n:Bool)(O:List A4),nv=n/\iv=k/\k<=h.length/\O.length<=k/\Bt wr w.heap.size Z O/\Hid (O++D0 m n b (h.drop k)=D0 m false b h)/\Below w.heap.size w wr) (fun _ _ iv _=>h.length-(intOf iv).toNat)
  case atStart=>exact⟨0,false,[],rfl,rfl,aa,ah,A1.nil _ _ _ _ _,AE ah,AG _ _⟩
  obtain⟨k,n,O,rfl,rfl,d4,d5,H,A,B⟩:=hrel;by_cases a0:k<h.length
  ·obtain⟨g,rfl,b0,h1,C⟩:=HC.o k a0;have c1:=(B.cell (p:=⟨g,k*2,none⟩) b0).trans h1;have c2:=(B.cell (p:=⟨g,k*2+1,none⟩) b0).trans C;have D:=AH a0;have hf:=b8.o _ (AQ a0);have j:=AE (fun(q:(A2 (h[k]).1==A2 Bn)=true)=>show O++D0 m n b (h.drop (k+1))=D0 m false b h from by
    rw[<-A.o,D,ZS q])
   have c:=AE (fun(q:(A2 (h[k]).1==A2 Bn)=false)(E:((m&&!n)&&(A2 (h[k]).1==A2 C2))=false)=>show(O++[h[k]])++D0 m n b (h.drop (k+1))=D0 m false b h from by
    rw[<-A.o,D,ZT q E];simp)
   have d:=AE (fun(q:(A2 (h[k]).1==A2 Bn)=false)(E:((m&&!n)&&(A2 (h[k]).1==A2 C2))=true)=>show(O++[((h[k]).1,Fa (h[k]).2 b)])++D0 m true b (h.drop (k+1))=D0 m false b h/\m=true/\n=false from by
    simp only[BR]at E;obtain⟨⟨q3,q4⟩,q5⟩:=E;obtain rfl:n=false:=by cases n<;>simp at q4|-
    subst q3;refine⟨?_,rfl,rfl⟩;rw[<-A.o,D,ZU q q5];simp)
   clear A h1 C D;generalize h[k]=f at c1 c2 hf j c d;obtain⟨x,y⟩:=f;simp only at c1 c2 hf j c d;have F:=fun W=>Ix x W aa
   have K:=A0.new wr #[x,y] 92;have BA:=(AG wr.heap.size wr).alloc (AF _) (.cells #[x,y] 92);have a1:=AE (A1.Dj H);have H:=A1.next H BA;have G:=B.trans (BA.mono B.size);have c3:=B.size;have u:=K.cell;have b1:A2 Bn=[99,111,110,116,101,110,116,45,116,114,97,110,115,102,101,114,45,101,110,99,111,100,105,110,103]:=ae
   have b2:A2 C2=[99,111,110,116,101,110,116,45,116,121,112,101]:=ae
   rw[b1]at j c d;rw[b2]at c d;generalize A2 x=lx at F j c d;clear BA B b1 b2;go_wp2_with fail;generalize World.alloc _ _=w2 at K H G u|-;with_reducible refine(F _).mono ?_
   rintro e w3⟨rfl,I⟩;have K:=K.next I K.lt;have H:=A1.next H I;have J:=G.trans (I.mono G.size);have u:=K.cell;clear I G;cases M:(lx==[99,111,110,116,101,110,116,45,116,114,97,110,115,102,101,114,45,101,110,99,111,100,105,110,103])with
   |true=>
    have N:=AE (j.o M);clear j c d;go_wp2;go_roundw
    case rel=>exact⟨k+1,n,O,rfl,aj,aa,aa,H,N,J⟩
    simp[intOf];omega
   |false=>
   have c:=AE (c.o M);have d:=AE (d.o M);clear j;go_upto_region 29 with fail;go_cut[152] (fun t z=>t=.bool ((m&&!n)&&(lx==[99,111,110,116,101,110,116,45,116,121,112,101]))/\Below w3.heap.size w3 z)
   case first=>
    clear c d H K;cases m with
    |false=>
     go_wp2;go_meet;exact⟨rfl,AG _ _⟩
    |true=>
     cases n with
     |true=>
      go_wp2;go_meet;exact⟨rfl,AG _ _⟩
     |false=>
      go_wp2_with fail;with_reducible refine(F _).mono ?_
      rintro e w4⟨rfl,l⟩;go_wp2;go_meet;exact⟨rfl,l⟩
   case rest=>
   obtain⟨rfl,l⟩:=hcut;obtain⟨w4,rfl⟩:∃x:World,x=wc:=⟨_,rfl⟩;have K:=K.next l K.lt;have H:=A1.next H l;have r:=J.trans (l.mono J.size);have u:=K.cell;have c4:=r.size;clear l J F M;cases S:((m&&!n)&&(lx==[99,111,110,116,101,110,116,45,116,121,112,101]))with
   |false=>
    have N:=AE (c.o S);clear c d S;go_wp2_with(at_builtin;refine Q8 rfl _ _ rfl w.heap.size _ O (x,y) w4.heap.size 1 rfl (A1.alloc H _) rfl (I0 w4 (x,y) _) aa ag ?_;intro v' w9 a2 a3 v);have B9:=(r.alloc r.size (.cells #[x,y] 92)).trans v;clear a3 v;go_wp2;go_roundw
    case rel=>exact⟨k+1,n,O++[(x,y)],rfl,aj,aa,ag,a2,N,B9⟩
    simp[intOf];omega
   |true=>
    obtain⟨b3,hm,c5⟩:=d.o S;have N:=AE b3;subst hm c5;have c6:=hg.next r;clear c d S b3;apply_assumption;have c7:y.length<=1000000:=by have:=hf.2;omega
    have c8:b.length<=1000000:=aa
    refine lr K c7 c8 c6 ⟨_,rfl,rfl,rfl⟩ ?_;intro w5 U b4 b5 a4;obtain⟨gr,rfl⟩:=b4.op;clear b4;simp only[List.foldl,List.set,Kk,↓reduceIte,Nat.reduceAdd,Nat.reduceLeDiff,Nat.reduceEqDiff];have H:=A1.J1 H fun g hv=>a4.block g (by have:=a1.o g hv;have:=K.lt;omega) (fun e=>by have:=a1.o g hv;omega)
    have B5:Below w.heap.size w w5:=((A5.of (lb:=wr.heap.size) r).trans (a4.mono c4)).shut c3;have u:=b5.cell;generalize Fa y b=Y at b5 u N;clear K a4 r a1;go_wp2_with(at_builtin;refine Q8 rfl _ _ rfl w.heap.size _ O (x,Y) w5.heap.size 1 rfl (A1.alloc H _) rfl (I0 w5 (x,Y) _) aa (by have:=B5.size;simp;omega) ?_;intro v' w9 a2 a3 v);have B9:=(B5.alloc B5.size (.cells #[x,Y] 92)).trans v;clear a3 v;go_wp2;go_roundw
    case rel=>exact⟨k+1,true,O++[(x,Y)],rfl,aj,aa,ag,a2,N,B9⟩
    simp[intOf];omega
  obtain rfl:k=h.length:=aa
  have N:=AE (by have:=A.o;rw[AS,ZR,BU]at this;exact this:O=D0 m false b h);obtain⟨L,s,c9,_⟩:=A1.rd ae Af H;subst c9;go_wp2;go_meet;rw[N.o]at H;exact⟨L,s,fo,H,B⟩
 case rest=>
 obtain⟨L,s,rfl,H,B⟩:=hcut;obtain⟨w1,rfl⟩:∃x:World,x=wc:=⟨_,rfl⟩;have T:=AE ((F1 (AV b7 (show 6*Az h+5*b.length<=1000000 by omega))));have d6:(D0 m false b h).length<=1000000:=T.o.1;have d0:=V.next B V.lt;apply_assumption;cases m with
 |true=>
  have R:=AE (fun a(i:Below w.heap.size w a)=>show P (.returned (.tuple #[.string ⟨((((D7 (D0 true false b h)).getD [])++(Eo b Q++45::45::(b++[45,45,13,10])))).toArray⟩,.int .i64 0])) a from R.o a i);exact lp ⟨_,rfl,rfl,rfl⟩ (hQ.next B) (A1.rd (by decide) Af H) ⟨T.o.1,T.o.2⟩ (Xt fun o ho=>by have:=Sr ho;omega) a7 i a8 (fun a i=>R.o a (B.trans (i.mono B.size)))
 |false=>
  have R:=AE (fun a(i:Below w.heap.size w a)=>show P (.returned (.tuple #[(((D7 (D0 false false b h++[(Bn,(Cv body).1)])).getD [])++(Cv body).2),.int .i64 0])) a from R.o a i);refine lq ⟨_,rfl,rfl,rfl⟩ d0 H B.size ⟨?_,T.o.2⟩ a6 (fun hw d7=>Xt fun o ho=>?_) (fun a i=>R.o a (B.trans i))
  ·have h1:(D0 false false b h).length<=Az (D0 false false b h):=S4 _;have C:Az (D0 false false b h)<=Az h:=X7 h;omega
  have:=Sr ho;rw[Qm]at this;have C:Az [(Bn,hw)]=Bn.length+hw.length+1:=by simp[Az]
  have h3:Bn.length=25:=ae
  omega
end Go.Proofs.YtignjjnflcpiiaaGreatDoor
