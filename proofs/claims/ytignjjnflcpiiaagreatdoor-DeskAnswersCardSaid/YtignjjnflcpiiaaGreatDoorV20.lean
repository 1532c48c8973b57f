/- part.boundary, part.decode. Condition: at most 10^6 field -/
import Derived.Test.YtignjjnflcpiiaaGreatDoorV04
import Derived.Test.YtignjjnflcpiiaaGreatDoorV13
import Derived.Test.YtignjjnflcpiiaaGreatDoorV17
set_option maxHeartbeats 16000000
set_option maxRecDepth 100000 set_option linter.all false
namespace Go.Proofs.YtignjjnflcpiiaaGreatDoor
open Go Go.RowKit Proofs.Tryz Lib
variable {l:List A4}{n k i m B:Nat}{out xs:List Bs}{op:Option Nat}{s b:Bs}{w:World}{β α:Type}{v:Value}
def Dw.ok(h:Dw n l)(H:n<=1000000000000):Nk l:=⟨AV h.1 H,fun f a=>⟨AV (h.2 f a).1 H,AV (h.2 f a).2 H⟩⟩
def VM(r:Option (Option Bs))(e:Ending):Prop:=(∃b,r=some (some b)/\e=.returned (.tuple #[.string ⟨b.toArray⟩,true,.nilIface]))\/(r=some none/\e=.returned (.tuple #[.string ⟨#[]⟩,false,.nilIface]))\/(r=none/\e=.returned (.tuple #[.string ⟨#[]⟩,false,.iface 30 (.int .i64 3)]))
def aU(v:Value)(l:List A4)(w:World)(o:Cq w v l)(k:Dw 1000000 l)(q:Gr w):Calls prog 164 #[v] w fun e C=>VM (Bo l) e/\Below w.heap.size w C:=by
 have G:=Rp v l C2 w o (k.ok ae) ae;have H:=AE (ca:Bo l=match Aj l C2 with|none=>some none|some v=>match Ay v with|none=>none|some (m,p)=>if hasPrefix m Mb then(match Cc p Ch with|none=>none|some b=>if Km b then none else some (some b))else some none);have a:=fun x=>Mc (n:=1000000) (s:=C2) (v:=x) k
 unfold C2 at G H a;generalize Aj l _=r at G H a;have D:w.cell? ⟨2,0,none⟩=some (.string ⟨#[67,111,110,116,101,110,116,45,84,121,112,101]⟩):=q.ours 0 ae;clear k o;cases r with
 |none=>
  have N:=AE (show Bo l=some none from H.o);clear H a;go_enter func164,ntmps164;go_wp2_with fail;with_reducible refine G.mono ?_
  rintro e E⟨rfl,B⟩;go_wp2;go_ret3;exact⟨Or.inr (Or.inl ⟨N.o,rfl⟩),B⟩
 |some x=>
  have V:=a x rfl;clear a;have K:=fun W F=>Qr x W aa F
  have d:=fun m p(h:Ay x=some (m,p))=>Ql h
  have H:=AE (show Bo l=match Ay x with|none=>none|some (m,p)=>if hasPrefix m Mb then(match Cc p Ch with|none=>none|some b=>if Km b then none else some (some b))else some none from H.o);generalize Ay x=X at K H d;go_enter func164,ntmps164;go_wp2_with fail;with_reducible refine G.mono ?_
  rintro e E⟨rfl,B⟩;have I:=(q.next B).g;clear D G;go_wp2_with fail;with_reducible refine(K _ I).mono ?_
  rintro e t⟨J,u⟩;have f:=B.trans (u.mono B.size);clear K u;rcases J with⟨m,p,L,rfl,rfl,y⟩|⟨rfl,rfl⟩
  case inr=>
   have N:=AE (show Bo l=none from H.o);clear H d;go_wp2;go_ret3;exact⟨Or.inr (Or.inr ⟨N.o,rfl⟩),f⟩
  obtain⟨Y,j⟩:=d m p rfl;have H:=AE (show Bo l=if hasPrefix m Mb then(match Cc p Ch with|none=>none|some b=>if Km b then none else some (some b))else some none from H.o);have M:=L6 m Mb t;have z:=A1.rd ae Af y;have P:=gQ L p Ch t z (by have:=j.1;omega);have g:=fun b=>W7 (s:=Ch) (v:=b) j
  clear d y z j;unfold Mb at M H;unfold Ch at P H g;generalize hasPrefix m _=O at M H;generalize Cc p _=R at P H g;go_wp2_with fail;with_reducible refine M.mono ?_
  rintro e Z⟨rfl,rfl⟩;cases O with
  |false=>
   have N:=AE (show Bo l=some none from H.o);clear H P M;go_wp2;go_ret3;exact⟨Or.inr (Or.inl ⟨N.o,rfl⟩),f⟩
  |true=>
   clear M;go_wp2_with fail;with_reducible refine P.mono ?_
   rintro e Q⟨rfl,A⟩;have c:=f.trans (A.mono f.size);clear A P;cases R with
   |none=>
    have N:=AE (show Bo l=none from H.o);clear H;simp only[EH,FB];go_wp2;go_ret3;exact⟨Or.inr (Or.inr ⟨N.o,rfl⟩),c⟩
   |some b=>
    have a0:=g b rfl;have H:=AE (show Bo l=if Km b then none else some (some b)from H.o);clear g;simp only[DA,EE];by_cases h0:b=[]
    ·have N:=AE (by rw[H.o,h0];rfl:Bo l=none);subst h0;clear H;go_wp2;go_ret3;exact⟨Or.inr (Or.inr ⟨N.o,rfl⟩),c⟩
    have T:b.isEmpty=false:=ed
    by_cases i:70<b.length
    ·have N:=AE (by rw[H.o];unfold Km;rw[BH i];simp:Bo l=none);have i:(70:Int)<b.length:=by omega
     clear H;go_wp2;go_ret3;exact⟨Or.inr (Or.inr ⟨N.o,rfl⟩),c⟩
    have S:=dM b [32] Q aa;have H:=AE (by rw[H.o];unfold Km;rw[AY i,T];rfl:Bo l=if hasSuffix b [32]then none else some (some b));have i:¬(70:Int)<b.length:=aa
    generalize hasSuffix b [32]=U at S H;go_wp2_with fail;with_reducible refine S.mono ?_
    rintro e w5⟨rfl,rfl⟩;cases U with
    |true=>
     have N:=AE (show Bo l=none from H.o);clear H S;go_wp2;go_ret3;exact⟨Or.inr (Or.inr ⟨N.o,rfl⟩),c⟩
    |false=>
     have N:=AE (show Bo l=some (some b)from H.o);clear H S;go_wp2;go_ret3;exact⟨Or.inl ⟨b,N.o,rfl⟩,c⟩
def VN(r:Except Int Bs)(e:Ending):Prop:=(∃o,r=.ok o/\e=.returned (.tuple #[.string ⟨o.toArray⟩,.nilIface]))\/(∃n,r=.error n/\(n=3\/n=5)/\e=.returned (.tuple #[.string ⟨#[]⟩,.iface 30 (.int .i64 n)]))
def VO(v:Value)(l:List A4)(s:Bs)(w:World)(t:Cq w v l)(m:Dw 1000000 l)(E:s.length<=1000000)(p:Gr w):Calls prog 165 #[v,s] w fun e u=>VN (Dd l s) e/\Below w.heap.size w u:=by
 have G:=Rp v l Bn w t (m.ok ae) ae;have H:=AE (ca:Dd l s=match Aj l Bn with|none=>.ok s|some v=>if A2 v=Kl\/A2 v=Ph\/A2 v=Pi then .ok s else if A2 v=Jq then(match Dr s with|none=>.error 3|some x=>.ok x)else if A2 v=I2 then(match Df s with|none=>.error 3|some x=>.ok x)else .error 5);have g:=fun x=>Mc (n:=1000000) (s:=Bn) (v:=x) m
 unfold Bn at G H g;generalize Aj l _=r at G H g;have C:w.cell? ⟨2,1,none⟩=some (.string ⟨#[67,111,110,116,101,110,116,45,84,114,97,110,115,102,101,114,45,69,110,99,111,100,105,110,103]⟩):=p.ours 1 ae;clear m t;cases r with
 |none=>
  have h:=AE (show Dd l s=.ok s from H.o);have S:=fun W=>Gw [] W ae
  clear H g;go_enter func165,ntmps165;go_wp2_with fail;with_reducible refine G.mono ?_
  rintro e z⟨rfl,c⟩;simp only[EH,FB];clear G C;go_wp2_with fail;with_reducible refine(S _).mono ?_
  rintro e q⟨rfl,i⟩;go_wp2;go_ret2;exact⟨Or.inl ⟨s,h.o,rfl⟩,c.trans (i.mono c.size)⟩
 |some x=>
  have F:=g x rfl;have S:=fun W=>Gw x W aa
  have H:=AE (show Dd l s=if A2 x=Kl\/A2 x=Ph\/A2 x=Pi then .ok s else if A2 x=Jq then(match Dr s with|none=>.error 3|some x=>.ok x)else if A2 x=I2 then(match Df s with|none=>.error 3|some x=>.ok x)else .error 5 from H.o);clear g;generalize A2 x=y at S H;go_enter func165,ntmps165;go_wp2_with fail;with_reducible refine G.mono ?_
  rintro e z⟨rfl,c⟩;simp only[DA,EE];clear G C;go_wp2_with fail;with_reducible refine(S _).mono ?_
  rintro e q⟨rfl,i⟩;have B:=c.trans (i.mono c.size);have A:=((p.next c).next i).g;clear c i S p;by_cases a:y=Kl
  ·have h:=AE (by rw[H.o,AN (Or.inl a)]:Dd l s=.ok s);subst a;unfold Kl;clear H;go_wp2;go_ret2;exact⟨Or.inl ⟨s,h.o,rfl⟩,B⟩
  by_cases b:y=Ph
  ·have h:=AE (by rw[H.o,AN (Or.inr (Or.inl b))]:Dd l s=.ok s);subst b;unfold Ph;clear H a;go_wp2;go_ret2;exact⟨Or.inl ⟨s,h.o,rfl⟩,B⟩
  by_cases d:y=Pi
  ·have h:=AE (by rw[H.o,AN (Or.inr (Or.inr d))]:Dd l s=.ok s);subst d;unfold Pi;clear H a b;go_wp2;go_ret2;exact⟨Or.inl ⟨s,h.o,rfl⟩,B⟩
  have H:=AE (by rw[H.o,AL (by simp[a,b,d])]:Dd l s=if y=Jq then(match Dr s with|none=>.error 3|some x=>.ok x)else if y=I2 then(match Df s with|none=>.error 3|some x=>.ok x)else .error 5);by_cases f:y=Jq
  ·have U:=fF s q aa;have H:=AE (by rw[H.o,AN f]:Dd l s=match Dr s with|none=>.error 3|some x=>.ok x);generalize Dr s=R at U H;subst f;unfold Jq;clear a b d;go_wp2_with fail;with_reducible refine U.mono ?_
   rintro e D⟨rfl,j⟩;clear U;cases R with
   |none=>
    have h:=AE (show Dd l s=.error 3 from H.o);simp only[Du];clear H;go_wp2;go_ret2;exact⟨Or.inr ⟨3,h.o,Or.inl rfl,rfl⟩,B.trans (j.mono B.size)⟩
   |some o=>
    have h:=AE (show Dd l s=.ok o from H.o);simp only[Du];clear H;go_wp2;go_ret2;exact⟨Or.inl ⟨o,h.o,rfl⟩,B.trans (j.mono B.size)⟩
  have H:=AE (by rw[H.o,AL f]:Dd l s=if y=I2 then(match Df s with|none=>.error 3|some x=>.ok x)else .error 5);by_cases k:y=I2
  ·have U:=fE s q aa A;have H:=AE (by rw[H.o,AN k]:Dd l s=match Df s with|none=>.error 3|some x=>.ok x);generalize Df s=R at U H;subst k;unfold I2;clear a b d f;go_wp2_with fail;with_reducible refine U.mono ?_
   rintro e D⟨rfl,j⟩;clear U;cases R with
   |none=>
    have h:=AE (show Dd l s=.error 3 from H.o);simp only[Du];clear H;go_wp2;go_ret2;exact⟨Or.inr ⟨3,h.o,Or.inl rfl,rfl⟩,B.trans (j.mono B.size)⟩
   |some o=>
    have h:=AE (show Dd l s=.ok o from H.o);simp only[Du];clear H;go_wp2;go_ret2;exact⟨Or.inl ⟨o,h.o,rfl⟩,B.trans (j.mono B.size)⟩
  have h:=AE (by rw[H.o,AL k]:Dd l s=.error 5);have I:(y==[55,98,105,116])=false:=by rw[AI];exact a
  have J:(y==[56,98,105,116])=false:=by rw[AI];exact b
  have K:(y==[98,105,110,97,114,121])=false:=by rw[AI];exact d
  have L:(y==[98,97,115,101,54,52])=false:=by rw[AI];exact f
  have M:(y==[113,117,111,116,101,100,45,112,114,105,110,116,97,98,108,101])=false:=by rw[AI];exact k
  clear a b d f k H;go_wp2;go_ret2;exact⟨Or.inr ⟨5,h.o,Or.inr rfl,rfl⟩,B⟩
def aV(w:World)(y:Bs)(t:TypeId):(w.alloc (.cells #[y] t)).cell? ⟨w.heap.size,0,none⟩=some y:=(A0.new w #[y] t).cell 0
def Qx:Option Nat->Int
 |none=>-1
 |some o=>o
def lL(h:s.length<i):Fi s b (k+1) i op out=none:=by
 unfold Fi;rw[AN h]
def lM(h:i<=s.length):Fi s b (k+1) i op out=match J9 (cut (s.drop i) [13,10]).1 b with
  |none=>Fi s b k (i+(cut (s.drop i) [13,10]).1.length+2) op out
  |some t=>if t=[45,45]then some (Lc s i op out)
   else if t=[]then Fi s b k (i+(cut (s.drop i) [13,10]).1.length+2) (some (min (i+(cut (s.drop i) [13,10]).1.length+2) s.length)) (Lc s i op out)
   else Fi s b k (i+(cut (s.drop i) [13,10]).1.length+2) op out:=by
 conv=>lhs;unfold Fi
 rw[AL aa];rfl
def VP(l p:Bs):(trimPrefix l p).length<=l.length:=by
 unfold trimPrefix;split
 ·simp
 exact AF _
def lN(s:Bs)(i o:Nat)(h:2<=i):List.take ((max ((i:Int)-2) o).toNat-(min (o:Int) (max ((i:Int)-2) o)).toNat) (List.drop (min (o:Int) (max ((i:Int)-2) o)).toNat s)=Jr s i o:=by
 unfold Jr;rw[(aa:(min (o:Int) (max ((i:Int)-2) o)).toNat=o),(aa:(max ((i:Int)-2) (o:Int)).toNat=max (i-2) o)]
def VQ(B n:Nat)(r:Option (List Bs))(e:Ending)(w':World):Prop:=(∃o v,r=some o/\o.length<=n+2/\(∀x∈o,x.length<=n)/\e=.returned (.tuple #[v,.nilIface])/\Cp w' B v o)\/(r=none/\e=.returned (.tuple #[.slice none 0 0,.iface 30 (.int .i64 3)]))
def VR(s b:Bs)(w:World)(hs:s.length<=1000000)(hb:b.length<=1000000)(R:Gr w):Calls prog 166 #[s,b] w fun e J=>VQ w.heap.size s.length (Eb s b) e J/\Below w.heap.size w J:=by
 have K:=AE (ca:Eb s b=Fi s b (s.length+2) 0 none []);go_enter func166,ntmps166;go_wp2_with fail;go_loopw[6,7,8] (fun S U A wr=>∃(i:Nat)(p:Option Nat)(O:List Bs)(f:Nat),A=i/\U=.int .i64 (Qx p)/\Cp wr w.heap.size S O/\i<=s.length+2/\(∀o,p=some o->2<=i/\o<=s.length)/\O.length<=i/\s.length+1-i<f/\Hid (Fi s b f i p O=Eb s b)/\Hid (∀x∈O,x.length<=s.length)/\Below w.heap.size w wr) (fun _ _ A _=>s.length+3-(intOf A).toNat)
 case atStart=>exact⟨0,none,[],s.length+2,rfl,rfl,IC _ _ _ _,aa,(fun o h=>ee),ah,aa,AE K.o.symm,AE ah,AG _ _⟩
 clear K;obtain⟨i,p,O,f,rfl,rfl,a,hi,m,a1,a2,q,X,B⟩:=hrel;obtain⟨f,rfl⟩:∃n,f=n+1:=⟨f-1,aa⟩;by_cases V:i<=s.length
 ·have Q:=AE (q.o.symm.trans (lM V));have r:=Oc (s.drop i) [13,10];rw[BD]at r;have hC:=Nj (s.drop i) [13,10] wr iu (R.next B).g;clear q;generalize(cut (s.drop i) [13,10]).1=l at hC r Q;generalize(cut (s.drop i) [13,10]).2.1=c2 at hC r;generalize(cut (s.drop i) [13,10]).2.2=c3 at hC;have a3:l.length<=s.length-i:=by omega
  clear r;have a4:(i:Int)<=s.length:=aa
  have i0:(0:Int)<=i:=aa
  go_wp2_with fail;with_reducible refine hC.mono ?_
  rintro e Y⟨rfl,u⟩;have a:=Lz a u;have v:=B.trans (u.mono B.size);have a5:(i:Int)+l.length<=s.length:=aa
  have P:=Ye l (45::45::b) Y;have M:=AE (ca:J9 l b=if hasPrefix l (45::45::b)then some (trimS (trimPrefix l (45::45::b)) [32,9])else none);have L:=VP l (45::45::b);generalize hasPrefix l (45::45::b)=ok at P M;generalize trimPrefix l (45::45::b)=rest at P M L;have T:=fun W=>Tc rest [32,9] W aa ae ae
  generalize trimS rest [32,9]=t at T M;clear hC u B L;go_wp2_with fail;with_reducible refine P.mono ?_
  rintro e w2⟨rfl,rfl⟩;clear P;go_wp2_with fail;with_reducible refine(T _).mono ?_
  rintro e Z⟨rfl,y⟩;have a:=Lz a y;have d:=v.trans (y.mono v.size);clear y v;cases ok with
  |false=>
   have H:=AE (by rw[Q.o,M.o];rfl:Fi s b f (i+l.length+2) p O=Eb s b);clear Q M T;go_wp2;go_roundw
   case rel=>exact⟨i+l.length+2,p,O,f,aj,rfl,a,aa,fun o h=>by have:=m o h;omega,aa,aa,H,X,d⟩
   simp[intOf];omega
  |true=>
   have M:=AE (show J9 l b=some t from M.o);by_cases k:t=[45,45]
   ·have H:=AE (by rw[Q.o,M.o,k];rfl:Eb s b=some (Lc s i p O));clear Q M T;subst k;cases p with
    |none=>
     have H:=AE (show Eb s b=some O from H.o);simp only[Qx];go_wp2;go_ret2;exact⟨Or.inl ⟨O,_,H.o,aa,X.o,rfl,a⟩,d⟩
    |some o=>
     obtain⟨z,ho⟩:=m o rfl;have H:=AE (show Eb s b=some (O++[Jr s i o])from H.o);have C:(Jr s i o).length<=s.length:=by unfold Jr;simp;omega
     have D:=AE (show∀x∈O++[Jr s i o],x.length<=s.length from fun x c=>by
      rcases BY.1 c with c|c
      ·exact X.o x c
      simp at c;rw[c];exact C)
     have i1:(2:Int)<=i:=aa
     have i2:(o:Int)<=s.length:=aa
     have i3:(0:Int)<=o:=aa
     simp only[Qx];have a0:=lN s i o z;go_wp2_with(at_builtin;refine Gv rfl _ _ rfl w.heap.size _ O _ Z.heap.size rfl (GV a _) rfl (aV _ _ _) aa (by have:=d.size;simp;omega) ?_;intro v' w4 E F G);clear F;go_wp2;go_ret2;exact⟨Or.inl ⟨_,_,H.o,ag,D.o,rfl,E⟩,(d.alloc d.size _).trans G⟩
   have a6:(t==[45,45])=false:=by rw[AI];exact k
   by_cases h0:t=[]
   ·have H:=AE (by rw[Q.o,M.o];subst h0;rfl:Fi s b f (i+l.length+2) (some (min (i+l.length+2) s.length)) (Lc s i p O)=Eb s b);have N:=AE (by simp only[Qx];omega:(min ((i:Int)+l.length+2) s.length)=Qx (some (min (i+l.length+2) s.length)));have e0:t.isEmpty=true:=by rw[h0];rfl
    subst h0;clear Q M k;cases p with
    |none=>
     have H:=AE (show Fi s b f (i+l.length+2) (some (min (i+l.length+2) s.length)) O=Eb s b from H.o);simp only[Qx];go_wp2_with fail;with_reducible refine(T _).mono ?_
     rintro e I⟨rfl,g⟩;have a:=Lz a g;have j:=d.trans (g.mono d.size);clear g T;go_wp2;go_roundw
     case rel=>exact⟨i+l.length+2,some (min (i+l.length+2) s.length),O,f,aj,fo,a,aa,(fun o h=>by cases h;omega),aa,aa,H,X,j⟩
     simp[intOf];omega
    |some o=>
     obtain⟨z,ho⟩:=m o rfl;have H:=AE (show Fi s b f (i+l.length+2) (some (min (i+l.length+2) s.length)) (O++[Jr s i o])=Eb s b from H.o);have C:(Jr s i o).length<=s.length:=by unfold Jr;simp;omega
     have D:=AE (show∀x∈O++[Jr s i o],x.length<=s.length from fun x c=>by
      rcases BY.1 c with c|c
      ·exact X.o x c
      simp at c;rw[c];exact C)
     have i1:(2:Int)<=i:=aa
     have i2:(o:Int)<=s.length:=aa
     have i3:(0:Int)<=o:=aa
     have a0:=lN s i o z;simp only[Qx];go_wp2_with fail;with_reducible refine(T _).mono ?_
     rintro e I⟨rfl,g⟩;have a:=Lz a g;have j:=d.trans (g.mono d.size);clear g T;go_wp2_with(at_builtin;refine Gv rfl _ _ rfl w.heap.size _ O _ I.heap.size rfl (GV a _) rfl (aV _ _ _) aa (by have:=j.size;simp;omega) ?_;intro v' w4 E F G);clear F;have B6:=(j.alloc j.size _).trans G;go_wp2;go_roundw
     case rel=>exact⟨i+l.length+2,some (min (i+l.length+2) s.length),_,f,aj,fo,E,aa,(fun o h=>by cases h;omega),ag,aa,H,D,B6⟩
     simp[intOf];omega
   have H:=AE (by rw[Q.o,M.o];simp only[k,h0,DM]:Fi s b f (i+l.length+2) p O=Eb s b);have e0:t.isEmpty=false:=ed
   clear Q M k h0;go_wp2_with fail;with_reducible refine(T _).mono ?_
   rintro e I⟨rfl,g⟩;have a:=Lz a g;have j:=d.trans (g.mono d.size);clear g T;go_wp2;go_roundw
   case rel=>exact⟨i+l.length+2,p,O,f,aj,rfl,a,aa,(fun o h=>by have:=m o h;omega),aa,aa,H,X,j⟩
   simp[intOf];omega
 have H:=AE (by rw[<-q.o];exact lL aa:Eb s b=none);have a7:¬(i:Int)<=s.length:=aa
 clear q;go_wp2;go_ret2;exact⟨Or.inr ⟨H.o,rfl⟩,B⟩
def C3(r:Au):Value:=.agg #[A9 r.1,r.2.1,.bool r.2.2.1,A9 r.2.2.2]
def VS(B d lb l:Nat)(r:Except Int (A7×Nat))(e:Ending)(w':World):Prop:=(∃p n R,r=.ok (p,n)/\n<=l/\e=.returned (.tuple #[C3 R,.nilIface])/\A8 (fun b=>B<=b) d w' R p/\A0 w' lb #[.int .i64 n] 3)\/(∃c R,r=.error c/\e=.returned (.tuple #[C3 R,.iface 30 (.int .i64 c)]))
abbrev Gk(w:World)(B:Nat)(v:Value)(l:List Au):Prop:=A1 44 4 Dk w B v l
def Wx(w:World)(r:Au)(t:TypeId)(b:Nat)(H:b=w.heap.size):∀j u,([r].flatMap Dk)[j]?=some u->(w.alloc (.cells #[A9 r.1,r.2.1,.bool r.2.2.1,A9 r.2.2.2] t)).cell? ((⟨b,0,none⟩:Go.Addr).add j)=some u:=fun j u h=>by
 subst H;rw[Er,(A0.new w #[A9 r.1,r.2.1,.bool r.2.2.1,A9 r.2.2.2] t).cell]
 match j,h with
 |0,h=>exact h
 |1,h=>exact h
 |2,h=>exact h
 |3,h=>exact h
 |j+4,h=>simp[Dk]at h
def Wy{Q:Exit->Act->World->Prop}{O:Array Oper}{rest:List Oper}{o:Oper}{a:Act}(H:o.guard=none)(s x:Operand)
  (d:o.op=.call {callee:=.builtin .append,args:=#[s,x],argTypes:=#[33,33]}) (B:Nat) (v:Value) (xs:List Au) (y:Au) (b c:Nat)
  (e:a.eval s=v) (n:Gk w B v xs) (f:a.eval x=.slice (some ⟨b,0,none⟩) 1 c) (g:∀j u,([y].flatMap Dk)[j]?=some u->w.cell? ((⟨b,0,none⟩:Go.Addr).add j)=some u) (k:xs.length+1<=1000000000001) (i:B<=w.heap.size)
  (h:∀V W,Gk W B V (xs++[y])->w.grownBy W v.ownBlock->Below B w W->(V.ownBlock=v.ownBlock\/V.ownBlock=some w.heap.size)->wpList prog O Q rest (a.put o.dst V) W):wpList prog O Q (o::rest) a w:=
 N8 (α:=Au) (cs:=Dk) (size:=4) (z:=.agg #[.slice none 0 0,.string ByteArray.empty,false,.slice none 0 0]) Dx aN aO rfl ae underlying33 H s x d B v xs [y] ⟨b,0,none⟩ 1 c rfl e n f g ag ao i h
def N9(q:List β):Except Int (List β×Nat)->Except Int (List β×Nat)
 | .error e=>.error e
 | .ok (y,m)=>.ok (q++y,m)
def Wz(r:Except Int (List β×Nat)):N9 [] r=r:=by
 cases r with
 |error e=>rfl
 |ok x=>rfl
def X0{f:Nat->α->Except Int (β×Nat)}{l:List α}{e:Int}(H:k<l.length)(h:f n l[k]=.error e)(q:List β):N9 q (Bz f n (l.drop k))=.error e:=by
 rw[AH H];unfold Bz;rw[h];rfl
def X1{f:Nat->α->Except Int (β×Nat)}{l:List α}{y:β}(H:k<l.length)(h:f n l[k]=.ok (y,m))(q:List β):N9 q (Bz f n (l.drop k))=N9 (q++[y]) (Bz f m (l.drop (k+1))):=by
 rw[AH H];conv=>lhs;unfold Bz
 rw[h];simp only;cases Bz f m (l.drop (k+1))with
 |error e=>rfl
 |ok x=>simp[N9]
def X2{f:Nat->α->Except Int (β×Nat)}{l:List α}(q:List β):N9 q (Bz f n (l.drop l.length))=.ok (q,n):=by
 rw[AS];simp[Bz,N9]
def lO(h:Dw n l)(H:Bo l=some (some b)):b.length<=n:=by
 unfold Bo at H;cases g:Aj l C2 with
 |none=>rw[g]at H;cases H
 |some v=>
  rw[g]at H;simp only at H;cases k:Ay v with
  |none=>rw[k]at H;cases H
  |some x=>
   obtain⟨m,P⟩:=x;rw[k]at H;simp only at H;split at H
   ·cases p:Cc P Ch with
    |none=>rw[p]at H;cases H
    |some y=>
     rw[p]at H;simp only at H;split at H
     ·cases H
     cases H;exact AV (W7 (Ql k).2 p) (Mc h g)
   cases H
def Cp.t(h:Cp w B v xs):Do w B v xs:=by
 unfold Do A1;unfold Cp at h;have e:xs.flatMap Bl=xs.map fun x=>Value.string ⟨x.toArray⟩:=by
  clear h;induction xs with
  |nil=>rfl
  |cons x xs ih=>rw[BV,CD,ih];rfl
 rw[e];exact h
def Gk.shape{xs:List Au}(h:Gk w B v xs):∃a n c,v=.slice a n c:=by
 obtain⟨a,c,H,_⟩:=A1.rd ae Dx h;exact⟨a,_,c,H⟩
def Bu:Array Value:=#[.slice none 0 0,.string ⟨#[]⟩,false,.slice none 0 0]
def Mk:Au:=((none,0,0),[],false,(none,0,0))
def VT(d:Nat):∀(a4:Nat)(s:Bs)(C:Nat)(dp F:Int)(w:World),Hid (dp=5-(d:Int))->d<=4->Hid (F=a4)->a4<=40->Gr w->3<C->A0 w C #[F] 3->s.length<=20000->Calls prog 87 #[s,dp,.pointer (some ⟨C,0,none⟩)] w fun e w'=>VS w.heap.size d C a4 (Bd d a4 s) e w'/\A5 C w.heap.size w w':=by
 induction d with
 |zero=>
  intro a4 s C dp F w c2 _ b2 hl hg c3 hb hs;obtain rfl:dp=5:=c2.o;have N:=AE (ca:Bd 0 a4 s=.error 4);have f4:0<=F/\F<=40:=ox
  have kc:=hb.cell 0;have kf:=hb.free 0;have d5:(w.setCell ⟨C,0,none⟩ (.int .i64 (F-1))).cell? ⟨C,0,none⟩=some (.int .i64 (F-1)):=(hb.set 0 _).cell 0;have f5:=hb.lt;have a6:w.heap.size≠C:=aa
  have BO:A5 C w.heap.size w (w.setCell ⟨C,0,none⟩ (.int .i64 (F-1))):=(A5.refl _ _ _).set _;by_cases h0:F-1<0;all_goals
   go_enter func87,ntmps87;go_wp2_with fail;refine AO (v:=.tuple #[.agg Bu,.iface 30 (.int .i64 4)]) (by simp[results,results87,go_sem,Bu]) rfl ⟨Or.inr ⟨4,Mk,N.o,rfl⟩,?_⟩;exact BO.trans (A5.of ((AG _ _).alloc ah _))
 |succ d ih=>
  intro a4 s C dp F w c2 h1 b2 hl hg c3 hb hs;have h2:1<=dp/\dp<=4:=by have:=c2.o;omega
  have f4:0<=F/\F<=40:=ox
  have kc:=hb.cell 0;have kf:=hb.free 0;have d5:(w.setCell ⟨C,0,none⟩ (.int .i64 (F-1))).cell? ⟨C,0,none⟩=some (.int .i64 (F-1)):=(hb.set 0 _).cell 0;have f5:=hb.lt;have a6:w.heap.size≠C:=aa
  have BO:A5 C w.heap.size w (w.setCell ⟨C,0,none⟩ (.int .i64 (F-1))):=(A5.refl _ _ _).set _;by_cases h0:F-1<0
  ·have N:=AE (show Bd (d+1) a4 s=.error 4 from by
    obtain rfl:a4=0:=ox
    rfl)
   go_enter func87,ntmps87;go_wp2_with fail;refine AO (v:=.tuple #[.agg Bu,.iface 30 (.int .i64 4)]) (by simp[results,results87,go_sem,Bu]) rfl ⟨Or.inr ⟨4,Mk,N.o,rfl⟩,?_⟩;exact BO.trans (A5.of ((AG _ _).alloc ah _))
  obtain⟨L,rfl⟩:∃n,a4=n+1:=⟨a4-1,ox⟩;have d6:=AE (ox:F-1=(L:Int));have f:=((hb.set 0 (.int .i64 (F-1))).alloc (.cells Bu 44));have H:=A0.new (w.setCell ⟨C,0,none⟩ (.int .i64 (F-1))) Bu 44;have b8:=BO.trans (A5.of ((AG w.heap.size (w.setCell ⟨C,0,none⟩ (.int .i64 (F-1)))).alloc ah (.cells Bu 44)));have c4:=hg.Ai b8 c3;have d7:((w.setCell ⟨C,0,none⟩ (.int .i64 (F-1))).alloc (.cells Bu 44)).heap.size=w.heap.size+1:=ah
  rw[ER]at H;have P:=AE (show Bd (d+1) (L+1) s=match E7 s with
   |none=>.error 3
   |some (l0,S)=>match Cz l0 with
    |none=>.error 1
    |some l=>match Bo l with
     |none=>.error 3
     |some none=>(match Dd l S with
      | .error e=>.error e
      | .ok b=>.ok (.mk l b false [],L))
     |some (some b)=>match Eb S b with
      |none=>.error 3
      |some D=>match Bz (Bd d) L D with
       | .error e=>.error e
       | .ok (E,n)=>.ok (.mk l [] true E,n)from rfl)
  have c8:=fun W hW=>tZ s W aa hW
  have b5:=fun o r(h:E7 s=some (o,r))=>Zb h
  generalize E7 s=rh at P c8 b5;unfold Bu at f H b8 c4 d7;go_enter func87,ntmps87;go_wp2_with fail;generalize World.alloc _ _=W1 at f H b8 c4 d7|-;clear kc kf d5 BO hg hb h0;with_reducible refine(c8 _ c4.g).mono ?_
  rintro e w2⟨hh,b6⟩;have f:=f.next b6 f.lt;have H:=H.next b6 H.lt;have c9:=c4.next b6;have B2:=b8.next b6 b8.size;have h3:=b6.size;clear c8 b6;rcases hh with⟨o,S,v,rfl,_,_,_,rfl,d8⟩|⟨v,rfl,rfl,hv⟩
  case inr=>
   have N:=AE (show Bd (d+1) (L+1) s=.error 3 from P.o);have hT:=U6 v 3 w2 hv c9;obtain⟨t,x,rfl⟩:=(hv.n ae).some;have K:=H.cell;have kf:=H.free;clear P b5;go_wp2_with fail;with_reducible refine hT.mono ?_
   rintro e w3⟨rfl,b3⟩;have H:=H.next b3 H.lt;have K:=H.cell;have kf:=H.free;go_wp2_with fail;refine AO (v:=.tuple #[.agg Bu,.iface 30 (.int .i64 3)]) fa rfl ⟨Or.inr ⟨3,Mk,N.o,rfl⟩,?_⟩;exact((((B2.next b3 B2.size).own (AF _) _).own (AF _) _).own (AF _) _).own (AF _) _
  obtain⟨h4,f6⟩:=b5 o S rfl;have hC:=tX v o w2 d8 ((F1 (n:=20000) aa).ok ae);have hcw:=fun l(h:Cz o=some l)=>W8 h
  have P:=AE (show Bd (d+1) (L+1) s=match Cz o with
   |none=>.error 1
   |some l=>match Bo l with
    |none=>.error 3
    |some none=>(match Dd l S with
     | .error e=>.error e
     | .ok b=>.ok (.mk l b false [],L))
    |some (some b)=>match Eb S b with
     |none=>.error 3
     |some D=>match Bz (Bd d) L D with
      | .error e=>.error e
      | .ok (E,n)=>.ok (.mk l [] true E,n)from P.o)
  clear b5;generalize Cz o=rc at hC hcw P;go_wp2_with fail;with_reducible refine hC.mono ?_
  rintro e w3⟨hh,b3⟩;have f:=f.next b3 f.lt;have H:=H.next b3 H.lt;have c5:=c9.next b3;have B3:=B2.next b3 B2.size;have h5:=b3.size;clear hC d8 b3 B2 c9;rcases hh with⟨l,v2,rfl,rfl,T⟩|⟨v2,rfl,rfl,hv⟩
  case inr=>
   have N:=AE (show Bd (d+1) (L+1) s=.error 1 from P.o);have hT:=U6 v2 1 w3 hv c5;obtain⟨t,x,rfl⟩:=(hv.n ae).some;have K:=H.cell;have kf:=H.free;clear P hcw;go_wp2_with fail;with_reducible refine hT.mono ?_
   rintro e q⟨rfl,b4⟩;have H:=H.next b4 H.lt;have K:=H.cell;have kf:=H.free;go_wp2_with fail;refine AO (v:=.tuple #[.agg Bu,.iface 30 (.int .i64 1)]) fa rfl ⟨Or.inr ⟨1,Mk,N.o,rfl⟩,?_⟩;exact((((B3.next b4 B3.size).own (AF _) _).own (AF _) _).own (AF _) _).own (AF _) _
  have d0:=F1 (n:=20000) (AV (hcw l rfl) aa);have z:=A1.Dq ae Af T;have hB:=aU v2 l w3 z.rd (d0.mono ae) c5;obtain⟨G,I,rfl,_⟩:=z.rd;have P:=AE (show Bd (d+1) (L+1) s=match Bo l with
   |none=>.error 3
   |some none=>(match Dd l S with
    | .error e=>.error e
    | .ok b=>.ok (.mk l b false [],L))
   |some (some b)=>match Eb S b with
    |none=>.error 3
    |some D=>match Bz (Bd d) L D with
     | .error e=>.error e
     | .ok (E,n)=>.ok (.mk l [] true E,n)from P.o)
  have b9:=fun b=>lO (b:=b) d0
  have z:Ba 2 Bc (fun b=>w.heap.size<b/\b<w3.heap.size) w3 (.slice G l.length I) l:=z.Ac fun b J M=>⟨by have:=J.1;omega,M⟩
  clear hcw T;generalize Bo l=Z at hB P b9;go_wp2_with fail;with_reducible refine hB.mono ?_
  rintro e q⟨hh,b4⟩;have f:=f.next b4 f.lt;have H:=H.next b4 H.lt;have c0:=c5.next b4;have B4:=B3.next b4 B3.size;have f7:=b4.size;have z:=z.next b4;clear hB b4 B3 c5;rcases hh with⟨b,rfl,rfl⟩|⟨rfl,rfl⟩|⟨rfl,rfl⟩
  case inr.inl=>
   have P:=AE (show Bd (d+1) (L+1) s=match Dd l S with
    | .error e=>.error e
    | .ok b=>.ok (.mk l b false [],L)from P.o)
   have u:=A0.new q #[.slice G l.length I,.string ⟨#[]⟩,false,.slice none 0 0] 44;have A:=(AG q.heap.size q).alloc (AF _) (.cells #[.slice G l.length I,.string ⟨#[]⟩,false,.slice none 0 0] 44);have f:=f.next A f.lt;have H:=H.next A H.lt;have b0:=c0.next A;have B5:=B4.next A B4.size;have z:=z.next A;have hD:=VO _ l S _ z.rd (d0.mono ae) aa b0;clear A b9 B4 c0;generalize Dd l S=rd at hD P;go_wp2_with fail;generalize World.alloc _ _=W5 at u f H b0 B5 z hD|-;with_reducible refine hD.mono ?_
   rintro e w6⟨hh,O⟩;have u:=u.next O u.lt;have f:=f.next O f.lt;have H:=H.next O H.lt;have z:=z.next O;have B6:=B5.next O B5.size;have c6:w.heap.size≠q.heap.size:=aa
   have h6:q.heap.size≠w.heap.size:=aa
   have d1:C≠q.heap.size:=aa
   have h7:=f7;clear hD O B5;rcases hh with⟨o,rfl,rfl⟩|⟨c,rfl,_,rfl⟩
   ·have N:=AE (show Bd (d+1) (L+1) s=.ok (.mk l o false [],L)from P.o);have d2:A0 (w6.setCell ⟨q.heap.size,1,none⟩ o) q.heap.size #[.slice G l.length I,o,false,.slice none 0 0] 44:=u.set 1 _;have kp:=u.cell;have f8:=u.free;have ks:=d2.cell;have H:=H.A6 (a:=⟨q.heap.size,1,none⟩) c6 o;have K:=H.cell;have c7:=H.free;clear P;go_wp2_with fail;refine AO (v:=.tuple #[.agg #[.slice G l.length I,o,false,.slice none 0 0],.nilIface]) nu rfl ⟨Or.inl ⟨_,_,((G,l.length,I),o,false,(none,0,0)),N.o,aa,rfl,⟨rfl,rfl,?_,[],Ba.nil _ _ _ _ _ _,rfl,fun k h=>en⟩,?_⟩,?_⟩
    ·exact(((((z.set _ ai).set _ ai).set _ ai).set _ ai).set _ ai).Ac fun b h _=>HJ h.1
    ·have:=(((((f.A6 (a:=⟨q.heap.size,1,none⟩) d1 o).A6 (a:=⟨w.heap.size,0,none⟩) a6.symm (.slice G l.length I)).A6 (a:=⟨w.heap.size,1,none⟩) a6.symm o).A6 (a:=⟨w.heap.size,2,none⟩) a6.symm false).A6 (a:=⟨w.heap.size,3,none⟩) a6.symm (.slice none 0 0));rw[d6.o]at this;exact this
    exact((((B6.own ai _).own (AF _) _).own (AF _) _).own (AF _) _).own (AF _) _
   have N:=AE (show Bd (d+1) (L+1) s=.error c from P.o);have d2:A0 (w6.setCell ⟨q.heap.size,1,none⟩ (.string ⟨#[]⟩)) q.heap.size #[.slice G l.length I,.string ⟨#[]⟩,false,.slice none 0 0] 44:=u.set 1 _;have kp:=u.cell;have f8:=u.free;have ks:=d2.cell;have H:=H.A6 (a:=⟨q.heap.size,1,none⟩) c6 (.string ⟨#[]⟩);have K:=H.cell;have c7:=H.free;clear P;go_wp2_with fail;refine AO (v:=.tuple #[.agg #[.slice G l.length I,.string ⟨#[]⟩,false,.slice none 0 0],.iface 30 c]) nu rfl ⟨Or.inr ⟨c,((G,l.length,I),[],false,(none,0,0)),N.o,rfl⟩,?_⟩;exact((((B6.own ai _).own (AF _) _).own (AF _) _).own (AF _) _).own (AF _) _
  case inl=>
   have h8:=b9 b rfl;have P:=AE (show Bd (d+1) (L+1) s=match Eb S b with
    |none=>.error 3
    |some D=>match Bz (Bd d) L D with
     | .error e=>.error e
     | .ok (E,n)=>.ok (.mk l [] true E,n)from P.o)
   have u:=A0.new q #[.slice G l.length I,.string ⟨#[]⟩,true,.slice none 0 0] 44;have A:=(AG q.heap.size q).alloc (AF _) (.cells #[.slice G l.length I,.string ⟨#[]⟩,true,.slice none 0 0] 44);have f:=f.next A f.lt;have H:=H.next A H.lt;have b0:=c0.next A;have B5:=B4.next A B4.size;have z:=z.next A;have f9:(q.alloc (.cells #[.slice G l.length I,.string ⟨#[]⟩,true,.slice none 0 0] 44)).heap.size=q.heap.size+1:=ah
   have hC:=fun W hW=>VR S b W aa aa hW
   clear A b9 B4 c0;generalize Eb S b=rc at hC P;go_wp2_with fail;generalize World.alloc _ _=W5 at u f H b0 B5 z f9|-;with_reducible refine(hC _ b0).mono ?_
   rintro e w6⟨hh,O⟩;have u:=u.next O u.lt;have f:=f.next O f.lt;have H:=H.next O H.lt;have z:=z.next O;have d9:=b0.next O;have B6:=B5.next O B5.size;have h9:=O.size;have c6:w.heap.size≠q.heap.size:=aa
   have d1:C≠q.heap.size:=aa
   have g0:=u.lt;clear hC O B5 b0;rcases hh with⟨D,v6,rfl,i0,e0,rfl,e1⟩|⟨rfl,rfl⟩
   case inr=>
    have N:=AE (show Bd (d+1) (L+1) s=.error 3 from P.o);have K:=H.cell;have c7:=H.free;clear P;go_wp2_with fail;refine AO (v:=.tuple #[.agg Bu,.iface 30 (.int .i64 3)]) fa rfl ⟨Or.inr ⟨3,Mk,N.o,rfl⟩,?_⟩;exact(((B6.own (AF _) _).own (AF _) _).own (AF _) _).own (AF _) _
   have HR:=AE (show∀r,Bz (Bd d) L D=r->Bd (d+1) (L+1) s=match r with
    | .error e=>.error e
    | .ok (E,n)=>.ok (.mk l [] true E,n)from fun r h=>by rw[<-h];exact P.o)
   have HX:=AE e0;have U:=A1.Dq ae By e1.t;obtain⟨e2,e3,rfl,_⟩:=U.rd;have U:Ba 1 Bl (fun b=>W5.heap.size<=b/\b<w6.heap.size) w6 (.slice e2 D.length e3) D:=U.Ac fun b J M=>⟨J.1,M⟩
   have f:A0 w6 C #[L] 3:=by
    have:=f;rw[d6.o]at this;exact this
   clear P e1 e0;go_wp2_with fail;go_loopw[91] (fun i wr=>∃(k n:Nat)(E:List A7)(R:List Au)(sl:Je),i=k/\k<=D.length/\E.length=k/\R.length=k/\n<=L/\A0 wr C #[n] 3/\A0 wr w.heap.size #[.slice none 0 0,.string ⟨#[]⟩,false,.slice none 0 0] 44/\A0 wr q.heap.size #[.slice G l.length I,.string ⟨#[]⟩,true,A9 sl] 44/\Gk wr w6.heap.size (A9 sl) R/\Ba 2 Bc (fun b=>w.heap.size<b/\b<w3.heap.size) wr (.slice G l.length I) l/\Ba 1 Bl (fun b=>W5.heap.size<=b/\b<w6.heap.size) wr (.slice e2 D.length e3) D/\Hid (∀j(J:j<R.length)(M:j<E.length),A8 (fun b=>w.heap.size<b/\b≠q.heap.size/\(A9 sl).ownBlock≠some b) d wr R[j] E[j])/\Gr wr/\Hid (N9 E (Bz (Bd d) n (D.drop k))=Bz (Bd d) L D)/\A5 C w.heap.size w wr/\w6.heap.size<=wr.heap.size) (fun i _=>D.length-(intOf i).toNat)
   case atStart=>exact⟨0,L,[],[],(none,0,0),rfl,aa,rfl,rfl,aa,f,H,u,A1.nil _ _ _ _ _,z,U,AE (fun j J=>by simp at J),d9,AE (by rw[DR,Wz]),B6,AF _⟩
   clear f H u z U d9 B6;obtain⟨k,n,E,R,sl,rfl,hk,i1,i2,hn,f,H,u,T,z,U,a5,d3,b7,B,i3⟩:=hrel;obtain⟨sa,sn,sc⟩:=sl;simp only[A9]at u T a5;by_cases c1:k<D.length
   ·obtain⟨pb,rfl,i4,i5,e4⟩:=U.at By k c1;have g1:=AV (HX.o _ (AQ c1)) f6;have HE:=AE (fun c(h:Bd d n D[k]=.error c)=>X0 c1 h E);have HO:=AE (fun y m(h:Bd d n D[k]=.ok (y,m))=>X1 c1 h E);have e5:wr.cell? ⟨pb,k,none⟩=some (D[k]):=by have:=e4 0 ae;simpa[Bl]using this
    clear e4;generalize D[k]=x at g1 HE HO e5;have hI:=ih n x C (dp+1) n wr (AE (by have:=c2.o;omega)) aa (AE rfl) aa d3 c3 f aa;generalize Bd d n x=rx at hI HE HO;go_wp2_with fail;with_reducible refine hI.mono ?_
    rintro e w8⟨hh,a7⟩;have i6:=a7.size;have H:=H.Ai a7 aa;have u:=u.Ai a7 aa;have e6:=A1.Dj T;have a9:=A1.Ha T;have T:=T.Ai a7 aa;have z:=z.Ai a7 ar;have U:=U.Ai a7 ar;have e7:=d3.Ai a7 c3;have B8:=B.trans (a7.mono aa);have a5:=AE (fun j J M=>(a5.o j J M).Ai a7 ar);clear hI e5 d3 B f;rcases hh with⟨p,m,b1,rfl,hm,rfl,e8,f⟩|⟨c,b1,rfl,rfl⟩
    case inr=>
     have N:=AE (show Bd (d+1) (L+1) s=.error c from HR.o _ (b7.o.symm.trans (HE.o c rfl)));obtain⟨⟨ra,rn,a0⟩,Z,rm,⟨a1,a2,a3⟩⟩:=b1;simp only[C3,A9];have H:=H.alloc (.cells #[.slice ra rn a0,Z,rm,.slice a1 a2 a3] 44);have K:=H.cell;have c7:=H.free;clear HE HO b7;go_wp2_with fail;refine AO (v:=.tuple #[.agg Bu,.iface 30 c]) fa rfl ⟨Or.inr ⟨c,Mk,N.o,rfl⟩,?_⟩;exact((((B8.next ((AG _ _).alloc (AF _) _) B8.size).own (AF _) _).own (AF _) _).own (AF _) _).own (AF _) _
    have N:=AE (Eq.trans (HO.o p m rfl).symm b7.o);have a5:=AE (show∀j(J:j<(R++[b1]).length)(M:j<(E++[p]).length),A8 (fun b=>w.heap.size<b/\b≠q.heap.size/\(Value.slice sa sn sc).ownBlock≠some b) d w8 (R++[b1])[j] (E++[p])[j]from fun j J M=>by
     by_cases hj:j<R.length
     ·rw[EC hj,EC aa];exact a5.o j hj aa
     obtain rfl:j=R.length:=by simp at J;omega
     have g2:(R++[b1])[R.length]=b1:=ah
     have g3:(E++[p])[R.length]'M=p:=uu
     rw[g2,g3];refine A8.Ac (fun b J _=>⟨aa,aa,fun e=>?_⟩) e8;have:=e6 b e;omega)
    clear HE HO b7 e8;obtain⟨⟨ra,rn,a0⟩,Z,rm,⟨a1,a2,a3⟩⟩:=b1;simp only[C3,A9];have g4:=A0.new w8 #[.slice ra rn a0,Z,rm,.slice a1 a2 a3] 44;have A:=(AG w8.heap.size w8).alloc (AF _) (.cells #[.slice ra rn a0,Z,rm,.slice a1 a2 a3] 44);have e9:(w8.alloc (.cells #[.slice ra rn a0,Z,rm,.slice a1 a2 a3] 44)).heap.size=w8.heap.size+1:=ah
    have f:=f.next A f.lt;have H:=H.next A H.lt;have u:=u.next A u.lt;have T:=A1.next T A;have z:=z.next A;have U:=U.next A;have g5:=e7.next A;have B9:=B8.next A B8.size;have a5:=AE (fun j J M=>(a5.o j J M).next A);have kp:=u.cell;have kt:=g4.cell;clear A e7 B8;go_wp2_with(at_builtin;refine Wy rfl _ _ rfl w6.heap.size _ R ((ra,rn,a0),Z,rm,(a1,a2,a3)) _ 1 rfl (A1.alloc T _) rfl (Wx _ ((ra,rn,a0),Z,rm,(a1,a2,a3)) _ _ ah) aa ag ?_;intro v' d4 f0 a8 f1 f2;obtain⟨V,X,Y,rfl⟩:=f0.shape;have u:=(u.alloc (.cells #[.slice ra rn a0,Z,rm,.slice a1 a2 a3] 44)).grown a8 (fun g hg=>by have:=a9 g hg;omega);have i7:=u.cell;have i8:=u.free);have A:=(AG (w8.alloc (.cells #[.slice ra rn a0,Z,rm,.slice a1 a2 a3] 44)).heap.size (w8.alloc (.cells #[.slice ra rn a0,Z,rm,.slice a1 a2 a3] 44))).alloc (AF _) (.cells #[.slice ra rn a0,Z,rm,.slice a1 a2 a3] 44);have g6:=a8.size;rw[AX,e9]at g6;have f:=((f.next A f.lt).grown a8 (fun g hg=>by have:=a9 g hg;omega)).A6 (a:=⟨q.heap.size,3,none⟩) d1 (.slice V X Y);have H:=((H.next A H.lt).grown a8 (fun g hg=>by have:=a9 g hg;omega)).A6 (a:=⟨q.heap.size,3,none⟩) c6 (.slice V X Y);have u:A0 (d4.setCell ⟨q.heap.size,3,none⟩ (.slice V X Y)) q.heap.size #[.slice G l.length I,.string ⟨#[]⟩,true,.slice V X Y] 44:=u.set 3 _;have z:=((z.next A).grown a8 (fun b h e=>uj)).set (a:=⟨q.heap.size,3,none⟩) (.slice V X Y) ar;have U:=((U.next A).grown a8 (fun b h e=>uj)).set (a:=⟨q.heap.size,3,none⟩) (.slice V X Y) ar;have a5:=AE (fun j J M=>A8.Ac (Q:=fun b=>w.heap.size<b/\b≠q.heap.size/\(Value.slice V X Y).ownBlock≠some b) (fun b h _=>⟨h.1.1,h.1.2.1,h.2⟩) (((A8.Ac (Q:=fun b=>(w.heap.size<b/\b≠q.heap.size/\(Value.slice sa sn sc).ownBlock≠some b)/\(Value.slice V X Y).ownBlock≠some b) (fun b h c1=>⟨h,fun e=>by
     rcases f2 with ho|ho
     ·exact h.2.2 (ho▸e)
     rw[ho]at e;injection e with e;omega⟩) ((a5.o j J M).next A)).grown a8 (fun b h e=>h.1.2.2 e.symm)).set (a:=⟨q.heap.size,3,none⟩) (.slice V X Y) (fun h=>h.1.2.1 rfl)))
    have T:=f0.A6 (a:=⟨q.heap.size,3,none⟩) ai (.slice V X Y);have g7:Gr (d4.setCell ⟨q.heap.size,3,none⟩ (.slice V X Y)):=(g5.next A).keep fun b hb=>(D3 _ _ _ b ai).trans (a8.block b (by rw[AX,e9];omega) (fun e=>uj))
    have g8:=((B9.next A B9.size).trans (A5.of (f1.mono aa))).own (p:=⟨q.heap.size,3,none⟩) ai (.slice V X Y);have g9:w6.heap.size<=(d4.setCell ⟨q.heap.size,3,none⟩ (.slice V X Y)).heap.size:=by simp[World.setCell];omega
    clear f2 a8 f1 A e6 a9;go_wp2;go_roundw
    case rel=>exact⟨k+1,m,E++[p],R++[((ra,rn,a0),Z,rm,(a1,a2,a3))],(V,X,Y),aj,aa,ag,ag,aa,f,H,u,T,z,U,a5,g7,N,g8,g9⟩
    simp[intOf];omega
   obtain rfl:k=D.length:=aa
   have N:=AE (show Bd (d+1) (L+1) s=.ok (.mk l [] true E,n)from HR.o _ (b7.o.symm.trans (X2 E)));have kp:=u.cell;have K:=H.cell;have c7:=H.free;have b5:=A1.Dq ae Dx T;have a9:=g0;clear b7;go_wp2_with fail;refine AO (v:=.tuple #[.agg #[.slice G l.length I,.string ⟨#[]⟩,true,.slice sa sn sc],.nilIface]) nu rfl ⟨Or.inl ⟨_,_,((G,l.length,I),[],true,(sa,sn,sc)),N.o,aa,rfl,⟨rfl,rfl,?_,R,?_,aa,fun j J M=>?_⟩,?_⟩,?_⟩
   ·exact((((z.set _ ar).set _ ar).set _ ar).set _ ar).Ac fun b h _=>HJ h.1
   ·exact((((b5.set _ (fun h=>av)).set _ (fun h=>av)).set _ (fun h=>av)).set _ (fun h=>av)).Ac fun b h _=>ew
   ·exact A8.Ac (fun b h _=>HJ h.1) (((((a5.o j J M).set _ (fun h=>av)).set _ (fun h=>av)).set _ (fun h=>av)).set _ (fun h=>av))
   ·exact(((f.A6 (a:=⟨w.heap.size,0,none⟩) a6.symm _).A6 (a:=⟨w.heap.size,1,none⟩) a6.symm _).A6 (a:=⟨w.heap.size,2,none⟩) a6.symm _).A6 (a:=⟨w.heap.size,3,none⟩) a6.symm _
   exact(((B.own (AF _) _).own (AF _) _).own (AF _) _).own (AF _) _
  have N:=AE (show Bd (d+1) (L+1) s=.error 3 from P.o);have hT:=U6 _ 3 q (Or.inr (Or.inl rfl)) c0;clear P b9;go_wp2_with fail;with_reducible refine hT.mono ?_
  rintro e w5⟨rfl,f3⟩;have H:=H.next f3 H.lt;have K:=H.cell;have kf:=H.free;go_wp2_with fail;refine AO (v:=.tuple #[.agg Bu,.iface 30 (.int .i64 3)]) fa rfl ⟨Or.inr ⟨3,Mk,N.o,rfl⟩,?_⟩;exact((((B4.next f3 B4.size).own (AF _) _).own (AF _) _).own (AF _) _).own (AF _) _
def VU(B:Nat)(r:Except Int A7)(e:Ending)(w':World):Prop:=(∃p R,r=.ok p/\e=.returned (.tuple #[C3 R,.nilIface])/\A8 (fun b=>B<=b) 4 w' R p)\/(∃c,r=.error c/\e=.returned (.tuple #[.agg Bu,.iface 30 (.int .i64 c)]))
def VV(s:Bs)(w:World)(O:s.length<=1000000000000)(z:Gr w):Calls prog 32 #[s] w fun e A=>VU w.heap.size (Ef s) e A/\Below w.heap.size w A:=by
 by_cases C:20000<s.length
 ·have N:=AE (by unfold Ef;rw[AN C]:Ef s=.error 4);have E:(20000:Int)<s.length:=by omega
  go_enter func32,ntmps32;go_wp2_with fail;refine AO (v:=.tuple #[.agg Bu,.iface 30 (.int .i64 4)]) (by simp[results,results32,go_sem,Bu]) rfl ⟨Or.inr ⟨4,N.o,rfl⟩,?_⟩;go_grown
 have P:=AE (by unfold Ef;rw[AL C]:Ef s=(Bd 4 40 s).map (·.1));have E:¬(20000:Int)<s.length:=aa
 have Q:=z.size;have H:=(A0.new w Bu 44).alloc (.cells #[.int .i64 40] 3);have l:=A0.new (w.alloc (.cells Bu 44)) #[.int .i64 40] 3;have B:=((AG w.heap.size w).alloc (AF _) (.cells Bu 44)).alloc ah (.cells #[.int .i64 40] 3);have q:=z.next B;have D:((w.alloc (.cells Bu 44)).alloc (.cells #[.int .i64 40] 3)).heap.size=w.heap.size+1+1:=ah
 rw[AX]at l;have t:=fun W F G=>VT 4 40 s (w.heap.size+1) 1 40 W (AE rfl) ae (AE rfl) ae F aa G aa
 generalize Bd 4 40 s=r at t P;unfold Bu at H l B q D;go_enter func32,ntmps32;go_wp2_with fail;generalize World.alloc _ _=S at H l B q D|-;with_reducible refine(t _ q l).mono ?_
 rintro e u⟨I,k⟩;have H:=H.Ai k aa;have o:=B.trans ((k.mono (B':=w.heap.size) aa).shut aa);have T:=k.size;clear t k l;rcases I with⟨p,n,x,rfl,U,rfl,y,l⟩|⟨c,x,rfl,rfl⟩
 ·have N:=AE (show Ef s=.ok p from P.o);obtain⟨⟨R,a,d⟩,f,m,⟨g,i,j⟩⟩:=x;simp only[C3,A9];have J:=A0.new u #[.slice R a d,f,m,.slice g i j] 44;have H:=H.alloc (.cells #[.slice R a d,f,m,.slice g i j] 44);have y:=y.next ((AG u.heap.size u).alloc (AF _) (.cells #[.slice R a d,f,m,.slice g i j] 44));have L:=o.alloc o.size (.cells #[.slice R a d,f,m,.slice g i j] 44);have K:=H.cell;have M:=H.free;have V:=J.cell;go_wp2_with fail;refine AO (v:=.tuple #[.agg #[.slice R a d,f,m,.slice g i j],.nilIface]) (by simp[results,results32,go_sem,K]) rfl ⟨Or.inl ⟨_,((R,a,d),f,m,(g,i,j)),N.o,rfl,?_⟩,?_⟩
  ·exact A8.Ac (fun b h _=>by have:=h;omega) ((((y.set _ ar).set _ ar).set _ ar).set _ ar)
  go_grown
 have N:=AE (show Ef s=.error c from P.o);obtain⟨⟨R,a,d⟩,f,m,⟨g,i,j⟩⟩:=x;simp only[C3,A9];have H:=H.alloc (.cells #[.slice R a d,f,m,.slice g i j] 44);have L:=o.alloc o.size (.cells #[.slice R a d,f,m,.slice g i j] 44);have K:=H.cell;have M:=H.free;go_wp2_with fail;refine AO (v:=.tuple #[.agg Bu,.iface 30 c]) (by simp[results,results32,go_sem,Bu,K]) rfl ⟨Or.inr ⟨c,N.o,rfl⟩,?_⟩;go_grown
def Dy(c:UInt8):Bs->Bool×Bs
 |[]=>(false,[])
 |d::r=>if d=c then(true,r)else(false,d::r)
abbrev Hv(w:World)(b:Nat)(s:Bs)(ok:Bool):Prop:=A0 w b #[s,ok] 189
def VW(b:Nat)(s:Bs)(ok:Bool)(c:UInt8)(w:World)(H:Hv w b s ok)(l:s.length<=1000000000000):Calls prog 116 #[.pointer (some ⟨b,0,none⟩),.int .u8 c.toNat] w fun e W=>e=.returned (.bool (Dy c s).1)/\Hv W b (Dy c s).2 ok/\A5 b w.heap.size w W:=by
 have k:=H.cell;have K:=H.free;cases s with
 |nil=>
  go_enter func116,ntmps116;go_wp2;go_ret;exact⟨rfl,H,A5.of (AG _ _)⟩
 |cons d r=>
  by_cases h:d=c
  ·subst h;have T:=AE (show Dy d (d::r)=(true,r)from AN rfl);rw[T.o];have a:=H.set 0 r;go_enter func116,ntmps116;go_wp2;go_ret;exact⟨rfl,xu,(A5.of (AG _ _)).set _⟩
  have T:=AE (show Dy c (d::r)=(false,d::r)from AL h);have f:¬(d.toNat:Int)=(c.toNat:Int):=fun e=>h (BQ.1 aa)
  rw[T.o];go_enter func116,ntmps116;go_wp2;go_ret;exact⟨rfl,H,A5.of (AG _ _)⟩
def X3(b:Nat)(s:Bs)(ok:Bool)(w:World)(f:Hv w b s ok):Calls prog 117 #[.pointer (some ⟨b,0,none⟩)] w fun e W=>e=.returned (.tuple #[])/\Hv W b (Ah s) ok/\A5 b w.heap.size w W:=by
 go_enter func117,ntmps117;go_wp2_with fail;go_loopw[2] (fun _ wr=>∃l:Bs,l.length<=s.length/\Hid (Ah l=Ah s)/\Hv wr b l ok/\A5 b w.heap.size w wr) (fun _ wr=>match wr.cell? ⟨b,0,none⟩with|some v=>Jn v|none=>0)
 case atStart=>exact⟨s,AF _,AE rfl,f,A5.refl _ _ _⟩
 obtain⟨l,g,L,h,B⟩:=hrel;have K:=h.cell;have o:=h.free;have i:wr.cell? ⟨b,0,none⟩=some l:=by rw[K];rfl
 cases l with
 |nil=>
  have E:=AE (se:Ah s=[]);go_wp2_with fail
  go_end0
  exact⟨rfl,by rw[E.o];exact h,B⟩
 |cons d r=>
  have H:=Wk d wr;cases k:Iw d with
  |true=>
   rw[k]at H;have j:=AE (show Ah r=Ah s from by
    rw[<-L.o];unfold Ah trimLeftS;rw[FC (by rw[<-Sf,k])])
   have p:=h.set 0 r;go_wp2_with fail;with_reducible refine H.mono ?_
   rintro e a⟨rfl,rfl⟩;go_wp2_with fail;have c:=(h.set 0 r);simp only[AK]at g;refine⟨⟨r,aa,j,by simpa using c,B.set _⟩,?_⟩;have m:=c.cell 0;rw[i];have n:(World.setCell a ⟨b,0,none⟩ r).cell? ⟨b,0,none⟩=some r:=by rw[m];rfl
   rw[n];simp
  |false=>
   rw[k]at H;have X:=AE (show Ah s=d::r from by
    rw[<-L.o];unfold Ah trimLeftS;rw[DW (by rw[<-Sf,k];decide)])
   go_wp2_with fail;with_reducible refine H.mono ?_
   rintro e a⟨rfl,rfl⟩;go_wp2_with fail
   go_end0
   exact⟨rfl,by rw[X.o];exact h,B⟩
def lP(a:(s.take k).all Ae=true)(b:∀h:k<s.length,Ae s[k]=false):s.takeWhile Ae=s.take k/\s.dropWhile Ae=s.drop k:=by
 have e:=CE k s;have:=Tx (p:=Ae) (v:=s.take k) (s.drop k) (fun c H=>AW.1 a c H) (fun c H=>by
  rcases CL k s.length with h|h
  ·rw[AH h]at H;rw[List.head?_cons,GZ]at H;rw[<-H];exact b h
  rw[BP h]at H;cases H)
 rw[e]at this;exact this
def VX(c:UInt8):Ag [c]=Ae c:=by rw[Qo];simp
def lQ{b:Nat}{ok q:Bool}(a:Hv w b s ok)(l:k<=s.length)(H:s.takeWhile Ae=s.take k/\s.dropWhile Ae=s.drop k)(c:q=(ok&&!decide (k=0))):Hv ((w.setCell ⟨b,1,none⟩ q).setCell ⟨b,0,none⟩ (s.drop k)) b (s.dropWhile Ae) (ok&&!(s.takeWhile Ae).isEmpty)/\A5 b w.heap.size w ((w.setCell ⟨b,1,none⟩ q).setCell ⟨b,0,none⟩ (s.drop k)):=by
 have m:(s.take k).isEmpty=decide (k=0):=by
  cases k with
  |zero=>rfl
  |succ k=>
   rw[AY aa,AT];intro h;rw[GK]at h;have:=CI List.length h;rw[CH,BG]at this;omega
 have d:=(a.set 1 (.bool (ok&&!decide (k=0)))).set 0 (s.drop k);rw[H.1,H.2,m,c];exact⟨by simpa using d,((A5.refl b w.heap.size w).set _).set _⟩
def lR(b:Nat)(s:Bs)(ok:Bool)(w:World)(H:Hv w b s ok)(p:s.length<=1000000000000):Calls prog 118 #[.pointer (some ⟨b,0,none⟩)] w fun e W=>e=.returned (s.takeWhile Ae)/\Hv W b (s.dropWhile Ae) (ok&&!(s.takeWhile Ae).isEmpty)/\A5 b w.heap.size w W:=by
 have K:=H.cell;have r:=H.free;have u:∀q:Bool,∀j,(w.setCell ⟨b,1,none⟩ (.bool q)).cell? ⟨b,j,none⟩=(#[s,.bool q]:Array Value)[j]?:=fun q j=>by
  have:=(H.set 1 q).cell j;simpa using this
 go_enter func118,ntmps118;go_wp2_with fail;go_loop[3] (fun i=>∃k:Nat,i=k/\k<=s.length/\Hid ((s.take k).all Ae=true)) (fun i=>s.length-(intOf i).toNat)
 case atStart=>exact⟨0,rfl,aa,AE ah⟩
 obtain⟨k,rfl,n,A⟩:=hrel;by_cases t:k<s.length
 ·have E:(s.drop k).take 1=[s[k]]:=by rw[AH t];rfl
  have X:=Si ((s.drop k).take 1) w (by rw[E];simp);have f:Ag ((s.drop k).take 1)=Ae s[k]:=by rw[E,VX]
  rw[f]at X;have c:=AE (show Ae s[k]=true->(s.take (k+1)).all Ae=true from fun h=>Yv Ae t A.o h);have d:=AE (show Ae s[k]=false->s.takeWhile Ae=s.take k/\s.dropWhile Ae=s.drop k from fun h=>lP A.o (fun _=>h));clear E f;generalize Ae s[k]=q at X c d;cases q with
  |true=>
   have o:=AE (c.o rfl);clear c d;go_wp2_with fail;with_reducible refine X.mono ?_
   rintro e g⟨rfl,rfl⟩;go_wp2_with fail
   go_round
   case rel=>exact⟨k+1,aj,aa,o⟩
   simp[intOf];omega
  |false=>
   have T:=AE (d.o rfl);have F:=AE (fun q a=>lQ (q:=q) H n T.o a);clear c d;cases ok with
   |true=>
    go_wp2_with fail;with_reducible refine X.mono ?_
    rintro e g⟨rfl,rfl⟩;go_wp2;go_ret;exact⟨by rw[T.o.1];rfl,F.o _ (by cases k<;>simp)⟩
   |false=>
    go_wp2_with fail;with_reducible refine X.mono ?_
    rintro e g⟨rfl,rfl⟩;go_wp2;go_ret;exact⟨by rw[T.o.1];rfl,F.o _ ah⟩
 obtain rfl:k=s.length:=aa
 have T:=AE (show s.takeWhile Ae=s.take s.length/\s.dropWhile Ae=s.drop s.length from lP A.o (fun h=>absurd h (FO _)));have F:=AE (fun q a=>lQ (q:=q) H (AF s.length) T.o a);have l:=AE (fun q a=>by have:=F.o q a;rw[AS]at this;exact this);have m:=AE (by rw[T.o.1,CY]:s.takeWhile Ae=s);clear F T;cases ok with
 |true=>
  go_wp2;go_ret;exact⟨by rw[m.o];rfl,l.o _ (by cases s.length<;>simp)⟩
 |false=>
  go_wp2;go_ret;exact⟨by rw[m.o];rfl,l.o _ ah⟩
end Go.Proofs.YtignjjnflcpiiaaGreatDoor
