/- Letters unpacked by bits, by the document's answer: the p -/
import Derived.Test.YtignjjnflcpiiaaGreatDoorV14
import Derived.Test.YtignjjnflcpiiaaGreatDoorV16
set_option linter.all false
namespace Go.Proofs.YtignjjnflcpiiaaGreatDoor
open Go Go.RowKit Proofs.Tryz Lib
def Mi(l:Bs)(p:Nat):Bool:=decide (p<2)&&(decide (p<l.length)&&(l.getD (l.length-1-p) 0==61))
def TR(l:Bs):Dh l=if Mi l 0 then(if Mi l 1 then 2 else 1)else 0:=by
 have d:l=l.reverse.reverse:=(List.reverse_reverse l).symm;unfold Dh;generalize l.reverse=r at d;subst d
 match r with
 |[]=>rfl
 |[a]=>
  unfold Mi;by_cases h:a=61
  ·subst h;rfl
  have f:((([a]:Bs).reverse).getD ((([a]:Bs).reverse).length-1-0) 0==61)=false:=by
   simp[h]
  rw[f];simp only[IV,CC,DM];split
  ·rename_i e;injection e with e _;exact absurd e h
  ·rename_i e;injection e with e _;exact absurd e h
  rfl
 |a::b::t=>
  have E:((a::b::t).reverse).getD (((a::b::t).reverse).length-1-0) 0=a:=by
   simp[AM]
  have g:((a::b::t).reverse).getD (((a::b::t).reverse).length-1-1) 0=b:=by
   simp[AM]
  have L:decide (0<((a::b::t).reverse).length)=true:=ah
  have i:decide (1<((a::b::t).reverse).length)=true:=ah
  unfold Mi;rw[E,g,L,i];by_cases H:a=61
  ·subst H;by_cases c:b=61
   ·subst c;rfl
   have:(b==61)=false:=AI.2 c;rw[this];simp only[IV,CC,DM];split
   ·rename_i e;injection e with _ e;injection e with e _;exact absurd e c
   ·rfl
   rename_i f j;exact absurd rfl (j _)
  have:(a==61)=false:=AI.2 H;rw[this];simp only[IV,CC,DM];split
  ·rename_i e;injection e with e _;exact absurd e H
  ·rename_i e;injection e with e _;exact absurd e H
  rfl
def TS{c:UInt8}(h:∀m,m<64->Bv m≠c):Bb c<0:=by
 have e:=Y8 c;by_cases H:Bb c<0
 ·exact H
 obtain⟨o,a⟩:∃o:Nat,Bb c=o:=⟨(Bb c).toNat,aa⟩;have b:indexByte Q1 c=(o:Int):=a;have d:=(IZ b).1;refine absurd ?_ (h o aa);unfold Bv;rw[AM,d];rfl
def Hu(n m:Nat):Nat:=n/2^(5-m)%2
def TT(n:Nat)(m:Nat)(h:m<6):(Aq n).take (m+1)=(Aq n).take m++[Hu n m]:=by
 have:m=0\/m=1\/m=2\/m=3\/m=4\/m=5:=aa
 rcases this with rfl|rfl|rfl|rfl|rfl|rfl<;>simp[Aq,Hu]
def TU(n:Nat):∀x∈Aq n,x<=1:=by
 intro x h;simp[Aq]at h;omega
theorem lA:∀(l:Bs)(b:List Nat),D2 l=some b->b.length=6*l.length/\∀x∈b,x<=1
 |[],b,h=>by
  simp[D2]at h;subst h;simp
 |c::l,b,h=>by
  rw[fO]at h;split at h
  ·cases h
  simp only[BM]at h;obtain⟨y,a,rfl⟩:=h;obtain⟨A,d⟩:=lA l y a;refine⟨by simp[Aq,A];omega,fun x H=>?_⟩;rcases BY.1 H with H|H
  ·exact TU _ x H
  exact d x H
def TV(c:UInt8):(!(Am c))=(((c.toNat:Int)!=13)&&(((c.toNat:Int)!=10)&&(((c.toNat:Int)!=32)&&((c.toNat:Int)!=9)))):=by
 unfold Am;rw[F2 c 13,F2 c 10,F2 c 32,F2 c 9];show(!((((c.toNat:Int)==13)||((c.toNat:Int)==10)||((c.toNat:Int)==32))||((c.toNat:Int)==9)))=_;simp only[bne];cases((c.toNat:Int)==13)<;>cases((c.toNat:Int)==10)<;>cases((c.toNat:Int)==32)<;>rfl
end Go.Proofs.YtignjjnflcpiiaaGreatDoor
