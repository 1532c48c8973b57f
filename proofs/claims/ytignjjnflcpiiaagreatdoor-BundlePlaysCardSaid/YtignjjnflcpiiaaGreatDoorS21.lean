/- Letters unpacked by bits, by the document's answer: the p -/
import Derived.Test.YtignjjnflcpiiaaGreatDoorS18
import Derived.Test.YtignjjnflcpiiaaGreatDoorS19
set_option linter.all false
namespace Go.Proofs.YtignjjnflcpiiaaGreatDoor
open Go Go.RowKit Proofs.Tryz Lib
def K3(l:Bs)(p:Nat):Bool:=decide (p<2)&&(decide (p<l.length)&&(l.getD (l.length-1-p) 0==61))
theorem wQ(l:Bs):D7 l=if K3 l 0 then(if K3 l 1 then 2 else 1)else 0:=by
 have d:l=l.reverse.reverse:=(List.reverse_reverse l).symm;unfold D7;generalize l.reverse=r at d;subst d
 match r with
 |[]=>rfl
 |[a]=>
  unfold K3;by_cases h:a=61
  ·subst h;rfl
  have f:((([a]:Bs).reverse).getD ((([a]:Bs).reverse).length-1-0) 0==61)=false:=by
   simp[h]
  rw[f];simp only[GU,BU,DJ];split
  ·rename_i e;injection e with e _;exact absurd e h
  ·rename_i e;injection e with e _;exact absurd e h
  rfl
 |a::b::t=>
  have E:((a::b::t).reverse).getD (((a::b::t).reverse).length-1-0) 0=a:=by
   simp[AK]
  have g:((a::b::t).reverse).getD (((a::b::t).reverse).length-1-1) 0=b:=by
   simp[AK]
  have L:decide (0<((a::b::t).reverse).length)=true:=by simp
  have i:decide (1<((a::b::t).reverse).length)=true:=by simp
  unfold K3;rw[E,g,L,i];by_cases H:a=61
  ·subst H;by_cases c:b=61
   ·subst c;rfl
   have:(b==61)=false:=AG.2 c;rw[this];simp only[GU,BU,DJ];split
   ·rename_i e;injection e with _ e;injection e with e _;exact absurd e c
   ·rfl
   rename_i f j;exact absurd rfl (j _)
  have:(a==61)=false:=AG.2 H;rw[this];simp only[GU,BU,DJ];split
  ·rename_i e;injection e with e _;exact absurd e H
  ·rename_i e;injection e with e _;exact absurd e H
  rfl
theorem wR{c:UInt8}(h:∀m,m<64→Bp m≠c):Ax c<0:=by
 have e:=Uh c;by_cases H:Ax c<0
 ·exact H
 obtain⟨o,a⟩:∃o:Nat,Ax c=o:=⟨(Ax c).toNat,by omega⟩;have b:indexByte N4 c=(o:Int):=a;have d:=(GZ b).1;refine absurd ?_ (h o (by omega));unfold Bp;rw[AK,d];rfl
def Gg(n m:Nat):Nat:=n/2^(5-m)%2
theorem wS(n:Nat)(m:Nat)(h:m<6):(An n).take (m+1)=(An n).take m++[Gg n m]:=by
 have:m=0∨m=1∨m=2∨m=3∨m=4∨m=5:=by omega
 rcases this with rfl|rfl|rfl|rfl|rfl|rfl<;>simp[An,Gg]
theorem wT(n:Nat):∀x∈An n,x≤1:=by
 intro x h;simp[An]at h;omega
theorem eD:∀(l:Bs)(b:List Nat),Cv l=some b→b.length=6*l.length∧∀x∈b,x≤1
 |[],b,h=>by
  simp[Cv]at h;subst h;simp
 |c::l,b,h=>by
  rw[Z7]at h;split at h
  ·cases h
  simp only[BH]at h;obtain⟨y,a,rfl⟩:=h;obtain⟨A,d⟩:=eD l y a;refine⟨by simp[An,A];omega,fun x H=>?_⟩;rcases BP.1 H with H|H
  ·exact wT _ x H
  exact d x H
theorem wU(c:UInt8):(!(Al c))=(((c.toNat:Int)!=13)&&(((c.toNat:Int)!=10)&&(((c.toNat:Int)!=32)&&((c.toNat:Int)!=9)))):=by
 unfold Al;rw[Ei c 13,Ei c 10,Ei c 32,Ei c 9];show(!((((c.toNat:Int)==13)||((c.toNat:Int)==10)||((c.toNat:Int)==32))||((c.toNat:Int)==9)))=_;simp only[bne];cases((c.toNat:Int)==13)<;>cases((c.toNat:Int)==10)<;>cases((c.toNat:Int)==32)<;>rfl
end Go.Proofs.YtignjjnflcpiiaaGreatDoor
