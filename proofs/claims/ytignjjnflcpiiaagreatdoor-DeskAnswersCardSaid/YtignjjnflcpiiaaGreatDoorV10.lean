/- What a whole with parts is written as is read as these pa -/
import Derived.Test.YtignjjnflcpiiaaGreatDoorV03
import Derived.Test.YtignjjnflcpiiaaGreatDoorV05
import Derived.Test.YtignjjnflcpiiaaGreatDoorV06
set_option linter.all false
namespace Go.Proofs.YtignjjnflcpiiaaGreatDoor
open Go Go.RowKit Proofs.Tryz Lib
variable {s:Bs}{f:A4}{l m:List A4}
def iT(h:A2 f.1=A2 s)(l:List A4):Aj (f::l) s=some f.2:=by unfold Aj;rw[AN h]
def iU(h:A2 f.1≠A2 s)(l:List A4):Aj (f::l) s=Aj l s:=by conv=>lhs;unfold Aj;rw[AL h]
theorem aE{q:A4->Bool}{s:Bs}(h:∀f:A4,A2 f.1=A2 s->q f=true):∀l:List A4,Aj (l.filter q) s=Aj l s
 |[]=>rfl
 |f::l=>by
  rw[DB];by_cases H:A2 f.1=A2 s
  ·rw[AN (h f H),iT H,iT H]
  rw[iU H];split
  ·rw[iU H,aE h l]
  exact aE h l
def zA:A2 Bn≠A2 C2:=ae
def zB(h:List A4)(H:A2 s≠A2 Bn):Aj (C8 h) s=Aj h s:=aE (fun f a=>by rw[a];simpa using H) h
def Mh:Ck l=true↔∀f∈l,Ez f.1=true/\Gd f.2=true:=by
 unfold Ck;rw[AW];constructor
 ·intro h f H;have:=h f H;rw[BR]at this;exact this
 intro h f H;rw[BR];exact h f H
def iV(q:A4->Bool)(h:Ck l=true):Ck (l.filter q)=true:=Mh.2 fun f H=>Mh.1 h f (DP.1 H).1
def zC(h:Ck l=true)(H:Ck m=true):Ck (l++m)=true:=Mh.2 fun f a=>(BY.1 a).elim (Mh.1 h f) (Mh.1 H f)
def zD(b:Bs):(Cv b).1=Kl\/(Cv b).1=I2\/(Cv b).1=Jq:=by
 unfold Cv;split
 ·exact Or.inl rfl
 split
 ·exact Or.inr (Or.inl rfl)
 exact Or.inr (Or.inr rfl)
def zE(b:Bs):Ck [(Bn,(Cv b).1)]=true:=by
 rcases zD b with h|h|h<;>rw[h]<;>decide
def zF(q:A7):Prop:=Ck q.head=true/\Bo q.head=some none/\q.many=false/\q.parts=[]
theorem iW{n b:Bs}(d:∀c∈b,C6 c=true):∀{l:List A4},(∀p∈l,N2 p)->∀p∈Cs l n b,N2 p
 |[],_,p,H=>by cases H
 |f::l,h,p,H=>by
  unfold Cs at H;have a:=h f (CN ..);split at H
  ·rcases CG.1 H with rfl|H
   ·exact⟨a.1,a.2.1,d⟩
   exact h p (CJ _ H)
  rcases CG.1 H with rfl|H
  ·exact a
  exact iW d (fun q e=>h q (CJ _ e)) p H
theorem iX{b v:Bs}(c:Gd (Fa v b)=true):∀{h:List A4},Ck h=true->Aj h C2=some v->Ck (Eg h b)=true
 |[],_,h=>ee
 |f::l,r,h=>by
  have m:=Mh.1 r;unfold Aj at h;unfold Eg;split
  ·rename_i a;rw[AN a]at h;simp at h;refine Mh.2 fun g H=>?_
   rcases CG.1 H with rfl|H
   ·exact⟨(m f (CN ..)).1,by rw[h];exact c⟩
   exact m g (CJ _ H)
  rename_i a;rw[AL a]at h;have ih:=Mh.1 (iX c (h:=l) (Mh.2 fun g H=>m g (CJ _ H)) h);refine Mh.2 fun g H=>?_
  rcases CG.1 H with rfl|H
  ·exact m g (CN ..)
  exact ih g H
def zG(u:Nat):∀c∈decDigits u,48<=c.toNat/\c.toNat<=57:=by
 induction u using Nat.strongRecOn with
 |_ u ih=>
  intro c H;by_cases h:u<10
  ·rw[decDigits,dif_pos h]at H;rw[CS.1 H,CX];omega
  rw[decDigits,dif_neg h]at H;rcases BY.1 H with H|H
  ·exact ih (u/10) aa c H
  rw[CS.1 H,CX];omega
def aF{c:UInt8}(h:48<=c.toNat/\c.toNat<=57):C6 c=true/\c≠13/\c≠32/\c≠64/\c≠47/\c≠46/\c≠35/\c≠63/\c≠58/\Lb c=true:=by
 have k:((List.range 256).all fun n=>!(decide (48<=n)&&decide (n<=57))||(C6 n.toUInt8&&n.toUInt8 !=13&&n.toUInt8 !=32&&n.toUInt8 !=64&&n.toUInt8 !=47&&n.toUInt8 !=46&&n.toUInt8 !=35&&n.toUInt8 !=63&&n.toUInt8 !=58&&Lb n.toUInt8))=true:=af
 have:=AW.1 k c.toNat (BT.2 c.toNat_lt);rw[show c.toNat.toUInt8=c by simp,BH h.1,BH h.2]at this;simpa[and_assoc]using this
def zH(l:List Bs):(∀c∈Cu l,C6 c=true)/\(13:UInt8)∉Cu l/\hasSuffix (Cu l) [32]=false:=by
 have m:∀c∈Cu l,c=98\/(48<=c.toNat/\c.toNat<=57):=by
  intro c H;unfold Cu at H;rw[JO]at H;rcases CG.1 H with rfl|H
  ·exact Or.inl rfl
  exact Or.inr (zG _ c H)
 refine⟨fun c H=>?_,fun H=>?_,?_⟩
 ·rcases m c H with rfl|h
  ·decide
  exact(aF h).1
 ·rcases m _ H with h|h
  ·revert h;decide
  exact(aF h).2.1 rfl
 rw[AT];intro h;unfold hasSuffix at h;obtain⟨y,a⟩:=GI.1 h;have H:(32:UInt8)∈Cu l:=by rw[<-a];simp
 rcases m _ H with h|h
 ·revert h;decide
 exact(aF h).2.2.1 rfl
end Go.Proofs.YtignjjnflcpiiaaGreatDoor
