/- What stands between boundary lines, line by line, as the -/
import Derived.Test.YtignjjnflcpiiaaGreatDoorS04
import Derived.Test.YtignjjnflcpiiaaGreatDoorS07
import Derived.Test.YtignjjnflcpiiaaGreatDoorS09
set_option linter.all false
namespace Go.Proofs.YtignjjnflcpiiaaGreatDoor
open Go Go.RowKit Proofs.Tryz Lib
theorem bU(x:Bs):Lib.split x [13,10]=match Ab [13,10] x with
  |none=>[x]
  |some (a,r)=>a::Lib.split r [13,10]:=by
 cases H:Ab [13,10] x with
 |none=>
  have h:index x [13,10]=-1:=by rw[He,H]
  unfold Lib.split count countFrom;rw[h];rfl
 |some y=>
  obtain⟨a,r⟩:=y;have h:index x [13,10]=a.length:=by rw[He,H]
  have e:=Ee H;have d:x.drop ((a.length:Int).toNat+([13,10]:Bs).length)=r:=by
   rw[DO,e,←AH,DH rfl]
  have n:x.length=a.length+2+r.length:=by rw[e];simp;omega
  have b:¬((a.length:Int)==-1)=true:=by rw[BG];omega
  have t:count x [13,10]=count r [13,10]+1:=by
   unfold count;conv=>lhs;unfold countFrom
   rw[h,AI b,d,Nat.add_comm,Vw [13,10] (by decide) _ (r.length+1) r (by omega) (by omega)]
  simp only;unfold Lib.split;rw[t];conv=>lhs;unfold splitK
  rw[h,AI b,d,DO,BI,e,AJ,FX rfl]
def I2(b:Bs):List Bs→Bool→List Bs→List Bs→Option (List Bs)
 |[],_,_,_=>none
 |x::X,B,a,o=>match Hx x b with
  |none=>I2 b X B (a++[x]) o
  |some t=>if t=[45,45]then some (if B then o++[join a [13,10]]else o)
   else if t=[]then I2 b X true [] (if B then o++[join a [13,10]]else o)
   else I2 b X B (a++[x]) o
def Da(l:List Bs):Bs:=l.flatMap (·++[13,10])
theorem Wc(l:List Bs)(x:Bs):Da (l++[x])=Da l++(x++[13,10]):=by simp[Da]
theorem bV:∀l:List Bs,(joinTail [13,10] l)++[13,10]=[13,10]++Da l
 |[]=>rfl
 |x::l=>by
  have ih:=bV l;have e:joinTail [13,10] (x::l)=[13,10]++x++joinTail [13,10] l:=by simp[joinTail]
  have E:Da (x::l)=x++[13,10]++Da l:=by simp[Da]
  rw[e,E,AJ,ih];simp
theorem bW{l:List Bs}(h:l≠[]):Da l=join l [13,10]++[13,10]:=by
 cases l with
 |nil=>exact absurd rfl h
 |cons x l=>
  rw[join_cons,AJ,bV];simp[Da]
variable {i k:Nat}{s b p v:Bs}{c:UInt8}{f:A4}{l m:List A4}
theorem tC(op:Option Nat)(out:List Bs)(h:i≤s.length):Mt s b i op out=match Hx (cut (s.drop i) [13,10]).1 b with
  |none=>Mt s b (i+(cut (s.drop i) [13,10]).1.length+2) op out
  |some t=>if t=[45,45]then some (Je s i op out)
   else if t=[]then Mt s b (i+(cut (s.drop i) [13,10]).1.length+2) (some (min (i+(cut (s.drop i) [13,10]).1.length+2) s.length)) (Je s i op out)
   else Mt s b (i+(cut (s.drop i) [13,10]).1.length+2) op out:=by
 unfold Mt;conv=>lhs;unfold Et
 rw[AI (by omega)];have ih:=fun op out=>aS (s:=s) (b:=b) (s.length+1) (s.length+2) (i+(cut (s.drop i) [13,10]).1.length+2) op out (by omega) (by omega)
 simp only;rw[ih,ih];cases Hx (cut (s.drop i) [13,10]).1 b<;>rfl
theorem Wd(op:Option Nat)(out:List Bs)(h:s.length<i):Mt s b i op out=none:=by
 unfold Mt Et;rw[AM h]
def We(s:Bs)(i:Nat)(op:Option Nat)(begun:Bool)(acc:List Bs):Prop:=(op=none∧begun=false)∨∃o,op=some o∧begun=true∧o≤i∧s.drop o=Da acc++s.drop i∧i=o+(Da acc).length
theorem bX{op:Option Nat}{begun:Bool}{acc:List Bs}(h:We s i op begun acc)(out:List Bs):Je s i op out=if begun then out++[join acc [13,10]]else out:=by
 rcases h with⟨rfl,rfl⟩|⟨o,rfl,rfl,c,b,H⟩
 ·rfl
 have p:Ic s i o=join acc [13,10]:=by
  unfold Ic;by_cases a:acc=[]
  ·subst a;have:i=o:=by rw[H];rfl
   rw[this,show max (o-2) o-o=0 by omega];rfl
  rw[b,bW a]at*;rw[AH]at H;have l:([13,10]:Bs).length=2:=rfl;rw[show max (i-2) o-o=(join acc [13,10]).length by omega,AJ,FX rfl]
 show out++[Ic s i o]=_;rw[p];rfl
theorem Wf{s b:Bs}:∀(n i:Nat)(p:Option Nat)(O:List Bs)(B:Bool)(A:List Bs),s.length+1-i≤n→i≤s.length→We s i p B A→Mt s b i p O=I2 b (Lib.split (s.drop i) [13,10]) B A O
 |0,i,_,_,_,_,f,c,_=>by omega
 |n+1,i,p,O,B,A,f,c,H=>by
  rw[tC p O c,bU,Fx];cases g:Ab [13,10] (s.drop i)with
  |none=>
   have u:(s.drop i).length=s.length-i:=AS;simp only;unfold I2;cases Hx (s.drop i) b with
   |none=>
    simp only;rw[Wd _ _ (by omega)];rfl
   |some t=>
    simp only;rw[bX H,Wd _ _ (by omega),Wd _ _ (by omega)];split
    ·rfl
    split
    ·rfl
    rfl
  |some y=>
   obtain⟨a,r⟩:=y;have e:=Ee g;have j:(s.drop i).length=a.length+2+r.length:=by rw[e];simp;omega
   rw[AS]at j;have d:s.drop (i+a.length+2)=r:=by
    rw[show i+a.length+2=i+(a.length+2) by omega,←DW,e];have:(a++[13,10]).length=a.length+2:=by simp
    rw[←this,DH rfl]
   have k:We s (i+a.length+2) p B (A++[a]):=by
    rcases H with h|⟨o,l,m,v,q,w⟩
    ·exact Or.inl h
    refine Or.inr ⟨o,l,m,by omega,?_,?_⟩
    ·rw[q,d,e,Wc];simp
    rw[Wc];simp;omega
   have ih:=Wf (s:=s) (b:=b) n (i+a.length+2) p O B (A++[a]) (by omega) (by omega) k;rw[d]at ih;simp only;unfold I2;cases x:Hx a b with
   |none=>exact ih
   |some t=>
    simp only;rw[bX H];split
    ·rfl
    split
    ·have I:=Wf (s:=s) (b:=b) n (i+a.length+2) (some (i+a.length+2)) (if B=true then O++[join A [13,10]]else O) true [] (by omega) (by omega) (Or.inr ⟨_,rfl,rfl,AC _,rfl,rfl⟩);rw[d]at I;rw[EN (by omega)];exact I
    exact ih
theorem tD(s b:Bs):I2 b (Lib.split s [13,10]) false [] []=Dm s b:=(Wf (s:=s) (b:=b) (s.length+1) 0 none [] false [] (by omega) (CX _) (Or.inl ⟨rfl,rfl⟩)).symm
theorem tE(x:Bs):count x [13,10]=match Ab [13,10] x with
  |none=>0
  |some (_,r)=>count r [13,10]+1:=by
 cases h:Ab [13,10] x with
 |none=>
  have H:index x [13,10]=-1:=by rw[He,h]
  unfold count countFrom;rw[H];rfl
 |some y=>
  obtain⟨a,r⟩:=y;have H:index x [13,10]=a.length:=by rw[He,h]
  have e:=Ee h;have d:x.drop ((a.length:Int).toNat+([13,10]:Bs).length)=r:=by
   rw[DO,e,←AH,DH rfl]
  have n:x.length=a.length+2+r.length:=by rw[e];simp;omega
  have b:¬((a.length:Int)==-1)=true:=by rw[BG];omega
  simp only;unfold count;conv=>lhs;unfold countFrom
  rw[H,AI b,d,Nat.add_comm,Vw [13,10] (by decide) _ (r.length+1) r (by omega) (by omega)]
theorem tF(x:Bs):replaceAll x [13,10] []=match Ab [13,10] x with
  |none=>x
  |some (a,r)=>a++replaceAll r [13,10] []:=by
 have e:∀y:Bs,replaceAll y [13,10] []=replaceK [13,10] [] (count y [13,10]) y:=by
  intro y;unfold replaceAll replace replaceNum;rw[AI (by decide),AM (Or.inl (by decide))]
 rw[e,tE];cases h:Ab [13,10] x with
 |none=>rfl
 |some y=>
  obtain⟨a,r⟩:=y;have H:index x [13,10]=(a.length:Nat):=by rw[He,h]
  have E:=Ee h;simp only;rw[replaceK_hit _ _ _ _ _ H,e r];have d:x.drop (a.length+([13,10]:Bs).length)=r:=by rw[E,←AH,DH rfl]
  rw[d,E,AJ a,FX rfl,BM]
def F2:Bs→Bool
 |13::10::l=>F2 l
 |c::l=>L8 c&&F2 l
 |[]=>true
theorem bY(l:Bs):F2 (13::10::l)=F2 l:=by
 conv=>lhs;unfold F2
 rfl
theorem bZ{l:Bs}(h:[13,10].isPrefixOf (c::l)=false):F2 (c::l)=(L8 c&&F2 l):=by
 conv=>lhs;unfold F2
 split
 ·rename_i L H;injection H with a b;subst a b;simp[List.isPrefixOf]at h
 ·rename_i C L _ H;injection H with a b;subst a b;rfl
 rename_i H;cases H
theorem cA:∀(x:Bs),F2 x=match Ab [13,10] x with
  |none=>x.all L8
  |some (a,r)=>a.all L8&&F2 r
 |[]=>rfl
 |c::x=>by
  have ih:=cA x;conv=>rhs;unfold Ab
  by_cases h:([13,10]:Bs).isPrefixOf (c::x)=true
  ·rw[AM h];obtain⟨y,H⟩:=BR.1 h;rw[←H];simp only[CK,DK];rw[bY];rfl
  rw[AI h,bZ (AP.2 h),ih];cases Ab [13,10] x with
  |none=>rfl
  |some y=>
   obtain⟨a,r⟩:=y;simp[GV]
theorem tG:∀(n:Nat)(x:Bs),x.length≤n→F2 x=Ie x:=by
 intro n;induction n with
 |zero=>
  intro x h;have:x=[]:=DI.1 (by omega);subst this;rfl
 |succ n ih=>
  intro x h;unfold Ie;rw[cA,tF];cases H:Ab [13,10] x with
  |none=>rfl
  |some y=>
   obtain⟨a,r⟩:=y;have e:=AF List.length (Ee H);simp at e;simp only;rw[GN,ih r (by omega)];rfl
def Ji(s:Bs):Bool:=decide ((Bo 47 s).length≤2)&&(Ae ((Bo 47 s).headD [])&&Ae ((Bo 47 s).getLastD []))
theorem cB(s:Bs):Ji s=(Ae (cut s [47]).1&&(!(cut s [47]).2.2||Ae (cut s [47]).2.1)):=by
 unfold Ji;rcases Sl s 47 with⟨h,e⟩|⟨a,b,rfl,h,e⟩
 ·rw[e,Ue h];simp
 rw[e,Yc h];by_cases H:(47:UInt8)∈b
 ·have l:2≤(Bo 47 b).length:=by
   rw[Q1];have:=List.count_pos_iff.2 H;omega
  have c:Ae b=false:=by
   rw[AP];intro t;exact(Jx ((La t).2 _ H)).2.2.1 rfl
  have d:decide ((a::Bo 47 b).length≤2)=false:=by rw[EB];simp;omega
  rw[d,c];simp
 rw[Ue H];simp[List.getLastD]
theorem cC(p:Nat→Bool):∀(K n k:Nat),n≤k→k<n+K→(∀j,n≤j→j<k→p j=false)→p k=true→Hj p K n=k
 |0,n,k,d,e,_,_=>by omega
 |K+1,n,k,d,e,H,c=>by
  unfold Hj;rcases CN n k with h|h
  ·rw[H n (AC _) h,AI (by decide)];exact cC p K (n+1) k h (by omega) (fun j a b=>H j (by omega) b) c
  rw[show n=k by omega,c,AM rfl]
theorem cD{l:List Bs}(h:∀j,j<k→Dd p l j=true)(H:Dd p l k=false):Hy p l=k:=by
 unfold Hy;have b:=Qn p l k h;exact cC _ _ 0 k (CX _) (by omega) (fun j _ a=>by rw[h j a];rfl) (by rw[H];rfl)
theorem cE{a:A3}(h:Cl v=some a):(if a.hasFrag then 35::a.frag else[])=(match Ab [35] v with|none=>[]|some (_,y)=>35::y):=by
 unfold Cl at h;split at h
 ·simp at h;subst h;show(if(cut v [35]).2.2=true then 35::(cut v [35]).2.1 else[])=_;rw[Fx];cases Ab [35] v with
  |none=>rfl
  |some x=>rfl
 cases h
theorem cF(h:A2 f.1=A2 s)(l:List A4):Ai (f::l) s=some f.2:=by unfold Ai;rw[AM h]
theorem cG(h:A2 f.1≠A2 s)(l:List A4):Ai (f::l) s=Ai l s:=by conv=>lhs;unfold Ai;rw[AI h]
theorem Wg{q:A4→Bool}{s:Bs}(h:∀f:A4,A2 f.1=A2 s→q f=true):∀l:List A4,Ai (l.filter q) s=Ai l s
 |[]=>rfl
 |f::l=>by
  rw[DA];by_cases H:A2 f.1=A2 s
  ·rw[AM (h f H),cF H,cF H]
  rw[cG H];split
  ·rw[cG H,Wg h l]
  exact Wg h l
theorem tH:A2 Bl≠A2 Bu:=by decide
theorem tI(h:List A4)(H:A2 s≠A2 Bl):Ai (Bz h) s=Ai h s:=Wg (fun f a=>by rw[a];simpa using H) h
theorem Jz:Ca l=true↔∀f∈l,Eg f.1=true∧Fi f.2=true:=by
 unfold Ca;rw[AW];constructor
 ·intro h f H;have:=h f H;rw[BL]at this;exact this
 intro h f H;rw[BL];exact h f H
theorem cH(q:A4→Bool)(h:Ca l=true):Ca (l.filter q)=true:=Jz.2 fun f H=>Jz.1 h f (DL.1 H).1
theorem tJ(h:Ca l=true)(H:Ca m=true):Ca (l++m)=true:=Jz.2 fun f a=>(BP.1 a).elim (Jz.1 h f) (Jz.1 H f)
theorem tK(b:Bs):(Ck b).1=Iz∨(Ck b).1=Hw∨(Ck b).1=Ib:=by
 unfold Ck;split
 ·exact Or.inl rfl
 split
 ·exact Or.inr (Or.inl rfl)
 exact Or.inr (Or.inr rfl)
theorem tL(b:Bs):Ca [(Bl,(Ck b).1)]=true:=by
 rcases tK b with h|h|h<;>rw[h]<;>decide
def tM(q:A8):Prop:=Ca q.head=true∧Bg q.head=some none∧q.many=false∧q.parts=[]
theorem cJ{n b:Bs}(d:∀c∈b,Bx c=true):∀{l:List A4},(∀p∈l,Km p)→∀p∈Ch l n b,Km p
 |[],_,p,H=>by cases H
 |f::l,h,p,H=>by
  unfold Ch at H;have a:=h f (CD ..);split at H
  ·rcases CF.1 H with rfl|H
   ·exact⟨a.1,a.2.1,d⟩
   exact h p (CA _ H)
  rcases CF.1 H with rfl|H
  ·exact a
  exact cJ d (fun q e=>h q (CA _ e)) p H
theorem cK{b v:Bs}(c:Fi (El v b)=true):∀{h:List A4},Ca h=true→Ai h Bu=some v→Ca (Dr h b)=true
 |[],_,h=>by cases h
 |f::l,r,h=>by
  have m:=Jz.1 r;unfold Ai at h;unfold Dr;split
  ·rename_i a;rw[AM a]at h;simp at h;refine Jz.2 fun g H=>?_
   rcases CF.1 H with rfl|H
   ·exact⟨(m f (CD ..)).1,by rw[h];exact c⟩
   exact m g (CA _ H)
  rename_i a;rw[AI a]at h;have ih:=Jz.1 (cK c (h:=l) (Jz.2 fun g H=>m g (CA _ H)) h);refine Jz.2 fun g H=>?_
  rcases CF.1 H with rfl|H
  ·exact m g (CD ..)
  exact ih g H
theorem tN(u:Nat):∀c∈decDigits u,48≤c.toNat∧c.toNat≤57:=by
 induction u using Nat.strongRecOn with
 |_ u ih=>
  intro c H;by_cases h:u<10
  ·rw[decDigits,dif_pos h]at H;rw[CP.1 H,CO];omega
  rw[decDigits,dif_neg h]at H;rcases BP.1 H with H|H
  ·exact ih (u/10) (by omega) c H
  rw[CP.1 H,CO];omega
theorem Wh(h:48≤c.toNat∧c.toNat≤57):Bx c=true∧c≠13∧c≠32∧c≠64∧c≠47∧c≠46∧c≠35∧c≠63∧c≠58∧Jf c=true:=by
 have k:((List.range 256).all fun n=>!(decide (48≤n)&&decide (n≤57))||(Bx n.toUInt8&&n.toUInt8 !=13&&n.toUInt8 !=32&&n.toUInt8 !=64&&n.toUInt8 !=47&&n.toUInt8 !=46&&n.toUInt8 !=35&&n.toUInt8 !=63&&n.toUInt8 !=58&&Jf n.toUInt8))=true:=by kernel_rfl
 have:=AW.1 k c.toNat (BY.2 c.toNat_lt);rw[show c.toNat.toUInt8=c by simp,BD h.1,BD h.2]at this;simpa[and_assoc]using this
theorem tO(l:List Bs):(∀c∈Cj l,Bx c=true)∧(13:UInt8)∉Cj l∧hasSuffix (Cj l) [32]=false:=by
 have m:∀c∈Cj l,c=98∨(48≤c.toNat∧c.toNat≤57):=by
  intro c H;unfold Cj at H;rw[IM]at H;rcases CF.1 H with rfl|H
  ·exact Or.inl rfl
  exact Or.inr (tN _ c H)
 refine⟨fun c H=>?_,fun H=>?_,?_⟩
 ·rcases m c H with rfl|h
  ·decide
  exact(Wh h).1
 ·rcases m _ H with h|h
  ·revert h;decide
  exact(Wh h).2.1 rfl
 rw[AP];intro h;unfold hasSuffix at h;obtain⟨y,a⟩:=GR.1 h;have H:(32:UInt8)∈Cj l:=by rw[←a];simp
 rcases m _ H with h|h
 ·revert h;decide
 exact(Wh h).2.2.1 rfl
end Go.Proofs.YtignjjnflcpiiaaGreatDoor
