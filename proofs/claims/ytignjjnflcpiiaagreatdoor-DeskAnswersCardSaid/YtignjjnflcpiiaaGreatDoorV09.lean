/- What stands between boundary lines, line by line, as the -/
import Derived.Test.YtignjjnflcpiiaaGreatDoorV03
import Derived.Test.YtignjjnflcpiiaaGreatDoorV06
set_option linter.all false
namespace Go.Proofs.YtignjjnflcpiiaaGreatDoor
open Go Go.RowKit Proofs.Tryz Lib
def iG(x:Bs):Lib.split x [13,10]=match Ao [13,10] x with
  |none=>[x]
  |some (a,r)=>a::Lib.split r [13,10]:=by
 cases H:Ao [13,10] x with
 |none=>
  have h:index x [13,10]=-1:=by rw[Jl,H]
  unfold Lib.split count countFrom;rw[h];rfl
 |some y=>
  obtain⟨a,r⟩:=y;have h:index x [13,10]=a.length:=by rw[Jl,H]
  have e:=F7 H;have d:x.drop ((a.length:Int).toNat+([13,10]:Bs).length)=r:=by
   rw[EW,e,<-AJ,DS rfl]
  have n:x.length=a.length+2+r.length:=uw
  have b:¬((a.length:Int)==-1)=true:=uz
  have t:count x [13,10]=count r [13,10]+1:=by
   unfold count;conv=>lhs;unfold countFrom
   rw[h,AL b,d,KI,Zl [13,10] ae _ (r.length+1) r aa aa]
  simp only;unfold Lib.split;rw[t];conv=>lhs;unfold splitK
  rw[h,AL b,d,EW,BI,e,AP,GU rfl]
def Jd(b:Bs):List Bs->Bool->List Bs->List Bs->Option (List Bs)
 |[],_,_,_=>none
 |x::X,B,a,o=>match J9 x b with
  |none=>Jd b X B (a++[x]) o
  |some t=>if t=[45,45]then some (if B then o++[join a [13,10]]else o)
   else if t=[]then Jd b X true [] (if B then o++[join a [13,10]]else o)
   else Jd b X B (a++[x]) o
def Dp(l:List Bs):Bs:=l.flatMap (·++[13,10])
def Zz(l:List Bs)(x:Bs):Dp (l++[x])=Dp l++(x++[13,10]):=by simp[Dp]
theorem iH:∀l:List Bs,(joinTail [13,10] l)++[13,10]=[13,10]++Dp l
 |[]=>rfl
 |x::l=>by
  have ih:=iH l;have e:joinTail [13,10] (x::l)=[13,10]++x++joinTail [13,10] l:=by simp[joinTail]
  have E:Dp (x::l)=x++[13,10]++Dp l:=by simp[Dp]
  rw[e,E,AP,ih];simp
variable {l acc:List Bs}{i k:Nat}{s b p v:Bs}
def iI(h:l≠[]):Dp l=join l [13,10]++[13,10]:=by
 cases l with
 |nil=>exact absurd rfl h
 |cons x l=>
  rw[join_cons,AP,iH];simp[Dp]
def yT(op:Option Nat)(out:List Bs)(h:i<=s.length):Pl s b i op out=match J9 (cut (s.drop i) [13,10]).1 b with
  |none=>Pl s b (i+(cut (s.drop i) [13,10]).1.length+2) op out
  |some t=>if t=[45,45]then some (Lc s i op out)
   else if t=[]then Pl s b (i+(cut (s.drop i) [13,10]).1.length+2) (some (min (i+(cut (s.drop i) [13,10]).1.length+2) s.length)) (Lc s i op out)
   else Pl s b (i+(cut (s.drop i) [13,10]).1.length+2) op out:=by
 unfold Pl;conv=>lhs;unfold Fi
 rw[AL aa];have ih:=fun op out=>gN (s:=s) (b:=b) (s.length+1) (s.length+2) (i+(cut (s.drop i) [13,10]).1.length+2) op out aa aa
 simp only;rw[ih,ih];cases J9 (cut (s.drop i) [13,10]).1 b<;>rfl
def aA(op:Option Nat)(out:List Bs)(h:s.length<i):Pl s b i op out=none:=by
 unfold Pl Fi;rw[AN h]
def aB(s:Bs)(i:Nat)(op:Option Nat)(begun:Bool)(acc:List Bs):Prop:=(op=none/\begun=false)\/∃o,op=some o/\begun=true/\o<=i/\s.drop o=Dp acc++s.drop i/\i=o+(Dp acc).length
theorem iJ{op:Option Nat}{begun:Bool}(h:aB s i op begun acc)(out:List Bs):Lc s i op out=if begun then out++[join acc [13,10]]else out:=by
 rcases h with⟨rfl,rfl⟩|⟨o,rfl,rfl,c,b,H⟩
 ·rfl
 have p:Jr s i o=join acc [13,10]:=by
  unfold Jr;by_cases a:acc=[]
  ·subst a;have:i=o:=by rw[H];rfl
   rw[this,show max (o-2) o-o=0 by omega];rfl
  rw[b,iI a]at*;rw[AJ]at H;have l:([13,10]:Bs).length=2:=rfl;rw[show max (i-2) o-o=(join acc [13,10]).length by omega,AP,GU rfl]
 show out++[Jr s i o]=_;rw[p];rfl
theorem aC{s b:Bs}:∀(n i:Nat)(p:Option Nat)(O:List Bs)(B:Bool)(A:List Bs),s.length+1-i<=n->i<=s.length->aB s i p B A->Pl s b i p O=Jd b (Lib.split (s.drop i) [13,10]) B A O
 |0,i,_,_,_,_,f,c,_=>aa
 |n+1,i,p,O,B,A,f,c,H=>by
  rw[yT p O c,iG,Gs];cases g:Ao [13,10] (s.drop i)with
  |none=>
   have q:(s.drop i).length=s.length-i:=BD;simp only;unfold Jd;cases J9 (s.drop i) b with
   |none=>
    simp only;rw[aA _ _ aa];rfl
   |some t=>
    simp only;rw[iJ H,aA _ _ aa,aA _ _ aa];split
    ·rfl
    split
    ·rfl
    rfl
  |some y=>
   obtain⟨a,r⟩:=y;have e:=F7 g;have j:(s.drop i).length=a.length+2+r.length:=uw
   rw[BD]at j;have d:s.drop (i+a.length+2)=r:=by
    rw[show i+a.length+2=i+(a.length+2) by omega,<-ET,e];have:(a++[13,10]).length=a.length+2:=ah
    rw[<-this,DS rfl]
   have k:aB s (i+a.length+2) p B (A++[a]):=by
    rcases H with h|⟨o,h0,l,u,m,v⟩
    ·exact Or.inl h
    refine Or.inr ⟨o,h0,l,aa,?_,?_⟩
    ·rw[m,d,e,Zz];simp
    rw[Zz];simp;omega
   have ih:=aC (s:=s) (b:=b) n (i+a.length+2) p O B (A++[a]) aa aa k;rw[d]at ih;simp only;unfold Jd;cases w:J9 a b with
   |none=>exact ih
   |some t=>
    simp only;rw[iJ H];split
    ·rfl
    split
    ·have I:=aC (s:=s) (b:=b) n (i+a.length+2) (some (i+a.length+2)) (if B=true then O++[join A [13,10]]else O) true [] aa aa (Or.inr ⟨_,rfl,rfl,AF _,rfl,rfl⟩);rw[d]at I;rw[EX aa];exact I
    exact ih
def yU(s b:Bs):Jd b (Lib.split s [13,10]) false [] []=Eb s b:=(aC (s:=s) (b:=b) (s.length+1) 0 none [] false [] aa (DE _) (Or.inl ⟨rfl,rfl⟩)).symm
def yV(x:Bs):count x [13,10]=match Ao [13,10] x with
  |none=>0
  |some (_,r)=>count r [13,10]+1:=by
 cases h:Ao [13,10] x with
 |none=>
  have H:index x [13,10]=-1:=by rw[Jl,h]
  unfold count countFrom;rw[H];rfl
 |some y=>
  obtain⟨a,r⟩:=y;have H:index x [13,10]=a.length:=by rw[Jl,h]
  have e:=F7 h;have d:x.drop ((a.length:Int).toNat+([13,10]:Bs).length)=r:=by
   rw[EW,e,<-AJ,DS rfl]
  have n:x.length=a.length+2+r.length:=uw
  have b:¬((a.length:Int)==-1)=true:=uz
  simp only;unfold count;conv=>lhs;unfold countFrom
  rw[H,AL b,d,KI,Zl [13,10] ae _ (r.length+1) r aa aa]
def yW(x:Bs):replaceAll x [13,10] []=match Ao [13,10] x with
  |none=>x
  |some (a,r)=>a++replaceAll r [13,10] []:=by
 have e:∀y:Bs,replaceAll y [13,10] []=replaceK [13,10] [] (count y [13,10]) y:=by
  intro y;unfold replaceAll replace replaceNum;rw[AL ae,AN (Or.inl ae)]
 rw[e,yV];cases h:Ao [13,10] x with
 |none=>rfl
 |some y=>
  obtain⟨a,r⟩:=y;have H:index x [13,10]=(a.length:Nat):=by rw[Jl,h]
  have E:=F7 h;simp only;rw[replaceK_hit _ _ _ _ _ H,e r];have d:x.drop (a.length+([13,10]:Bs).length)=r:=by rw[E,<-AJ,DS rfl]
  rw[d,E,AP a,GU rfl,BU]
def Ft:Bs->Bool
 |13::10::l=>Ft l
 |c::l=>Nq c&&Ft l
 |[]=>true
def iK(l:Bs):Ft (13::10::l)=Ft l:=by
 conv=>lhs;unfold Ft
 rfl
def iL{c:UInt8}{l:Bs}(h:[13,10].isPrefixOf (c::l)=false):Ft (c::l)=(Nq c&&Ft l):=by
 conv=>lhs;unfold Ft
 split
 ·rename_i L H;injection H with a b;subst a b;simp[List.isPrefixOf]at h
 ·rename_i C L _ H;injection H with a b;subst a b;rfl
 rename_i H;cases H
theorem iM:∀(x:Bs),Ft x=match Ao [13,10] x with
  |none=>x.all Nq
  |some (a,r)=>a.all Nq&&Ft r
 |[]=>rfl
 |c::x=>by
  have ih:=iM x;conv=>rhs;unfold Ao
  by_cases h:([13,10]:Bs).isPrefixOf (c::x)=true
  ·rw[AN h];obtain⟨y,H⟩:=DG.1 h;rw[<-H];simp only[CR,CT];rw[iK];rfl
  rw[AL h,iL (AT.2 h),ih];cases Ao [13,10] x with
  |none=>rfl
  |some y=>
   obtain⟨a,r⟩:=y;simp[IW]
def yX:∀(n:Nat)(x:Bs),x.length<=n->Ft x=Js x:=by
 intro n;induction n with
 |zero=>
  intro x h;have:x=[]:=EI.1 aa;subst this;rfl
 |succ n ih=>
  intro x h;unfold Js;rw[iM,yW];cases H:Ao [13,10] x with
  |none=>rfl
  |some y=>
   obtain⟨a,r⟩:=y;have e:=CI List.length (F7 H);simp at e;simp only;rw[IL,ih r aa];rfl
def Ld(s:Bs):Bool:=decide ((Ad 47 s).length<=2)&&(Ag ((Ad 47 s).headD [])&&Ag ((Ad 47 s).getLastD []))
def iN(s:Bs):Ld s=(Ag (cut s [47]).1&&(!(cut s [47]).2.2||Ag (cut s [47]).2.1)):=by
 unfold Ld;rcases Wd s 47 with⟨h,e⟩|⟨a,b,rfl,h,e⟩
 ·rw[e,Vb h];simp
 rw[e,Y5 h];by_cases H:(47:UInt8)∈b
 ·have l:2<=(Ad 47 b).length:=by
   rw[T8];have:=List.count_pos_iff.2 H;omega
  have c:Ag b=false:=by
   rw[AT];intro t;exact(Me ((Nr t).2 _ H)).2.2.1 rfl
  have d:decide ((a::Ad 47 b).length<=2)=false:=by rw[EG];simp;omega
  rw[d,c];simp
 rw[Vb H];simp[List.getLastD]
theorem iO(p:Nat->Bool):∀(K n k:Nat),n<=k->k<n+K->(∀j,n<=j->j<k->p j=false)->p k=true->It p K n=k
 |0,n,k,d,e,_,_=>aa
 |K+1,n,k,d,e,H,c=>by
  unfold It;rcases CL n k with h|h
  ·rw[H n (AF _) h,AL ae];exact iO p K (n+1) k h aa (fun j a b=>H j aa b) c
  rw[show n=k by omega,c,AN rfl]
def iP(h:∀j,j<k->Dv p l j=true)(H:Dv p l k=false):Ja p l=k:=by
 unfold Ja;have b:=Tt p l k h;exact iO _ _ 0 k (DE _) aa (fun j _ a=>by rw[h j a];rfl) uq
def iQ{a:A3}(h:Be v=some a):(if a.hasFrag then 35::a.frag else[])=(match Ao [35] v with|none=>[]|some (_,y)=>35::y):=by
 unfold Be at h;split at h
 ·simp at h;subst h;show(if(cut v [35]).2.2=true then 35::(cut v [35]).2.1 else[])=_;rw[Gs];cases Ao [35] v with
  |none=>rfl
  |some x=>rfl
 cases h
def Hs(line word:Bs)(first:Bool):Bs×Bs:=if !first&&(!word.isEmpty&&decide (76<line.length+word.length))then(line++[13,10],word)else([],line++word)
def G1:Bs->Bool->Bs->Bs->Bool->Bs
 |[],_,l,w,first=>(Hs l w first).1++((Hs l w first).2++[13,10])
 |c::r,nb,l,w,first=>if c=32/\nb=true then(Hs l w first).1++G1 r (c !=32) (Hs l w first).2 [c] false
  else G1 r (c !=32) l (w++[c]) first
theorem aD:∀(x r:Bs)(n:Bool)(l w:Bs)(first:Bool),(∀c∈x,c≠32)->G1 (x++r) n l w first=G1 r (n||!x.isEmpty) l (w++x) first
 |[],r,n,l,w,first,_=>ah
 |c::x,r,n,l,w,first,h=>by
  have H:=h c (CN ..);rw[CR];conv=>lhs;unfold G1
  rw[AL (fun a=>H a.1),aD x r _ l _ first (fun d b=>h d (CJ _ b))];have:(c !=32)=true:=el
  rw[this];simp
theorem iR:∀(m:Nat)(r l w:Bs)(first:Bool),G1 (List.replicate m 32++r) false l w first=G1 r false l (w++List.replicate m 32) first
 |0,r,l,w,first=>ah
 |m+1,r,l,w,first=>by
  rw[JT,CR];conv=>lhs;unfold G1
  rw[AL ah];have:((32:UInt8)!=32)=false:=ae
  rw[this,iR m r l _ first];simp
def yY(l:Bs):l.take (nb l)=List.replicate (nb l) 32:=by
 unfold nb;rw[Vo];refine List.eq_replicate_iff.2 ⟨rfl,fun c h=>?_⟩;have:=AW.1 (IU (p:=fun c:UInt8=>c==32) (l:=l)) c h;simpa using this
theorem iS:∀(k:Nat)(r L w:Bs)(first:Bool),r.length<k->(r=[]\/∃t,r=32::t)->G1 r true L w first=(Hs L w first).1++Io k (Hs L w first).2 r
 |0,_,_,_,_,h,_=>absurd h (GT _)
 |k+1,r,L,w,first,n,o=>by
  rcases o with rfl|⟨t,rfl⟩
  ·unfold Io;rw[AN rfl];rfl
  have q:=Yl (show(32::t:Bs)≠[] by simp);have s:=eA (32::t);have a:=CE (Dg (32::t)) (32::t);have g:nb (32::t)=nb t+1:=by
   unfold nb;rw[EO];simp
  have b:(32::t).take (Dg (32::t))=List.replicate (nb (32::t)) 32++((32::t).drop (nb (32::t))).takeWhile (fun c=>c !=32):=by
   unfold Dg nw;rw[List.take_add,yY,Vo]
  have v:=wX (32::t);have x:((32::t).drop (Dg (32::t))).length<k:=by rw[BD];simp at n|-;omega
  have y:∀c∈((32::t).drop (nb (32::t))).takeWhile (fun c=>c !=32),c≠32:=fun c H=>by
   have:=AW.1 (IU (p:=fun c:UInt8=>c !=32) (l:=(32::t).drop (nb (32::t)))) c H;simpa using this
  have d:((32::t).drop (nb (32::t))).takeWhile (fun c=>c !=32)=[]->(32::t).drop (Dg (32::t))=[]:=by
   intro h0;have z:Dg (32::t)=nb (32::t):=by unfold Dg nw;rw[h0];rfl
   rw[z];cases i:(32::t).drop (nb (32::t))with
   |nil=>rfl
   |cons c u=>
    exfalso;rw[i,EO]at h0;have H:c=32:=by
     by_cases H:c=32
     ·exact H
     have A:(c !=32)=true:=el
     rw[A]at h0;simp at h0
    have B:=Yn (fun c:UInt8=>c==32) (32::t);have C:((32::t).dropWhile (fun c:UInt8=>c==32))=c::u:=by rw[<-B];exact i
    have:=S6 C;rw[H]at this;revert this;decide
  have K:G1 (32::t) true L w first=(Hs L w first).1++G1 ((32::t).drop (Dg (32::t))) true (Hs L w first).2 ((32::t).take (Dg (32::t))) false:=by
   generalize G:(32::t).drop (Dg (32::t))=R at a d|-;generalize I:((32::t).drop (nb (32::t))).takeWhile (fun c=>c !=32)=Y at b y d;rw[b,g,JT]at a;have D:t=List.replicate (nb t) 32++(Y++R):=by
    rw[CR,CR]at a;injection a with _ h;rw[<-AP];exact h.symm
   conv=>lhs;unfold G1
   rw[AN ⟨rfl,rfl⟩];have E:((32:UInt8)!=32)=false:=ae
   rw[E];congr 1;conv=>lhs;rw[D]
   rw[iR,aD Y R _ _ _ _ y,b,g,JT];by_cases e:Y=[]
   ·rw[d e,e];conv=>lhs;unfold G1
    conv=>rhs;unfold G1
    rfl
   have:(false||!Y.isEmpty)=true:=by cases Y<;>simp at e|-
   rw[this];rfl
  rw[K,iS k _ _ _ false x v];have j:(32::t).take (Dg (32::t))≠[]:=by
   intro h;have:=CI List.length h;rw[CH]at this;simp at this q s;omega
  have m:((32::t).take (Dg (32::t))).length=Dg (32::t):=uy
  congr 1;conv=>rhs;unfold Io
  rw[AL ah];generalize J:(Hs L w first).2=f;generalize M:(32::t).take (Dg (32::t))=W at j m;have F:W.isEmpty=false:=by cases W<;>simp at j|-
  unfold Hs;rw[F,m];by_cases H:f.length+Dg (32::t)>76
  ·rw[AN H,AN H,BH (show 76<f.length+Dg (32::t)from H)];simp
  rw[AL H,AL H,AY (show¬76<f.length+Dg (32::t)from H)];simp
def yZ(f:A4):G1 f.2 true (f.1++[58,32]) [] true=Ob (f.1++58::32::Gf f) (f.2.drop (Gf f).length):=by
 have d:=wZ f;have r:=wY f;have g:∀c∈Gf f,c≠32:=by
  intro c H;unfold Gf at H;rw[Gs]at H;cases h:Ao [32] f.2 with
  |none=>
   rw[h]at H;exact fun e=>Mu.1 h (e▸H)
  |some x=>
   obtain⟨a,b⟩:=x;rw[h]at H;exact fun e=>(Rj h).2 (e▸H)
 have e:G1 f.2 true (f.1++[58,32]) [] true=G1 (f.2.drop (Gf f).length) true (f.1++[58,32]) (Gf f) true:=by
  conv=>lhs;rw[<-d]
  rw[aD _ _ _ _ _ _ g];simp
 rw[e,iS _ _ _ _ _ (DZ _) r];unfold Hs Ob;simp
end Go.Proofs.YtignjjnflcpiiaaGreatDoor
