/- The first number whose sign stands in none of some texts -/
import Derived.Lib.ItoaLen
import Derived.Test.YtignjjnflcpiiaaGreatDoorS06
set_option linter.all false
namespace Go.Proofs.YtignjjnflcpiiaaGreatDoor
open Go Go.RowKit Proofs.Tryz Lib
abbrev CJ:=@Go.Lib.itoa_length_le
theorem Vo:∀(N:Nat)(l:List Nat),l.Nodup→(∀x∈l,x<N)→l.length≤N
 |0,l,_,h=>by
  cases l with
  |nil=>simp
  |cons x l=>have:=h x (by simp);omega
 |N+1,l,n,h=>by
  by_cases m:N∈l
  ·have a:=Vo N (l.erase N) (n.erase N) (fun x H=>by
    have b:=(n.mem_erase_iff).1 H;have c:=h x b.2;have:x≠N:=b.1;omega)
   rw[List.length_erase_of_mem m]at a;omega
  have a:=Vo N l n (fun x H=>by
   have c:=h x H;have:x≠N:=fun e=>m (e▸H)
   omega)
  omega
def Ox(s p:Bs):Nat:=match Ab p s with|none=>0|some x=>x.1.length
theorem qQ(s p:Bs):contains s p=(Ab p s).isSome:=by
 unfold contains;rw[He];cases Ab p s with
 |none=>rfl
 |some x=>simp
theorem qR(s p:Bs):Ox s p≤s.length:=by
 unfold Ox;cases h:Ab p s with
 |none=>simp
 |some x=>
  obtain⟨a,b⟩:=x;have:=AF List.length (Ee h);simp at this⊢;omega
variable {s q m r a x cs t v rest:Bs}{b k n v' n' p':Nat}{p:Nat → Bool}{l out o:List A4}{f:A4}{c:UInt8}
theorem qS{p:Bs}(H:contains s p=true)(e:contains s q=true)(l:p.length=q.length)(h:Ox s p=Ox s q):p=q:=by
 rw[qQ]at H e;unfold Ox at h;cases f:Ab p s with
 |none=>rw[f]at H;cases H
 |some x=>
  cases g:Ab q s with
  |none=>rw[g]at e;cases e
  |some y=>
   obtain⟨a,b⟩:=x;obtain⟨c,d⟩:=y;rw[f,g]at h;simp only at h;have i:=Ee f;have j:=Ee g;have E:=i.symm.trans j;rw[AJ,AJ]at E;have k:=(List.append_inj E h).2;exact(List.append_inj k l).1
theorem Vp{α:Type}(f:α→Nat):∀(l:List α),l.Nodup→(∀x∈l,∀y∈l,f x=f y→x=y)→(l.map f).Nodup
 |[],_,_=>by simp
 |x::l,H,h=>by
  rw[DM,List.nodup_cons];rw[List.nodup_cons]at H;refine⟨fun m=>?_,Vp f l H.2 fun a d b g=>h a (by simp[d]) b (by simp[g])⟩;obtain⟨y,c,e⟩:=DY.1 m;have:=h y (by simp[c]) x (by simp) e;exact H.1 (this▸c)
theorem qU(s:Bs)(f:Nat→Bs)(m:Nat)(l:List Nat)(n:l.Nodup)(a:∀x∈l,(f x).length=m)(i:∀x∈l,∀y∈l,f x=f y→x=y)(c:∀x∈l,contains s (f x)=true):l.length≤s.length+1:=by
 have b:=Vp (fun x=>Ox s (f x)) l n (fun x h y H e=>i x h y H (qS (c x h) (c y H) ((a x h).trans (a y H).symm) e));have d:=Vo (s.length+1) _ b (fun x h=>by
  obtain⟨y,_,rfl⟩:=DY.1 h;have:=qR s (f y);omega)
 simpa using d
theorem Zy{α:Type}(p q:α→Bool):∀(l:List α),(∀x∈l,p x=true∨q x=true)→l.length≤(l.filter p).length+(l.filter q).length
 |[],_=>by simp
 |x::l,h=>by
  have ih:=Zy p q l fun y a=>h y (by simp[a])
  have H:=h x (by simp);simp only[DA,AO];rcases H with H|H
  ·rw[H];simp only[DC,AO];split<;>simp<;>omega
  rw[H];simp only[DC,AO];split<;>simp<;>omega
theorem Zz(f:Nat→Bs)(m:Nat):∀(S:List Bs)(l:List Nat),l.Nodup→(∀x∈l,(f x).length=m)→(∀x∈l,∀y∈l,f x=f y→x=y)→(∀x∈l,S.any (fun s=>contains s (f x))=true)→l.length≤Bd S+S.length
 |[],l,_,_,_,H=>by
  cases l with
  |nil=>simp
  |cons x l=>have:=H x (by simp);simp at this
 |s::S,l,n,b,i,H=>by
  have c:=Zy (fun x=>contains s (f x)) (fun x=>S.any fun s=>contains s (f x)) l (fun x h=>by
   have:=H x h;rw[FH,EW]at this;exact this)
  have d:=qU s f m (l.filter fun x=>contains s (f x)) (n.filter _) (fun x h=>b x (DL.1 h).1) (fun x h y a=>i x (DL.1 h).1 y (DL.1 a).1) (fun x h=>(DL.1 h).2);have g:=Zz f m S (l.filter fun x=>S.any fun s=>contains s (f x)) (n.filter _) (fun x h=>b x (DL.1 h).1) (fun x h y a=>i x (DL.1 h).1 y (DL.1 a).1) (fun x h=>(DL.1 h).2);have e:Bd (s::S)=s.length+Bd S:=by simp[Bd]
  rw[e,AO];omega
theorem qV(u:Nat):(decDigits u).length=nDigits u:=by rw[decDigits_eq];simp
def Qm(l:Bs):Nat:=l.foldl (fun a c=>a*10+(c.toNat-48)) 0
theorem qW(l:Bs)(c:UInt8):Qm (l++[c])=Qm l*10+(c.toNat-48):=by simp[Qm]
theorem aA(u:Nat):Qm (decDigits u)=u:=by
 induction u using Nat.strongRecOn with
 |_ u ih=>
  by_cases h:u<10
  ·rw[decDigits,dif_pos h];simp[Qm,CO];omega
  rw[decDigits,dif_neg h,qW,ih (u/10) (by omega)];simp[CO];omega
theorem qX{a:Nat}(h:itoa (a:Int)=itoa (b:Int)):a=b:=by
 rw[IM,IM]at h;rw[←aA a,h,aA]
theorem aB:∀(k T:Nat),T<10^k→1≤T→∃d,T<10^d∧10^d≤10*T
 |0,T,h,H=>by simp at h;omega
 |k+1,T,h,H=>by
  by_cases a:T<10^k
  ·exact aB k T a H
  exact⟨k+1,h,by rw[IA];omega⟩
theorem qY(T:Nat):T<10^T:=Nat.lt_pow_self (by decide)
theorem Qn(p:Bs)(s:List Bs)(k:Nat)(h:∀j,j<k→Dd p s j=true):k<20*(Bd s+s.length+1):=by
 rcases CN k (20*(Bd s+s.length+1))with b|b
 ·exact b
 exfalso;obtain⟨d,g,i⟩:=aB _ _ (qY (Bd s+s.length+1)) (by omega);have c:∀x∈(List.range (10^d)).map (10^d+·),(p++itoa (x:Nat)).length=p.length+(d+1):=fun x H=>by
  obtain⟨y,a,rfl⟩:=DY.1 H;rw[BY]at a;rw[AH,IM,qV,nDigits_unique d _ (by omega) (by rw[IA];omega)]
 have f:((List.range (10^d)).map (10^d+·)).Nodup:=Vp _ _ List.nodup_range (fun x _ y _ e=>by omega);have:=Zz (fun n=>p++itoa (n:Nat)) _ s _ f c (fun x _ y _ e=>qX (List.append_cancel_left e)) (fun x H=>by
  obtain⟨y,a,rfl⟩:=DY.1 H;rw[BY]at a;exact h _ (by omega))
 rw[DS,List.length_range]at this;omega
theorem aC(h:p n=false):Hj p (k+1) n=Hj p k (n+1):=by
 show(if p n=true then n else Hj p k (n+1))=_;rw[h];rfl
theorem aD(h:p n=true):Hj p (k+1) n=n:=by
 show(if p n=true then n else Hj p k (n+1))=_;rw[h];rfl
theorem aE(p:Nat→Bool):∀k n,Hj p k n≤n+k
 |0,n=>AC _
 |k+1,n=>by
  unfold Hj;have:=aE p k (n+1);split<;>omega
theorem aF(p:Bs)(l:List Bs):Hy p l≤20*(Bd l+l.length+1):=by
 have:=aE (fun n=>!Dd p l n) (20*(Bd l+l.length+1)) 0;unfold Hy;omega
def Dh(n:Nat)(l:List A4):Prop:=l.length≤n∧∀f∈l,f.1.length≤n∧f.2.length≤n
theorem Dh.mono{m:Nat}(h:Dh n l)(H:n≤m):Dh m l:=⟨BC h.1 H,fun f a=>⟨BC (h.2 f a).1 H,BC (h.2 f a).2 H⟩⟩
theorem Jw{n:Nat}{s v:Bs}:∀{l:List A4},Dh n l→Ai l s=some v→v.length≤n
 |[],_,h=>by cases h
 |f::l,H,h=>by
  unfold Ai at h;split at h
  ·cases h;exact(H.2 f (by simp)).2
  exact Jw (l:=l) ⟨by have:=H.1;simp at this;omega,fun g a=>H.2 g (by simp[a])⟩ h
theorem Si{n:Nat}{s v:Bs}:∀{l:List A4},Dh n l→C5 l s=some v→v.length≤n
 |[],_,h=>by cases h
 |f::l,H,h=>by
  unfold C5 at h;split at h
  ·cases h;exact(H.2 f (by simp)).2
  exact Si (l:=l) ⟨by have:=H.1;simp at this;omega,fun g a=>H.2 g (by simp[a])⟩ h
theorem Oy(h:Ay s=some (m,l)):m.length≤s.length∧Dh s.length l:=by
 obtain⟨H,a,b⟩:=mF h;exact⟨H,a,b⟩
def Av(l:List A4):Nat:=(l.map fun f=>f.1.length+f.2.length+1).sum
theorem Ge(f:A4)(l:List A4):Av (f::l)=f.1.length+f.2.length+1+Av l:=by simp[Av]
theorem Nk(l m:List A4):Av (l++m)=Av l+Av m:=by simp[Av]
theorem qZ(h:f∈l):f.1.length+f.2.length+1≤Av l:=by
 induction l with
 |nil=>cases h
 |cons g l ih=>
  rw[Ge];rcases CF.1 h with rfl|h
  ·omega
  have:=ih h;omega
theorem Qo(l:List A4):l.length≤Av l:=by
 induction l with
 |nil=>simp
 |cons g l ih=>rw[Ge,AO];omega
theorem Em(h:Av l≤n):Dh n l:=⟨BC (Qo l) h,fun f H=>by have:=qZ H;omega⟩
theorem rA{l:Bs}(d:l≠[])(h:J8 out l=some o):Av o≤Av out+l.length:=by
 unfold J8 at h;split at h
 ·cases H:out.getLast? with
  |none=>rw[H]at h;cases h
  |some f=>
   rw[H]at h;simp only[GC]at h;subst h;obtain⟨y,rfl⟩:=List.getLast?_eq_some_iff.1 H;simp[Nk,Ge];omega
 cases c:Ab [58] l with
 |none=>rw[c]at h;cases h
 |some x=>
  obtain⟨a,b⟩:=x;rw[c]at h;simp only at h;split at h
  ·cases h;have:=AF List.length (Ee c);simp[Nk,Ge]at this⊢;simp[Av];omega
  cases h
theorem aG:∀(k:Nat)(O o:List A4)(s r:Bs),Gb k O s=some (o,r)→Av o≤Av O+s.length∧r.length≤s.length
 |0,_,_,_,_,h=>by cases h
 |k+1,O,o,s,r,h=>by
  unfold Gb at h;split at h
  ·rename_i a;cases h;simp
  rename_i a;have d:=Lo s [13,10];simp only at h;split at h
  ·cases h;omega
  rename_i n;cases H:J8 O (cut s [13,10]).1 with
  |none=>rw[H]at h;cases h
  |some f=>
   rw[H]at h;simp only at h;have ih:=aG k _ _ _ _ h;have b:(cut s [13,10]).1≠[]:=fun e=>by
    have c:(cut s [13,10]).2.2=true:=by
     rw[Fx]at e⊢;cases p:Ab [13,10] s with
     |none=>rw[p]at e;exact absurd e a
     |some x=>rfl
    exact n ⟨e,c⟩
   have:=rA b H;omega
theorem Vq(h:Dj s=some (o,r)):Av o≤s.length∧r.length≤s.length:=by
 have:=aG _ _ _ _ _ h;simpa[Av]using this
theorem Sj:∀{l o:List A4},Cq l=some o→Av o≤Av l
 |[],o,h=>by cases h;exact AC _
 |f::l,o,h=>by
  unfold Cq at h;split at h
  ·cases H:Cq l with
   |none=>rw[H]at h;cases h
   |some O=>
    rw[H]at h;cases h;have:=Sj H;have:=Oc f.2 [32,9];simp only[Ge];omega
  cases h
theorem rB{v p:Nat}{o:Bs}(h:Hu c v n p=some (o,v',n',p')):o.length≤3:=by
 unfold Hu at h;split at h
 ·cases h;simp
 cases H:Ff c n p with
 |none=>rw[H]at h;cases h
 |some x=>
  obtain⟨k,q⟩:=x;rw[H]at h;simp only[Ek]at h;split at h
  ·cases h;simp
  split at h
  ·cases h
  cases h;simp
theorem aH:∀(l:Bs)(v n p:Nat)(o:Bs),C6 l v n p=some o→o.length≤3*l.length
 |[],v,n,p,o,h=>by
  unfold C6 at h;split at h
  ·cases h
  cases h;simp
 |c::l,v,n,p,o,h=>by
  unfold C6 at h;cases H:Hu c v n p with
  |none=>rw[H]at h;cases h
  |some x=>
   obtain⟨O,V,N,P⟩:=x;rw[H]at h;simp only[BH]at h;obtain⟨b,a,rfl⟩:=h;have:=rB H;have:=aH l _ _ _ _ a;simp;omega
theorem aI:∀(k:Nat)(x o:Bs),It k x=some o→o.length≤x.length
 |_,[],o,h=>by simp[It]at h;simp[h]
 |0,c::l,o,h=>by simp[It]at h
 |k+1,c::l,o,h=>by
  unfold It at h;cases H:I8 (c::l)with
  |none=>rw[H]at h;cases h
  |some r=>
   obtain⟨d,y⟩:=r;rw[H]at h;simp only[BH]at h;obtain⟨O,a,rfl⟩:=h;have:=Uk H;have:=aI k y _ a;simp at*;omega
theorem aJ:∀(l:List Bs)(o:Bs),Df l=some o→o.length≤Bd l+2*l.length
 |[],o,h=>by cases h;simp
 |x::X,o,h=>by
  unfold Df at h;cases H:Cp (Hv x)with
  |none=>rw[H]at h;cases h
  |some a=>
   rw[H]at h;simp only[BH]at h;obtain⟨O,b,rfl⟩:=h;have c:=aI _ _ _ H;have d:=Um x;have f:=aJ X _ b;have e:Bd (x::X)=x.length+Bd X:=by simp[Bd]
   rw[e];simp only[AH,AO];split<;>simp<;>omega
theorem aK(p:Bs):∀(n:Nat)(s:Bs),Bd (splitK p 0 n s)≤s.length
 |0,s=>by simp[splitK,Bd]
 |n+1,s=>by
  unfold splitK;split
  ·simp[Bd]
  have h:=aK p n;simp only[Bd,DM,IS];refine BC (Nat.add_le_add_left (h _) _) ?_;simp;omega
theorem rC{o:Bs}(h:Dg l s=.ok o):o.length≤3*s.length+2:=by
 unfold Dg at h;cases g:Ai l Bl with
 |none=>rw[g]at h;cases h;omega
 |some v=>
  rw[g]at h;simp only at h;split at h
  ·cases h;omega
  split at h
  ·cases H:Ef s with
   |none=>rw[H]at h;cases h
   |some x=>rw[H]at h;cases h;have:=aH _ _ _ _ _ H;omega
  split at h
  ·cases H:E6 s with
   |none=>rw[H]at h;cases h
   |some x=>
    rw[H]at h;cases h;have a:=aJ _ _ H;have b:Bd (Lib.split s [13,10])≤s.length:=aK _ _ _;have c:(Lib.split s [13,10]).length=count s [13,10]+1:=Q8 _ _ (by decide);have d:=S6 s [13,10] (by decide);omega
  cases h
theorem Jx(h:Fj c.toNat=false):c≠59∧c≠61∧c≠47∧c≠34∧c≠32∧c≠9∧c≠92∧Bx c=true∧G1 c=true:=by
 refine⟨?_,?_,?_,?_,?_,?_,?_,?_⟩;iterate 7 (intro e;subst e;revert h;decide)
 have k:((List.range 256).all fun n=>Fj n.toUInt8.toNat||(Bx n.toUInt8&&G1 n.toUInt8))=true:=by kernel_rfl
 have:=AW.1 k c.toNat (BY.2 c.toNat_lt);rw[show c.toNat.toUInt8=c by simp,h]at this;simpa using this
theorem rD(c:UInt8):Fj (Bw c).toNat=Fj c.toNat:=by
 have k:((List.range 256).all fun n=>Fj (Bw n.toUInt8).toNat==Fj n.toUInt8.toNat)=true:=by kernel_rfl
 have:=AW.1 k c.toNat (BY.2 c.toNat_lt);rw[show c.toNat.toUInt8=c by simp]at this;simpa using this
theorem rE(c:UInt8):Bw (Bw c)=Bw c:=by
 have k:((List.range 256).all fun n=>Bw (Bw n.toUInt8)==Bw n.toUInt8)=true:=by kernel_rfl
 have:=AW.1 k c.toNat (BY.2 c.toNat_lt);rw[show c.toNat.toUInt8=c by simp]at this;simpa using this
theorem aL(s:Bs):A2 (A2 s)=A2 s:=by simp[A2,rE,Function.comp_def]
theorem rF(s:Bs):Ae (A2 s)=Ae s:=by
 unfold Ae A2;rw[List.any_map];congr 2
 ·simp
 congr 1;funext c;exact rD c
theorem La(h:Ae s=true):s≠[]∧∀c∈s,Fj c.toNat=false:=by
 unfold Ae at h;simp at h;exact⟨h.1,h.2⟩
theorem Vr(b:Bs)(h:c∉a):cut (a++c::b) [c]=(a,b,true):=by
 rw[Fx,Me h]
theorem rG(h:c∉a):cut a [c]=(a,[],false):=by
 rw[Fx,Ke.2 h]
theorem Qp(h:∀c,x.head?=some c→cs.contains c=false):trimLeftS x cs=x:=by
 unfold trimLeftS;cases x with
 |nil=>rfl
 |cons c l=>rw[DQ (by rw[h c rfl];decide)]
theorem Sk(h:∀c,x.getLast?=some c→cs.contains c=false):trimRightS x cs=x:=by
 unfold trimRightS;cases H:x.reverse with
 |nil=>simpa using H.symm
 |cons c l=>
  have:x.getLast?=some c:=by
   rw[←List.head?_reverse,H];rfl
  rw[DQ (by rw[h c this];decide),←H,List.reverse_reverse]
theorem rH(h:∀c∈x,cs.contains c=false):trimS x cs=x:=by
 unfold trimS;rw[Sk (fun c H=>h c (EY H)),Qp (fun c H=>h c (List.mem_of_head? H))]
theorem aM:∀(v r:Bs),(∀c∈v,Bx c=true)→Bc (v.flatMap Dk++34::r)=some (v,r)
 |[],r,_=>by
  cases r<;>simp[Bc]
 |c::v,r,h=>by
  have a:=h c (CD ..);have ih:=aM v r (fun d b=>h d (CA _ b));rw[BT,AJ];have H:v.flatMap Dk++34::r≠[]:=by simp
  generalize v.flatMap Dk++34::r=Y at ih H⊢;unfold Dk;split
  ·rename_i e;subst e;show Bc (92::92::Y)=_;unfold Bc;rw[AI (by decide),AM rfl,AM (by decide),ih];rfl
  split
  ·rename_i e;subst e;show Bc (92::34::Y)=_;unfold Bc;rw[AI (by decide),AM rfl,AM (by decide),ih];rfl
  rename_i f g;cases Y with
  |nil=>exact absurd rfl H
  |cons d l=>
   show Bc (c::d::l)=_;unfold Bc;rw[AI g,AI f,AM a,ih];rfl
def Km(p:A4):Prop:=Ae p.1=true∧A2 p.1=p.1∧∀c∈p.2,Bx c=true
def Oz(t:Bs):Prop:=t=[]∨∃r,t=59::r
theorem Oz.trim(h:Oz t):trimLeftS t [32,9]=t:=by
 rcases h with rfl|⟨r,rfl⟩
 ·rfl
 exact Qp (fun c H=>by simp at H;subst H;decide)
theorem Qq{p:UInt8→Bool}:∀{v:Bs}(t:Bs),(∀c∈v,p c=true)→(∀c,t.head?=some c→p c=false)→(v++t).takeWhile p=v∧(v++t).dropWhile p=t
 |[],t,_,h=>by
  cases t with
  |nil=>simp
  |cons c t=>have:=h c rfl;simp[this]
 |c::v,t,H,a=>by
  have ih:=Qq (v:=v) t (fun d b=>H d (CA _ b)) a;have e:=H c (CD ..);simp[e,ih]
theorem rI(d:∀c∈v,Bx c=true)(e:Oz t):Cy (D3 v++t)=(v,t,true):=by
 unfold D3;by_cases H:Ae v=true
 ·obtain⟨f,b⟩:=La H;rw[AM H];have a:hasPrefix (v++t) [34]=false:=by
   cases v with
   |nil=>exact absurd rfl f
   |cons c v=>
    have:=(Jx (b c (CD ..))).2.2.2.1;simp[hasPrefix,List.isPrefixOf,Ne.symm this]
  obtain⟨E,g⟩:=Qq (p:=fun c=>!Eh c) (v:=v) t (fun c h=>by
   have:=Jx (b c h);simp[Eh,this.1,this.2.2.2.2.1,this.2.2.2.2.2.1]) (fun c h=>by
   rcases e with rfl|⟨r,rfl⟩
   ·cases h
   simp at h;subst h;decide)
  unfold Cy;rw[a,AI (by decide),E,g,H]
 rw[AI H];unfold Cy;have a:hasPrefix (34::(v.flatMap Dk++[34])++t) [34]=true:=by simp[hasPrefix,List.isPrefixOf]
 rw[a,AM rfl];have:(34::(v.flatMap Dk++[34])++t).drop 1=v.flatMap Dk++34::t:=by simp
 rw[this,aM v t d]
theorem rJ{p:A4}(h:Km p)(b:Oz t):Gc (32::(p.1++61::D3 p.2)++t)=some (p,t):=by
 obtain⟨e,f,g⟩:=h;obtain⟨N,n⟩:=La e;unfold Gc;have E:trimLeftS (32::(p.1++61::D3 p.2)++t) [32,9]=p.1++61::(D3 p.2++t):=by
  have:(32::(p.1++61::D3 p.2)++t)=32::(p.1++61::(D3 p.2++t)):=by simp
  rw[this];show((32:UInt8)::_).dropWhile _=_;rw[EQ (by decide)];exact Qp (fun c H=>by
   cases a:p.1 with
   |nil=>exact absurd a N
   |cons d l=>
    rw[a]at H;simp at H;subst H;have:=Jx (n d (by rw[a];exact CD ..));simp[this.2.2.2.2.1,this.2.2.2.2.2.1])
 have i:(61:UInt8)∉p.1:=fun h=>(Jx (n _ h)).2.1 rfl
 have j:trimRightS p.1 [32,9]=p.1:=Sk (fun c H=>by
  have:=Jx (n c (EY H));simp[this.2.2.2.2.1,this.2.2.2.2.2.1])
 have k:trimLeftS (D3 p.2++t) [32,9]=D3 p.2++t:=Qp (fun c H=>by
  unfold D3 at H;split at H
  ·rename_i m;obtain⟨M,o⟩:=La m;cases a:p.2 with
   |nil=>exact absurd a M
   |cons d l=>
    rw[a]at H;simp at H;subst H;have:=Jx (o d (by rw[a];exact CD ..));simp[this.2.2.2.2.1,this.2.2.2.2.2.1]
  simp at H;subst H;decide)
 simp only[E,Vr _ i,j,k,rI g b,e,f,b.trim];simp
theorem Vs(h:∀p∈l,Km p):∃t,Dq l=some t∧Oz t∧(l=[]↔t=[]):=by
 induction l with
 |nil=>exact⟨[],rfl,Or.inl rfl,by simp⟩
 |cons p l ih=>
  obtain⟨t,H,_,_⟩:=ih (fun q a=>h q (CA _ a));obtain⟨b,d,e⟩:=h p (CD ..);have w:Gd p=some (59::32::(p.1++61::D3 p.2)):=by
   unfold Gd;rw[AM];simp only[b,d,EJ,IW,FB,FJ,List.any_eq_false];intro c f;simp[e c f]
  refine⟨_,by unfold Dq;rw[w,H];rfl,Or.inr ⟨_,rfl⟩,by simp⟩
theorem aN:∀(l:List A4)(t:Bs)(k:Nat),(∀p∈l,Km p)→Dq l=some (59::t)→t.length<k→Gy k t=some l
 |[],t,_,_,h,_=>by simp[Dq]at h
 |p::l,t,0,_,_,h=>absurd h (FW _)
 |p::l,t,k+1,a,h,c=>by
  have g:=a p (CD ..);obtain⟨T,d,f,i⟩:=Vs (l:=l) (fun q b=>a q (CA _ b));unfold Dq at h;have w:Gd p=some (59::32::(p.1++61::D3 p.2)):=by
   cases H:Gd p with
   |none=>rw[H]at h;cases h
   |some x=>
    unfold Gd at H;split at H
    ·exact H.symm
    cases H
  rw[w,d]at h;have e:t=32::(p.1++61::D3 p.2)++T:=by
   simpa using h.symm
  unfold Gy;rw[e,rJ g f];simp only;rcases f with rfl|⟨r,rfl⟩
  ·rw[i.2 rfl]
  simp only;rw[AM trivial,aN l r k (fun q b=>a q (CA _ b)) d (by rw[e]at c;simp at c;omega)];rfl
def Qr(m:Bs):Prop:=Ae (cut m [47]).1=true∧((cut m [47]).2.2=true→Ae (cut m [47]).2.1=true)∧A2 m=m
theorem Qr.mem(h:Qr m):m≠[]∧∀c∈m,c≠59∧c≠32∧c≠9∧G1 c=true:=by
 obtain⟨d,f,_⟩:=h;have t:∀{s:Bs},Ae s=true→∀c∈s,c≠59∧c≠32∧c≠9∧G1 c=true:=fun i c g=>by
  have:=Jx ((La i).2 c g);exact⟨this.1,this.2.2.2.2.1,this.2.2.2.2.2.1,this.2.2.2.2.2.2.2.2⟩
 rw[Fx]at d f;cases g:Ab [47] m with
 |none=>
  rw[g]at d;exact⟨(La d).1,t d⟩
 |some x=>
  obtain⟨a,b⟩:=x;rw[g]at d f;have e:=(Oa g).1;have f:=f rfl;refine⟨by rw[e];simp,fun c H=>?_⟩;rw[e]at H;rcases BP.1 H with H|H
  ·exact t d c H
  rcases CF.1 H with H|H
  ·subst H;decide
  exact t f c H
theorem rK(H:Qr m)(a:∀p∈l,Km p):∃t,Cz m l=some (m++t)∧Dq l=some t∧Oz t∧(l=[]↔t=[]):=by
 obtain⟨t,h,e,n⟩:=Vs a;refine⟨t,?_,h,e,n⟩;obtain⟨b,c,d⟩:=H;unfold Cz;simp only;rw[AM,h]
 ·rfl
 rw[b,d];cases f:(cut m [47]).2.2 with
 |false=>simp
 |true=>rw[c f];simp
theorem rL(b:Qr m)(k:∀p∈l,Km p):∃t,Cz m l=some t∧Ay t=some (m,l)∧Fi t=true:=by
 obtain⟨t,C,v,D,E⟩:=rK b k;obtain⟨F,f⟩:=b.mem;have w:(59:UInt8)∉m:=fun h=>(f _ h).1 rfl
 have z:A2 (trimS m [32,9])=m:=by
  rw[rH (fun c H=>by have:=f c H;simp[this.2.1,this.2.2.1]),b.2.2]
 have j:(Ae (cut m [47]).1&&(!(cut m [47]).2.2||Ae (cut m [47]).2.1))=true:=by
  rw[b.1];cases H:(cut m [47]).2.2 with
  |false=>simp
  |true=>rw[b.2.1 H];simp
 refine⟨_,C,?_,?_⟩
 ·rcases D with rfl|⟨r,rfl⟩
  ·rw[BM,E.2 rfl];unfold Ay;simp only[rG w,z];rw[AM j];rfl
  unfold Ay;simp only[Vr r w,z];rw[AM j,AM trivial,aN l r _ k v (DT _)];rfl
 have G:∀(l:List A4)(t:Bs),(∀p∈l,Km p)→Dq l=some t→(∀c∈t,G1 c=true)∧∀c,t.getLast?=some c→c≠32∧c≠9:=by
  intro l;induction l with
  |nil=>intro t _ h;simp[Dq]at h;subst h;simp
  |cons p l ih=>
   intro t o h;obtain⟨T,A,_,_⟩:=Vs (l:=l) (fun q i=>o q (CA _ i));obtain⟨I,J⟩:=ih T (fun q i=>o q (CA _ i)) A;obtain⟨K,U,P⟩:=o p (CD ..);unfold Dq at h;cases a:Gd p with
   |none=>rw[a]at h;cases h
   |some x=>
    have B:x=59::32::(p.1++61::D3 p.2):=by
     unfold Gd at a;split at a
     ·simpa using a.symm
     cases a
    rw[a,A]at h;have e:t=x++T:=by simpa using h.symm
    have O:∀c,Bx c=true→G1 c=true:=by
     intro c H;have L:((List.range 256).all fun n=>!(Bx n.toUInt8)||G1 n.toUInt8)=true:=by kernel_rfl
     have:=AW.1 L c.toNat (BY.2 c.toNat_lt);rw[show c.toNat.toUInt8=c by simp,H]at this;simpa using this
    have i:∀c∈D3 p.2,G1 c=true:=by
     intro c H;unfold D3 at H;split at H
     ·exact O c (P c H)
     simp at H;rcases H with rfl|⟨d,j,H⟩|rfl
     ·decide
     ·unfold Dk at H;split at H
      ·simp at H;subst H;decide
      split at H
      ·simp at H;rcases H with rfl|rfl<;>decide
      simp at H;subst H;exact O _ (P _ j)
     decide
    have M:∀c,(D3 p.2).getLast?=some c→c≠32∧c≠9:=by
     intro c H;unfold D3 at H;split at H
     ·rename_i s;have:=Jx ((La s).2 c (EY H));exact⟨this.2.2.2.2.1,this.2.2.2.2.2.1⟩
     rw[←CK,GK]at H;simp at H;subst H;decide
    have N:D3 p.2≠[]:=by
     unfold D3;split
     ·rename_i s;exact(La s).1
     simp
    refine⟨fun c H=>?_,fun c H=>?_⟩
    ·rw[e]at H;rcases BP.1 H with H|H
     ·rw[B]at H;simp at H;rcases H with rfl|rfl|H|rfl|H
      ·decide
      ·decide
      ·exact(Jx ((La K).2 c H)).2.2.2.2.2.2.2.2
      ·decide
      exact i c H
     exact I c H
    cases u:T with
    |nil=>
     rw[e,u,BM,B]at H;have Q:(59::32::(p.1++61::D3 p.2):Bs)=(59::32::(p.1++[61]))++D3 p.2:=by simp
     rw[Q,GK]at H;cases g:(D3 p.2).getLast? with
     |none=>exact absurd (List.getLast?_eq_none_iff.1 g) N
     |some d=>rw[g]at H;simp at H;subst H;exact M _ g
    |cons y Y=>
     rw[e,GK]at H;cases g:T.getLast? with
     |none=>rw[List.getLast?_eq_none_iff.1 g]at u;cases u
     |some d=>rw[g]at H;simp at H;subst H;exact J _ g
 obtain⟨R,S⟩:=G l t k v;unfold Fi;rw[BL,BG];refine⟨?_,?_⟩
 ·rw[AW];intro c H;rcases BP.1 H with H|H
  ·exact(f c H).2.2.2
  exact R c H
 unfold trimS;rw[Sk (fun c H=>?_),Qp (fun c H=>?_)]
 ·cases a:m with
  |nil=>exact absurd a F
  |cons d l=>
   rw[a]at H;simp at H;subst H;have:=f d (by rw[a];exact CD ..);simp[this.2.1,this.2.2.1]
 rw[GK]at H;cases g:t.getLast? with
 |none=>
  rw[g]at H;simp at H;have:=f c (EY H);simp[this.2.1,this.2.2.1]
 |some d=>
  rw[g]at H;simp at H;subst H;have:=S _ g;simp[this.1,this.2]
theorem Vt:∀(s v r:Bs),Bc s=some (v,r)→∀c∈v,Bx c=true
 |[],_,_,h=>by simp[Bc]at h
 |[c],v,r,h=>by
  unfold Bc at h;split at h
  ·simp at h;rw[h.1];simp
  cases h
 |c::d::l,v,r,h=>by
  unfold Bc at h;split at h
  ·simp at h;rw[h.1];simp
  split at h
  ·split at h
   ·rename_i f;simp only[BH]at h;obtain⟨⟨a,b⟩,g,e⟩:=h;have:=Vt l a b g;simp at e;rw[←e.1];intro x H;rcases CF.1 H with rfl|H
    ·exact f
    exact this x H
   cases h
  split at h
  ·rename_i f;simp only[BH]at h;obtain⟨⟨a,b⟩,g,e⟩:=h;have:=Vt (d::l) a b g;simp at e;rw[←e.1];intro x H;rcases CF.1 H with rfl|H
   ·exact f
   exact this x H
  cases h
theorem rM(h:(Cy s).2.2=true):∀c∈(Cy s).1,Bx c=true:=by
 unfold Cy at h⊢;split
 ·cases H:Bc (s.drop 1)with
  |none=>simp
  |some x=>obtain⟨v,r⟩:=x;exact Vt _ _ _ H
 rename_i n;rw[AI n]at h;exact fun c a=>(Jx ((La h).2 c a)).2.2.2.2.2.2.2.1
theorem rN(h:Gc rest=some (f,r)):Km f:=by
 unfold Gc at h;simp only at h;split at h
 ·rename_i H;rw[BL]at H;split at h
  ·rename_i s;simp at h;rw[←h.1];exact⟨by rw[rF];exact H.2,aL _,rM s⟩
  cases h
 cases h
theorem aO:∀(k:Nat)(rest:Bs)(l:List A4),Gy k rest=some l→∀f∈l,Km f
 |0,_,_,h=>by simp[Gy]at h
 |k+1,rest,l,h=>by
  unfold Gy at h;cases p:Gc rest with
  |none=>rw[p]at h;cases h
  |some x=>
   obtain⟨f,r⟩:=x;have a:=rN p;rw[p]at h;simp only at h;cases r with
   |nil=>simp at h;subst h;intro g H;simp at H;subst H;exact a
   |cons c R=>
    simp only at h;split at h
    ·simp only[BH]at h;obtain⟨L,b,rfl⟩:=h;have ih:=aO k R L b;intro g H;rcases CF.1 H with rfl|H
     ·exact a
     exact ih g H
    cases h
theorem rO(h:Ay s=some (m,l)):Qr m∧∀p∈l,Km p:=by
 unfold Ay at h;simp only at h;split at h
 ·rename_i c;rw[BL]at c;simp only[BH]at h;obtain⟨L,H,a⟩:=h;simp at a;obtain⟨rfl,rfl⟩:=a;refine⟨⟨c.1,fun d=>?_,aL _⟩,?_⟩
  ·have:=c.2;rw[d]at this;simpa using this
  split at H
  ·exact aO _ _ _ H
  simp at H;subst H;simp
 cases h
theorem Sl(l:Bs)(c:UInt8):(c∉l∧cut l [c]=(l,[],false))∨∃a b,l=a++c::b∧c∉a∧cut l [c]=(a,b,true):=by
 cases h:Ab [c] l with
 |none=>exact Or.inl ⟨Ke.1 h,by rw[Fx,h]⟩
 |some x=>
  obtain⟨a,b⟩:=x;obtain⟨e,H⟩:=Oa h;exact Or.inr ⟨a,b,e,H,by rw[Fx,h]⟩
def Ac(c:UInt8):Bool:=!Fj c.toNat
theorem Nl(s:Bs):Ae s=(!s.isEmpty&&s.all Ac):=by
 unfold Ae;congr 1;rw[DZ];simp[Ac]
abbrev Af(s:Bs):Bs:=trimLeftS s [32,9]
def Ii(s:Bs):Option (Bs×Bs):=match s with
 |34::r=>Bc r
 |s=>if s.takeWhile Ac=[]then none else some (s.takeWhile Ac,s.dropWhile Ac)
def Sm(rest:Bs):Option (A4×Bs):=
 if(Af rest).takeWhile Ac=[]then none else
 match Af ((Af rest).dropWhile Ac)with
 |61::r=>match Ii (Af r)with
  |none=>none
  |some (v,R)=>if Af R=[]∨(Af R).head?=some 59 then some ((A2 ((Af rest).takeWhile Ac),v),Af R)else none
 |_=>none
theorem Vu(h:Ac c=true):c≠59∧c≠61∧c≠34∧c≠32∧c≠9:=by
 unfold Ac at h;have:=Jx (c:=c) (by simpa using h);exact⟨this.1,this.2.1,this.2.2.2.1,this.2.2.2.2.1,this.2.2.2.2.2.1⟩
theorem Vv(h:([32,9]:Bs).contains c=true):Ac c=false∧c≠61∧Eh c=true:=by
 simp at h;rcases h with rfl|rfl<;>decide
theorem Sn(s:Bs):∃b,s=b++Af s∧(∀c∈b,([32,9]:Bs).contains c=true)∧∀c,(Af s).head?=some c→([32,9]:Bs).contains c=false:=by
 refine⟨s.takeWhile (([32,9]:Bs).contains ·),(CV).symm,fun c h=>(AW.1 GT) c h,fun c h=>?_⟩;unfold Af trimLeftS at h;cases H:s.dropWhile (([32,9]:Bs).contains ·)with
 |nil=>rw[H]at h;cases h
 |cons x t=>
  rw[H]at h;simp at h;subst h;exact Ot H
theorem aP(s:Bs):∀c,(s.dropWhile Ac).head?=some c→Ac c=false:=by
 intro c h;cases H:s.dropWhile Ac with
 |nil=>rw[H]at h;cases h
 |cons x t=>
  rw[H]at h;simp at h;subst h;exact Ot H
theorem aQ(s:Bs):∀c∈s.takeWhile Ac,Ac c=true:=fun c h=>(AW.1 GT) c h
theorem rP(s:Bs)(w:∀c,s.head?=some c→([32,9]:Bs).contains c=false):(match Ii s with
 |none=>none
 |some (v,r)=>if Af r=[]∨(Af r).head?=some 59 then some (v,Af r)else none)
 =if(Cy s).2.2=true then(if Af (Cy s).2.1=[]∨(Af (Cy s).2.1).head?=some 59 then some ((Cy s).1,Af (Cy s).2.1)else none)else none:=by
 by_cases g:∃r,s=34::r
 ·obtain⟨r,rfl⟩:=g;have i:hasPrefix (34::r) [34]=true:=by simp[hasPrefix,List.isPrefixOf]
  unfold Ii Cy;rw[i,AM rfl];simp only[IR,DP];cases Bc r with
  |none=>rfl
  |some x=>rfl
 have i:hasPrefix s [34]=false:=by
  cases s with
  |nil=>rfl
  |cons c l=>
   have:c≠34:=fun e=>g ⟨l,by rw[e]⟩
   simp[hasPrefix,List.isPrefixOf,Ne.symm this]
 have q:Ii s=if s.takeWhile Ac=[]then none else some (s.takeWhile Ac,s.dropWhile Ac):=by
  unfold Ii;split
  ·rename_i r;exact absurd ⟨r,rfl⟩ g
  rfl
 have u:Cy s=(s.takeWhile (fun c=>!Eh c),s.dropWhile (fun c=>!Eh c),Ae (s.takeWhile fun c=>!Eh c)):=by
  unfold Cy;rw[i,AI (by decide)]
 rw[q,u];simp only;by_cases H:Ae (s.takeWhile fun c=>!Eh c)=true
 ·
  rw[AM H];rw[Nl]at H;simp only[BL,FJ,FN]at H;have a:=CV (p:=fun c=>!Eh c) (l:=s);generalize s.takeWhile (fun c=>!Eh c)=v at H a⊢;have j:∀c,(s.dropWhile fun c=>!Eh c).head?=some c→Ac c=false:=by
   intro c h;cases k:s.dropWhile (fun c=>!Eh c)with
   |nil=>rw[k]at h;cases h
   |cons x t=>
    rw[k]at h;simp at h;subst h;have:=Ot k;simp only[Bool.not_eq_false']at this;unfold Eh at this;simp at this;rcases this with rfl|rfl|rfl<;>decide
  generalize s.dropWhile (fun c=>!Eh c)=r at a j⊢;obtain⟨E,m⟩:=Qq (p:=Ac) r (fun c h=>AW.1 H.2 c h) j;rw[←a,E,m,AI H.1]
 rw[AI H];by_cases f:s.takeWhile Ac=[]
 ·rw[AM f]
 rw[AI f];simp only;by_cases d:Af (s.dropWhile Ac)=[]∨(Af (s.dropWhile Ac)).head?=some 59
 ·exfalso;apply H;have a:=CV (p:=Ac) (l:=s);have n:=aQ s;have j:=aP s;have o:∀c,(s.dropWhile Ac).head?=some c→(!Eh c)=false:=by
   intro c h;obtain⟨b,E,m,y⟩:=Sn (s.dropWhile Ac);cases b with
   |cons x b=>
    rw[E]at h;simp at h;subst h;have:=(Vv (m x (by simp))).2.2;rw[this];rfl
   |nil=>
    rw[DK]at E;rcases d with d|d
    ·rw[E,d]at h;cases h
    rw[←E]at d;rw[d]at h;simp at h;subst h;decide
  generalize s.takeWhile Ac=t at f a n;generalize s.dropWhile Ac=r at a o;obtain⟨E,_⟩:=Qq (p:=fun c=>!Eh c) (v:=t) r (fun c h=>by
   have:=Vu (n c h);simp[Eh,this.1,this.2.2.2.1,this.2.2.2.2]) o
  rw[←a,E,Nl];simp only[BL,FJ,FN];exact⟨f,AW.2 n⟩
 rw[AI d]
theorem rQ(rest:Bs):Sm rest=match Gc rest with
 |none=>none
 |some (f,r)=>if r=[]∨r.head?=some 59 then some (f,r)else none:=by
 have W:Gc rest=(if((cut (Af rest) [61]).2.2&&Ae (trimRightS (cut (Af rest) [61]).1 [32,9]))=true then(if(Cy (Af (cut (Af rest) [61]).2.1)).2.2=true then some ((A2 (trimRightS (cut (Af rest) [61]).1 [32,9]),(Cy (Af (cut (Af rest) [61]).2.1)).1),Af (Cy (Af (cut (Af rest) [61]).2.1)).2.1)else none)else none):=rfl;have X:∀c,(Af rest).head?=some c→([32,9]:Bs).contains c=false:=by
  obtain⟨b,_,_,D⟩:=Sn rest;exact D
 rw[W];unfold Sm;generalize Af rest=s at X⊢;have k:=CV (p:=Ac) (l:=s);have o:=aQ s;have F:=aP s;obtain⟨b,A,G,I⟩:=Sn (s.dropWhile Ac);generalize s.takeWhile Ac=t at k o⊢;generalize s.dropWhile Ac=u at k F A I⊢;generalize Af u=w at A I⊢;have P:s=t++(b++w):=by rw[←k,A]
 by_cases B:t=[]
 ·rw[AM B];subst B;have J:¬((cut s [61]).2.2&&Ae (trimRightS (cut s [61]).1 [32,9]))=true:=by
   intro h;rw[BL]at h;obtain⟨m,H⟩:=h;rw[Nl]at H;simp only[BL,FJ,FN]at H;cases i:s with
   |nil=>rw[i]at H;exact H.1 rfl
   |cons c l=>
    have Y:Ac c=false:=by
     have e:u=s:=by rw[DK]at k;exact k
     exact F c (by rw[e,i];rfl)
    have a0:∀x:Bs,x≠[]→(∃y,c::l=x++y)→(trimRightS x [32,9]≠[])→c∈trimRightS x [32,9]:=by
     intro x K⟨y,n⟩j;cases x with
     |nil=>exact absurd rfl K
     |cons d x=>
      injection n with n _;subst n;rw[Qi]at j⊢;split
      ·rename_i L;rw[AM L]at j;split
       ·rename_i M;rw[AM M]at j;exact absurd rfl j
       simp
      simp
    have a1:∃y,c::l=(cut s [61]).1++y:=by
     rw[←i];rcases Sl s 61 with⟨_,e⟩|⟨a,y,E,_,e⟩
     ·rw[e];exact⟨[],by simp⟩
     rw[e];exact⟨61::y,E⟩
    have j:(cut s [61]).1≠[]:=by
     intro L;rw[L]at H;exact H.1 rfl
    have:=a0 _ j a1 H.1;have:=AW.1 H.2 c this;rw[Y]at this;cases this
  rw[AI J]
 rw[AI B];have Q:(61:UInt8)∉t++b:=by
  intro h;rcases BP.1 h with h|h
  ·exact(Vu (o _ h)).2.1 rfl
  exact(Vv (G _ h)).2.1 rfl
 have a2:trimRightS (t++b) [32,9]=t:=by
  have m:∀(x:Bs)(y:Bs),(∀c∈y,([32,9]:Bs).contains c=true)→trimRightS (x++y) [32,9]=trimRightS x [32,9]:=by
   intro x y n;unfold trimRightS;rw[IN,List.dropWhile_append_of_pos (fun c i=>n c (JE.1 i))]
  rw[m _ _ G];exact Sk (fun c i=>by
   have:=Vu (o c (EY i));simp[this.2.2.2.1,this.2.2.2.2])
 have a3:Ae t=true:=by
  rw[Nl];simp only[BL,FJ,FN];exact⟨B,AW.2 o⟩
 by_cases C:∃r,w=61::r
 ·obtain⟨r,rfl⟩:=C;have hcut:cut s [61]=(t++b,r,true):=by rw[P,←AJ];exact Vr r Q
  rw[hcut];simp only;rw[a2,a3];simp only[Bool.and_self,DC];have hv:=rP (Af r) (by
   obtain⟨_,_,_,D⟩:=Sn r;exact D)
  have hL:(match Ii (Af r)with
   |none=>none
   |some (v,R)=>if Af R=[]∨(Af R).head?=some 59 then some ((A2 t,v),Af R)else none)=Option.map (fun x:Bs×Bs=>((A2 t,x.1),x.2)) (match Ii (Af r)with
   |none=>none
   |some (v,R)=>if Af R=[]∨(Af R).head?=some 59 then some (v,Af R)else none):=by
   cases Ii (Af r)with
   |none=>rfl
   |some x=>
    obtain⟨v,R⟩:=x;simp only;split<;>rfl
  rw[hL,hv];by_cases H:(Cy (Af r)).2.2=true
  ·rw[AM H,AM H];simp only;split<;>rfl
  rw[AI H,AI H];rfl
 have hl:(match w with|61::r=>(match Ii (Af r)with
  |none=>none
  |some (v,R)=>if Af R=[]∨(Af R).head?=some 59 then some ((A2 t,v),Af R)else none)|_=>(none:Option (A4×Bs)))=none:=by
  split
  ·rename_i r;exact absurd ⟨r,rfl⟩ C
  rfl
 rw[hl];have J:¬((cut s [61]).2.2&&Ae (trimRightS (cut s [61]).1 [32,9]))=true:=by
  intro h;rw[BL]at h;obtain⟨m,H⟩:=h;rcases Sl s 61 with⟨_,e⟩|⟨a,y,E,e2,e⟩
  ·rw[e]at m;cases m
  rw[e]at H;simp only at H;rw[P]at E;have K:∃c z,w=c::z∧∃Z,a=t++b++c::Z:=by
   rcases GX.1 (show(t++b)++w=a++61::y by rw[←E,AJ])with⟨d,N,g⟩|⟨d,N,g⟩
   ·cases d with
    |nil=>rw[DK]at g;exact absurd ⟨y,g⟩ C
    |cons c d=>exact⟨c,d++61::y,by rw[g];rfl,d,N⟩
   cases d with
   |nil=>rw[DK]at g;exact absurd ⟨y,g.symm⟩ C
   |cons c d=>
    rw[CK]at g;injection g with g _;subst g;exact absurd (by rw[N];simp) Q
  obtain⟨c,z,S,Z,ha⟩:=K;have a4:=I c (by rw[S];rfl);rw[Nl]at H;simp only[BL]at H;have T:∀d∈t++b++[c],d∈trimRightS a [32,9]:=by
   intro d a5;rw[ha];have a6:∀(x z:Bs)(c:UInt8),([32,9]:Bs).contains c=false→∃q,trimRightS (x++c::z) [32,9]=x++c::q:=by
    intro x z c i;induction x with
    |nil=>
     rw[DK,Qi];split
     ·rw[AI (by rw[i];decide)];exact⟨[],rfl⟩
     exact⟨_,rfl⟩
    |cons e x ih=>
     obtain⟨q,O⟩:=ih;rw[CK,Qi,O,AI (by simp)];exact⟨q,rfl⟩
   obtain⟨q,O⟩:=a6 (t++b) Z c a4;rw[O];rcases BP.1 a5 with h|h
   ·exact List.mem_append_left _ h
   rw[CP.1 h];simp
  have U:=AW.1 H.2;have a7:Ac c=true:=U c (T c (by simp));cases b with
  |nil=>
   have:=F c (by rw[A,S];rfl);rw[a7]at this;cases this
  |cons e b=>
   have M:=U e (T e (by simp));have V:=(Vv (G e (by simp))).1;rw[M]at V;cases V
 rw[AI J]
theorem aR{p:Bs}:∀{x a b:Bs}(t:Bs),Ab p x=some (a,b)→Ab p (x++t)=some (a,b++t)
 |[],a,b,t,h=>by
  unfold Ab at h;split at h
  ·rename_i H;simp at h;obtain⟨rfl,rfl⟩:=h;subst H;cases t<;>simp[Ab]
  cases h
 |c::x,a,b,t,h=>by
  unfold Ab at h;rw[CK];unfold Ab;split at h
  ·rename_i H;obtain⟨y,d⟩:=BR.1 H;have g:p.isPrefixOf (c::(x++t))=true:=BR.2 ⟨y++t,by rw[←AJ,d];rfl⟩;rw[AM g];simp at h;obtain⟨rfl,rfl⟩:=h;have e:(c::(x++t)).drop p.length=(c::x).drop p.length++t:=by
    rw[show c::(x++t)=p++(y++t) by rw[←AJ,d];rfl,←d];simp
   rw[e]
  rename_i H;cases f:Ab p x with
  |none=>rw[f]at h;cases h
  |some z=>
   obtain⟨Z,k⟩:=z;rw[f]at h;simp at h;obtain⟨rfl,rfl⟩:=h;have g:¬p.isPrefixOf (c::(x++t))=true:=by
    intro i;apply H;have l:=AF List.length (Ee f);simp at l;obtain⟨y,d⟩:=BR.1 i;have j:p=(c::(x++t)).take p.length:=by rw[←d];simp
    rw[BR,j,←CK,CY (by simp;omega)];exact JD _ _
   rw[AI g,aR t f];rfl
theorem rR{p:Bs}(t:Bs)(h:hasPrefix x p=true):hasPrefix (x++t) p=true:=by
 unfold hasPrefix at h⊢;rw[BR]at h⊢;exact h.trans (List.prefix_append _ _)
theorem aS{s b:Bs}:∀(k m i:Nat)(o:Option Nat)(O:List Bs),s.length+1-i<k→s.length+1-i<m→Et s b k i o O=Et s b m i o O
 |0,_,_,_,_,h,_=>absurd h (FW _)
 |_+1,0,_,_,_,_,h=>absurd h (FW _)
 |k+1,m+1,i,o,O,a,c=>by
  unfold Et;by_cases H:s.length<i
  ·rw[AM H,AM H]
  rw[AI H,AI H];have ih:=fun j o O(h:i+2≤j)=>aS (s:=s) (b:=b) k m j o O (by omega) (by omega)
  simp only;cases Hx (cut (s.drop i) [13,10]).1 b with
  |none=>exact ih _ _ _ (by omega)
  |some t=>
   simp only;rw[ih _ (some (min (i+(cut (s.drop i) [13,10]).1.length+2) s.length)) (Je s i o O) (by omega),ih _ o O (by omega)]
def Mt(s b:Bs)(i:Nat)(op:Option Nat)(out:List Bs):Option (List Bs):=Et s b (s.length+2) i op out
def aT(x y:Bs):Prop:=(∀r,Cp (x++r)=(Cp r).map (y++·))∧(13:UInt8)∉x
theorem aT.nil:aT [] []:=⟨fun r=>by cases h:Cp r<;>simp[h],by simp⟩
theorem Vw(p:Bs)(H:p≠[]):∀(f g:Nat)(s:Bs),s.length<f→s.length<g→countFrom p f s=countFrom p g s
 |0,_,s,h,_=>absurd h (FW _)
 |_+1,0,s,_,h=>absurd h (FW _)
 |f+1,g+1,s,b,d=>by
  unfold countFrom;by_cases h:(index s p==-1)=true
  ·rw[AM h,AM h]
  rw[AI h,AI h];have l:=BE.2 H;have a:0≤index s p:=by
   rw[He];cases c:Ab p s with
   |none=>rw[He,c]at h;exact absurd rfl h
   |some x=>simp
  have:=index_room s p a;rw[Vw p H f g _ (by rw[AS];omega) (by rw[AS];omega)]
end Go.Proofs.YtignjjnflcpiiaaGreatDoor
