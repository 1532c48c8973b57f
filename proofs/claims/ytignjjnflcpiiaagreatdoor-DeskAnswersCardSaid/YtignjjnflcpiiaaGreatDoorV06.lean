/- What package part computes, as plain data: a part is a he -/
import Derived.Lib.ItoaLen
import Derived.Test.YtignjjnflcpiiaaGreatDoorV02
set_option linter.all false
namespace Go.Proofs.YtignjjnflcpiiaaGreatDoor
open Go Go.RowKit Proofs.Tryz Lib
abbrev BE:=@Go.Lib.itoa_length_le
inductive A7 where
 |mk:List A4->Bs->Bool->List A7->A7
def A7.head:A7->List A4| .mk h _ _ _=>h
def A7.body:A7->Bs| .mk _ b _ _=>b
def A7.many:A7->Bool| .mk _ _ m _=>m
def A7.parts:A7->List A7| .mk _ _ _ l=>l
def C2:Bs:=[67,111,110,116,101,110,116,45,84,121,112,101]
def Bn:Bs:=[67,111,110,116,101,110,116,45,84,114,97,110,115,102,101,114,45,69,110,99,111,100,105,110,103]
def Mb:Bs:=[109,117,108,116,105,112,97,114,116,47]
def Ch:Bs:=[98,111,117,110,100,97,114,121]
def Kl:Bs:=[55,98,105,116]
def Ph:Bs:=[56,98,105,116]
def Pi:Bs:=[98,105,110,97,114,121]
def Jq:Bs:=[98,97,115,101,54,52]
def I2:Bs:=[113,117,111,116,101,100,45,112,114,105,110,116,97,98,108,101]
def Km(b:Bs):Bool:=b.isEmpty||decide (70<b.length)||hasSuffix b [32]
def Bo(l:List A4):Option (Option Bs):=
 match Aj l C2 with
 |none=>some none
 |some v=>match Ay v with
  |none=>none
  |some (m,p)=>if hasPrefix m Mb then
    match Cc p Ch with
    |none=>none
    |some b=>if Km b then none else some (some b)
   else some none
def Jr(s:Bs)(i o:Nat):Bs:=(s.drop o).take (max (i-2) o-o)
def Lc(s:Bs)(i:Nat)(op:Option Nat)(out:List Bs):List Bs:=match op with
 |none=>out
 |some o=>out++[Jr s i o]
def J9(l b:Bs):Option Bs:=if hasPrefix l (45::45::b)then some (trimS (trimPrefix l (45::45::b)) [32,9])else none
def Fi(s b:Bs):Nat->Nat->Option Nat->List Bs->Option (List Bs)
 |0,_,_,_=>none
 |k+1,i,o,O=>
  if s.length<i then none else
  let l:=(cut (s.drop i) [13,10]).1
  match J9 l b with
  |none=>Fi s b k (i+l.length+2) o O
  |some t=>if t=[45,45]then some (Lc s i o O)
   else if t=[]then Fi s b k (i+l.length+2) (some (min (i+l.length+2) s.length)) (Lc s i o O)
   else Fi s b k (i+l.length+2) o O
def Eb(s b:Bs):Option (List Bs):=Fi s b (s.length+2) 0 none []
def Dd(l:List A4)(s:Bs):Except Int Bs:=
 match Aj l Bn with
 |none=>.ok s
 |some v=>
  if A2 v=Kl\/A2 v=Ph\/A2 v=Pi then .ok s
  else if A2 v=Jq then(match Dr s with|none=>.error 3|some x=>.ok x)
  else if A2 v=I2 then(match Df s with|none=>.error 3|some x=>.ok x)
  else .error 5
def Bz{α β:Type}(f:Nat->α->Except Int (β×Nat)):Nat->List α->Except Int (List β×Nat)
 |n,[]=>.ok ([],n)
 |n,x::X=>match f n x with
  | .error e=>.error e
  | .ok (y,N)=>match Bz f N X with
   | .error e=>.error e
   | .ok (Y,m)=>.ok (y::Y,m)
def Bd:Nat->Nat->Bs->Except Int (A7×Nat)
 |0,_,_=>.error 4
 |_+1,0,_=>.error 4
 |d+1,L+1,s=>match E7 s with
  |none=>.error 3
  |some (a,B)=>match Cz a with
   |none=>.error 1
   |some l=>match Bo l with
    |none=>.error 3
    |some none=>(match Dd l B with
     | .error e=>.error e
     | .ok b=>.ok (.mk l b false [],L))
    |some (some b)=>match Eb B b with
     |none=>.error 3
     |some p=>match Bz (Bd d) L p with
      | .error e=>.error e
      | .ok (q,n)=>.ok (.mk l [] true q,n)
def Ef(s:Bs):Except Int A7:=if 20000<s.length then .error 4 else(Bd 4 40 s).map (·.1)
def C8(l:List A4):List A4:=l.filter fun f=>!(A2 f.1==A2 Bn)
def Cs:List A4->Bs->Bs->List A4
 |[],_,_=>[]
 |f::l,n,b=>if f.1=n then(f.1,b)::l else f::Cs l n b
def Fa(v b:Bs):Bs:=let x:=(Ay v).getD ([],[]);(Cl x.1 (Cs x.2 Ch b)).getD []
def Eg:List A4->Bs->List A4
 |[],_=>[]
 |f::l,b=>if A2 f.1=A2 C2 then(f.1,Fa f.2 b)::l else f::Eg l b
def It(p:Nat->Bool):Nat->Nat->Nat
 |0,n=>n
 |k+1,n=>if p n then n else It p k (n+1)
def Dv(p:Bs)(l:List Bs)(n:Nat):Bool:=l.any fun s=>contains s (p++itoa n)
def Bk(l:List Bs):Nat:=(l.map List.length).sum
def Ja(p:Bs)(l:List Bs):Nat:=It (fun n=>!Dv p l n) (20*(Bk l+l.length+1)) 0
def Cu(l:List Bs):Bs:=98::itoa (Ja [45,45,98] l)
def Nq(c:UInt8):Bool:=c==9||(decide (32<=c)&&decide (c<=126))
def Js(s:Bs):Bool:=(replaceAll s [13,10] []).all Nq
def Cv(s:Bs):Bs×Bs:=
 if Js s then(Kl,s)else
 if(E5 s).length<=(Dn s).length then(I2,E5 s)else(Jq,Dn s)
def Eo(b:Bs)(l:List Bs):Bs:=l.flatMap fun s=>45::45::(b++13::10::(s++[13,10]))
def Qk(h:List A4)(body:Bs):Option Bs:=(D7 (C8 h++[(Bn,(Cv body).1)])).map (·++(Cv body).2)
def Pj(h:List A4)(l:List Bs):Option Bs:=(D7 (Eg (C8 h) (Cu l))).map (·++(Eo (Cu l) l++45::45::(Cu l++[45,45,13,10])))
def Bh:Nat->Nat->A7->Except Int (Bs×Nat)
 |0,_,_=>.error 4
 |_+1,0,_=>.error 4
 |d+1,L+1,.mk h b m p=>
  if Ck h=false then .error 1 else
  match Bo h with
  |none=>.error 1
  |some o=>
   if o.isSome≠m then .error 1
   else if m then(if b≠[]then .error 1 else match Bz (Bh d) L p with
    | .error e=>.error e
    | .ok (l,n)=>match Pj h l with
     |none=>.error 1
     |some s=>.ok (s,n))
   else if p≠[]then .error 1 else match Qk h b with
    |none=>.error 1
    |some s=>.ok (s,L)
def Iu(p:A7):Except Int Bs:=match Bh 4 40 p with
 | .error e=>.error e
 | .ok (s,_)=>if 20000<s.length then .error 4 else .ok s
theorem Z9:∀(N:Nat)(l:List Nat),l.Nodup->(∀x∈l,x<N)->l.length<=N
 |0,l,_,h=>by
  cases l with
  |nil=>simp
  |cons x l=>have:=h x ah;omega
 |N+1,l,n,h=>by
  by_cases m:N∈l
  ·have a:=Z9 N (l.erase N) (n.erase N) (fun x H=>by
    have b:=(n.mem_erase_iff).1 H;have c:=h x b.2;have:x≠N:=b.1;omega)
   rw[List.length_erase_of_mem m]at a;omega
  have a:=Z9 N l n (fun x H=>by
   have c:=h x H;have:x≠N:=fun e=>m (e▸H)
   omega)
  omega
def S0(s p:Bs):Nat:=match Ao p s with|none=>0|some x=>x.1.length
def wI(s p:Bs):contains s p=(Ao p s).isSome:=by
 unfold contains;rw[Jl];cases Ao p s with
 |none=>rfl
 |some x=>simp
def wJ(s p:Bs):S0 s p<=s.length:=by
 unfold S0;cases h:Ao p s with
 |none=>simp
 |some x=>
  obtain⟨a,b⟩:=x;have:=CI List.length (F7 h);simp at this|-;omega
variable {s q m r name cs a x t v rest:Bs}{b k n v' n' p' i:Nat}{p:Nat → Bool}{l out o:List A4}{f:A4}{c:UInt8}
def wK{p:Bs}(H:contains s p=true)(e:contains s q=true)(l:p.length=q.length)(h:S0 s p=S0 s q):p=q:=by
 rw[wI]at H e;unfold S0 at h;cases f:Ao p s with
 |none=>rw[f]at H;cases H
 |some x=>
  cases g:Ao q s with
  |none=>rw[g]at e;cases e
  |some y=>
   obtain⟨a,b⟩:=x;obtain⟨c,d⟩:=y;rw[f,g]at h;simp only at h;have i:=F7 f;have j:=F7 g;have E:=i.symm.trans j;rw[AP,AP]at E;have k:=(List.append_inj E h).2;exact(List.append_inj k l).1
theorem Za{α:Type}(f:α->Nat):∀(l:List α),l.Nodup->(∀x∈l,∀y∈l,f x=f y->x=y)->(l.map f).Nodup
 |[],_,_=>ah
 |x::l,H,h=>by
  rw[CD,List.nodup_cons];rw[List.nodup_cons]at H;refine⟨fun m=>?_,Za f l H.2 fun a d b g=>h a (by simp[d]) b (by simp[g])⟩;obtain⟨y,c,e⟩:=DN.1 m;have:=h y (by simp[c]) x ah e;exact H.1 (this▸c)
def wL(s:Bs)(f:Nat->Bs)(m:Nat)(l:List Nat)(n:l.Nodup)(a:∀x∈l,(f x).length=m)(i:∀x∈l,∀y∈l,f x=f y->x=y)(c:∀x∈l,contains s (f x)=true):l.length<=s.length+1:=by
 have b:=Za (fun x=>S0 s (f x)) l n (fun x h y H e=>i x h y H (wK (c x h) (c y H) ((a x h).trans (a y H).symm) e));have d:=Z9 (s.length+1) _ b (fun x h=>by
  obtain⟨y,_,rfl⟩:=DN.1 h;have:=wJ s (f y);omega)
 simpa using d
theorem fP{α:Type}(p q:α->Bool):∀(l:List α),(∀x∈l,p x=true\/q x=true)->l.length<=(l.filter p).length+(l.filter q).length
 |[],_=>ah
 |x::l,h=>by
  have ih:=fP p q l fun y a=>h y (by simp[a])
  have H:=h x ah;simp only[DB,AK];rcases H with H|H
  ·rw[H];simp only[DK,AK];split<;>simp<;>omega
  rw[H];simp only[DK,AK];split<;>simp<;>omega
theorem fQ(f:Nat->Bs)(m:Nat):∀(S:List Bs)(l:List Nat),l.Nodup->(∀x∈l,(f x).length=m)->(∀x∈l,∀y∈l,f x=f y->x=y)->(∀x∈l,S.any (fun s=>contains s (f x))=true)->l.length<=Bk S+S.length
 |[],l,_,_,_,H=>by
  cases l with
  |nil=>simp
  |cons x l=>have:=H x ah;simp at this
 |s::S,l,n,b,i,H=>by
  have h0:=fP (fun x=>contains s (f x)) (fun x=>S.any fun s=>contains s (f x)) l (fun x h=>by
   have:=H x h;rw[GB,FM]at this;exact this)
  have c:=wL s f m (l.filter fun x=>contains s (f x)) (n.filter _) (fun x h=>b x (DP.1 h).1) (fun x h y a=>i x (DP.1 h).1 y (DP.1 a).1) (fun x h=>(DP.1 h).2);have d:=fQ f m S (l.filter fun x=>S.any fun s=>contains s (f x)) (n.filter _) (fun x h=>b x (DP.1 h).1) (fun x h y a=>i x (DP.1 h).1 y (DP.1 a).1) (fun x h=>(DP.1 h).2);have e:Bk (s::S)=s.length+Bk S:=uh
  rw[e,AK];omega
def wM(u:Nat):(decDigits u).length=nDigits u:=by rw[decDigits_eq];simp
def Ts(l:Bs):Nat:=l.foldl (fun a c=>a*10+(c.toNat-48)) 0
def wN(l:Bs)(c:UInt8):Ts (l++[c])=Ts l*10+(c.toNat-48):=by simp[Ts]
def fR(u:Nat):Ts (decDigits u)=u:=by
 induction u using Nat.strongRecOn with
 |_ u ih=>
  by_cases h:u<10
  ·rw[decDigits,dif_pos h];simp[Ts,CX];omega
  rw[decDigits,dif_neg h,wN,ih (u/10) aa];simp[CX];omega
def wO{a:Nat}(h:itoa (a:Int)=itoa (b:Int)):a=b:=by
 rw[JO,JO]at h;rw[<-fR a,h,fR]
theorem fS:∀(k T:Nat),T<10^k->1<=T->∃d,T<10^d/\10^d<=10*T
 |0,T,h,H=>by simp at h;omega
 |k+1,T,h,H=>by
  by_cases a:T<10^k
  ·exact fS k T a H
  exact⟨k+1,h,by rw[JB];omega⟩
def wP(T:Nat):T<10^T:=Nat.lt_pow_self ae
def Tt(p:Bs)(s:List Bs)(k:Nat)(h:∀j,j<k->Dv p s j=true):k<20*(Bk s+s.length+1):=by
 rcases CL k (20*(Bk s+s.length+1))with b|b
 ·exact b
 exfalso;obtain⟨d,g,i⟩:=fS _ _ (wP (Bk s+s.length+1)) aa;have c:∀x∈(List.range (10^d)).map (10^d+·),(p++itoa (x:Nat)).length=p.length+(d+1):=fun x H=>by
  obtain⟨y,a,rfl⟩:=DN.1 H;rw[BT]at a;rw[AJ,JO,wM,nDigits_unique d _ aa (by rw[JB];omega)]
 have f:((List.range (10^d)).map (10^d+·)).Nodup:=Za _ _ List.nodup_range (fun x _ y _ e=>aa);have:=fQ (fun n=>p++itoa (n:Nat)) _ s _ f c (fun x _ y _ e=>wO (List.append_cancel_left e)) (fun x H=>by
  obtain⟨y,a,rfl⟩:=DN.1 H;rw[BT]at a;exact h _ aa)
 rw[DQ,List.length_range]at this;omega
def fT(h:p n=false):It p (k+1) n=It p k (n+1):=by
 show(if p n=true then n else It p k (n+1))=_;rw[h];rfl
def fU(h:p n=true):It p (k+1) n=n:=by
 show(if p n=true then n else It p k (n+1))=_;rw[h];rfl
theorem fV(p:Nat->Bool):∀k n,It p k n<=n+k
 |0,n=>AF _
 |k+1,n=>by
  unfold It;have:=fV p k (n+1);split<;>omega
def fW(p:Bs)(l:List Bs):Ja p l<=20*(Bk l+l.length+1):=by
 have:=fV (fun n=>!Dv p l n) (20*(Bk l+l.length+1)) 0;unfold Ja;omega
def Dw(n:Nat)(l:List A4):Prop:=l.length<=n/\∀f∈l,f.1.length<=n/\f.2.length<=n
def Dw.mono{m:Nat}(h:Dw n l)(H:n<=m):Dw m l:=⟨AV h.1 H,fun f a=>⟨AV (h.2 f a).1 H,AV (h.2 f a).2 H⟩⟩
theorem Mc{n:Nat}{s v:Bs}:∀{l:List A4},Dw n l->Aj l s=some v->v.length<=n
 |[],_,h=>ee
 |f::l,H,h=>by
  unfold Aj at h;split at h
  ·cases h;exact(H.2 f ah).2
  exact Mc (l:=l) ⟨by have:=H.1;simp at this;omega,fun g a=>H.2 g (by simp[a])⟩ h
theorem W7{n:Nat}{s v:Bs}:∀{l:List A4},Dw n l->Cc l s=some v->v.length<=n
 |[],_,h=>ee
 |f::l,H,h=>by
  unfold Cc at h;split at h
  ·cases h;exact(H.2 f ah).2
  exact W7 (l:=l) ⟨by have:=H.1;simp at this;omega,fun g a=>H.2 g (by simp[a])⟩ h
def Ql(h:Ay s=some (m,l)):m.length<=s.length/\Dw s.length l:=by
 obtain⟨H,a,b⟩:=eF h;exact⟨H,a,b⟩
def Az(l:List A4):Nat:=(l.map fun f=>f.1.length+f.2.length+1).sum
def Hp(f:A4)(l:List A4):Az (f::l)=f.1.length+f.2.length+1+Az l:=by simp[Az]
def Qm(l m:List A4):Az (l++m)=Az l+Az m:=by simp[Az]
def wQ(h:f∈l):f.1.length+f.2.length+1<=Az l:=by
 induction l with
 |nil=>cases h
 |cons g l ih=>
  rw[Hp];rcases CG.1 h with rfl|h
  ·omega
  have:=ih h;omega
def S4(l:List A4):l.length<=Az l:=by
 induction l with
 |nil=>simp
 |cons g l ih=>rw[Hp,AK];omega
def F1(h:Az l<=n):Dw n l:=⟨AV (S4 l) h,fun f H=>by have:=wQ H;omega⟩
def wR{l:Bs}(d:l≠[])(h:L7 out l=some o):Az o<=Az out+l.length:=by
 unfold L7 at h;split at h
 ·cases H:out.getLast? with
  |none=>rw[H]at h;cases h
  |some f=>
   rw[H]at h;simp only[GZ]at h;subst h;obtain⟨y,rfl⟩:=List.getLast?_eq_some_iff.1 H;simp[Qm,Hp];omega
 cases c:Ao [58] l with
 |none=>rw[c]at h;cases h
 |some x=>
  obtain⟨a,b⟩:=x;rw[c]at h;simp only at h;split at h
  ·cases h;have:=CI List.length (F7 c);simp[Qm,Hp]at this|-;simp[Az];omega
  cases h
theorem fX:∀(k:Nat)(O o:List A4)(s r:Bs),Hj k O s=some (o,r)->Az o<=Az O+s.length/\r.length<=s.length
 |0,_,_,_,_,h=>ee
 |k+1,O,o,s,r,h=>by
  unfold Hj at h;split at h
  ·rename_i h0;cases h;simp
  rename_i h0;have c:=Oc s [13,10];simp only at h;split at h
  ·cases h;omega
  rename_i n;cases H:L7 O (cut s [13,10]).1 with
  |none=>rw[H]at h;cases h
  |some d=>
   rw[H]at h;simp only at h;have ih:=fX k _ _ _ _ h;have a:(cut s [13,10]).1≠[]:=fun e=>by
    have b:(cut s [13,10]).2.2=true:=by
     rw[Gs]at e|-;cases p:Ao [13,10] s with
     |none=>rw[p]at e;exact absurd e h0
     |some x=>rfl
    exact n ⟨e,b⟩
   have:=wR a H;omega
def Zb(h:E7 s=some (o,r)):Az o<=s.length/\r.length<=s.length:=by
 have:=fX _ _ _ _ _ h;simpa[Az]using this
theorem W8:∀{l o:List A4},Cz l=some o->Az o<=Az l
 |[],o,h=>by cases h;exact AF _
 |f::l,o,h=>by
  unfold Cz at h;split at h
  ·cases H:Cz l with
   |none=>rw[H]at h;cases h
   |some O=>
    rw[H]at h;cases h;have:=W8 H;have:=Ro f.2 [32,9];simp only[Hp];omega
  cases h
def wS{v p:Nat}{o:Bs}(h:J6 c v n p=some (o,v',n',p')):o.length<=3:=by
 unfold J6 at h;split at h
 ·cases h;simp
 cases H:Gb c n p with
 |none=>rw[H]at h;cases h
 |some x=>
  obtain⟨k,q⟩:=x;rw[H]at h;simp only[F8]at h;split at h
  ·cases h;simp
  split at h
  ·cases h
  cases h;simp
theorem Tu:∀(l:Bs)(v n p:Nat)(o:Bs),Ce l v n p=some o->o.length<=3*l.length
 |[],v,n,p,o,h=>by
  unfold Ce at h;split at h
  ·cases h
  cases h;simp
 |c::l,v,n,p,o,h=>by
  unfold Ce at h;cases H:J6 c v n p with
  |none=>rw[H]at h;cases h
  |some x=>
   obtain⟨O,V,N,P⟩:=x;rw[H]at h;simp only[BM]at h;obtain⟨b,a,rfl⟩:=h;have:=wS H;have:=Tu l _ _ _ _ a;simp;omega
theorem fY:∀(k:Nat)(x o:Bs),Kf k x=some o->o.length<=x.length
 |_,[],o,h=>by simp[Kf]at h;simp[h]
 |0,c::l,o,h=>by simp[Kf]at h
 |k+1,c::l,o,h=>by
  unfold Kf at h;cases H:Jm (c::l)with
  |none=>rw[H]at h;cases h
  |some r=>
   obtain⟨d,y⟩:=r;rw[H]at h;simp only[BM]at h;obtain⟨O,a,rfl⟩:=h;have:=Yb H;have:=fY k y _ a;simp at*;omega
theorem fZ:∀(l:List Bs)(o:Bs),Dz l=some o->o.length<=Bk l+2*l.length
 |[],o,h=>by cases h;simp
 |x::X,o,h=>by
  unfold Dz at h;cases H:Db (J7 x)with
  |none=>rw[H]at h;cases h
  |some a=>
   rw[H]at h;simp only[BM]at h;obtain⟨O,b,rfl⟩:=h;have c:=fY _ _ _ H;have d:=Yd x;have f:=fZ X _ b;have e:Bk (x::X)=x.length+Bk X:=uh
   rw[e];simp only[AJ,AK];split<;>simp<;>omega
theorem gC(p:Bs):∀(n:Nat)(s:Bs),Bk (splitK p 0 n s)<=s.length
 |0,s=>by simp[splitK,Bk]
 |n+1,s=>by
  unfold splitK;split
  ·simp[Bk]
  have h:=gC p n;simp only[Bk,CD,DT];refine AV (Nat.add_le_add_left (h _) _) ?_;simp;omega
def gD{o:Bs}(h:Dd l s=.ok o):o.length<=3*s.length+2:=by
 unfold Dd at h;cases g:Aj l Bn with
 |none=>rw[g]at h;cases h;omega
 |some v=>
  rw[g]at h;simp only at h;split at h
  ·cases h;omega
  split at h
  ·cases H:Dr s with
   |none=>rw[H]at h;cases h
   |some x=>rw[H]at h;cases h;have:=Tu _ _ _ _ _ H;omega
  split at h
  ·cases H:Df s with
   |none=>rw[H]at h;cases h
   |some x=>
    rw[H]at h;cases h;have a:=fZ _ _ H;have b:Bk (Lib.split s [13,10])<=s.length:=gC _ _ _;have c:(Lib.split s [13,10]).length=count s [13,10]+1:=Tg _ _ ae;have d:=Vi s [13,10] ae;omega
  cases h
def Cg:Nat->List Av->Nat->Prop
 |i,[],j=>i<=j
 |i,x::l,j=>i<=x.1/\Cg (x.1+x.2.1) l j
theorem Cg.le:∀{l:List Av}{i j:Nat},Cg i l j->i<=j
 |[],_,_,h=>h
 |_::l,_,_,h=>by have:=Cg.le (l:=l) h.2;have:=h.1;omega
theorem Cg.wide:∀{l:List Av}{i j I J:Nat},Cg i l j->I<=i->j<=J->Cg I l J
 |[],_,_,_,_,h,a,H=>by unfold Cg at h|-;omega
 |_::l,_,_,_,_,h,a,H=>⟨ew,Cg.wide (l:=l) h.2 (AF _) H⟩
theorem Cg.append:∀{l m:List Av}{i j k:Nat},Cg i l j->Cg j m k->Cg i (l++m) k
 |[],_,_,_,_,h,H=>H.wide h (AF _)
 |_::l,_,_,_,_,h,H=>⟨h.1,Cg.append (l:=l) h.2 H⟩
def wT(a:i<=s.length):Cg i (E9 s name i).2.2 (E9 s name i).2.1/\(E9 s name i).2.1<=s.length/\(E9 s name i).2.2.length<=1:=by
 unfold E9;cases d:s.drop i with
 |nil=>exact⟨AF _,a,ah⟩
 |cons c l=>
  have n:i+(l.length+1)=s.length:=by
   have:=CI List.length d;rw[BD,AK]at this;omega
  have H:∀q:Bool,(if q then indexByte l c else indexAny (c::l) [32,9,13,10,62])<0\/(0<=(if q then indexByte l c else indexAny (c::l) [32,9,13,10,62])/\(if q then indexByte l c else indexAny (c::l) [32,9,13,10,62]).toNat+2*(if q then 1 else 0)<=l.length+1):=by
   intro q;cases q with
   |true=>
    rcases eJ l c with h|h
    ·exact Or.inl h
    right;simp;omega
   |false=>
    rcases Vp (c::l) [32,9,13,10,62]with h|h
    ·exact Or.inl h
    right;simp at h;simp;omega
  simp only;have H:=H (c==34||c==39);generalize(c==34||c==39)=q at H|-;generalize(if q=true then indexByte l c else indexAny (c::l) [32,9,13,10,62])=k at H|-;have b:(if q=true then 1 else 0)<=1:=by split<;>omega
  generalize(if q=true then 1 else 0)=o at H b|-;by_cases z:k<0
  ·rw[AN z];exact⟨a,AF _,ah⟩
  rw[AL z];refine⟨?_,ai,by simp only;split<;>simp⟩;simp only;split
  ·exact⟨ai,mo⟩
  simp only[Cg];omega
def W9(g:i<=s.length):Cg i (C5 s i).2.2 (C5 s i).2.1/\(C5 s i).2.1<=s.length/\(C5 s i).2.2.length<=(C5 s i).2.1-i/\((C5 s i).1=true->i<(C5 s i).2.1):=by
 have r:=P9 (s.drop i) [32,9,13,10,47];rw[BD]at r;obtain⟨a,j⟩:∃a,a=i+C7 (s.drop i) [32,9,13,10,47]:=⟨_,rfl⟩;have m:i<=a:=aa
 have n:a<=s.length:=aa
 unfold C5;simp only[<-j];cases o:s.drop a with
 |nil=>exact⟨m,n,ah,ah⟩
 |cons c l=>
  have x:a+(l.length+1)=s.length:=by
   have:=CI List.length o;rw[BD,AK]at this;omega
  simp only;by_cases e:c=62
  ·rw[AN e];exact⟨mo,ai,ah,ah⟩
  rw[AL e];have p:=Vp l [32,9,13,10,47,61,62];generalize indexAny l [32,9,13,10,47,61,62]=k at p|-;by_cases z:k<0
  ·rw[AN z];exact⟨g,AF _,ah,ah⟩
  rw[AL z];obtain⟨b,q⟩:∃b,b=a+(1+k.toNat):=⟨_,rfl⟩;simp only[<-q];have t:=P9 (s.drop b) Gy;rw[BD]at t;obtain⟨d,u⟩:∃d,d=b+C7 (s.drop b) Gy:=⟨_,rfl⟩;simp only[<-u];by_cases H:(s.drop d).head?=some 61
  ·rw[AN H];have y:d<s.length:=by
    rcases CL d s.length with h|h
    ·exact h
    rw[BP h]at H;cases H
   have v:=P9 (s.drop (d+1)) Gy;rw[BD]at v;obtain⟨f,w,A⟩:=wT (s:=s) (name:=A2 ((c::l).take (1+k.toNat))) (i:=d+1+C7 (s.drop (d+1)) Gy) aa;have B:=f.le;exact⟨f.wide aa (AF _),w,aa,fun _=>aa⟩
  rw[AL H];exact⟨mo,ai,ah,fun _=>ai⟩
def wU:∀f i,i<=s.length->s.length-i<f->La s f i=La s (s.length+1) i:=by
 have k:∀f g i,i<=s.length->s.length-i<f->s.length-i<g->La s f i=La s g i:=by
  intro f;induction f with
  |zero=>intro g i _ h;omega
  |succ f ih=>
   intro g i a c m;cases g with
   |zero=>omega
   |succ g=>
    have H:=W9 a;unfold La;rcases e:C5 s i with⟨b,j,l⟩;rw[e]at H;cases b with
    |false=>rfl
    |true=>
     have d:=H.2.2.2 rfl;simp only at d H|-;rw[ih g j H.2.1 aa aa]
 exact fun f i a c=>k f _ i a c aa
def Aw(s:Bs)(i:Nat):Nat×List Av:=La s (s.length+1) i
def Wa(a:i<=s.length)(h:(C5 s i).1=true):Aw s i=((Aw s (C5 s i).2.1).1,(C5 s i).2.2++(Aw s (C5 s i).2.1).2):=by
 have H:=W9 a;have c:=H.2.2.2 h;unfold Aw;conv=>lhs;unfold La
 rw[<-wU s.length _ H.2.1 aa];rcases e:C5 s i with⟨b,j,l⟩;rw[e]at h;simp only at h;subst h;rfl
def Pk(h:(C5 s i).1=false):Aw s i=(C5 s i).2:=by
 unfold Aw La;rcases H:C5 s i with⟨b,j,l⟩;rw[H]at h;simp only at h;subst h;rfl
theorem gE{s:Bs}:∀n i,s.length-i<=n->i<=s.length->Cg i (Aw s i).2 (Aw s i).1/\(Aw s i).1<=s.length/\(Aw s i).2.length<=(Aw s i).1-i
 |n,i,c,a=>by
  have h:=W9 a;cases H:(C5 s i).1 with
  |false=>rw[Pk H];exact⟨h.1,h.2.1,h.2.2.1⟩
  |true=>
   have j:=h.2.2.2 H;rw[Wa a H];have b:=h.2.1;cases n with
   |zero=>omega
   |succ n=>
    have ih:=gE n (C5 s i).2.1 aa b;have:=ih.1.le;refine⟨h.1.append ih.1,ih.2.1,?_⟩;have A:=ih.2.2;have d:=h.2.2.1;simp only[AJ];omega
theorem Zc(s:Bs)(i:Nat):Dt s i=if Qa.contains (A2 ((s.drop i).take (C7 (s.drop i) Em)))then(if index (A2 (s.drop (Aw s (i+C7 (s.drop i) Em)).1)) ([60,47]++A2 ((s.drop i).take (C7 (s.drop i) Em)))<0 then s.length else(Aw s (i+C7 (s.drop i) Em)).1+(index (A2 (s.drop (Aw s (i+C7 (s.drop i) Em)).1)) ([60,47]++A2 ((s.drop i).take (C7 (s.drop i) Em)))).toNat,(Aw s (i+C7 (s.drop i) Em)).2)else Aw s (i+C7 (s.drop i) Em):=rfl
def wV(b:i<=s.length):Cg i (Dt s i).2 (Dt s i).1/\(Dt s i).1<=s.length/\(Dt s i).2.length<=(Dt s i).1-i:=by
 have H:=P9 (s.drop i) Em;rw[BD]at H;have h:=gE (s:=s) _ (i+C7 (s.drop i) Em) (AF _) aa;have h0:=h.1.le;rw[Zc];split
 ·have x:=Od (A2 (s.drop (Aw s (i+C7 (s.drop i) Em)).1)) ([60,47]++A2 ((s.drop i).take (C7 (s.drop i) Em)));rw[(by simp[A2]:(A2 (s.drop (Aw s (i+C7 (s.drop i) Em)).1)).length=s.length-(Aw s (i+C7 (s.drop i) Em)).1)]at x;have a:=h.2.1;have c:=h.2.2;split
  ·exact⟨h.1.wide aa a,AF _,ai⟩
  exact⟨h.1.wide aa ai,ai,ai⟩
 exact⟨h.1.wide aa (AF _),h.2.1,by have:=h.2.2;omega⟩
def Fs(s:Bs)(a:Nat)(c:UInt8):Nat×List Av:=
 if hasPrefix (s.drop a) [33,45,45]then(Cm s [45,45,62] (a+3),[])
 else if c=47\/c=33\/c=63 then(Cm s [62] a,[])
 else if(Em.take 52).contains c then Dt s a
 else(a,[])
def Zd{f:Nat}(h:s.drop (Cm s [60] i)=[]):Iq s (f+1) i=[]:=by
 unfold Iq;simp only;rw[h]
def Ze{l:Bs}{f:Nat}(h:s.drop (Cm s [60] i)=c::l):Iq s (f+1) i=(Fs s (Cm s [60] i) c).2++Iq s f (Fs s (Cm s [60] i) c).1:=by
 unfold Fs;rw[h];conv=>lhs;unfold Iq
 simp only;rw[h];simp only;split
 ·rfl
 split
 ·rfl
 split
 ·rfl
 rfl
def Qn{l:Bs}{a:Nat}(h:s.drop a=c::l):Cg a (Fs s a c).2 (Fs s a c).1/\(Fs s a c).1<=s.length/\(Fs s a c).2.length<=(Fs s a c).1-a:=by
 have n:a+(l.length+1)=s.length:=by
  have:=CI List.length h;rw[BD,AK]at this;omega
 unfold Fs;split
 ·rename_i H;have b:a+3<=s.length:=by
   have:=(DG.1 (by unfold hasPrefix at H;exact H)).length_le;rw[BD]at this;simp at this;omega
  have:=Pa s [45,45,62] (a+3) b;exact⟨mo,ai,ah⟩
 split
 ·have:=Pa s [62] a aa;exact⟨mo,ai,ah⟩
 split
 ·exact wV aa
 exact⟨AF _,ai,ah⟩
def wW:∀f i,i<=s.length->s.length-i<f->Iq s f i=Iq s (s.length+1) i:=by
 have k:∀f g i,i<=s.length->s.length-i<f->s.length-i<g->Iq s f i=Iq s g i:=by
  intro f;induction f with
  |zero=>intro g i _ h;omega
  |succ f ih=>
   intro g i a b e;cases g with
   |zero=>omega
   |succ g=>
    have j:=Pa s [60] i a;cases H:s.drop (Cm s [60] i)with
    |nil=>rw[Zd H,Zd H]
    |cons c l=>
     have n:Cm s [60] i+(l.length+1)=s.length:=by
      have:=CI List.length H;rw[BD,AK]at this;omega
     have t:=Rs s [60] i aa ah;have d:=Qn H;have:=d.1.le;rw[Ze H,Ze H,ih g _ d.2.1 aa aa]
 exact fun f i a b=>k f _ i a b aa
def Ko(s:Bs)(i:Nat):List Av:=Iq s (s.length+1) i
def S5(h:s.drop (Cm s [60] i)=[]):Ko s i=[]:=Zd h
def Wb{l:Bs}(a:i<=s.length)(h:s.drop (Cm s [60] i)=c::l):Ko s i=(Fs s (Cm s [60] i) c).2++Ko s (Fs s (Cm s [60] i) c).1:=by
 have b:=Pa s [60] i a;have n:Cm s [60] i+(l.length+1)=s.length:=by
  have:=CI List.length h;rw[BD,AK]at this;omega
 have t:=Rs s [60] i aa ah;have H:=Qn h;have:=H.1.le;unfold Ko;rw[Ze h,wW s.length _ H.2.1 aa]
theorem Zf{s:Bs}:∀n i,s.length-i<=n->i<=s.length->Cg i (Ko s i) s.length/\(Ko s i).length<=s.length-i
 |n,i,b,a=>by
  have d:=Pa s [60] i a;cases h:s.drop (Cm s [60] i)with
  |nil=>rw[S5 h];exact⟨a,ah⟩
  |cons c l=>
   have e:Cm s [60] i+(l.length+1)=s.length:=by
    have:=CI List.length h;rw[BD,AK]at this;omega
   have t:=Rs s [60] i aa ah;have H:=Qn h;have h0:=H.1.le;rw[Wb a h];cases n with
   |zero=>omega
   |succ n=>
    have ih:=Zf n (Fs s (Cm s [60] i) c).1 aa H.2.1;have A:=H.2.2;refine⟨(H.1.wide aa (AF _)).append ih.1,?_⟩;rw[AJ];omega
def I3(s:Bs):Cg 0 (Bf s) s.length/\(Bf s).length<=s.length:=Zf s.length 0 aa (DE _)
theorem S6{p:UInt8->Bool}:∀{l:Bs}{x:UInt8}{t:Bs},l.dropWhile p=x::t->p x=false
 |[],_,_,h=>en
 |a::l,x,t,h=>by
  rw[EY]at h;split at h
  ·exact S6 h
  rename_i H;injection h with b _;subst b;simpa using H
def wX(l:Bs):l.drop (Dg l)=[]\/∃t,l.drop (Dg l)=32::t:=by
 have e:l.drop (Dg l)=(l.drop (nb l)).dropWhile (fun c=>c !=32):=by
  unfold Dg;rw[<-ET];exact Yn _ _
 rw[e];cases h:(l.drop (nb l)).dropWhile (fun c=>c !=32)with
 |nil=>exact Or.inl rfl
 |cons x t=>
  right;have:=S6 h;simp at this;exact⟨t,by rw[this]⟩
def wY(f:A4):f.2.drop (Gf f).length=[]\/∃t,f.2.drop (Gf f).length=32::t:=by
 unfold Gf;rw[Gs];cases h:Ao [32] f.2 with
 |none=>left;simp
 |some x=>
  obtain⟨a,b⟩:=x;right;have:=F7 h;rw[this];exact⟨b,ah⟩
def wZ(f:A4):Gf f++f.2.drop (Gf f).length=f.2:=by
 unfold Gf;rw[Gs];cases h:Ao [32] f.2 with
 |none=>simp
 |some x=>
  obtain⟨a,b⟩:=x;have:=F7 h;rw[this];simp
def gF(h:Ck l=true):∃t,D7 l=some t:=by
 have k:∀l:List A4,Ck l=true->∃t,G0 l=some t:=by
  intro l;induction l with
  |nil=>exact fun _=>⟨[],rfl⟩
  |cons f l ih=>
   intro h;have a:Ck [f]=true/\Ck l=true:=by
    unfold Ck at h|-;simp only[FP,BR,List.all_nil]at h|-;exact⟨⟨h.1,trivial⟩,h.2⟩
   obtain⟨t,H⟩:=ih a.2;unfold G0;rw[AN a.1,H];exact⟨_,rfl⟩
 obtain⟨t,H⟩:=k l h;unfold D7;rw[H];exact⟨_,rfl⟩
def Tv(c:UInt8)(v cs:Bs):trimRightS (c::v) cs=if trimRightS v cs=[]then(if cs.contains c then[]else[c])else c::trimRightS v cs:=by
 unfold trimRightS;rw[List.reverse_cons];have k:∀l:Bs,(l++[c]).dropWhile (cs.contains ·)=if l.dropWhile (cs.contains ·)=[]then(if cs.contains c then[]else[c])else l.dropWhile (cs.contains ·)++[c]:=by
  intro l;induction l with
  |nil=>simp[EY]
  |cons x l ih=>
   rw[CR,EY,EY];split
   ·exact ih
   simp
 rw[k];split
 ·rename_i h;rw[h];simp;split<;>simp
 rename_i h;rw[AL ek];simp
def xA(h:cs.contains c=true)(v:Bs):trimS (c::v) cs=trimS v cs:=by
 unfold trimS;rw[Tv];split
 ·rename_i H;rw[H]
 unfold trimLeftS;rw[FC h]
def Me(h:Ge c.toNat=false):c≠59/\c≠61/\c≠47/\c≠34/\c≠32/\c≠9/\c≠92/\C6 c=true/\Gx c=true:=by
 refine⟨?_,?_,?_,?_,?_,?_,?_,?_⟩;iterate 7 (intro e;subst e;revert h;decide)
 have k:((List.range 256).all fun n=>Ge n.toUInt8.toNat||(C6 n.toUInt8&&Gx n.toUInt8))=true:=af
 have:=AW.1 k c.toNat (BT.2 c.toNat_lt);rw[show c.toNat.toUInt8=c by simp,h]at this;simpa using this
def xB(c:UInt8):Ge (Bx c).toNat=Ge c.toNat:=by
 have k:((List.range 256).all fun n=>Ge (Bx n.toUInt8).toNat==Ge n.toUInt8.toNat)=true:=af
 have:=AW.1 k c.toNat (BT.2 c.toNat_lt);rw[show c.toNat.toUInt8=c by simp]at this;simpa using this
def xC(c:UInt8):Bx (Bx c)=Bx c:=by
 have k:((List.range 256).all fun n=>Bx (Bx n.toUInt8)==Bx n.toUInt8)=true:=af
 have:=AW.1 k c.toNat (BT.2 c.toNat_lt);rw[show c.toNat.toUInt8=c by simp]at this;simpa using this
def gG(s:Bs):A2 (A2 s)=A2 s:=by simp[A2,xC,Function.comp_def]
def xD(s:Bs):Ag (A2 s)=Ag s:=by
 unfold Ag A2;rw[List.any_map];congr 2
 ·simp
 congr 1;funext c;exact xB c
def Nr(h:Ag s=true):s≠[]/\∀c∈s,Ge c.toNat=false:=by
 unfold Ag at h;simp at h;exact⟨h.1,h.2⟩
def Zg(b:Bs)(h:c∉a):cut (a++c::b) [c]=(a,b,true):=by
 rw[Gs,P4 h]
def xE(h:c∉a):cut a [c]=(a,[],false):=by
 rw[Gs,Mu.2 h]
def Tw(h:∀c,x.head?=some c->cs.contains c=false):trimLeftS x cs=x:=by
 unfold trimLeftS;cases x with
 |nil=>rfl
 |cons c l=>rw[DW (by rw[h c rfl];decide)]
def Wc(h:∀c,x.getLast?=some c->cs.contains c=false):trimRightS x cs=x:=by
 unfold trimRightS;cases H:x.reverse with
 |nil=>simpa using H.symm
 |cons c l=>
  have:x.getLast?=some c:=by
   rw[<-List.head?_reverse,H];rfl
  rw[DW (by rw[h c this];decide),<-H,List.reverse_reverse]
def xF(h:∀c∈x,cs.contains c=false):trimS x cs=x:=by
 unfold trimS;rw[Wc (fun c H=>h c (FN H)),Tw (fun c H=>h c (List.mem_of_head? H))]
theorem gH:∀(v r:Bs),(∀c∈v,C6 c=true)->Bj (v.flatMap E8++34::r)=some (v,r)
 |[],r,_=>by
  cases r<;>simp[Bj]
 |c::v,r,h=>by
  have a:=h c (CN ..);have ih:=gH v r (fun d b=>h d (CJ _ b));rw[BV,AP];have H:v.flatMap E8++34::r≠[]:=ah
  generalize v.flatMap E8++34::r=Y at ih H|-;unfold E8;split
  ·rename_i e;subst e;show Bj (92::92::Y)=_;unfold Bj;rw[AL ae,AN rfl,AN ae,ih];rfl
  split
  ·rename_i e;subst e;show Bj (92::34::Y)=_;unfold Bj;rw[AL ae,AN rfl,AN ae,ih];rfl
  rename_i f g;cases Y with
  |nil=>exact absurd rfl H
  |cons d l=>
   show Bj (c::d::l)=_;unfold Bj;rw[AL g,AL f,AN a,ih];rfl
def N2(p:A4):Prop:=Ag p.1=true/\A2 p.1=p.1/\∀c∈p.2,C6 c=true
def S7(t:Bs):Prop:=t=[]\/∃r,t=59::r
def S7.trim(h:S7 t):trimLeftS t [32,9]=t:=by
 rcases h with rfl|⟨r,rfl⟩
 ·rfl
 exact Tw (fun c H=>by simp at H;subst H;decide)
theorem Tx{p:UInt8->Bool}:∀{v:Bs}(t:Bs),(∀c∈v,p c=true)->(∀c,t.head?=some c->p c=false)->(v++t).takeWhile p=v/\(v++t).dropWhile p=t
 |[],t,_,h=>by
  cases t with
  |nil=>simp
  |cons c t=>have:=h c rfl;simp[this]
 |c::v,t,H,a=>by
  have ih:=Tx (v:=v) t (fun d b=>H d (CJ _ b)) a;have e:=H c (CN ..);simp[e,ih]
def xG(d:∀c∈v,C6 c=true)(e:S7 t):D6 (Dc v++t)=(v,t,true):=by
 unfold Dc;by_cases H:Ag v=true
 ·obtain⟨f,b⟩:=Nr H;rw[AN H];have a:hasPrefix (v++t) [34]=false:=by
   cases v with
   |nil=>exact absurd rfl f
   |cons c v=>
    have:=(Me (b c (CN ..))).2.2.2.1;simp[hasPrefix,List.isPrefixOf,Ne.symm this]
  obtain⟨E,g⟩:=Tx (p:=fun c=>!F0 c) (v:=v) t (fun c h=>by
   have:=Me (b c h);simp[F0,this.1,this.2.2.2.2.1,this.2.2.2.2.2.1]) (fun c h=>by
   rcases e with rfl|⟨r,rfl⟩
   ·cases h
   simp at h;subst h;decide)
  unfold D6;rw[a,AL ae,E,g,H]
 rw[AL H];unfold D6;have a:hasPrefix (34::(v.flatMap E8++[34])++t) [34]=true:=by simp[hasPrefix,List.isPrefixOf]
 rw[a,AN rfl];have:(34::(v.flatMap E8++[34])++t).drop 1=v.flatMap E8++34::t:=ah
 rw[this,gH v t d]
def xH{p:A4}(h:N2 p)(b:S7 t):Hk (32::(p.1++61::Dc p.2)++t)=some (p,t):=by
 obtain⟨e,f,g⟩:=h;obtain⟨N,n⟩:=Nr e;unfold Hk;have E:trimLeftS (32::(p.1++61::Dc p.2)++t) [32,9]=p.1++61::(Dc p.2++t):=by
  have:(32::(p.1++61::Dc p.2)++t)=32::(p.1++61::(Dc p.2++t)):=ah
  rw[this];show((32:UInt8)::_).dropWhile _=_;rw[FC ae];exact Tw (fun c H=>by
   cases a:p.1 with
   |nil=>exact absurd a N
   |cons d l=>
    rw[a]at H;simp at H;subst H;have:=Me (n d (by rw[a];exact CN ..));simp[this.2.2.2.2.1,this.2.2.2.2.2.1])
 have i:(61:UInt8)∉p.1:=fun h=>(Me (n _ h)).2.1 rfl
 have j:trimRightS p.1 [32,9]=p.1:=Wc (fun c H=>by
  have:=Me (n c (FN H));simp[this.2.2.2.2.1,this.2.2.2.2.2.1])
 have k:trimLeftS (Dc p.2++t) [32,9]=Dc p.2++t:=Tw (fun c H=>by
  unfold Dc at H;split at H
  ·rename_i m;obtain⟨M,o⟩:=Nr m;cases a:p.2 with
   |nil=>exact absurd a M
   |cons d l=>
    rw[a]at H;simp at H;subst H;have:=Me (o d (by rw[a];exact CN ..));simp[this.2.2.2.2.1,this.2.2.2.2.2.1]
  simp at H;subst H;decide)
 simp only[E,Zg _ i,j,k,xG g b,e,f,b.trim];simp
def Zh(h:∀p∈l,N2 p):∃t,Ee l=some t/\S7 t/\(l=[]↔t=[]):=by
 induction l with
 |nil=>exact⟨[],rfl,Or.inl rfl,ah⟩
 |cons p l ih=>
  obtain⟨t,H,_,_⟩:=ih (fun q a=>h q (CJ _ a));obtain⟨b,d,e⟩:=h p (CN ..);have w:Hm p=some (59::32::(p.1++61::Dc p.2)):=by
   unfold Hm;rw[AN];simp only[b,d,KO,JY,FR,GH,List.any_eq_false];intro c f;simp[e c f]
  refine⟨_,by unfold Ee;rw[w,H];rfl,Or.inr ⟨_,rfl⟩,ah⟩
theorem gJ:∀(l:List A4)(t:Bs)(k:Nat),(∀p∈l,N2 p)->Ee l=some (59::t)->t.length<k->Ia k t=some l
 |[],t,_,_,h,_=>by simp[Ee]at h
 |p::l,t,0,_,_,h=>absurd h (GT _)
 |p::l,t,k+1,a,h,c=>by
  have g:=a p (CN ..);obtain⟨T,d,f,i⟩:=Zh (l:=l) (fun q b=>a q (CJ _ b));unfold Ee at h;have w:Hm p=some (59::32::(p.1++61::Dc p.2)):=by
   cases H:Hm p with
   |none=>rw[H]at h;cases h
   |some x=>
    unfold Hm at H;split at H
    ·exact H.symm
    cases H
  rw[w,d]at h;have e:t=32::(p.1++61::Dc p.2)++T:=by
   simpa using h.symm
  unfold Ia;rw[e,xH g f];simp only;rcases f with rfl|⟨r,rfl⟩
  ·rw[i.2 rfl]
  simp only;rw[AN trivial,gJ l r k (fun q b=>a q (CJ _ b)) d (by rw[e]at c;simp at c;omega)];rfl
def Ty(m:Bs):Prop:=Ag (cut m [47]).1=true/\((cut m [47]).2.2=true->Ag (cut m [47]).2.1=true)/\A2 m=m
def Ty.mem(h:Ty m):m≠[]/\∀c∈m,c≠59/\c≠32/\c≠9/\Gx c=true:=by
 obtain⟨d,f,_⟩:=h;have t:∀{s:Bs},Ag s=true->∀c∈s,c≠59/\c≠32/\c≠9/\Gx c=true:=fun i c g=>by
  have:=Me ((Nr i).2 c g);exact⟨this.1,this.2.2.2.2.1,this.2.2.2.2.2.1,this.2.2.2.2.2.2.2.2⟩
 rw[Gs]at d f;cases g:Ao [47] m with
 |none=>
  rw[g]at d;exact⟨(Nr d).1,t d⟩
 |some x=>
  obtain⟨a,b⟩:=x;rw[g]at d f;have e:=(Rj g).1;have f:=f rfl;refine⟨by rw[e];simp,fun c H=>?_⟩;rw[e]at H;rcases BY.1 H with H|H
  ·exact t d c H
  rcases CG.1 H with H|H
  ·subst H;decide
  exact t f c H
def xI(H:Ty m)(a:∀p∈l,N2 p):∃t,Cl m l=some (m++t)/\Ee l=some t/\S7 t/\(l=[]↔t=[]):=by
 obtain⟨t,h,e,n⟩:=Zh a;refine⟨t,?_,h,e,n⟩;obtain⟨b,c,d⟩:=H;unfold Cl;simp only;rw[AN,h]
 ·rfl
 rw[b,d];cases f:(cut m [47]).2.2 with
 |false=>simp
 |true=>rw[c f];simp
def xJ(b:Ty m)(k:∀p∈l,N2 p):∃t,Cl m l=some t/\Ay t=some (m,l)/\Gd t=true:=by
 obtain⟨t,C,v,D,E⟩:=xI b k;obtain⟨F,f⟩:=b.mem;have w:(59:UInt8)∉m:=fun h=>(f _ h).1 rfl
 have z:A2 (trimS m [32,9])=m:=by
  rw[xF (fun c H=>by have:=f c H;simp[this.2.1,this.2.2.1]),b.2.2]
 have j:(Ag (cut m [47]).1&&(!(cut m [47]).2.2||Ag (cut m [47]).2.1))=true:=by
  rw[b.1];cases H:(cut m [47]).2.2 with
  |false=>simp
  |true=>rw[b.2.1 H];simp
 refine⟨_,C,?_,?_⟩
 ·rcases D with rfl|⟨r,rfl⟩
  ·rw[BU,E.2 rfl];unfold Ay;simp only[xE w,z];rw[AN j];rfl
  unfold Ay;simp only[Zg r w,z];rw[AN j,AN trivial,gJ l r _ k v (DZ _)];rfl
 have G:∀(l:List A4)(t:Bs),(∀p∈l,N2 p)->Ee l=some t->(∀c∈t,Gx c=true)/\∀c,t.getLast?=some c->c≠32/\c≠9:=by
  intro l;induction l with
  |nil=>intro t _ h;simp[Ee]at h;subst h;simp
  |cons p l ih=>
   intro t o h;obtain⟨T,A,_,_⟩:=Zh (l:=l) (fun q i=>o q (CJ _ i));obtain⟨I,J⟩:=ih T (fun q i=>o q (CJ _ i)) A;obtain⟨K,U,P⟩:=o p (CN ..);unfold Ee at h;cases a:Hm p with
   |none=>rw[a]at h;cases h
   |some x=>
    have B:x=59::32::(p.1++61::Dc p.2):=by
     unfold Hm at a;split at a
     ·simpa using a.symm
     cases a
    rw[a,A]at h;have e:t=x++T:=by simpa using h.symm
    have O:∀c,C6 c=true->Gx c=true:=by
     intro c H;have L:((List.range 256).all fun n=>!(C6 n.toUInt8)||Gx n.toUInt8)=true:=af
     have:=AW.1 L c.toNat (BT.2 c.toNat_lt);rw[show c.toNat.toUInt8=c by simp,H]at this;simpa using this
    have i:∀c∈Dc p.2,Gx c=true:=by
     intro c H;unfold Dc at H;split at H
     ·exact O c (P c H)
     simp at H;rcases H with rfl|⟨d,j,H⟩|rfl
     ·decide
     ·unfold E8 at H;split at H
      ·simp at H;subst H;decide
      split at H
      ·simp at H;rcases H with rfl|rfl<;>decide
      simp at H;subst H;exact O _ (P _ j)
     decide
    have M:∀c,(Dc p.2).getLast?=some c->c≠32/\c≠9:=by
     intro c H;unfold Dc at H;split at H
     ·rename_i s;have:=Me ((Nr s).2 c (FN H));exact⟨this.2.2.2.2.1,this.2.2.2.2.2.1⟩
     rw[<-CR,IG]at H;simp at H;subst H;decide
    have N:Dc p.2≠[]:=by
     unfold Dc;split
     ·rename_i s;exact(Nr s).1
     simp
    refine⟨fun c H=>?_,fun c H=>?_⟩
    ·rw[e]at H;rcases BY.1 H with H|H
     ·rw[B]at H;simp at H;rcases H with rfl|rfl|H|rfl|H
      ·decide
      ·decide
      ·exact(Me ((Nr K).2 c H)).2.2.2.2.2.2.2.2
      ·decide
      exact i c H
     exact I c H
    cases u:T with
    |nil=>
     rw[e,u,BU,B]at H;have Q:(59::32::(p.1++61::Dc p.2):Bs)=(59::32::(p.1++[61]))++Dc p.2:=ah
     rw[Q,IG]at H;cases g:(Dc p.2).getLast? with
     |none=>exact absurd (List.getLast?_eq_none_iff.1 g) N
     |some d=>rw[g]at H;simp at H;subst H;exact M _ g
    |cons y Y=>
     rw[e,IG]at H;cases g:T.getLast? with
     |none=>rw[List.getLast?_eq_none_iff.1 g]at u;cases u
     |some d=>rw[g]at H;simp at H;subst H;exact J _ g
 obtain⟨R,S⟩:=G l t k v;unfold Gd;rw[BR,BL];refine⟨?_,?_⟩
 ·rw[AW];intro c H;rcases BY.1 H with H|H
  ·exact(f c H).2.2.2
  exact R c H
 unfold trimS;rw[Wc (fun c H=>?_),Tw (fun c H=>?_)]
 ·cases a:m with
  |nil=>exact absurd a F
  |cons d l=>
   rw[a]at H;simp at H;subst H;have:=f d (by rw[a];exact CN ..);simp[this.2.1,this.2.2.1]
 rw[IG]at H;cases g:t.getLast? with
 |none=>
  rw[g]at H;simp at H;have:=f c (FN H);simp[this.2.1,this.2.2.1]
 |some d=>
  rw[g]at H;simp at H;subst H;have:=S _ g;simp[this.1,this.2]
theorem Zi:∀(s v r:Bs),Bj s=some (v,r)->∀c∈v,C6 c=true
 |[],_,_,h=>by simp[Bj]at h
 |[c],v,r,h=>by
  unfold Bj at h;split at h
  ·simp at h;rw[h.1];simp
  cases h
 |c::d::l,v,r,h=>by
  unfold Bj at h;split at h
  ·simp at h;rw[h.1];simp
  split at h
  ·split at h
   ·rename_i f;simp only[BM]at h;obtain⟨⟨a,b⟩,g,e⟩:=h;have:=Zi l a b g;simp at e;rw[<-e.1];intro x H;rcases CG.1 H with rfl|H
    ·exact f
    exact this x H
   cases h
  split at h
  ·rename_i f;simp only[BM]at h;obtain⟨⟨a,b⟩,g,e⟩:=h;have:=Zi (d::l) a b g;simp at e;rw[<-e.1];intro x H;rcases CG.1 H with rfl|H
   ·exact f
   exact this x H
  cases h
def xK(h:(D6 s).2.2=true):∀c∈(D6 s).1,C6 c=true:=by
 unfold D6 at h|-;split
 ·cases H:Bj (s.drop 1)with
  |none=>simp
  |some x=>obtain⟨v,r⟩:=x;exact Zi _ _ _ H
 rename_i n;rw[AL n]at h;exact fun c a=>(Me ((Nr h).2 c a)).2.2.2.2.2.2.2.1
def xL(h:Hk rest=some (f,r)):N2 f:=by
 unfold Hk at h;simp only at h;split at h
 ·rename_i H;rw[BR]at H;split at h
  ·rename_i s;simp at h;rw[<-h.1];exact⟨by rw[xD];exact H.2,gG _,xK s⟩
  cases h
 cases h
theorem gK:∀(k:Nat)(rest:Bs)(l:List A4),Ia k rest=some l->∀f∈l,N2 f
 |0,_,_,h=>by simp[Ia]at h
 |k+1,rest,l,h=>by
  unfold Ia at h;cases p:Hk rest with
  |none=>rw[p]at h;cases h
  |some x=>
   obtain⟨f,r⟩:=x;have a:=xL p;rw[p]at h;simp only at h;cases r with
   |nil=>simp at h;subst h;intro g H;simp at H;subst H;exact a
   |cons c R=>
    simp only at h;split at h
    ·simp only[BM]at h;obtain⟨L,b,rfl⟩:=h;have ih:=gK k R L b;intro g H;rcases CG.1 H with rfl|H
     ·exact a
     exact ih g H
    cases h
def xM(h:Ay s=some (m,l)):Ty m/\∀p∈l,N2 p:=by
 unfold Ay at h;simp only at h;split at h
 ·rename_i c;rw[BR]at c;simp only[BM]at h;obtain⟨L,H,a⟩:=h;simp at a;obtain⟨rfl,rfl⟩:=a;refine⟨⟨c.1,fun d=>?_,gG _⟩,?_⟩
  ·have:=c.2;rw[d]at this;simpa using this
  split at H
  ·exact gK _ _ _ H
  simp at H;subst H;simp
 cases h
def Wd(l:Bs)(c:UInt8):(c∉l/\cut l [c]=(l,[],false))\/∃a b,l=a++c::b/\c∉a/\cut l [c]=(a,b,true):=by
 cases h:Ao [c] l with
 |none=>exact Or.inl ⟨Mu.1 h,by rw[Gs,h]⟩
 |some x=>
  obtain⟨a,b⟩:=x;obtain⟨e,H⟩:=Rj h;exact Or.inr ⟨a,b,e,H,by rw[Gs,h]⟩
def Ae(c:UInt8):Bool:=!Ge c.toNat
def Qo(s:Bs):Ag s=(!s.isEmpty&&s.all Ae):=by
 unfold Ag;congr 1;rw[DY];simp[Ae]
abbrev Ah(s:Bs):Bs:=trimLeftS s [32,9]
def Jt(s:Bs):Option (Bs×Bs):=match s with
 |34::r=>Bj r
 |s=>if s.takeWhile Ae=[]then none else some (s.takeWhile Ae,s.dropWhile Ae)
def We(rest:Bs):Option (A4×Bs):=
 if(Ah rest).takeWhile Ae=[]then none else
 match Ah ((Ah rest).dropWhile Ae)with
 |61::r=>match Jt (Ah r)with
  |none=>none
  |some (v,R)=>if Ah R=[]\/(Ah R).head?=some 59 then some ((A2 ((Ah rest).takeWhile Ae),v),Ah R)else none
 |_=>none
def Zj(h:Ae c=true):c≠59/\c≠61/\c≠34/\c≠32/\c≠9:=by
 unfold Ae at h;have:=Me (c:=c) ek;exact⟨this.1,this.2.1,this.2.2.2.1,this.2.2.2.2.1,this.2.2.2.2.2.1⟩
def Zk(h:([32,9]:Bs).contains c=true):Ae c=false/\c≠61/\F0 c=true:=by
 simp at h;rcases h with rfl|rfl<;>decide
def Wf(s:Bs):∃b,s=b++Ah s/\(∀c∈b,([32,9]:Bs).contains c=true)/\∀c,(Ah s).head?=some c->([32,9]:Bs).contains c=false:=by
 refine⟨s.takeWhile (([32,9]:Bs).contains ·),(DF).symm,fun c h=>(AW.1 IU) c h,fun c h=>?_⟩;unfold Ah trimLeftS at h;cases H:s.dropWhile (([32,9]:Bs).contains ·)with
 |nil=>rw[H]at h;cases h
 |cons x t=>
  rw[H]at h;simp at h;subst h;exact S6 H
def gL(s:Bs):∀c,(s.dropWhile Ae).head?=some c->Ae c=false:=by
 intro c h;cases H:s.dropWhile Ae with
 |nil=>rw[H]at h;cases h
 |cons x t=>
  rw[H]at h;simp at h;subst h;exact S6 H
def gM(s:Bs):∀c∈s.takeWhile Ae,Ae c=true:=fun c h=>(AW.1 IU) c h
def xN(s:Bs)(u:∀c,s.head?=some c->([32,9]:Bs).contains c=false):(match Jt s with
  |none=>none
  |some (v,r)=>if Ah r=[]\/(Ah r).head?=some 59 then some (v,Ah r)else none)
  =if(D6 s).2.2=true then(if Ah (D6 s).2.1=[]\/(Ah (D6 s).2.1).head?=some 59 then some ((D6 s).1,Ah (D6 s).2.1)else none)else none:=by
 by_cases f:∃r,s=34::r
 ·obtain⟨r,rfl⟩:=f;have g:hasPrefix (34::r) [34]=true:=by simp[hasPrefix,List.isPrefixOf]
  unfold Jt D6;rw[g,AN rfl];simp only[JV,DR];cases Bj r with
  |none=>rfl
  |some x=>rfl
 have g:hasPrefix s [34]=false:=by
  cases s with
  |nil=>rfl
  |cons c l=>
   have:c≠34:=fun e=>f ⟨l,by rw[e]⟩
   simp[hasPrefix,List.isPrefixOf,Ne.symm this]
 have o:Jt s=if s.takeWhile Ae=[]then none else some (s.takeWhile Ae,s.dropWhile Ae):=by
  unfold Jt;split
  ·rename_i r;exact absurd ⟨r,rfl⟩ f
  rfl
 have q:D6 s=(s.takeWhile (fun c=>!F0 c),s.dropWhile (fun c=>!F0 c),Ag (s.takeWhile fun c=>!F0 c)):=by
  unfold D6;rw[g,AL ae]
 rw[o,q];simp only;by_cases H:Ag (s.takeWhile fun c=>!F0 c)=true
 ·
  rw[AN H];rw[Qo]at H;simp only[BR,GH,GM]at H;have a:=DF (p:=fun c=>!F0 c) (l:=s);generalize s.takeWhile (fun c=>!F0 c)=v at H a|-;have i:∀c,(s.dropWhile fun c=>!F0 c).head?=some c->Ae c=false:=by
   intro c h;cases j:s.dropWhile (fun c=>!F0 c)with
   |nil=>rw[j]at h;cases h
   |cons x t=>
    rw[j]at h;simp at h;subst h;have:=S6 j;simp only[Bool.not_eq_false']at this;unfold F0 at this;simp at this;rcases this with rfl|rfl|rfl<;>decide
  generalize s.dropWhile (fun c=>!F0 c)=r at a i|-;obtain⟨E,k⟩:=Tx (p:=Ae) r (fun c h=>AW.1 H.2 c h) i;rw[<-a,E,k,AL H.1]
 rw[AL H];by_cases h0:s.takeWhile Ae=[]
 ·rw[AN h0]
 rw[AL h0];simp only;by_cases d:Ah (s.dropWhile Ae)=[]\/(Ah (s.dropWhile Ae)).head?=some 59
 ·exfalso;apply H;have a:=DF (p:=Ae) (l:=s);have m:=gM s;have i:=gL s;have n:∀c,(s.dropWhile Ae).head?=some c->(!F0 c)=false:=by
   intro c h;obtain⟨b,E,k,w⟩:=Wf (s.dropWhile Ae);cases b with
   |cons x b=>
    rw[E]at h;simp at h;subst h;have:=(Zk (k x ah)).2.2;rw[this];rfl
   |nil=>
    rw[CT]at E;rcases d with d|d
    ·rw[E,d]at h;cases h
    rw[<-E]at d;rw[d]at h;simp at h;subst h;decide
  generalize s.takeWhile Ae=t at h0 a m;generalize s.dropWhile Ae=r at a n;obtain⟨E,_⟩:=Tx (p:=fun c=>!F0 c) (v:=t) r (fun c h=>by
   have:=Zj (m c h);simp[F0,this.1,this.2.2.2.1,this.2.2.2.2]) n
  rw[<-a,E,Qo];simp only[BR,GH,GM];exact⟨h0,AW.2 m⟩
 rw[AL d]
theorem xO(rest:Bs):We rest=match Hk rest with
  |none=>none
  |some (f,r)=>if r=[]\/r.head?=some 59 then some (f,r)else none:=by
 have V:Hk rest=(if((cut (Ah rest) [61]).2.2&&Ag (trimRightS (cut (Ah rest) [61]).1 [32,9]))=true then(if(D6 (Ah (cut (Ah rest) [61]).2.1)).2.2=true then some ((A2 (trimRightS (cut (Ah rest) [61]).1 [32,9]),(D6 (Ah (cut (Ah rest) [61]).2.1)).1),Ah (D6 (Ah (cut (Ah rest) [61]).2.1)).2.1)else none)else none):=rfl;have W:∀c,(Ah rest).head?=some c->([32,9]:Bs).contains c=false:=by
  obtain⟨b,_,_,D⟩:=Wf rest;exact D
 rw[V];unfold We;generalize Ah rest=s at W|-;have k:=DF (p:=Ae) (l:=s);have o:=gM s;have F:=gL s;obtain⟨b,A,G,I⟩:=Wf (s.dropWhile Ae);generalize s.takeWhile Ae=t at k o|-;generalize s.dropWhile Ae=u at k F A I|-;generalize Ah u=w at A I|-;have O:s=t++(b++w):=by rw[<-k,A]
 by_cases B:t=[]
 ·rw[AN B];subst B;have J:¬((cut s [61]).2.2&&Ag (trimRightS (cut s [61]).1 [32,9]))=true:=by
   intro h;rw[BR]at h;obtain⟨m,H⟩:=h;rw[Qo]at H;simp only[BR,GH,GM]at H;cases i:s with
   |nil=>rw[i]at H;exact H.1 rfl
   |cons c l=>
    have X:Ae c=false:=by
     have e:u=s:=by rw[CT]at k;exact k
     exact F c (by rw[e,i];rfl)
    have Y:∀x:Bs,x≠[]->(∃y,c::l=x++y)->(trimRightS x [32,9]≠[])->c∈trimRightS x [32,9]:=by
     intro x K⟨y,n⟩j;cases x with
     |nil=>exact absurd rfl K
     |cons d x=>
      injection n with n _;subst n;rw[Tv]at j|-;split
      ·rename_i h0;rw[AN h0]at j;split
       ·rename_i L;rw[AN L]at j;exact absurd rfl j
       simp
      simp
    have a0:∃y,c::l=(cut s [61]).1++y:=by
     rw[<-i];rcases Wd s 61 with⟨_,e⟩|⟨a,y,E,_,e⟩
     ·rw[e];exact⟨[],ah⟩
     rw[e];exact⟨61::y,E⟩
    have j:(cut s [61]).1≠[]:=by
     intro h0;rw[h0]at H;exact H.1 rfl
    have:=Y _ j a0 H.1;have:=AW.1 H.2 c this;rw[X]at this;cases this
  rw[AL J]
 rw[AL B];have P:(61:UInt8)∉t++b:=by
  intro h;rcases BY.1 h with h|h
  ·exact(Zj (o _ h)).2.1 rfl
  exact(Zk (G _ h)).2.1 rfl
 have a1:trimRightS (t++b) [32,9]=t:=by
  have m:∀(x:Bs)(y:Bs),(∀c∈y,([32,9]:Bs).contains c=true)->trimRightS (x++y) [32,9]=trimRightS x [32,9]:=by
   intro x y n;unfold trimRightS;rw[JS,List.dropWhile_append_of_pos (fun c i=>n c (KP.1 i))]
  rw[m _ _ G];exact Wc (fun c i=>by
   have:=Zj (o c (FN i));simp[this.2.2.2.1,this.2.2.2.2])
 have a2:Ag t=true:=by
  rw[Qo];simp only[BR,GH,GM];exact⟨B,AW.2 o⟩
 by_cases C:∃r,w=61::r
 ·obtain⟨r,rfl⟩:=C;have hcut:cut s [61]=(t++b,r,true):=by rw[O,<-AP];exact Zg r P
  rw[hcut];simp only;rw[a1,a2];simp only[Bool.and_self,DK];have hv:=xN (Ah r) (by
   obtain⟨_,_,_,D⟩:=Wf r;exact D)
  have hL:(match Jt (Ah r)with
    |none=>none
    |some (v,R)=>if Ah R=[]\/(Ah R).head?=some 59 then some ((A2 t,v),Ah R)else none)=Option.map (fun x:Bs×Bs=>((A2 t,x.1),x.2)) (match Jt (Ah r)with
    |none=>none
    |some (v,R)=>if Ah R=[]\/(Ah R).head?=some 59 then some (v,Ah R)else none):=by
   cases Jt (Ah r)with
   |none=>rfl
   |some x=>
    obtain⟨v,R⟩:=x;simp only;split<;>rfl
  rw[hL,hv];by_cases H:(D6 (Ah r)).2.2=true
  ·rw[AN H,AN H];simp only;split<;>rfl
  rw[AL H,AL H];rfl
 have hl:(match w with|61::r=>(match Jt (Ah r)with
   |none=>none
   |some (v,R)=>if Ah R=[]\/(Ah R).head?=some 59 then some ((A2 t,v),Ah R)else none)|_=>(none:Option (A4×Bs)))=none:=by
  split
  ·rename_i r;exact absurd ⟨r,rfl⟩ C
  rfl
 rw[hl];have J:¬((cut s [61]).2.2&&Ag (trimRightS (cut s [61]).1 [32,9]))=true:=by
  intro h;rw[BR]at h;obtain⟨m,H⟩:=h;rcases Wd s 61 with⟨_,e⟩|⟨a,y,E,e2,e⟩
  ·rw[e]at m;cases m
  rw[e]at H;simp only at H;rw[O]at E;have K:∃c z,w=c::z/\∃Z,a=t++b++c::Z:=by
   rcases List.append_eq_append_iff.1 (show(t++b)++w=a++61::y by rw[<-E,AP])with⟨d,M,g⟩|⟨d,M,g⟩
   ·cases d with
    |nil=>rw[CT]at g;exact absurd ⟨y,g⟩ C
    |cons c d=>exact⟨c,d++61::y,by rw[g];rfl,d,M⟩
   cases d with
   |nil=>rw[CT]at g;exact absurd ⟨y,g.symm⟩ C
   |cons c d=>
    rw[CR]at g;injection g with g _;subst g;exact absurd (by rw[M];simp) P
  obtain⟨c,z,Q,Z,ha⟩:=K;have a3:=I c (by rw[Q];rfl);rw[Qo]at H;simp only[BR]at H;have S:∀d∈t++b++[c],d∈trimRightS a [32,9]:=by
   intro d a4;rw[ha];have a5:∀(x z:Bs)(c:UInt8),([32,9]:Bs).contains c=false->∃q,trimRightS (x++c::z) [32,9]=x++c::q:=by
    intro x z c i;induction x with
    |nil=>
     rw[CT,Tv];split
     ·rw[AL (by rw[i];decide)];exact⟨[],rfl⟩
     exact⟨_,rfl⟩
    |cons e x ih=>
     obtain⟨q,N⟩:=ih;rw[CR,Tv,N,AL ah];exact⟨q,rfl⟩
   obtain⟨q,N⟩:=a5 (t++b) Z c a3;rw[N];rcases BY.1 a4 with h|h
   ·exact List.mem_append_left _ h
   rw[CS.1 h];simp
  have T:=AW.1 H.2;have a6:Ae c=true:=T c (S c ah);cases b with
  |nil=>
   have:=F c (by rw[A,Q];rfl);rw[a6]at this;cases this
  |cons e b=>
   have L:=T e (S e ah);have U:=(Zk (G e ah)).1;rw[L]at U;cases U
 rw[AL J]
theorem gN{s b:Bs}:∀(k m i:Nat)(o:Option Nat)(O:List Bs),s.length+1-i<k->s.length+1-i<m->Fi s b k i o O=Fi s b m i o O
 |0,_,_,_,_,h,_=>absurd h (GT _)
 |_+1,0,_,_,_,_,h=>absurd h (GT _)
 |k+1,m+1,i,o,O,a,c=>by
  unfold Fi;by_cases H:s.length<i
  ·rw[AN H,AN H]
  rw[AL H,AL H];have ih:=fun j o O(h:i+2<=j)=>gN (s:=s) (b:=b) k m j o O aa aa
  simp only;cases J9 (cut (s.drop i) [13,10]).1 b with
  |none=>exact ih _ _ _ aa
  |some t=>
   simp only;rw[ih _ (some (min (i+(cut (s.drop i) [13,10]).1.length+2) s.length)) (Lc s i o O) aa,ih _ o O aa]
def Pl(s b:Bs)(i:Nat)(op:Option Nat)(out:List Bs):Option (List Bs):=Fi s b (s.length+2) i op out
theorem Zl(p:Bs)(H:p≠[]):∀(f g:Nat)(s:Bs),s.length<f->s.length<g->countFrom p f s=countFrom p g s
 |0,_,s,h,_=>absurd h (GT _)
 |_+1,0,s,_,h=>absurd h (GT _)
 |f+1,g+1,s,a,b=>by
  unfold countFrom;by_cases h:(index s p==-1)=true
  ·rw[AN h,AN h]
  rw[AL h,AL h];have l:=BK.2 H;have h0:0<=index s p:=by
   rw[Jl];cases c:Ao p s with
   |none=>rw[Jl,c]at h;exact absurd rfl h
   |some x=>simp
  have:=index_room s p h0;rw[Zl p H f g _ iu iu]
end Go.Proofs.YtignjjnflcpiiaaGreatDoor
