/- What base64 packs comes back whole: unpackT (packT b) = s -/
import Derived.Test.YtignjjnflcpiiaaGreatDoorV00
set_option linter.all false
namespace Go.Proofs.YtignjjnflcpiiaaGreatDoor
open Go Go.RowKit Proofs.Tryz Lib
def vQ:((List.range 64).all fun n=>Bb (Bv n)==(n:Int)&&!(Am (Bv n))&&Bv n !=61)=true:=af
variable {k v n p a K b v' n' p':Nat}{c:UInt8}{l x y:List Nat}
def vR(h:k<64):Bb (Bv k)=(k:Int)/\Am (Bv k)=false/\Bv k≠61:=by
 have:=AW.1 vQ k (BT.2 h);simp at this;exact⟨this.1.1,this.1.2,this.2⟩
def vS(h:Am c=true)(l:Bs)(v n p:Nat):Ce (c::l) v n p=Ce l v n p:=by
 have e:J6 c v n p=some ([],v,n,p):=by unfold J6;rw[AN h]
 conv=>lhs;unfold Ce
 rw[e];simp
def Z2(h:0<n%4):F8 v n p=some ([],v,n,p):=by unfold F8;rw[AN h]
def vT(l:Bs)(v n p:Nat)(h:2<=n%4):Ce (61::l) v n p=match F8 (v*64) (n+1) (p+1)with
  |none=>none
  |some (o,V,N,P)=>(Ce l V N P).map (o++·):=by
 have e:J6 61 v n p=F8 (v*64) (n+1) (p+1):=by
  unfold J6;rw[AL ae];have:Gb 61 n p=some (0,p+1):=by unfold Gb;rw[AN ⟨rfl,h⟩]
  rw[this];rfl
 conv=>lhs;unfold Ce
 rw[e];all_goals(generalize F8 (v*64) (n+1) (p+1)=r;rcases r with _|⟨o,V,N,P⟩<;>rfl)
theorem vU(v:Nat):Cy v 3=[Bv (v/262144%64),Bv (v/4096%64),Bv (v/64%64),Bv (v%64)]:=rfl
def An(c:UInt8):List Nat:=[c.toNat/128%2,c.toNat/64%2,c.toNat/32%2,c.toNat/16%2,c.toNat/8%2,c.toNat/4%2,c.toNat/2%2,c.toNat%2]
def Fq(b:Bs):List Nat:=b.flatMap An
def Cf(l:List Nat):Nat:=l.foldl (fun n b=>n*2+b) 0
def Fr(l:List Nat):List Nat:=(l++[0,0,0,0,0,0]).take 6
def Of:Nat->List Nat->Bs
 |0,_=>[]
 |k+1,l=>if l=[]then[]else Bv (Cf (Fr l))::Of k (l.drop 6)
def H0(l:List Nat):Bs:=Of l.length l
def H6(l:Bs):Bs:=l++List.replicate ((4-l.length%4)%4) 61
def Qh:Nat->Bs->Bs
 |0,_=>[]
 |k+1,l=>if l=[]then[]else l.take 76++(13::10::Qh k (l.drop 76))
def N0(l:Bs):Bs:=Qh l.length l
def Pe(b:Bs):Bs:=N0 (H6 (H0 (Fq b)))
theorem fG:∀(k m:Nat)(l:List Nat),l.length<=k->l.length<=m->Of k l=Of m l
 |_,_,[],_,_=>by
  rename_i k m _ _;cases k<;>cases m<;>simp[Of]
 |0,_,_::_,h,_=>en
 |_,0,_::_,_,h=>en
 |k+1,m+1,c::l,H,a=>by
  unfold Of;rw[AL ah,AL ah,fG k m _ (by rw[BD];simp at H|-;omega) (by rw[BD];simp at a|-;omega)]
def Nm(h:l≠[]):H0 l=Bv (Cf (Fr l))::H0 (l.drop 6):=by
 unfold H0;obtain⟨n,H⟩:∃n,l.length=n+1:=⟨l.length-1,by have:=BK.2 h;omega⟩;rw[H];conv=>lhs;unfold Of
 rw[AL h,fG n _ _ iu (AF _)]
theorem vV:H0 []=[]:=rfl
theorem fH:∀(k m:Nat)(l:Bs),l.length<=k->l.length<=m->Qh k l=Qh m l
 |_,_,[],_,_=>by
  rename_i k m _ _;cases k<;>cases m<;>simp[Qh]
 |0,_,_::_,h,_=>en
 |_,0,_::_,_,h=>en
 |k+1,m+1,c::l,H,a=>by
  unfold Qh;rw[AL ah,AL ah,fH k m _ (by rw[BD];simp at H|-;omega) (by rw[BD];simp at a|-;omega)]
def Z3{l:Bs}(h:l≠[]):N0 l=l.take 76++(13::10::N0 (l.drop 76)):=by
 unfold N0;obtain⟨n,H⟩:∃n,l.length=n+1:=⟨l.length-1,by have:=BK.2 h;omega⟩;rw[H];conv=>lhs;unfold Qh
 rw[AL h,fH n _ _ iu (AF _)]
theorem vW:N0 []=[]:=rfl
theorem Z4:∀(y:List Nat)(n:Nat),y.foldl (fun n b=>n*2+b) n=n*2^y.length+Cf y
 |[],n=>by simp[Cf]
 |b::y,n=>by
  have h:=Z4 y (n*2+b);have H:=Z4 y (0*2+b);rw[JE,h];show _=n*2^(y.length+1)+y.foldl (fun n b=>n*2+b) (0*2+b);rw[H,Nat.zero_mul,EQ,Nat.add_mul,JB,Nat.mul_assoc,Nat.mul_comm 2,Nat.add_assoc]
def N1(x y:List Nat):Cf (x++y)=Cf x*2^y.length+Cf y:=by
 unfold Cf;rw[List.foldl_append,Z4];rfl
def Rw(c:UInt8):Cf ((An c).take 6)=c.toNat/4/\Cf ((An c).drop 6)=c.toNat%4/\Cf ((An c).take 4)=c.toNat/16/\Cf ((An c).drop 4)=c.toNat%16/\Cf ((An c).take 2)=c.toNat/64/\Cf ((An c).drop 2)=c.toNat%64:=by
 have h:=c.toNat_lt;simp only[An,Cf,FT,IR,JV,DR,JE,List.foldl_nil];omega
def Ic:Bs->Bs
 |[]=>[]
 |[a]=>Cy (a.toNat*65536) 1
 |[a,b]=>Cy (a.toNat*65536+b.toNat*256) 2
 |a::b::c::l=>Cy (a.toNat*65536+b.toNat*256+c.toNat) 3++Ic l
def Qi(h:x.length=6):Fr (x++y)=x:=by
 unfold Fr;rw[AP,GU h]
theorem vX(a b c:UInt8)(l:List Nat):H0 (An a++(An b++(An c++l)))=Cy (a.toNat*65536+b.toNat*256+c.toNat) 3++H0 l:=by
 have H:=Rw a;have d:=Rw b;have f:=Rw c;have p:=a.toNat_lt;have q:=b.toNat_lt;have r:=c.toNat_lt;have e:An a++(An b++(An c++l))=(An a).take 6++(((An a).drop 6++(An b).take 4)++(((An b).drop 4++(An c).take 2)++((An c).drop 2++l))):=by
  simp only[AP];rw[<-AP ((An c).take 2),CE,<-AP ((An b).take 4),CE,<-AP ((An a).take 6),CE]
 have L:((An a).take 6).length=6:=rfl;have g:((An a).drop 6++(An b).take 4).length=6:=rfl;have i:((An b).drop 4++(An c).take 2).length=6:=rfl;have j:((An c).drop 2).length=6:=rfl;rw[e,Nm de,Qi L,DS L];rw[Nm de,Qi g,DS g];rw[Nm de,Qi i,DS i];rw[Nm de,Qi j,DS j];rw[N1,N1,H.1,H.2.1,d.2.2.1,d.2.2.2.1,f.2.2.2.2.1,f.2.2.2.2.2];have m:((An b).take 4).length=4:=rfl;have M:((An c).take 2).length=2:=rfl;rw[m,M,vU];have F:(a.toNat*65536+b.toNat*256+c.toNat)/262144%64=a.toNat/4:=aa
 have k:(a.toNat*65536+b.toNat*256+c.toNat)/4096%64=a.toNat%4*2^4+b.toNat/16:=aa
 have n:(a.toNat*65536+b.toNat*256+c.toNat)/64%64=b.toNat%16*2^2+c.toNat/64:=aa
 have o:(a.toNat*65536+b.toNat*256+c.toNat)%64=c.toNat%64:=aa
 rw[F,k,n,o];rfl
theorem vY(a b:UInt8):H0 (An a++An b)=[Bv (a.toNat/4),Bv (a.toNat%4*16+b.toNat/16),Bv (b.toNat%16*4)]:=by
 have H:=Rw a;have c:=Rw b;have e:An a++An b=(An a).take 6++(((An a).drop 6++(An b).take 4)++(An b).drop 4):=by
  rw[AP,CE,<-AP,CE]
 have l:((An a).take 6).length=6:=rfl;have L:((An a).drop 6++(An b).take 4).length=6:=rfl;rw[e,Nm de,Qi l,DS l];rw[Nm de,Qi L,DS L];rw[Nm de];have d:((An b).drop 4).drop 6=[]:=rfl;have s:Fr ((An b).drop 4)=(An b).drop 4++[0,0]:=rfl;rw[d,s,N1,N1,H.1,H.2.1,c.2.2.1,c.2.2.2.1];rfl
theorem vZ(a:UInt8):H0 (An a)=[Bv (a.toNat/4),Bv (a.toNat%4*16)]:=by
 have H:=Rw a;have e:An a=(An a).take 6++(An a).drop 6:=(CE 6 (An a)).symm;have l:((An a).take 6).length=6:=rfl;rw[e,Nm de,Qi l,DS l];rw[Nm de];have d:((An a).drop 6).drop 6=[]:=rfl;have s:Fr ((An a).drop 6)=(An a).drop 6++[0,0,0,0]:=rfl;rw[d,s,N1,H.1,H.2.1];rfl
def wA(q l:Bs)(h:q.length=4):H6 (q++l)=q++H6 l:=by
 unfold H6;rw[AJ,h,Nat.add_mod_left,AP]
theorem fI:∀b:Bs,H6 (H0 (Fq b))=Ic b
 |[]=>rfl
 |[a]=>by
  have e:Fq [a]=An a:=by simp[Fq]
  have L:=a.toNat_lt;rw[e,vZ];show[Bv (a.toNat/4),Bv (a.toNat%4*16)]++[61,61]=[Bv (a.toNat*65536/262144%64),Bv (a.toNat*65536/4096%64),61,61];rw[show a.toNat*65536/262144%64=a.toNat/4 by omega,show a.toNat*65536/4096%64=a.toNat%4*16 by omega];rfl
 |[a,b]=>by
  have e:Fq [a,b]=An a++An b:=by simp[Fq]
  have L:=a.toNat_lt;have d:=b.toNat_lt;rw[e,vY];show[Bv (a.toNat/4),Bv (a.toNat%4*16+b.toNat/16),Bv (b.toNat%16*4)]++[61]=[Bv ((a.toNat*65536+b.toNat*256)/262144%64),Bv ((a.toNat*65536+b.toNat*256)/4096%64),Bv ((a.toNat*65536+b.toNat*256)/64%64),61];rw[show(a.toNat*65536+b.toNat*256)/262144%64=a.toNat/4 by omega,show(a.toNat*65536+b.toNat*256)/4096%64=a.toNat%4*16+b.toNat/16 by omega,show(a.toNat*65536+b.toNat*256)/64%64=b.toNat%16*4 by omega];rfl
 |a::b::c::l=>by
  have e:Fq (a::b::c::l)=An a++(An b++(An c++Fq l)):=by simp[Fq]
  rw[e,vX,wA _ _ (Gt _ _),fI l];rfl
theorem Z5:∀(b:Bs)(n:Nat),n<76->n%4=0->Dm b n=if b=[]then[]else(Ic b).take (76-n)++(13::10::N0 ((Ic b).drop (76-n)))
 |[],_,_,_=>by simp[Dm]
 |[a],n,g,i=>by
  rw[AL ah];have H:(Ic [a]).length<=76-n:=by show(Cy _ 1).length<=_;rw[Gt];omega
  rw[CM H,BP H];rfl
 |[a,b],n,g,i=>by
  rw[AL ah];have H:(Ic [a,b]).length<=76-n:=by show(Cy _ 2).length<=_;rw[Gt];omega
  rw[CM H,BP H];rfl
 |a::b::c::l,n,g,i=>by
  rw[AL ah];have e:Ic (a::b::c::l)=Cy (a.toNat*65536+b.toNat*256+c.toNat) 3++Ic l:=rfl;rw[e];have H:=Gt (a.toNat*65536+b.toNat*256+c.toNat) 3;unfold Dm;generalize Cy (a.toNat*65536+b.toNat*256+c.toNat) 3=q at H|-;have h0:Dm l 0=N0 (Ic l):=by
   rw[Z5 l 0 ae rfl];by_cases f:l=[]
   ·subst f;rfl
   rw[AL f];have:Ic l≠[]:=by
    match l,f with
    |[a],_=>simp[Ic,Cy]
    |[a,b],_=>simp[Ic,Cy]
    |a::b::c::l,_=>simp[Ic,Cy]
   rw[Z3 this]
  by_cases d:n+4=76\/l=[]
  ·rw[AN d,h0];rcases d with d|d
   ·rw[show 76-n=4 by omega,GU H,DS H];rfl
   subst d;have E:Ic []=[]:=rfl;rw[E,BU,CM aa,BP aa];rfl
  rw[AL d];have f:l≠[]:=fun h=>d (Or.inr h)
  have j:n+4≠76:=fun h=>d (Or.inl h)
  rw[Z5 l (n+4) aa aa,AL f,show 76-n=q.length+(76-(n+4)) by omega,List.take_length_add_append,List.drop_length_add_append,AP]
def wB(b:Bs):Pe b=Dn b:=by
 unfold Pe Dn;rw[fI,Z5 b 0 ae rfl];by_cases h:b=[]
 ·subst h;rfl
 rw[AL h];have:Ic b≠[]:=by
  match b,h with
  |[a],_=>simp[Ic,Cy]
  |[a,b],_=>simp[Ic,Cy]
  |a::b::c::l,_=>simp[Ic,Cy]
 rw[Z3 this]
def Aq(n:Nat):List Nat:=[n/32%2,n/16%2,n/8%2,n/4%2,n/2%2,n%2]
def D2:Bs->Option (List Nat)
 |[]=>some []
 |c::l=>if Bb c<0 then none else(D2 l).map (Aq (Bb c).toNat++·)
def Nn:Nat->List Nat->Bs×List Nat
 |0,l=>([],l)
 |k+1,l=>if l.length<8 then([],l)else((Cf (l.take 8)).toUInt8::(Nn k (l.drop 8)).1,(Nn k (l.drop 8)).2)
def Es(l:List Nat):Bs×List Nat:=Nn l.length l
def Dh(l:Bs):Nat:=match l.reverse with|61::61::_=>2|61::_=>1|_=>0
def Pf(l:Bs):Option Bs:=if l.length%4≠0 then none else match D2 (l.take (l.length-Dh l))with
 |none=>none
 |some bits=>if(Es bits).2.all (·==0)then some (Es bits).1 else none
def Pg(s:Bs):Option Bs:=Pf (s.filter fun c=>!Am c)
theorem fJ:∀(k m:Nat)(l:List Nat),l.length<=k->l.length<=m->Nn k l=Nn m l
 |0,0,_,_,_=>rfl
 |0,m+1,l,h,_=>by
  have:l=[]:=EI.1 aa;subst this;simp[Nn]
 |k+1,0,l,_,h=>by
  have:l=[]:=EI.1 aa;subst this;simp[Nn]
 |k+1,m+1,l,H,a=>by
  unfold Nn;split
  ·rfl
  rw[fJ k m _ iu iu]
def Qj(h:x.length=8):Es (x++l)=((Cf x).toUInt8::(Es l).1,(Es l).2):=by
 unfold Es;obtain⟨n,H⟩:∃n,(x++l).length=n+1:=⟨(x++l).length-1,by rw[AJ];omega⟩;rw[H];conv=>lhs;unfold Nn
 rw[AL (by rw[AJ];omega),GU h,DS h,fJ n l.length l (by rw[AJ]at H;omega) (AF _)]
def Z6(h:l.length<8):Es l=([],l):=by
 unfold Es;cases H:l.length with
 |zero=>rfl
 |succ n=>unfold Nn;rw[AN h]
def Ma(h:k<64):Cf (Aq k)=k/\Cf ((Aq k).take 2)=k/16/\Cf ((Aq k).drop 2)=k%16/\Cf ((Aq k).take 4)=k/4/\Cf ((Aq k).drop 4)=k%4:=by
 simp only[Aq,Cf,FT,IR,JV,DR,JE,List.foldl_nil];omega
theorem fK:((Aq k).drop 2).all (·==0)=decide (k%16=0)/\((Aq k).drop 4).all (·==0)=decide (k%4=0):=by
 constructor
 ·have e:(Aq k).drop 2=[k/8%2,k/4%2,k/2%2,k%2]:=rfl;rw[e,DY];simp only[FP,List.all_nil,JY,BR,BL,EL];omega
 have e:(Aq k).drop 4=[k/2%2,k%2]:=rfl;rw[e,DY];simp only[FP,List.all_nil,JY,BR,BL,EL];omega
def fL(c:a<64)(h:k<64)(H:K<64)(d:b<64)(l:List Nat):Es (Aq a++(Aq k++(Aq K++(Aq b++l))))=((a*4+k/16).toUInt8::(k%16*16+K/4).toUInt8::(K%4*64+b).toUInt8::(Es l).1,(Es l).2):=by
 have e:Aq a++(Aq k++(Aq K++(Aq b++l)))=(Aq a++(Aq k).take 2)++(((Aq k).drop 2++(Aq K).take 4)++(((Aq K).drop 4++Aq b)++l)):=by
  simp only[AP];rw[<-AP ((Aq K).take 4),CE,<-AP ((Aq k).take 2),CE]
 rw[e,Qj rfl,Qj rfl,Qj rfl,N1,N1,N1,(Ma c).1,(Ma h).2.1,(Ma h).2.2.1,(Ma H).2.2.2.1,(Ma H).2.2.2.2,(Ma d).1];rfl
def wC(H:a<64)(h:k<64)(b:K<64):Es (Aq a++(Aq k++Aq K))=([(a*4+k/16).toUInt8,(k%16*16+K/4).toUInt8],(Aq K).drop 4):=by
 have e:Aq a++(Aq k++Aq K)=(Aq a++(Aq k).take 2)++(((Aq k).drop 2++(Aq K).take 4)++(Aq K).drop 4):=by
  simp only[AP];rw[CE,<-AP ((Aq k).take 2),CE]
 have c:((Aq K).drop 4).length<8:=by show 2<8;decide
 rw[e,Qj rfl,Qj rfl,Z6 c,N1,N1,(Ma H).1,(Ma h).2.1,(Ma h).2.2.1,(Ma b).2.2.2.1];rfl
def wD(h:K<64)(H:k<64):Es (Aq K++Aq k)=([(K*4+k/16).toUInt8],(Aq k).drop 2):=by
 have e:Aq K++Aq k=(Aq K++(Aq k).take 2)++(Aq k).drop 2:=by
  rw[AP,CE]
 have a:((Aq k).drop 2).length<8:=by show 4<8;decide
 rw[e,Qj rfl,Z6 a,N1,(Ma h).1,(Ma H).2.1];rfl
theorem Z7:∀(s:Bs)(v n p:Nat),Ce s v n p=Ce (s.filter fun c=>!Am c) v n p
 |[],_,_,_=>rfl
 |c::s,v,n,p=>by
  rw[DB];cases h:Am c with
  |true=>
   rw[vS h,Z7 s];simp
  |false=>
   simp only[EN,DK];conv=>lhs;unfold Ce
   conv=>rhs;unfold Ce
   cases J6 c v n p with
   |none=>rfl
   |some r=>
    obtain⟨o,V,N,P⟩:=r;simp only;rw[Z7 s]
def Tr(h:Am c=false)(v n p:Nat):J6 c v n p=match Gb c n p with
  |none=>none
  |some (k,q)=>F8 (v*64+k) (n+1) q:=by
 unfold J6;rw[h];rfl
def wE{o:Bs}(h:F8 v n p=some (o,v',n',p')):n'=n:=by
 unfold F8 at h;split at h
 ·simp at h;omega
 split at h
 ·cases h
 simp at h;omega
theorem fM:∀(l:Bs)(v n p:Nat)(o:Bs),(∀c∈l,Am c=false)->Ce l v n p=some o->(n+l.length)%4=0
 |[],v,n,p,o,_,h=>by
  unfold Ce at h;split at h
  ·cases h
  simp;omega
 |c::l,v,n,p,o,g,h=>by
  unfold Ce at h;rw[Tr (g c (CN ..))]at h;cases a:Gb c n p with
  |none=>rw[a]at h;cases h
  |some r=>
   obtain⟨k,q⟩:=r;rw[a]at h;simp only at h;cases H:F8 (v*64+k) (n+1) q with
   |none=>rw[H]at h;cases h
   |some r=>
    obtain⟨f,V,N,P⟩:=r;rw[H]at h;simp only[BM]at h;obtain⟨O,b,_⟩:=h;have i:=wE H;have:=fM l V N P O (fun d e=>g d (CJ _ e)) b;simp;omega
def fN:Bb 61<0:=EU af
def Z8(h:0<=Bb c)(n:Nat):Gb c n 0=some ((Bb c).toNat,0):=by
 have H:c≠61:=fun e=>by subst e;have:=fN;omega
 unfold Gb;rw[AL (fun h=>H h.1),AL aa]
def Rx(h:Bb c<0)(H:c≠61\/n%4<2):Gb c n p=none:=by
 unfold Gb;rw[AL (fun a=>by rcases H with e|e;exact e a.1;omega),AN (Or.inl h)]
def W0(H:0<p)(h:c≠61\/n%4<2):Gb c n p=none:=by
 unfold Gb;rw[AL (fun a=>by rcases h with e|e;exact e a.1;omega),AN (Or.inr H)]
def W3(H:Am c=false)(h:0<=Bb c)(l:Bs)(v n:Nat)(a:0<(n+1)%4):Ce (c::l) v n 0=Ce l (v*64+(Bb c).toNat) (n+1) 0:=by
 conv=>lhs;unfold Ce
 rw[Tr H,Z8 h];simp only;rw[Z2 a];simp
def Np(H:Am c=false)(h:Gb c n p=none)(l:Bs):Ce (c::l) v n p=none:=by
 unfold Ce;rw[Tr H,h]
def Ry(h:2<=n%4)(l:Bs):Ce (61::l) v n p=match F8 (v*64) (n+1) (p+1)with
 |none=>none
 |some (o,V,N,P)=>(Ce l V N P).map (o++·):=vT l v n p h
def wF{x l:Bs}(h:2<=l.length):Dh (x++l)=Dh l:=by
 unfold Dh;rw[JS];have H:l.reverse.length=l.length:=IN;cases c:l.reverse with
 |nil=>rw[c]at H;simp at H;omega
 |cons a r=>
  cases r with
  |nil=>rw[c]at H;simp at H;omega
  |cons b r=>
   rw[CR,CR];by_cases d:a=61
   ·subst d;by_cases e:b=61
    ·subst e;rfl
    simp[e]
   simp[d]
def W4(l:Bs):Dh l<=2/\Dh l<=l.length:=by
 unfold Dh;have:l.reverse.length=l.length:=IN;split
 ·rename_i h;rw[h]at this;simp at this;omega
 ·rename_i h;rw[h]at this;simp at this;omega
 omega
theorem fO(c:UInt8)(l:Bs):D2 (c::l)=if Bb c<0 then none else(D2 l).map (Aq (Bb c).toNat++·):=rfl
def Rz(h:0<=Bb c):(Bb c).toNat<64:=by
 have:=Y8 c;omega
theorem wG:∀(k:Nat)(l:Bs)(n:Nat),l.length<=k->(∀c∈l,Am c=false)->n%4=0->Ce l 0 n 0=Pf l:=by
 intro k;induction k with
 |zero=>
  intro l n J _ X;have:l=[]:=EI.1 aa;subst this;unfold Ce;rw[AL aa];rfl
 |succ k ih=>
  intro l n J w X;by_cases D:l.length%4=0
  case neg=>
   have:Ce l 0 n 0=none:=by
    cases h:Ce l 0 n 0 with
    |none=>rfl
    |some o=>have:=fM l 0 n 0 o w h;omega
   rw[this];unfold Pf;rw[AN D]
  case pos=>
  match l,D,J,w with
  |[],_,_,_=>
   unfold Ce;rw[AL aa];rfl
  |[_],h,_,_=>simp at h
  |[_,_],h,_,_=>simp at h
  |[_,_,_],h,_,_=>simp at h
  |C::e::g::i::L,D,J,w=>
   have U:=w C ah;have V:=w e ah;have K:=w g ah;have G:=w i ah;have M:∀c∈L,Am c=false:=fun c Y=>w c (by simp[Y])
   have Z:L.length%4=0:=by simp at D;omega
   unfold Pf;rw[AL (by simpa using D)];by_cases q:Bb C<0
   ·rw[Np U (Rx q (Or.inr aa))];obtain⟨m,O⟩:∃m,(C::e::g::i::L).length-Dh (C::e::g::i::L)=m+1:=⟨_,(Nat.succ_pred_eq_of_pos oh).symm⟩;rw[O,FT];unfold D2;rw[AN q]
   rw[W3 U aa _ _ _ aa];by_cases s:Bb e<0
   ·rw[Np V (Rx s (Or.inr aa))];obtain⟨m,O⟩:∃m,(C::e::g::i::L).length-Dh (C::e::g::i::L)=m+2:=⟨(C::e::g::i::L).length-Dh (C::e::g::i::L)-2,oh⟩;rw[O,FT,FT];unfold D2;rw[AL q];unfold D2;rw[AN s];rfl
   rw[W3 V aa _ _ _ aa];have N:=Rz (show 0<=Bb C by omega);have y:=Rz (show 0<=Bb e by omega);by_cases P:L=[]
   ·
    subst P;by_cases z:g=61
    ·subst z;rw[Ry aa,Z2 aa];simp only;by_cases j:i=61
     ·subst j;rw[Ry aa];have p:Dh [C,e,61,61]=2:=rfl;have t:[C,e,61,61].take ([C,e,61,61].length-2)=[C,e]:=rfl;rw[p,t];have H:D2 [C,e]=some (Aq (Bb C).toNat++(Aq (Bb e).toNat)):=by
       simp[D2,q,s]
      rw[H];simp only;rw[wD N y];simp only;rw[fK.1];generalize(Bb C).toNat=a at N|-;generalize(Bb e).toNat=b at y|-;unfold F8;rw[AL aa];by_cases E:b%16=0
      ·rw[AL aa];simp only[E,decide_true,DK];unfold Ce;rw[AL aa,show(((0*64+a)*64+b)*64*64)/65536=a*4+b/16 by omega];rfl
      rw[AN aa];simp[E]
     have hk:Gb i (n+1+1+1) (0+1)=none:=W0 aa (Or.inl j);rw[Np G hk];have p:Dh [C,e,61,i]=0:=by simp[Dh,j]
     have t:[C,e,61,i].take ([C,e,61,i].length-0)=[C,e,61,i]:=rfl;rw[p,t];have H:D2 [C,e,61,i]=none:=by
      simp[D2,q,s,fN]
     rw[H];rfl
    by_cases u:Bb g<0
    ·rw[Np K (Rx u (Or.inl z))];have H:∀r,D2 (C::e::g::r)=none:=fun r=>by simp[D2,q,s,u]
     by_cases j:i=61
     ·subst j;have p:Dh [C,e,g,61]=1:=by simp[Dh,z]
      have t:[C,e,g,61].take ([C,e,g,61].length-1)=[C,e,g]:=rfl;rw[p,t,H]
     have p:Dh [C,e,g,i]=0:=by simp[Dh,j]
     have t:[C,e,g,i].take ([C,e,g,i].length-0)=[C,e,g,i]:=rfl;rw[p,t,H]
    rw[W3 K aa _ _ _ aa];have A:=Rz (show 0<=Bb g by omega);by_cases j:i=61
    ·subst j;rw[Ry aa];have p:Dh [C,e,g,61]=1:=by simp[Dh,z]
     have t:[C,e,g,61].take ([C,e,g,61].length-1)=[C,e,g]:=rfl;rw[p,t];have H:D2 [C,e,g]=some (Aq (Bb C).toNat++(Aq (Bb e).toNat++Aq (Bb g).toNat)):=by
      simp[D2,q,s,u]
     rw[H];simp only;rw[wC N y A];simp only;rw[fK.2];generalize(Bb C).toNat=a at N|-;generalize(Bb e).toNat=b at y|-;generalize(Bb g).toNat=d at A|-;unfold F8;rw[AL aa];by_cases E:d%4=0
     ·rw[AL aa];simp only[E,decide_true,DK];unfold Ce;rw[AL aa,show(((0*64+a)*64+b)*64+d)*64/65536=a*4+b/16 by omega];have F:((((0*64+a)*64+b)*64+d)*64/256).toUInt8=(b%16*16+d/4).toUInt8:=by
       apply BQ.1;show(UInt8.ofNat _).toNat=(UInt8.ofNat _).toNat;rw[CX,CX];omega
      rw[F];rfl
     rw[AN aa];simp[E]
    have p:Dh [C,e,g,i]=0:=by simp[Dh,j]
    have t:[C,e,g,i].take ([C,e,g,i].length-0)=[C,e,g,i]:=rfl;rw[p,t];by_cases B:Bb i<0
    ·rw[Np G (Rx B (Or.inl j))];have H:D2 [C,e,g,i]=none:=by simp[D2,q,s,u,B]
     rw[H]
    have I:=Rz (show 0<=Bb i by omega);have H:D2 [C,e,g,i]=some (Aq (Bb C).toNat++(Aq (Bb e).toNat++(Aq (Bb g).toNat++(Aq (Bb i).toNat++[])))):=by
     simp[D2,q,s,u,B]
    rw[H];simp only;rw[fL N y A I];conv=>lhs;unfold Ce
    rw[Tr G,Z8 aa];simp only;generalize(Bb C).toNat=a at N|-;generalize(Bb e).toNat=b at y|-;generalize(Bb g).toNat=d at A|-;generalize(Bb i).toNat=f at I|-;unfold F8;rw[AL aa,AL aa];have Q:((((0*64+a)*64+b)*64+d)*64+f)/65536=a*4+b/16:=aa
    have F:(((((0*64+a)*64+b)*64+d)*64+f)/256).toUInt8=(b%16*16+d/4).toUInt8:=by
     apply BQ.1;show(UInt8.ofNat _).toNat=(UInt8.ofNat _).toNat;rw[CX,CX];omega
    have R:((((0*64+a)*64+b)*64+d)*64+f).toUInt8=(d%4*64+f).toUInt8:=by
     apply BQ.1;show(UInt8.ofNat _).toNat=(UInt8.ofNat _).toNat;rw[CX,CX];omega
    rw[Q,F,R];simp only;unfold Ce;rw[AL aa];rfl
   ·
    have a0:4<=L.length:=by
     have:=BK.2 P;omega
    have p:Dh (C::e::g::i::L)=Dh L:=wF (x:=[C,e,g,i]) aa;have a1:=W4 L;have t:(C::e::g::i::L).take ((C::e::g::i::L).length-Dh L)=C::e::g::i::L.take (L.length-Dh L):=by
     have:(C::e::g::i::L).length-Dh L=(L.length-Dh L)+1+1+1+1:=ag
     rw[this];rfl
    rw[p,t];have W:∃d r,L=d::r:=by
     cases L with
     |nil=>exact absurd rfl P
     |cons d r=>exact⟨d,r,rfl⟩
    by_cases u:Bb g<0
    ·have H:∀r,D2 (C::e::g::r)=none:=fun r=>by simp[D2,q,s,u]
     rw[H];by_cases z:g=61
     ·subst z;rw[Ry aa,Z2 aa];simp only;by_cases j:i=61
      ·subst j;rw[Ry aa];obtain⟨d,r,rfl⟩:=W;have S:=M d ah;unfold F8;rw[AL aa];split
       ·rfl
       rename_i o v' n' p' v;split at v
       ·cases v
       simp only[GZ,EB]at v;obtain⟨_,rfl,rfl,rfl⟩:=v;rw[Np S (W0 aa (Or.inr aa))];rfl
      rw[Np G (W0 aa (Or.inl j))];rfl
     rw[Np K (Rx u (Or.inl z))]
    rw[W3 K aa _ _ _ aa];have A:=Rz (show 0<=Bb g by omega);by_cases B:Bb i<0
    ·have H:∀r,D2 (C::e::g::i::r)=none:=fun r=>by simp[D2,q,s,u,B]
     rw[H];by_cases j:i=61
     ·subst j;rw[Ry aa];obtain⟨d,r,rfl⟩:=W;have S:=M d ah;unfold F8;rw[AL aa];split
      ·rfl
      rename_i o v' n' p' v;split at v
      ·cases v
      simp only[GZ,EB]at v;obtain⟨_,rfl,rfl,rfl⟩:=v;rw[Np S (W0 aa (Or.inr aa))];rfl
     rw[Np G (Rx B (Or.inl j))]
    have I:=Rz (show 0<=Bb i by omega);have T:=ih L (n+1+1+1+1) (by simp at J;omega) M aa;unfold Pf at T;rw[AL (by simpa using Z)]at T;have H:D2 (C::e::g::i::L.take (L.length-Dh L))=(D2 (L.take (L.length-Dh L))).map fun r=>Aq (Bb C).toNat++(Aq (Bb e).toNat++(Aq (Bb g).toNat++(Aq (Bb i).toNat++r))):=by
     simp[D2,q,s,u,B,Function.comp_def]
    rw[H];conv=>lhs;unfold Ce
    rw[Tr G,Z8 aa];simp only;generalize(Bb C).toNat=a at N|-;generalize(Bb e).toNat=b at y|-;generalize(Bb g).toNat=d at A|-;generalize(Bb i).toNat=f at I|-;unfold F8;rw[AL aa,AL aa];have Q:((((0*64+a)*64+b)*64+d)*64+f)/65536=a*4+b/16:=aa
    have F:(((((0*64+a)*64+b)*64+d)*64+f)/256).toUInt8=(b%16*16+d/4).toUInt8:=by
     apply BQ.1;show(UInt8.ofNat _).toNat=(UInt8.ofNat _).toNat;rw[CX,CX];omega
    have R:((((0*64+a)*64+b)*64+d)*64+f).toUInt8=(d%4*64+f).toUInt8:=by
     apply BQ.1;show(UInt8.ofNat _).toNat=(UInt8.ofNat _).toNat;rw[CX,CX];omega
    rw[Q,F,R];simp only;rw[T];cases D2 (L.take (L.length-Dh L))with
    |none=>rfl
    |some r=>
     simp only[JD];rw[fL N y A I];simp only;split<;>rfl
def wH(s:Bs):Pg s=Dr s:=by
 unfold Pg Dr;rw[Z7,wG _ _ 0 (AF _) (fun c h=>by simpa using(DP.1 h).2) rfl]
end Go.Proofs.YtignjjnflcpiiaaGreatDoor
