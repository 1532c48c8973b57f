/- What base64 packs comes back whole: unpackT (packT b) = s -/
import Derived.Test.YtignjjnflcpiiaaGreatDoorS01
namespace Go.Proofs.YtignjjnflcpiiaaGreatDoor
open Go Go.RowKit Proofs.Tryz Lib
theorem oI:((List.range 64).all fun n=>Ax (Bp n)==(n:Int)&&!(Al (Bp n))&&Bp n !=61)=true:=by kernel_rfl
variable {k v n p a K b v' n' p':Nat}{c:UInt8}{l x y:List Nat}
theorem oJ(h:k<64):Ax (Bp k)=(k:Int)∧Al (Bp k)=false∧Bp k≠61:=by
 have:=AW.1 oI k (BY.2 h);simp at this;exact⟨this.1.1,this.1.2,this.2⟩
theorem oK(h:Al c=true)(l:Bs)(v n p:Nat):C6 (c::l) v n p=C6 l v n p:=by
 have e:Hu c v n p=some ([],v,n,p):=by unfold Hu;rw[AM h]
 conv=>lhs;unfold C6
 rw[e];simp
theorem V3(h:0<n%4):Ek v n p=some ([],v,n,p):=by unfold Ek;rw[AM h]
theorem oL(l:Bs)(v n p:Nat)(h:2≤n%4):C6 (61::l) v n p=match Ek (v*64) (n+1) (p+1)with
 |none=>none
 |some (o,V,N,P)=>(C6 l V N P).map (o++·):=by
 have e:Hu 61 v n p=Ek (v*64) (n+1) (p+1):=by
  unfold Hu;rw[AI (by decide)];have:Ff 61 n p=some (0,p+1):=by unfold Ff;rw[AM ⟨rfl,h⟩]
  rw[this];rfl
 conv=>lhs;unfold C6
 rw[e];all_goals(generalize Ek (v*64) (n+1) (p+1)=r;rcases r with _|⟨o,V,N,P⟩<;>rfl)
theorem oM(v:Nat):Co v 3=[Bp (v/262144%64),Bp (v/4096%64),Bp (v/64%64),Bp (v%64)]:=rfl
def Am(c:UInt8):List Nat:=[c.toNat/128%2,c.toNat/64%2,c.toNat/32%2,c.toNat/16%2,c.toNat/8%2,c.toNat/4%2,c.toNat/2%2,c.toNat%2]
def Ez(b:Bs):List Nat:=b.flatMap Am
def C8(l:List Nat):Nat:=l.foldl (fun n b=>n*2+b) 0
def F0(l:List Nat):List Nat:=(l++[0,0,0,0,0,0]).take 6
def Lq:Nat→List Nat→Bs
 |0,_=>[]
 |k+1,l=>if l=[]then[]else Bp (C8 (F0 l))::Lq k (l.drop 6)
def G4(l:List Nat):Bs:=Lq l.length l
def G5(l:Bs):Bs:=l++List.replicate ((4-l.length%4)%4) 61
def Nb:Nat→Bs→Bs
 |0,_=>[]
 |k+1,l=>if l=[]then[]else l.take 76++(13::10::Nb k (l.drop 76))
def Kh(l:Bs):Bs:=Nb l.length l
def Ml(b:Bs):Bs:=Kh (G5 (G4 (Ez b)))
theorem Yy:∀(k m:Nat)(l:List Nat),l.length≤k→l.length≤m→Lq k l=Lq m l
 |_,_,[],_,_=>by
  rename_i k m _ _;cases k<;>cases m<;>simp[Lq]
 |0,_,_::_,h,_=>by simp at h
 |_,0,_::_,_,h=>by simp at h
 |k+1,m+1,c::l,H,a=>by
  unfold Lq;rw[AI (by simp),AI (by simp),Yy k m _ (by rw[AS];simp at H⊢;omega) (by rw[AS];simp at a⊢;omega)]
theorem L4(h:l≠[]):G4 l=Bp (C8 (F0 l))::G4 (l.drop 6):=by
 unfold G4;obtain⟨n,H⟩:∃n,l.length=n+1:=⟨l.length-1,by have:=BE.2 h;omega⟩;rw[H];conv=>lhs;unfold Lq
 rw[AI h,Yy n _ _ (by rw[AS];omega) (AC _)]
theorem oN:G4 []=[]:=rfl
theorem Yz:∀(k m:Nat)(l:Bs),l.length≤k→l.length≤m→Nb k l=Nb m l
 |_,_,[],_,_=>by
  rename_i k m _ _;cases k<;>cases m<;>simp[Nb]
 |0,_,_::_,h,_=>by simp at h
 |_,0,_::_,_,h=>by simp at h
 |k+1,m+1,c::l,H,a=>by
  unfold Nb;rw[AI (by simp),AI (by simp),Yz k m _ (by rw[AS];simp at H⊢;omega) (by rw[AS];simp at a⊢;omega)]
theorem V4{l:Bs}(h:l≠[]):Kh l=l.take 76++(13::10::Kh (l.drop 76)):=by
 unfold Kh;obtain⟨n,H⟩:∃n,l.length=n+1:=⟨l.length-1,by have:=BE.2 h;omega⟩;rw[H];conv=>lhs;unfold Nb
 rw[AI h,Yz n _ _ (by rw[AS];omega) (AC _)]
theorem oO:Kh []=[]:=rfl
theorem V5:∀(y:List Nat)(n:Nat),y.foldl (fun n b=>n*2+b) n=n*2^y.length+C8 y
 |[],n=>by simp[C8]
 |b::y,n=>by
  have h:=V5 y (n*2+b);have H:=V5 y (0*2+b);rw[List.foldl_cons,h];show _=n*2^(y.length+1)+y.foldl (fun n b=>n*2+b) (0*2+b);rw[H,Nat.zero_mul,EX,Nat.add_mul,IA,Nat.mul_assoc,Nat.mul_comm 2,Nat.add_assoc]
theorem Ki(x y:List Nat):C8 (x++y)=C8 x*2^y.length+C8 y:=by
 unfold C8;rw[List.foldl_append,V5];rfl
theorem Ol(c:UInt8):C8 ((Am c).take 6)=c.toNat/4∧C8 ((Am c).drop 6)=c.toNat%4∧C8 ((Am c).take 4)=c.toNat/16∧C8 ((Am c).drop 4)=c.toNat%16∧C8 ((Am c).take 2)=c.toNat/64∧C8 ((Am c).drop 2)=c.toNat%64:=by
 have h:=c.toNat_lt;simp only[Am,C8,FC,GP,IR,DP,List.foldl_cons,List.foldl_nil];omega
def H0:Bs→Bs
 |[]=>[]
 |[a]=>Co (a.toNat*65536) 1
 |[a,b]=>Co (a.toNat*65536+b.toNat*256) 2
 |a::b::c::l=>Co (a.toNat*65536+b.toNat*256+c.toNat) 3++H0 l
theorem Nc(h:x.length=6):F0 (x++y)=x:=by
 unfold F0;rw[AJ,FX h]
theorem oP(a b c:UInt8)(l:List Nat):G4 (Am a++(Am b++(Am c++l)))=Co (a.toNat*65536+b.toNat*256+c.toNat) 3++G4 l:=by
 have H:=Ol a;have d:=Ol b;have f:=Ol c;have p:=a.toNat_lt;have q:=b.toNat_lt;have r:=c.toNat_lt;have e:Am a++(Am b++(Am c++l))=(Am a).take 6++(((Am a).drop 6++(Am b).take 4)++(((Am b).drop 4++(Am c).take 2)++((Am c).drop 2++l))):=by
  simp only[AJ];rw[←AJ ((Am c).take 2),BQ,←AJ ((Am b).take 4),BQ,←AJ ((Am a).take 6),BQ]
 have L:((Am a).take 6).length=6:=rfl;have g:((Am a).drop 6++(Am b).take 4).length=6:=rfl;have i:((Am b).drop 4++(Am c).take 2).length=6:=rfl;have j:((Am c).drop 2).length=6:=rfl;rw[e,L4 (by intro h;have:=congrArg List.length h;simp[Am]at this),Nc L,DH L];rw[L4 (by intro h;have:=congrArg List.length h;simp[Am]at this),Nc g,DH g];rw[L4 (by intro h;have:=congrArg List.length h;simp[Am]at this),Nc i,DH i];rw[L4 (by intro h;have:=congrArg List.length h;simp[Am]at this),Nc j,DH j];rw[Ki,Ki,H.1,H.2.1,d.2.2.1,d.2.2.2.1,f.2.2.2.2.1,f.2.2.2.2.2];have m:((Am b).take 4).length=4:=rfl;have M:((Am c).take 2).length=2:=rfl;rw[m,M,oM];have F:(a.toNat*65536+b.toNat*256+c.toNat)/262144%64=a.toNat/4:=by omega
 have k:(a.toNat*65536+b.toNat*256+c.toNat)/4096%64=a.toNat%4*2^4+b.toNat/16:=by omega
 have n:(a.toNat*65536+b.toNat*256+c.toNat)/64%64=b.toNat%16*2^2+c.toNat/64:=by omega
 have o:(a.toNat*65536+b.toNat*256+c.toNat)%64=c.toNat%64:=by omega
 rw[F,k,n,o];rfl
theorem oQ(a b:UInt8):G4 (Am a++Am b)=[Bp (a.toNat/4),Bp (a.toNat%4*16+b.toNat/16),Bp (b.toNat%16*4)]:=by
 have H:=Ol a;have c:=Ol b;have e:Am a++Am b=(Am a).take 6++(((Am a).drop 6++(Am b).take 4)++(Am b).drop 4):=by
  rw[AJ,BQ,←AJ,BQ]
 have l:((Am a).take 6).length=6:=rfl;have L:((Am a).drop 6++(Am b).take 4).length=6:=rfl;rw[e,L4 (by intro h;have:=congrArg List.length h;simp[Am]at this),Nc l,DH l];rw[L4 (by intro h;have:=congrArg List.length h;simp[Am]at this),Nc L,DH L];rw[L4 (by intro h;have:=congrArg List.length h;simp[Am]at this)];have d:((Am b).drop 4).drop 6=[]:=rfl;have s:F0 ((Am b).drop 4)=(Am b).drop 4++[0,0]:=rfl;rw[d,s,Ki,Ki,H.1,H.2.1,c.2.2.1,c.2.2.2.1];rfl
theorem oR(a:UInt8):G4 (Am a)=[Bp (a.toNat/4),Bp (a.toNat%4*16)]:=by
 have H:=Ol a;have e:Am a=(Am a).take 6++(Am a).drop 6:=(BQ 6 (Am a)).symm;have l:((Am a).take 6).length=6:=rfl;rw[e,L4 (by intro h;have:=congrArg List.length h;simp[Am]at this),Nc l,DH l];rw[L4 (by intro h;have:=congrArg List.length h;simp[Am]at this)];have d:((Am a).drop 6).drop 6=[]:=rfl;have s:F0 ((Am a).drop 6)=(Am a).drop 6++[0,0,0,0]:=rfl;rw[d,s,Ki,H.1,H.2.1];rfl
theorem oS(q l:Bs)(h:q.length=4):G5 (q++l)=q++G5 l:=by
 unfold G5;rw[AH,h,Nat.add_mod_left,AJ]
theorem Z0:∀b:Bs,G5 (G4 (Ez b))=H0 b
 |[]=>rfl
 |[a]=>by
  have e:Ez [a]=Am a:=by simp[Ez]
  have L:=a.toNat_lt;rw[e,oR];show[Bp (a.toNat/4),Bp (a.toNat%4*16)]++[61,61]=[Bp (a.toNat*65536/262144%64),Bp (a.toNat*65536/4096%64),61,61];rw[show a.toNat*65536/262144%64=a.toNat/4 by omega,show a.toNat*65536/4096%64=a.toNat%4*16 by omega];rfl
 |[a,b]=>by
  have e:Ez [a,b]=Am a++Am b:=by simp[Ez]
  have L:=a.toNat_lt;have d:=b.toNat_lt;rw[e,oQ];show[Bp (a.toNat/4),Bp (a.toNat%4*16+b.toNat/16),Bp (b.toNat%16*4)]++[61]=[Bp ((a.toNat*65536+b.toNat*256)/262144%64),Bp ((a.toNat*65536+b.toNat*256)/4096%64),Bp ((a.toNat*65536+b.toNat*256)/64%64),61];rw[show(a.toNat*65536+b.toNat*256)/262144%64=a.toNat/4 by omega,show(a.toNat*65536+b.toNat*256)/4096%64=a.toNat%4*16+b.toNat/16 by omega,show(a.toNat*65536+b.toNat*256)/64%64=b.toNat%16*4 by omega];rfl
 |a::b::c::l=>by
  have e:Ez (a::b::c::l)=Am a++(Am b++(Am c++Ez l)):=by simp[Ez]
  rw[e,oP,oS _ _ (Fy _ _),Z0 l];rfl
theorem V6:∀(b:Bs)(n:Nat),n<76→n%4=0→D9 b n=if b=[]then[]else(H0 b).take (76-n)++(13::10::Kh ((H0 b).drop (76-n)))
 |[],_,_,_=>by simp[D9]
 |[a],n,g,i=>by
  rw[AI (by simp)];have H:(H0 [a]).length≤76-n:=by show(Co _ 1).length≤_;rw[Fy];omega
  rw[CH H,BK H];rfl
 |[a,b],n,g,i=>by
  rw[AI (by simp)];have H:(H0 [a,b]).length≤76-n:=by show(Co _ 2).length≤_;rw[Fy];omega
  rw[CH H,BK H];rfl
 |a::b::c::l,n,g,i=>by
  rw[AI (by simp)];have e:H0 (a::b::c::l)=Co (a.toNat*65536+b.toNat*256+c.toNat) 3++H0 l:=rfl;rw[e];have H:=Fy (a.toNat*65536+b.toNat*256+c.toNat) 3;unfold D9;generalize Co (a.toNat*65536+b.toNat*256+c.toNat) 3=q at H⊢;have j:D9 l 0=Kh (H0 l):=by
   rw[V6 l 0 (by decide) rfl];by_cases f:l=[]
   ·subst f;rfl
   rw[AI f];have:H0 l≠[]:=by
    match l,f with
    |[a],_=>simp[H0,Co]
    |[a,b],_=>simp[H0,Co]
    |a::b::c::l,_=>simp[H0,Co]
   rw[V4 this]
  by_cases d:n+4=76∨l=[]
  ·rw[AM d,j];rcases d with d|d
   ·rw[show 76-n=4 by omega,FX H,DH H];rfl
   subst d;have E:H0 []=[]:=rfl;rw[E,BM,CH (by omega),BK (by omega)];rfl
  rw[AI d];have f:l≠[]:=fun h=>d (Or.inr h)
  have k:n+4≠76:=fun h=>d (Or.inl h)
  rw[V6 l (n+4) (by omega) (by omega),AI f,show 76-n=q.length+(76-(n+4)) by omega,List.take_length_add_append,List.drop_length_add_append,AJ]
theorem oT(b:Bs):Ml b=Ew b:=by
 unfold Ml Ew;rw[Z0,V6 b 0 (by decide) rfl];by_cases h:b=[]
 ·subst h;rfl
 rw[AI h];have:H0 b≠[]:=by
  match b,h with
  |[a],_=>simp[H0,Co]
  |[a,b],_=>simp[H0,Co]
  |a::b::c::l,_=>simp[H0,Co]
 rw[V4 this]
def An(n:Nat):List Nat:=[n/32%2,n/16%2,n/8%2,n/4%2,n/2%2,n%2]
def Cv:Bs→Option (List Nat)
 |[]=>some []
 |c::l=>if Ax c<0 then none else(Cv l).map (An (Ax c).toNat++·)
def L5:Nat→List Nat→Bs×List Nat
 |0,l=>([],l)
 |k+1,l=>if l.length<8 then([],l)else((C8 (l.take 8)).toUInt8::(L5 k (l.drop 8)).1,(L5 k (l.drop 8)).2)
def E0(l:List Nat):Bs×List Nat:=L5 l.length l
def D7(l:Bs):Nat:=match l.reverse with|61::61::_=>2|61::_=>1|_=>0
def Mm(l:Bs):Option Bs:=if l.length%4≠0 then none else match Cv (l.take (l.length-D7 l))with
 |none=>none
 |some bits=>if(E0 bits).2.all (·==0)then some (E0 bits).1 else none
def Mn(s:Bs):Option Bs:=Mm (s.filter fun c=>!Al c)
theorem Z2:∀(k m:Nat)(l:List Nat),l.length≤k→l.length≤m→L5 k l=L5 m l
 |0,0,_,_,_=>rfl
 |0,m+1,l,h,_=>by
  have:l=[]:=DI.1 (by omega);subst this;simp[L5]
 |k+1,0,l,_,h=>by
  have:l=[]:=DI.1 (by omega);subst this;simp[L5]
 |k+1,m+1,l,H,a=>by
  unfold L5;split
  ·rfl
  rw[Z2 k m _ (by rw[AS];omega) (by rw[AS];omega)]
theorem Nd(h:x.length=8):E0 (x++l)=((C8 x).toUInt8::(E0 l).1,(E0 l).2):=by
 unfold E0;obtain⟨n,H⟩:∃n,(x++l).length=n+1:=⟨(x++l).length-1,by rw[AH];omega⟩;rw[H];conv=>lhs;unfold L5
 rw[AI (by rw[AH];omega),FX h,DH h,Z2 n l.length l (by rw[AH]at H;omega) (AC _)]
theorem V7(h:l.length<8):E0 l=([],l):=by
 unfold E0;cases H:l.length with
 |zero=>rfl
 |succ n=>unfold L5;rw[AM h]
theorem Js(h:k<64):C8 (An k)=k∧C8 ((An k).take 2)=k/16∧C8 ((An k).drop 2)=k%16∧C8 ((An k).take 4)=k/4∧C8 ((An k).drop 4)=k%4:=by
 simp only[An,C8,FC,GP,IR,DP,List.foldl_cons,List.foldl_nil];omega
theorem Z3:((An k).drop 2).all (·==0)=decide (k%16=0)∧((An k).drop 4).all (·==0)=decide (k%4=0):=by
 constructor
 ·have e:(An k).drop 2=[k/8%2,k/4%2,k/2%2,k%2]:=rfl;rw[e,DZ];simp only[FA,List.all_nil,IW,BL,BG,EF];omega
 have e:(An k).drop 4=[k/2%2,k%2]:=rfl;rw[e,DZ];simp only[FA,List.all_nil,IW,BL,BG,EF];omega
theorem Z4(c:a<64)(h:k<64)(H:K<64)(d:b<64)(l:List Nat):E0 (An a++(An k++(An K++(An b++l))))=((a*4+k/16).toUInt8::(k%16*16+K/4).toUInt8::(K%4*64+b).toUInt8::(E0 l).1,(E0 l).2):=by
 have e:An a++(An k++(An K++(An b++l)))=(An a++(An k).take 2)++(((An k).drop 2++(An K).take 4)++(((An K).drop 4++An b)++l)):=by
  simp only[AJ];rw[←AJ ((An K).take 4),BQ,←AJ ((An k).take 2),BQ]
 rw[e,Nd rfl,Nd rfl,Nd rfl,Ki,Ki,Ki,(Js c).1,(Js h).2.1,(Js h).2.2.1,(Js H).2.2.2.1,(Js H).2.2.2.2,(Js d).1];rfl
theorem oU(H:a<64)(h:k<64)(b:K<64):E0 (An a++(An k++An K))=([(a*4+k/16).toUInt8,(k%16*16+K/4).toUInt8],(An K).drop 4):=by
 have e:An a++(An k++An K)=(An a++(An k).take 2)++(((An k).drop 2++(An K).take 4)++(An K).drop 4):=by
  simp only[AJ];rw[BQ,←AJ ((An k).take 2),BQ]
 have c:((An K).drop 4).length<8:=by show 2<8;decide
 rw[e,Nd rfl,Nd rfl,V7 c,Ki,Ki,(Js H).1,(Js h).2.1,(Js h).2.2.1,(Js b).2.2.2.1];rfl
theorem oV(h:K<64)(H:k<64):E0 (An K++An k)=([(K*4+k/16).toUInt8],(An k).drop 2):=by
 have e:An K++An k=(An K++(An k).take 2)++(An k).drop 2:=by
  rw[AJ,BQ]
 have a:((An k).drop 2).length<8:=by show 4<8;decide
 rw[e,Nd rfl,V7 a,Ki,(Js h).1,(Js H).2.1];rfl
theorem V8:∀(s:Bs)(v n p:Nat),C6 s v n p=C6 (s.filter fun c=>!Al c) v n p
 |[],_,_,_=>rfl
 |c::s,v,n,p=>by
  rw[DA];cases h:Al c with
  |true=>
   rw[oK h,V8 s];simp
  |false=>
   simp only[EH,DC];conv=>lhs;unfold C6
   conv=>rhs;unfold C6
   cases Hu c v n p with
   |none=>rfl
   |some r=>
    obtain⟨o,V,N,P⟩:=r;simp only;rw[V8 s]
theorem Qd(h:Al c=false)(v n p:Nat):Hu c v n p=match Ff c n p with
 |none=>none
 |some (k,q)=>Ek (v*64+k) (n+1) q:=by
 unfold Hu;rw[h];rfl
theorem oW{o:Bs}(h:Ek v n p=some (o,v',n',p')):n'=n:=by
 unfold Ek at h;split at h
 ·simp at h;omega
 split at h
 ·cases h
 simp at h;omega
theorem Z5:∀(l:Bs)(v n p:Nat)(o:Bs),(∀c∈l,Al c=false)→C6 l v n p=some o→(n+l.length)%4=0
 |[],v,n,p,o,_,h=>by
  unfold C6 at h;split at h
  ·cases h
  simp;omega
 |c::l,v,n,p,o,g,h=>by
  unfold C6 at h;rw[Qd (g c (CD ..))]at h;cases a:Ff c n p with
  |none=>rw[a]at h;cases h
  |some r=>
   obtain⟨k,q⟩:=r;rw[a]at h;simp only at h;cases H:Ek (v*64+k) (n+1) q with
   |none=>rw[H]at h;cases h
   |some r=>
    obtain⟨f,V,N,P⟩:=r;rw[H]at h;simp only[BH]at h;obtain⟨O,b,_⟩:=h;have i:=oW H;have:=Z5 l V N P O (fun d e=>g d (CA _ e)) b;simp;omega
theorem Z6:Ax 61<0:=of_decide_eq_true (by kernel_rfl)
theorem V9(h:0≤Ax c)(n:Nat):Ff c n 0=some ((Ax c).toNat,0):=by
 have H:c≠61:=fun e=>by subst e;have:=Z6;omega
 unfold Ff;rw[AI (fun h=>H h.1),AI (by omega)]
theorem Om(h:Ax c<0)(H:c≠61∨n%4<2):Ff c n p=none:=by
 unfold Ff;rw[AI (fun a=>by rcases H with e|e;exact e a.1;omega),AM (Or.inl h)]
theorem Sb(H:0<p)(h:c≠61∨n%4<2):Ff c n p=none:=by
 unfold Ff;rw[AI (fun a=>by rcases h with e|e;exact e a.1;omega),AM (Or.inr H)]
theorem Sd(H:Al c=false)(h:0≤Ax c)(l:Bs)(v n:Nat)(a:0<(n+1)%4):C6 (c::l) v n 0=C6 l (v*64+(Ax c).toNat) (n+1) 0:=by
 conv=>lhs;unfold C6
 rw[Qd H,V9 h];simp only;rw[V3 a];simp
theorem L6(H:Al c=false)(h:Ff c n p=none)(l:Bs):C6 (c::l) v n p=none:=by
 unfold C6;rw[Qd H,h]
theorem On(h:2≤n%4)(l:Bs):C6 (61::l) v n p=match Ek (v*64) (n+1) (p+1)with
 |none=>none
 |some (o,V,N,P)=>(C6 l V N P).map (o++·):=oL l v n p h
theorem oX{x l:Bs}(h:2≤l.length):D7 (x++l)=D7 l:=by
 unfold D7;rw[IN];have H:l.reverse.length=l.length:=GO;cases c:l.reverse with
 |nil=>rw[c]at H;simp at H;omega
 |cons a r=>
  cases r with
  |nil=>rw[c]at H;simp at H;omega
  |cons b r=>
   rw[CK,CK];by_cases d:a=61
   ·subst d;by_cases e:b=61
    ·subst e;rfl
    simp[e]
   simp[d]
theorem Se(l:Bs):D7 l≤2∧D7 l≤l.length:=by
 unfold D7;have:l.reverse.length=l.length:=GO;split
 ·rename_i h;rw[h]at this;simp at this;omega
 ·rename_i h;rw[h]at this;simp at this;omega
 omega
theorem Z7(c:UInt8)(l:Bs):Cv (c::l)=if Ax c<0 then none else(Cv l).map (An (Ax c).toNat++·):=rfl
theorem Oo(h:0≤Ax c):(Ax c).toNat<64:=by
 have:=Uh c;omega
theorem oY:∀(k:Nat)(l:Bs)(n:Nat),l.length≤k→(∀c∈l,Al c=false)→n%4=0→C6 l 0 n 0=Mm l:=by
 intro k;induction k with
 |zero=>
  intro l n J _ X;have:l=[]:=DI.1 (by omega);subst this;unfold C6;rw[AI (by omega)];rfl
 |succ k ih=>
  intro l n J w X;by_cases D:l.length%4=0
  case neg=>
   have:C6 l 0 n 0=none:=by
    cases h:C6 l 0 n 0 with
    |none=>rfl
    |some o=>have:=Z5 l 0 n 0 o w h;omega
   rw[this];unfold Mm;rw[AM D]
  case pos=>
  match l,D,J,w with
  |[],_,_,_=>
   unfold C6;rw[AI (by omega)];rfl
  |[_],h,_,_=>simp at h
  |[_,_],h,_,_=>simp at h
  |[_,_,_],h,_,_=>simp at h
  |C::e::g::i::L,D,J,w=>
   have U:=w C (by simp);have V:=w e (by simp);have K:=w g (by simp);have G:=w i (by simp);have M:∀c∈L,Al c=false:=fun c Y=>w c (by simp[Y])
   have Z:L.length%4=0:=by simp at D;omega
   unfold Mm;rw[AI (by simpa using D)];by_cases q:Ax C<0
   ·rw[L6 U (Om q (Or.inr (by omega)))];obtain⟨m,O⟩:∃m,(C::e::g::i::L).length-D7 (C::e::g::i::L)=m+1:=⟨_,(Nat.succ_pred_eq_of_pos (by have:=Se (C::e::g::i::L);simp at this⊢;omega)).symm⟩;rw[O,FC];unfold Cv;rw[AM q]
   rw[Sd U (by omega) _ _ _ (by omega)];by_cases s:Ax e<0
   ·rw[L6 V (Om s (Or.inr (by omega)))];obtain⟨m,O⟩:∃m,(C::e::g::i::L).length-D7 (C::e::g::i::L)=m+2:=⟨(C::e::g::i::L).length-D7 (C::e::g::i::L)-2,by have:=Se (C::e::g::i::L);simp at this⊢;omega⟩;rw[O,FC,FC];unfold Cv;rw[AI q];unfold Cv;rw[AM s];rfl
   rw[Sd V (by omega) _ _ _ (by omega)];have N:=Oo (show 0≤Ax C by omega);have y:=Oo (show 0≤Ax e by omega);by_cases P:L=[]
   ·
    subst P;by_cases z:g=61
    ·subst z;rw[On (by omega),V3 (by omega)];simp only;by_cases j:i=61
     ·subst j;rw[On (by omega)];have p:D7 [C,e,61,61]=2:=rfl;have t:[C,e,61,61].take ([C,e,61,61].length-2)=[C,e]:=rfl;rw[p,t];have H:Cv [C,e]=some (An (Ax C).toNat++(An (Ax e).toNat)):=by
       simp[Cv,q,s]
      rw[H];simp only;rw[oV N y];simp only;rw[Z3.1];generalize(Ax C).toNat=a at N⊢;generalize(Ax e).toNat=b at y⊢;unfold Ek;rw[AI (by omega)];by_cases E:b%16=0
      ·rw[AI (by omega)];simp only[E,decide_true,DC];unfold C6;rw[AI (by omega),show(((0*64+a)*64+b)*64*64)/65536=a*4+b/16 by omega];rfl
      rw[AM (by omega)];simp[E]
     have hk:Ff i (n+1+1+1) (0+1)=none:=Sb (by omega) (Or.inl j);rw[L6 G hk];have p:D7 [C,e,61,i]=0:=by simp[D7,j]
     have t:[C,e,61,i].take ([C,e,61,i].length-0)=[C,e,61,i]:=rfl;rw[p,t];have H:Cv [C,e,61,i]=none:=by
      simp[Cv,q,s,Z6]
     rw[H];rfl
    by_cases u:Ax g<0
    ·rw[L6 K (Om u (Or.inl z))];have H:∀r,Cv (C::e::g::r)=none:=fun r=>by simp[Cv,q,s,u]
     by_cases j:i=61
     ·subst j;have p:D7 [C,e,g,61]=1:=by simp[D7,z]
      have t:[C,e,g,61].take ([C,e,g,61].length-1)=[C,e,g]:=rfl;rw[p,t,H]
     have p:D7 [C,e,g,i]=0:=by simp[D7,j]
     have t:[C,e,g,i].take ([C,e,g,i].length-0)=[C,e,g,i]:=rfl;rw[p,t,H]
    rw[Sd K (by omega) _ _ _ (by omega)];have A:=Oo (show 0≤Ax g by omega);by_cases j:i=61
    ·subst j;rw[On (by omega)];have p:D7 [C,e,g,61]=1:=by simp[D7,z]
     have t:[C,e,g,61].take ([C,e,g,61].length-1)=[C,e,g]:=rfl;rw[p,t];have H:Cv [C,e,g]=some (An (Ax C).toNat++(An (Ax e).toNat++An (Ax g).toNat)):=by
      simp[Cv,q,s,u]
     rw[H];simp only;rw[oU N y A];simp only;rw[Z3.2];generalize(Ax C).toNat=a at N⊢;generalize(Ax e).toNat=b at y⊢;generalize(Ax g).toNat=d at A⊢;unfold Ek;rw[AI (by omega)];by_cases E:d%4=0
     ·rw[AI (by omega)];simp only[E,decide_true,DC];unfold C6;rw[AI (by omega),show(((0*64+a)*64+b)*64+d)*64/65536=a*4+b/16 by omega];have F:((((0*64+a)*64+b)*64+d)*64/256).toUInt8=(b%16*16+d/4).toUInt8:=by
       apply BJ.1;show(UInt8.ofNat _).toNat=(UInt8.ofNat _).toNat;rw[CO,CO];omega
      rw[F];rfl
     rw[AM (by omega)];simp[E]
    have p:D7 [C,e,g,i]=0:=by simp[D7,j]
    have t:[C,e,g,i].take ([C,e,g,i].length-0)=[C,e,g,i]:=rfl;rw[p,t];by_cases B:Ax i<0
    ·rw[L6 G (Om B (Or.inl j))];have H:Cv [C,e,g,i]=none:=by simp[Cv,q,s,u,B]
     rw[H]
    have I:=Oo (show 0≤Ax i by omega);have H:Cv [C,e,g,i]=some (An (Ax C).toNat++(An (Ax e).toNat++(An (Ax g).toNat++(An (Ax i).toNat++[])))):=by
     simp[Cv,q,s,u,B]
    rw[H];simp only;rw[Z4 N y A I];conv=>lhs;unfold C6
    rw[Qd G,V9 (by omega)];simp only;generalize(Ax C).toNat=a at N⊢;generalize(Ax e).toNat=b at y⊢;generalize(Ax g).toNat=d at A⊢;generalize(Ax i).toNat=f at I⊢;unfold Ek;rw[AI (by omega),AI (by omega)];have Q:((((0*64+a)*64+b)*64+d)*64+f)/65536=a*4+b/16:=by omega
    have F:(((((0*64+a)*64+b)*64+d)*64+f)/256).toUInt8=(b%16*16+d/4).toUInt8:=by
     apply BJ.1;show(UInt8.ofNat _).toNat=(UInt8.ofNat _).toNat;rw[CO,CO];omega
    have R:((((0*64+a)*64+b)*64+d)*64+f).toUInt8=(d%4*64+f).toUInt8:=by
     apply BJ.1;show(UInt8.ofNat _).toNat=(UInt8.ofNat _).toNat;rw[CO,CO];omega
    rw[Q,F,R];simp only;unfold C6;rw[AI (by omega)];rfl
   ·
    have a0:4≤L.length:=by
     have:=BE.2 P;omega
    have p:D7 (C::e::g::i::L)=D7 L:=oX (x:=[C,e,g,i]) (by omega);have a1:=Se L;have t:(C::e::g::i::L).take ((C::e::g::i::L).length-D7 L)=C::e::g::i::L.take (L.length-D7 L):=by
     have:(C::e::g::i::L).length-D7 L=(L.length-D7 L)+1+1+1+1:=by simp;omega
     rw[this];rfl
    rw[p,t];have W:∃d r,L=d::r:=by
     cases L with
     |nil=>exact absurd rfl P
     |cons d r=>exact⟨d,r,rfl⟩
    by_cases u:Ax g<0
    ·have H:∀r,Cv (C::e::g::r)=none:=fun r=>by simp[Cv,q,s,u]
     rw[H];by_cases z:g=61
     ·subst z;rw[On (by omega),V3 (by omega)];simp only;by_cases j:i=61
      ·subst j;rw[On (by omega)];obtain⟨d,r,rfl⟩:=W;have S:=M d (by simp);unfold Ek;rw[AI (by omega)];split
       ·rfl
       rename_i o v' n' p' v;split at v
       ·cases v
       simp only[GC,EC]at v;obtain⟨_,rfl,rfl,rfl⟩:=v;rw[L6 S (Sb (by omega) (Or.inr (by omega)))];rfl
      rw[L6 G (Sb (by omega) (Or.inl j))];rfl
     rw[L6 K (Om u (Or.inl z))]
    rw[Sd K (by omega) _ _ _ (by omega)];have A:=Oo (show 0≤Ax g by omega);by_cases B:Ax i<0
    ·have H:∀r,Cv (C::e::g::i::r)=none:=fun r=>by simp[Cv,q,s,u,B]
     rw[H];by_cases j:i=61
     ·subst j;rw[On (by omega)];obtain⟨d,r,rfl⟩:=W;have S:=M d (by simp);unfold Ek;rw[AI (by omega)];split
      ·rfl
      rename_i o v' n' p' v;split at v
      ·cases v
      simp only[GC,EC]at v;obtain⟨_,rfl,rfl,rfl⟩:=v;rw[L6 S (Sb (by omega) (Or.inr (by omega)))];rfl
     rw[L6 G (Om B (Or.inl j))]
    have I:=Oo (show 0≤Ax i by omega);have T:=ih L (n+1+1+1+1) (by simp at J;omega) M (by omega);unfold Mm at T;rw[AI (by simpa using Z)]at T;have H:Cv (C::e::g::i::L.take (L.length-D7 L))=(Cv (L.take (L.length-D7 L))).map fun r=>An (Ax C).toNat++(An (Ax e).toNat++(An (Ax g).toNat++(An (Ax i).toNat++r))):=by
     simp[Cv,q,s,u,B,Function.comp_def]
    rw[H];conv=>lhs;unfold C6
    rw[Qd G,V9 (by omega)];simp only;generalize(Ax C).toNat=a at N⊢;generalize(Ax e).toNat=b at y⊢;generalize(Ax g).toNat=d at A⊢;generalize(Ax i).toNat=f at I⊢;unfold Ek;rw[AI (by omega),AI (by omega)];have Q:((((0*64+a)*64+b)*64+d)*64+f)/65536=a*4+b/16:=by omega
    have F:(((((0*64+a)*64+b)*64+d)*64+f)/256).toUInt8=(b%16*16+d/4).toUInt8:=by
     apply BJ.1;show(UInt8.ofNat _).toNat=(UInt8.ofNat _).toNat;rw[CO,CO];omega
    have R:((((0*64+a)*64+b)*64+d)*64+f).toUInt8=(d%4*64+f).toUInt8:=by
     apply BJ.1;show(UInt8.ofNat _).toNat=(UInt8.ofNat _).toNat;rw[CO,CO];omega
    rw[Q,F,R];simp only;rw[T];cases Cv (L.take (L.length-D7 L))with
    |none=>rfl
    |some r=>
     simp only[IC];rw[Z4 N y A I];simp only;split<;>rfl
theorem oZ(s:Bs):Mn s=Ef s:=by
 unfold Mn Ef;rw[V8,oY _ _ 0 (AC _) (fun c h=>by simpa using(DL.1 h).2) rfl]
end Go.Proofs.YtignjjnflcpiiaaGreatDoor
