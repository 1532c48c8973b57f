/- Whether a body may stand as it is, and where a text stand -/
import Derived.Test.YtignjjnflcpiiaaGreatDoorS12
import Derived.Test.YtignjjnflcpiiaaGreatDoorS15
set_option linter.all false
set_option maxHeartbeats 4000000
set_option maxRecDepth 100000
namespace Go.Proofs.YtignjjnflcpiiaaGreatDoor
open Go Go.RowKit Proofs.Tryz Lib
variable {a b:Int}{l s p:Bs}{i:Nat}
theorem Pa(h:(a !=b)=true):(a==b)=false:=by simpa[bne]using h
theorem Pb(h:(a !=b)=false):(a==b)=true:=by simpa[bne]using h
theorem uM(h:hasPrefix l [13,10]=true):∃r,l=13::10::r:=by
 unfold hasPrefix at h;rw[BR]at h;obtain⟨r,H⟩:=h;exact⟨r,by rw[←H];rfl⟩
theorem uN(c:UInt8):L8 c=(Bx c||c==9):=by
 unfold L8 Bx;rw[Bool.or_comm]
theorem uO(s:Bs)(w:World)(l:s.length≤1000000000000):Calls prog 216 #[.string ⟨s.toArray⟩] w fun e d=>e=.returned (.bool (F2 s))∧d=w:=by
 go_enter func216,ntmps216;go_wp2_with fail;go_loopw[3] (fun i wr=>∃k:Nat,i=.int .i64 k∧k≤s.length∧Hid (F2 (s.drop k)=F2 s)∧wr=w) (fun i _=>s.length-(intOf i).toNat)
 case atStart=>exact⟨0,rfl,by omega,AB (by simp),rfl⟩
 obtain⟨k,rfl,g,A,rfl⟩:=hrel;by_cases f:k<s.length
 ·have P:=Jc (s.drop k) [13,10] wr;have D:=AB (AE f);cases p:hasPrefix (s.drop k) [13,10]with
  |true=>
   rw[p]at P;obtain⟨r,b⟩:=uM p;have n:k+2≤s.length:=by
    have:=AF List.length b;simp at this;omega
   have H:=AB (show F2 (s.drop (k+2))=F2 s from by
    rw[←A.o,b,bY];have:s.drop (k+2)=(s.drop k).drop 2:=by rw[DW]
    rw[this,b];rfl)
   clear p b D;go_wp2_with fail;with_reducible refine P.mono ?_
   rintro e W⟨rfl,rfl⟩;go_wp2_with fail;go_roundw
   case rel=>exact⟨k+2,by go_num,by omega,H,by first|rfl|trivial⟩
   simp[intOf];omega
  |false=>
   rw[p]at P;have H:=AB (show F2 s=(L8 s[k]&&F2 (s.drop (k+1)))from by
    rw[←A.o,D.o,bZ (by rw[←D.o];exact p)])
   rw[uN]at H;clear p D;have I:=Jh (s[k].toNat:Int) 32 126 wr;rw[←Ni]at I;have a:=Ei s[k] 9;have j:(s[k].toNat:Int)<256:=by have:=s[k].toNat_lt;omega
   generalize Bx s[k]=q at I H;generalize(s[k]==9)=t at a H;have c:=AB a;clear a;cases q with
   |true=>
    have h:=AB (by rw[H.o];simp:F2 (s.drop (k+1))=F2 s);go_wp2_with fail;with_reducible refine P.mono ?_
    rintro e W⟨rfl,rfl⟩;go_wp2_with fail;with_reducible refine I.mono ?_
    rintro e W⟨rfl,rfl⟩;go_wp2_with fail;go_roundw
    case rel=>exact⟨k+1,by go_num,by omega,h,by first|rfl|trivial⟩
    simp[intOf];omega
   |false=>
    cases t with
    |true=>
     have h:=AB (by rw[H.o];simp:F2 (s.drop (k+1))=F2 s);have a:(s[k].toNat:Int)=9:=by have:=c.o;simpa using this.symm
     rw[a]at I;go_wp2_with fail;with_reducible refine P.mono ?_
     rintro e W⟨rfl,rfl⟩;go_wp2_with fail;with_reducible refine I.mono ?_
     rintro e W⟨rfl,rfl⟩;go_wp2_with fail;go_roundw
     case rel=>exact⟨k+1,by go_num,by omega,h,by first|rfl|trivial⟩
     simp[intOf];omega
    |false=>
     have h:=AB (by rw[H.o];simp:F2 s=false);have a:¬(s[k].toNat:Int)=9:=by have:=c.o;simpa using this.symm
     go_wp2_with fail;with_reducible refine P.mono ?_
     rintro e W⟨rfl,rfl⟩;go_wp2_with fail;with_reducible refine I.mono ?_
     rintro e W⟨rfl,rfl⟩;go_wp2_with fail;go_ret;exact⟨Ba h.o.symm,rfl⟩
 obtain rfl:k=s.length:=by omega
 have h:=AB (by rw[←A.o,AQ];rfl:F2 s=true);go_wp2_with fail;go_ret;exact⟨Ba h.o.symm,rfl⟩
def D4(s p:Bs)(i:Nat):Nat:=if index (s.drop i) p<0 then s.length else i+(index (s.drop i) p).toNat
theorem uP(h:hasPrefix (s.drop i) p=true):D4 s p i=i:=by
 have:index (s.drop i) p=0:=by
  cases H:s.drop i with
  |nil=>
   rw[H]at h;unfold hasPrefix at h;cases p with
   |nil=>rfl
   |cons c p=>simp at h
  |cons c l=>
   rw[H]at h;unfold hasPrefix at h;unfold index;rw[AM h]
 unfold D4;rw[this];simp
theorem uQ(a:i<s.length)(h:hasPrefix (s.drop i) p=false):D4 s p i=D4 s p (i+1):=by
 have e:index (s.drop i) p=if index (s.drop (i+1)) p==-1 then-1 else index (s.drop (i+1)) p+1:=by
  rw[AE a]at h⊢;unfold hasPrefix at h;conv=>lhs;unfold index
  rw[AI (by rw[h];decide)]
 unfold D4;rw[e];rcases Lp (s.drop (i+1)) p with H|⟨d,_⟩
 ·have:index (s.drop (i+1)) p=-1:=by
   rw[He]at H⊢;cases c:Ab p (s.drop (i+1))with
   |none=>rfl
   |some x=>rw[c]at H;simp at H;omega
  rw[this];simp
 have b:(index (s.drop (i+1)) p==-1)=false:=by rw[AG];omega
 rw[b];simp only[BU,DJ];rw[AI (by omega),AI (by omega)];omega
theorem uR(H:p≠[])(h:s.length≤i):D4 s p i=s.length:=by
 unfold D4;rw[BK h];have:index [] p=-1:=by
  cases p with
  |nil=>exact absurd rfl H
  |cons c p=>rfl
 rw[this];rfl
theorem T4(s p:Bs)(i:Nat)(H:i≤s.length):i≤D4 s p i∧D4 s p i≤s.length:=by
 unfold D4;rcases Lp (s.drop i) p with h|⟨b,a⟩
 ·rw[AM h];exact⟨H,AC _⟩
 rw[AI (by omega)];simp at a;omega
theorem Wn(s p:Bs)(i:Nat)(w:World)(l:s.length≤1000000000000)(a:i≤1000000000002)(h:p≠[]):Calls prog 123 #[.string ⟨s.toArray⟩,.string ⟨p.toArray⟩,.int .i64 (i:Int)] w fun e W=>e=.returned (.int .i64 (D4 s p i:Int))∧W=w:=by
 have b:=AB h;clear h;go_enter func123,ntmps123;go_wp2_with fail;go_loopw[2] (fun x wr=>∃k:Nat,x=.int .i64 k∧k≤1000000000002∧Hid (D4 s p k=D4 s p i)∧wr=w) (fun x _=>s.length-(intOf x).toNat)
 case atStart=>exact⟨i,rfl,a,AB rfl,rfl⟩
 obtain⟨k,rfl,d,F,rfl⟩:=hrel;by_cases t:k<s.length
 ·have P:=Jc (s.drop k) p wr;cases h:hasPrefix (s.drop k) p with
  |true=>
   rw[h]at P;have H:=AB (by rw[←F.o,uP h]:D4 s p i=k);clear h;go_wp2_with fail;with_reducible refine P.mono ?_
   rintro e c⟨rfl,rfl⟩;go_wp2_with fail;go_ret;exact⟨by rw[H.o];rfl,rfl⟩
  |false=>
   rw[h]at P;have H:=AB (by rw[←F.o,uQ t h]:D4 s p (k+1)=D4 s p i);clear h;go_wp2_with fail;with_reducible refine P.mono ?_
   rintro e c⟨rfl,rfl⟩;go_wp2_with fail;go_roundw
   case rel=>exact⟨k+1,by go_num,by omega,H,by first|rfl|trivial⟩
   simp[intOf];omega
 have f:¬(k:Int)<s.length:=by omega
 have H:=AB (by rw[←F.o,uR b.o (by omega)]:D4 s p i=s.length);go_wp2_with fail;go_ret;exact⟨by rw[H.o];rfl,rfl⟩
theorem cX(c:UInt8):Gj c=((decide (33≤(c.toNat:Int))&&decide ((c.toNat:Int)≤126))&&!((c.toNat:Int)==61)):=by
 have h:((List.range 256).all fun n=>Gj n.toUInt8==((decide ((33:Int)≤(n.toUInt8.toNat:Int))&&decide ((n.toUInt8.toNat:Int)≤126))&&!((n.toUInt8.toNat:Int)==61)))=true:=by kernel_rfl
 have:=AW.1 h c.toNat (BY.2 c.toNat_lt);rw[show c.toNat.toUInt8=c by simp]at this;exact BG.1 this
def Pc(c:UInt8)(l:Bool):Bool:=((c.toNat:Int)==32||(c.toNat:Int)==9)&&!l
theorem uS(c:UInt8)(l:Bool):Fg c l=if !(Gj c)&&!(Pc c l)then[61,N5 (c.toNat/16),N5 (c.toNat%16)]else[c]:=by
 have e:Pc c l=((c==32||c==9)&&!l):=by unfold Pc;rw[Ei c 32,Ei c 9];rfl
 unfold Fg;rw[e];cases Gj c<;>cases((c==32||c==9)&&!l)<;>rfl
theorem uT(b:Bs)(w:World)(hl:b.length≤1000000000000):Calls prog 158 #[.string ⟨b.toArray⟩] w fun e w'=>e=.returned (.string ⟨(Fh b).toArray⟩)∧Below w.heap.size w w':=by
 go_enter func158,ntmps158;go_wp2_with fail;go_loopw[3,4,13] (fun o n i wr=>∃(k:Nat)(O l:Bs),i=.int .i64 k∧k≤b.length∧o=.string ⟨O.toArray⟩∧n=.string ⟨l.toArray⟩∧l.length≤100∧O.length+l.length≤6*k∧Hid (O++(l++Fz (b.drop k) l.length)=Fh b)∧Below w.heap.size w wr) (fun _ _ i _=>b.length-(intOf i).toNat)
 case atStart=>exact⟨0,[],[],rfl,by omega,rfl,rfl,by decide,by simp,AB rfl,AD _ _⟩
 obtain⟨k,O,l,rfl,hk,rfl,rfl,a8,a9,u,B⟩:=hrel;by_cases a0:k<b.length
 ·have y:=AB (Qb a0);have z:((k:Int)==(b.length:Int)-1)=(b.drop (k+1)).isEmpty:=by
   by_cases h:k+1=b.length
   ·rw[show(b.drop (k+1))=[]from GL.2 (by omega),BG.2 (by omega)];rfl
   have h1:((k:Int)==(b.length:Int)-1)=false:=by rw[AG];omega
   rw[h1];symm;simp;omega
  generalize F:b.drop (k+1)=r at z y;have Hr:=AB F;clear F;have a:=AB (by rw[←y.o];exact u.o:O++(l++Fz (b[k]::r) l.length)=Fh b);have hc:(b[k].toNat:Int)<256:=by have:=b[k].toNat_lt;omega
  have G:wrap64 ((b.length:Int)-1)=(b.length:Int)-1:=by unfold wrap64;omega
  clear y u;go_upto_region 6 with fail;go_cut[7] (fun t W=>t=.bool r.isEmpty∧W=wr)
  case first=>
   go_wp2_with fail;go_meet;exact⟨by rw[←z],rfl⟩
  case rest=>
  obtain⟨rfl,H⟩:=hcut;obtain rfl:=H.symm;clear H z;generalize J:r.isEmpty=L;have a1:=AB J;clear J;go_upto_region 8 with fail;generalize b[k]=c at hc a⊢;have B:=B.alloc B.size (.cells #[.int .u8 (c.toNat:Int)] 5);generalize G:wr.alloc (.cells #[.int .u8 (c.toNat:Int)] 5)=w1 at B⊢;clear G;go_cut[9] (fun t W=>t=.bool (Pc c L)∧W=w1)
  case first=>
   have A:=AB (by rfl:Pc c L=(((c.toNat:Int)==32||(c.toNat:Int)==9)&&!L));by_cases d:((c.toNat:Int)==32)=true
   ·go_wp2_with fail;go_meet;exact⟨by rw[A.o,d];rfl,rfl⟩
   have d:=AP.2 d;by_cases j:((c.toNat:Int)==9)=true
   ·go_wp2_with fail;go_meet;exact⟨by rw[A.o,d,j];rfl,rfl⟩
   have j:=AP.2 j;go_wp2_with fail;go_meet;exact⟨by rw[A.o,d,j];rfl,rfl⟩
  case rest=>
  obtain⟨rfl,H⟩:=hcut;obtain rfl:=H.symm;clear H;have Q:=AB (uS c L);have a2:=Ui c L;generalize Pc c L=K at Q⊢;have I:=Jh (c.toNat:Int) 33 126 w1;have f:=AB (cX c);go_upto_region 9 with fail;go_cut[48] (fun t W=>t=.bool (!(Gj c)&&!K)∧W=w1)
  case first=>
   generalize(decide (33≤(c.toNat:Int))&&decide ((c.toNat:Int)≤126))=q at I f;cases q with
   |false=>
    go_wp2_with fail;with_reducible refine I.mono ?_
    rintro e m⟨rfl,rfl⟩;go_wp2_with fail;go_meet;exact⟨by rw[f.o];rfl,rfl⟩
   |true=>
    cases M:((c.toNat:Int)!=61)with
    |false=>
     have C:=AB (Pb M);go_wp2_with fail;with_reducible refine I.mono ?_
     rintro e m⟨rfl,rfl⟩;go_wp2_with fail;go_meet;exact⟨by rw[f.o,C.o];rfl,rfl⟩
    |true=>
     have C:=AB (Pa M);go_wp2_with fail;with_reducible refine I.mono ?_
     rintro e m⟨rfl,rfl⟩;go_wp2_with fail;go_meet;exact⟨by rw[f.o,C.o];rfl,rfl⟩
  case rest=>
  obtain⟨rfl,H⟩:=hcut;obtain rfl:=H.symm;clear H I f;generalize(!(Gj c)&&!K)=a3 at Q⊢;generalize N:Fg c L=p at Q a2;have a4:=AB N;clear N;go_upto_if 48 with fail;go_cut[8] (fun s W=>s=.string ⟨p.toArray⟩∧Below w.heap.size w W)
  case first=>
   cases a3 with
   |false=>
    go_wp2_with fail;go_meet;exact⟨by rw[Q.o];rfl,B⟩
   |true=>
    have P:c.toNat/16<16:=by omega
    have S:c.toNat%16<16:=by omega
    have q1:(c.toNat:Int)/16=((c.toNat/16:Nat):Int):=by omega
    have q2:(c.toNat:Int)%16=((c.toNat%16:Nat):Int):=by omega
    have T:=AB (S9 (c.toNat/16) P);have U:=AB (S9 (c.toNat%16) S);have a5:((c.toNat/16:Nat):Int)<16:=by omega
    have a6:((c.toNat%16:Nat):Int)<16:=by omega
    generalize c.toNat/16=n1 at P q1 T Q a5;generalize c.toNat%16=n2 at S q2 U Q a6;go_wp2_with fail;go_region;all_goals
     go_wp2_with fail;go_meet;exact⟨by rw[Q.o,←T.o,←U.o];rfl,(B.alloc B.size _).drew⟩
  case rest=>
  obtain⟨rfl,V⟩:=hcut;obtain⟨m,rfl⟩:∃x:World,x=wc:=⟨_,rfl⟩;clear B Q;have g:=AB (show Fz (c::r) l.length=(if l.length+p.length>(if L then 76 else 75)then[61,13,10]++p++Fz r p.length else p++Fz r (l.length+p.length))from by
   rw[←a4.o,←a1.o];rfl)
  have X:=AB (show b.drop (k+1)=r from Hr.o);have Y:∃R:Nat,R≤76∧Hid ((if L then 76 else 75)=R):=⟨if L then 76 else 75,by split<;>omega,AB rfl⟩;obtain⟨R,Y,D⟩:=Y;rw[D.o]at g;go_upto_region 11 with fail;go_upto_if 58 with fail;go_cut[10] (fun v W=>v=.int .i64 R∧W=m)
  case first=>
   cases L with
   |false=>
    have e:R=75:=D.o.symm;subst e;go_wp2_with fail;go_meet;exact⟨rfl,rfl⟩
   |true=>
    have e:R=76:=D.o.symm;subst e;go_wp2_with fail;go_meet;exact⟨rfl,rfl⟩
  case rest=>
  obtain⟨rfl,H⟩:=hcut;obtain rfl:=H.symm;clear H;by_cases Z:R<l.length+p.length
  ·have E:=AB (show(O++(l++[61,13,10]))++(p++Fz r p.length)=Fh b from by
    rw[←a.o,g.o,AM Z];simp)
   clear a g;have a7:(R:Int)<(l.length:Int)+(p.length:Int):=by omega
   go_wp2_with fail;go_roundw
   case rel=>exact⟨k+1,O++(l++[61,13,10]),p,by go_num,by omega,by simp,rfl,by omega,by simp;omega,AB (by rw[X.o,E.o]),V⟩
   simp[intOf];omega
  have E:=AB (show O++((l++p)++Fz r (l++p).length)=Fh b from by
   rw[←a.o,g.o,AI Z];simp)
  clear a g;have a7:(l.length:Int)+(p.length:Int)≤(R:Int):=by omega
  go_wp2_with fail;go_roundw
  case rel=>exact⟨k+1,O,l++p,by go_num,by omega,rfl,by simp,by simp;omega,by simp;omega,AB (by rw[X.o,E.o]),V⟩
  simp[intOf];omega
 obtain rfl:k=b.length:=by omega
 have HD:=AB (by rw[←u.o];simp[Fz]:O++l=Fh b);go_wp2_with fail;go_ret;exact⟨by rw[←HD.o];simp,B⟩
end Go.Proofs.YtignjjnflcpiiaaGreatDoor
