/- Bytes packed by bits, by the document's answer: the progr -/
import Derived.Test.YtignjjnflcpiiaaGreatDoorS17
set_option linter.all false
set_option maxHeartbeats 8000000
set_option maxRecDepth 100000
namespace Go.Proofs.YtignjjnflcpiiaaGreatDoor
open Go Go.RowKit Proofs.Tryz Lib
theorem vE:((List.range 64).all fun n=>(Bp n).toNat==(if n<26 then 65+n else if n<52 then 97+n-26 else if n<62 then 48+n-52 else if n=62 then 43 else 47))=true:=by kernel_rfl
variable {n k:Nat}{b l:Bs}
theorem vF(h:n<64):(Bp n).toNat=(if n<26 then 65+n else if n<52 then 97+n-26 else if n<62 then 48+n-52 else if n=62 then 43 else 47):=BG.1 (AW.1 vE n (BY.2 h))
theorem dA(n:Nat)(w:World)(h:n<64):Calls prog 245 #[.int .i64 (n:Int)] w fun e W=>e=.returned (.int .u8 ((Bp n).toNat:Int))∧W=w:=by
 have H:=AB (vF h);go_enter func245,ntmps245;by_cases a:n<26
 ·have H:=AB (by rw[H.o,AM a];omega:((Bp n).toNat:Int)=65+n)
  go_wp2
  go_ret;exact⟨Es (by rw[H.o]<;>omega),rfl⟩
 by_cases b:n<52
 ·have H:=AB (by rw[H.o,AI a,AM b];omega:((Bp n).toNat:Int)=97+n-26)
  go_wp2
  go_ret;exact⟨Es (by rw[H.o]<;>omega),rfl⟩
 by_cases c:n<62
 ·have H:=AB (by rw[H.o,AI a,AI b,AM c];omega:((Bp n).toNat:Int)=48+n-52)
  go_wp2
  go_ret;exact⟨Es (by rw[H.o]<;>omega),rfl⟩
 by_cases d:n=62
 ·subst d
  go_wp2
  go_ret;exact⟨rfl,rfl⟩
 obtain rfl:n=63:=by omega
 go_wp2
 go_ret;exact⟨rfl,rfl⟩
def Ld(n:Nat):List Value:=[.int .i64 (n:Int)]
theorem Pd(n:Nat):(Ld n).length=1:=rfl
theorem vG(n:Nat):∀u∈Ld n,u.oneCell'=true:=fun u h=>by simp[Ld]at h;rw[h];rfl
theorem vH:(prog.info? 3).map (fun i=>(i.zero,i.size,i.bytes))=some (some (.int .i64 0),1,8):=by kernel_rfl
abbrev Kr(w:World)(B:Nat)(v:Value)(l:List Nat):Prop:=A0 3 1 Ld w B v l
theorem Eb(w:World)(x:Nat)(t:TypeId):∀j u,([x].flatMap Ld)[j]?=some u→(w.alloc (.cells #[.int .i64 (x:Int)] t)).cell? ((⟨w.heap.size,0,none⟩:Go.Addr).add j)=some u:=fun j u h=>by
 rw[Dz,(A1.new w #[.int .i64 (x:Int)] t).cell]
 match j,h with
 |0,h=>exact h
 |j+1,h=>simp[Ld]at h
theorem J3{Q:Exit→Act→World→Prop}{O:Array Oper}{rest:List Oper}{o:Oper}{a:Act}{w:World}(H:o.guard=none)(s x:Operand)
  (d:o.op=.call {callee:=.builtin .append,args:=#[s,x],argTypes:=#[301,301]}) (B:Nat) (v:Value) (xs:List Nat) (y:Nat) (b c:Nat)
  (e:a.eval s=v) (n:Kr w B v xs) (f:a.eval x=.slice (some ⟨b,0,none⟩) 1 c) (g:∀j u,([y].flatMap Ld)[j]?=some u→w.cell? ((⟨b,0,none⟩:Go.Addr).add j)=some u) (k:xs.length+1≤1000000000001) (i:B≤w.heap.size)
  (h:∀V W,Kr W B V (xs++[y])→w.grownBy W v.ownBlock→Below B w W→wpList prog O Q rest (a.put o.dst V) W):wpList prog O Q (o::rest) a w:=
 Mk (α:=Nat) (cs:=Ld) (size:=1) (z:=.int .i64 0) Pd vG vH rfl (by decide) underlying301 H s x d B v xs [y] ⟨b,0,none⟩ 1 c rfl e n f g (by simp;omega) (by unfold maxLen;simp;omega) i h
theorem vI(b o j:Nat):(⟨b,o,none⟩:Go.Addr).add j=⟨b,o+j,none⟩:=by
 unfold Go.Addr.add;cases j<;>rfl
theorem J4(x:Int)(h:0≤x)(H:x<1099511627776):Go.bits .and .i64 x 1=x%2:=S7 1 (by decide) x h (by omega)
def En(c:UInt8)(m:Nat):Nat:=c.toNat/2^(7-m)%2
theorem vJ(c:UInt8)(m:Nat)(h:m<8):(Am c).take (m+1)=(Am c).take m++[En c m]:=by
 have:m=0∨m=1∨m=2∨m=3∨m=4∨m=5∨m=6∨m=7:=by omega
 rcases this with rfl|rfl|rfl|rfl|rfl|rfl|rfl|rfl<;>simp[Am,En]
theorem vK(h:k<b.length):Ez (b.take (k+1))=Ez (b.take k)++Am b[k]:=by
 unfold Ez;rw[AU h,CR];simp
theorem dB(b:Bs):(Ez b).length=8*b.length:=by
 unfold Ez;induction b with
 |nil=>rfl
 |cons c b ih=>rw[BT,AH,ih];simp[Am];omega
theorem vL(b:Bs):∀x∈Ez b,x≤1:=by
 intro x h;unfold Ez at h;obtain⟨c,_,H⟩:=FD.1 h;simp[Am]at H;omega
theorem vM(l:List Nat)(m:Nat)(h:m<6):(F0 l).take (m+1)=(F0 l).take m++[l.getD m 0]:=by
 have a:m<(F0 l).length:=by unfold F0;simp;omega
 rw[AU a];congr 2;apply CS;rw[←AZ];unfold F0;rw[EA,AM h];by_cases H:m<l.length
 ·rw[GW H,AK];simp[H]
 rw[List.getElem?_append_right (by omega),AK,CW (show l.length≤m by omega)];have:m-l.length=0∨m-l.length=1∨m-l.length=2∨m-l.length=3∨m-l.length=4∨m-l.length=5:=by omega
 rcases this with h|h|h|h|h|h<;>simp[h]
theorem dC:∀(k:Nat)(l:List Nat),(Lq k l).length≤k
 |0,_=>AC _
 |k+1,l=>by
  unfold Lq;split
  ·simp
  have:=dC k (l.drop 6);simp;omega
theorem dD(x:List Nat)(b:Nat):C8 (x++[b])=C8 x*2+b:=by unfold C8;rw[List.foldl_append];rfl
theorem vN(h:l.length%4≠0):G5 (l++[61])=G5 l:=by
 unfold G5;rw[AH,AJ];congr 1;simp only[AO,BN];have:l.length%4=1∨l.length%4=2∨l.length%4=3:=by omega
 rcases this with H|H|H
 ·have e:(4-(l.length+(0+1))%4)%4=2:=by omega
  have E:(4-l.length%4)%4=3:=by omega
  rw[e,E];rfl
 ·have e:(4-(l.length+(0+1))%4)%4=1:=by omega
  have E:(4-l.length%4)%4=2:=by omega
  rw[e,E];rfl
 have e:(4-(l.length+(0+1))%4)%4=0:=by omega
 have E:(4-l.length%4)%4=1:=by omega
 rw[e,E];rfl
theorem vO(h:l.length%4=0):G5 l=l:=by
 unfold G5;rw[h];simp
theorem vP(b:Bs)(w:World)(hl:b.length≤100000000):Calls prog 157 #[.string ⟨b.toArray⟩] w fun e w'=>e=.returned (.string ⟨(Ew b).toArray⟩)∧Below w.heap.size w w':=by
 rw[←oT];have C:=AB (by rfl:Ml b=Kh (G5 (G4 (Ez b))));have a9:=AB (dB b);have a3:=AB (vL b);go_enter func157,ntmps157;go_upto_block 0 with fail;go_cut[3] (fun v f=>Kr f w.heap.size v (Ez b)∧Below w.heap.size w f)
 case first=>
  go_wp2_with fail;go_loopw[3,14] (fun v i wr=>∃k:Nat,i=.int .i64 k∧k≤b.length∧Kr wr w.heap.size v (Ez (b.take k))∧Below w.heap.size w wr) (fun _ i _=>b.length-(intOf i).toNat)
  case atStart=>exact⟨0,rfl,by omega,A0.nil _ _ _ _ _,AD _ _⟩
  obtain⟨k,rfl,hk,c,B⟩:=hrel;by_cases R:k<b.length
  ·have HT:=AB (vK R);have b0:(Ez (b.take k)).length=8*k:=by rw[dB];simp;omega
   have f0:(b[k].toNat:Int)<256:=by have:=b[k].toNat_lt;omega
   generalize Ez (b.take k)=D at c HT b0;go_wp2_with fail;go_loopw[3,5] (fun v x f=>∃m:Nat,x=.int .i64 (7-(m:Int))∧m≤8∧Kr f w.heap.size v (D++(Am b[k]).take m)∧Below w.heap.size w f) (fun _ x _=>(intOf x+1).toNat)
   case atStart=>exact⟨0,rfl,by omega,by simpa using c,B⟩
   clear c B;obtain⟨m,rfl,hm,c,B⟩:=hrel;by_cases c8:m<8
   ·have M:=AB (vJ b[k] m c8);have f1:(D++(Am b[k]).take m).length≤8*k+8:=by simp[Am,b0];omega
    have f2:(0:Int)≤(b[k].toNat:Int):=by omega
    have:m=0∨m=1∨m=2∨m=3∨m=4∨m=5∨m=6∨m=7:=by omega
    rcases this with rfl|rfl|rfl|rfl|rfl|rfl|rfl|rfl
    ·have z:Go.bits .and .i64 ((b[k].toNat:Int)/128) 1=((En b[k] 0:Nat):Int):=by
      rw[J4 _ (by omega) (by omega)];show _=((b[k].toNat/128%2:Nat):Int);omega
     go_wp2_with(at_builtin;refine J3 rfl _ _ rfl w.heap.size _ (D++(Am b[k]).take 0) (En b[k] 0) wr.heap.size 1 rfl (A0.alloc c _) rfl (by first|exact Eb _ _ _|(rw[z];exact Eb _ _ _)) (by omega) (by have:=B.size;simp;omega) ?_;intro V u a q H);rw[AJ,←M.o]at a;have d:=(B.alloc B.size (.cells #[.int .i64 (En b[k] 0:Int)] 3)).trans H;clear q H;go_wp2_with fail;go_roundw
     case rel=>exact⟨1,by go_num,by omega,a,d⟩
     simp[intOf];try omega
    ·have z:Go.bits .and .i64 ((b[k].toNat:Int)/64) 1=((En b[k] 1:Nat):Int):=by
      rw[J4 _ (by omega) (by omega)];show _=((b[k].toNat/64%2:Nat):Int);omega
     go_wp2_with(at_builtin;refine J3 rfl _ _ rfl w.heap.size _ (D++(Am b[k]).take 1) (En b[k] 1) wr.heap.size 1 rfl (A0.alloc c _) rfl (by first|exact Eb _ _ _|(rw[z];exact Eb _ _ _)) (by omega) (by have:=B.size;simp;omega) ?_;intro V u a q H);rw[AJ,←M.o]at a;have d:=(B.alloc B.size (.cells #[.int .i64 (En b[k] 1:Int)] 3)).trans H;clear q H;go_wp2_with fail;go_roundw
     case rel=>exact⟨2,by go_num,by omega,a,d⟩
     simp[intOf];try omega
    ·have z:Go.bits .and .i64 ((b[k].toNat:Int)/32) 1=((En b[k] 2:Nat):Int):=by
      rw[J4 _ (by omega) (by omega)];show _=((b[k].toNat/32%2:Nat):Int);omega
     go_wp2_with(at_builtin;refine J3 rfl _ _ rfl w.heap.size _ (D++(Am b[k]).take 2) (En b[k] 2) wr.heap.size 1 rfl (A0.alloc c _) rfl (by first|exact Eb _ _ _|(rw[z];exact Eb _ _ _)) (by omega) (by have:=B.size;simp;omega) ?_;intro V u a q H);rw[AJ,←M.o]at a;have d:=(B.alloc B.size (.cells #[.int .i64 (En b[k] 2:Int)] 3)).trans H;clear q H;go_wp2_with fail;go_roundw
     case rel=>exact⟨3,by go_num,by omega,a,d⟩
     simp[intOf];try omega
    ·have z:Go.bits .and .i64 ((b[k].toNat:Int)/16) 1=((En b[k] 3:Nat):Int):=by
      rw[J4 _ (by omega) (by omega)];show _=((b[k].toNat/16%2:Nat):Int);omega
     go_wp2_with(at_builtin;refine J3 rfl _ _ rfl w.heap.size _ (D++(Am b[k]).take 3) (En b[k] 3) wr.heap.size 1 rfl (A0.alloc c _) rfl (by first|exact Eb _ _ _|(rw[z];exact Eb _ _ _)) (by omega) (by have:=B.size;simp;omega) ?_;intro V u a q H);rw[AJ,←M.o]at a;have d:=(B.alloc B.size (.cells #[.int .i64 (En b[k] 3:Int)] 3)).trans H;clear q H;go_wp2_with fail;go_roundw
     case rel=>exact⟨4,by go_num,by omega,a,d⟩
     simp[intOf];try omega
    ·have z:Go.bits .and .i64 ((b[k].toNat:Int)/8) 1=((En b[k] 4:Nat):Int):=by
      rw[J4 _ (by omega) (by omega)];show _=((b[k].toNat/8%2:Nat):Int);omega
     go_wp2_with(at_builtin;refine J3 rfl _ _ rfl w.heap.size _ (D++(Am b[k]).take 4) (En b[k] 4) wr.heap.size 1 rfl (A0.alloc c _) rfl (by first|exact Eb _ _ _|(rw[z];exact Eb _ _ _)) (by omega) (by have:=B.size;simp;omega) ?_;intro V u a q H);rw[AJ,←M.o]at a;have d:=(B.alloc B.size (.cells #[.int .i64 (En b[k] 4:Int)] 3)).trans H;clear q H;go_wp2_with fail;go_roundw
     case rel=>exact⟨5,by go_num,by omega,a,d⟩
     simp[intOf];try omega
    ·have z:Go.bits .and .i64 ((b[k].toNat:Int)/4) 1=((En b[k] 5:Nat):Int):=by
      rw[J4 _ (by omega) (by omega)];show _=((b[k].toNat/4%2:Nat):Int);omega
     go_wp2_with(at_builtin;refine J3 rfl _ _ rfl w.heap.size _ (D++(Am b[k]).take 5) (En b[k] 5) wr.heap.size 1 rfl (A0.alloc c _) rfl (by first|exact Eb _ _ _|(rw[z];exact Eb _ _ _)) (by omega) (by have:=B.size;simp;omega) ?_;intro V u a q H);rw[AJ,←M.o]at a;have d:=(B.alloc B.size (.cells #[.int .i64 (En b[k] 5:Int)] 3)).trans H;clear q H;go_wp2_with fail;go_roundw
     case rel=>exact⟨6,by go_num,by omega,a,d⟩
     simp[intOf];try omega
    ·have z:Go.bits .and .i64 ((b[k].toNat:Int)/2) 1=((En b[k] 6:Nat):Int):=by
      rw[J4 _ (by omega) (by omega)];show _=((b[k].toNat/2%2:Nat):Int);omega
     go_wp2_with(at_builtin;refine J3 rfl _ _ rfl w.heap.size _ (D++(Am b[k]).take 6) (En b[k] 6) wr.heap.size 1 rfl (A0.alloc c _) rfl (by first|exact Eb _ _ _|(rw[z];exact Eb _ _ _)) (by omega) (by have:=B.size;simp;omega) ?_;intro V u a q H);rw[AJ,←M.o]at a;have d:=(B.alloc B.size (.cells #[.int .i64 (En b[k] 6:Int)] 3)).trans H;clear q H;go_wp2_with fail;go_roundw
     case rel=>exact⟨7,by go_num,by omega,a,d⟩
     simp[intOf];try omega
    have z:Go.bits .and .i64 (b[k].toNat:Int) 1=((En b[k] 7:Nat):Int):=by
     rw[J4 _ (by omega) (by omega)];show _=((b[k].toNat/1%2:Nat):Int);omega
    go_wp2_with(at_builtin;refine J3 rfl _ _ rfl w.heap.size _ (D++(Am b[k]).take 7) (En b[k] 7) wr.heap.size 1 rfl (A0.alloc c _) rfl (by first|exact Eb _ _ _|(rw[z];exact Eb _ _ _)) (by omega) (by have:=B.size;simp;omega) ?_;intro V u a q H);rw[AJ,←M.o]at a;have d:=(B.alloc B.size (.cells #[.int .i64 (En b[k] 7:Int)] 3)).trans H;clear q H;go_wp2_with fail;go_roundw
    case rel=>exact⟨8,by go_num,by omega,a,d⟩
    simp[intOf];try omega
   obtain rfl:m=8:=by omega
   have M:=AB (by rw[HT.o];rfl:D++(Am b[k]).take 8=Ez (b.take (k+1)));rw[M.o]at c;go_wp2_with fail;go_roundw
   case rel=>exact⟨k+1,by go_num,by omega,c,B⟩
   simp[intOf];omega
  obtain rfl:k=b.length:=by omega
  rw[CH (AC _)]at c;go_wp2_with fail;go_meet;exact⟨c,B⟩
 case rest=>
 obtain⟨a4,B⟩:=hcut;obtain⟨r,rfl⟩:∃x:World,x=wc:=⟨_,rfl⟩;have c9:(Ez b).length≤800000000:=by have:=a9.o;omega
 generalize Ez b=s at a4 C a3 c9;obtain⟨ba,f3,d0,b1⟩:=A0.rd (by decide) Pd a4;subst d0;have b2:=AB b1;have d1:=B.size;clear b1 a4 a9;go_upto_block 4 with fail;go_cut[6] (fun v f=>Cs f r.heap.size v (G4 s)∧Below r.heap.size r f)
 case first=>
  go_wp2_with fail;go_loopw[6,7] (fun v x wr=>∃(k:Nat)(O:Bs),x=.int .i64 k∧k≤s.length+6∧O.length≤k∧Cs wr r.heap.size v O∧Hid (O++G4 (s.drop k)=G4 s)∧Below r.heap.size r wr) (fun _ x _=>s.length-(intOf x).toNat)
  case atStart=>exact⟨0,[],rfl,by omega,by simp,A0.nil _ _ _ _ _,AB (by simp),AD _ _⟩
  obtain⟨k,O,rfl,hk,b3,c,G,A⟩:=hrel;by_cases R:k<s.length
  ·have J:s.drop k≠[]:=fun h=>by have:=AF List.length h;simp at this;omega
   have HS:=AB (fun m hm=>vM (s.drop k) m hm);have HC:=AB (L4 J);have b4:F0 (s.drop k)=(F0 (s.drop k)).take 6:=by unfold F0;rw[GQ];rfl
   have b5:=AB b4;have b6:=AB (show∀m,(s.drop k).getD m 0≤1 from fun m=>by
    by_cases h:m<(s.drop k).length
    ·rw[AK,AZ h];exact a3.o _ (IK (AN h))
    rw[AK,CW (by omega)];simp)
   have b7:=AB (show∀m,(s.drop k).getD m 0=s.getD (k+m) 0 from fun m=>by
    rw[AK,AK,GS])
   clear J b4;go_wp2_with fail;go_loopw[8,38] (fun n y f=>∃m:Nat,y=.int .i64 (m:Int)∧m≤6∧n=.int .i64 (C8 ((F0 (s.drop k)).take m):Int)∧C8 ((F0 (s.drop k)).take m)<2^m∧f=wr) (fun _ y _=>6-(intOf y).toNat)
   case atStart=>exact⟨0,rfl,by omega,rfl,by show C8 ([]:List Nat)<1;decide,rfl⟩
   obtain⟨m,rfl,hm,rfl,S,rfl⟩:=hrel;by_cases d2:m<6
   ·have M:=AB (by rw[HS.o m d2,dD]:C8 ((F0 (s.drop k)).take (m+1))=C8 ((F0 (s.drop k)).take m)*2+(s.drop k).getD m 0);have E:=b6.o m;have hg:=b7.o m;have d3:C8 ((F0 (s.drop k)).take m)<64:=CG S (by
     have:m=0∨m=1∨m=2∨m=3∨m=4∨m=5:=by omega
     rcases this with rfl|rfl|rfl|rfl|rfl|rfl<;>decide)
    have hp:2^(m+1)=2*2^m:=by rw[IA];omega
    have b8:=AB (by rw[M.o,hp];omega:C8 ((F0 (s.drop k)).take (m+1))<2^(m+1));rw[hg]at M E;clear hg hp;generalize C8 ((F0 (s.drop k)).take m)=n at M d3 S⊢;by_cases b9:k+m<s.length
    ·obtain⟨g,rfl,d4,d5⟩:=b2.o (by omega);have d6:wr.cell? ⟨g,k+m,none⟩=some (.int .i64 (s[k+m]:Int)):=by
      have h:=(A.cell (p:=⟨g,k+m,none⟩) d4).trans (d5 (k+m) (by omega));rw[h];have U:=Kg (cs:=Ld) Pd s (k+m) b9 0 (by decide);rw[IJ,BI]at U;rw[U];rfl
     have N:s.getD (k+m) 0=s[k+m]:=by rw[AK];simp[b9]
     rw[N]at M E;have c0:(k:Int)+(m:Int)<(s.length:Int):=by omega
     have HV:=AB (by omega:((n:Int)*2+(s[k+m]:Int))=((n*2+s[k+m]:Nat):Int));generalize s[k+m]=f4 at d6 E M HV;have i0:(0:Int)≤(k:Int)+(m:Int):=by omega
     have z1:((k:Int)+(m:Int)).toNat=k+m:=by omega
     clear N;go_wp2_with fail;go_roundw
     case rel=>exact⟨m+1,by go_num,by omega,by rw[M.o];first|rw[HV.o]|(congr 1;exact HV.o),b8.o,by first|rfl|trivial⟩
     simp[intOf];omega
    have N:s.getD (k+m) 0=0:=by rw[AK,CW (by omega)];rfl
    rw[N]at M;have c0:¬(k:Int)+(m:Int)<(s.length:Int):=by omega
    clear N E;go_wp2_with fail;go_roundw
    case rel=>exact⟨m+1,by go_num,by omega,by rw[M.o]<;>(congr 1<;>omega),b8.o,by first|rfl|trivial⟩
    simp[intOf];omega
   obtain rfl:m=6:=by omega
   have c1:C8 ((F0 (s.drop k)).take 6)<64:=S;have a5:=AB (show(O++[Bp (C8 ((F0 (s.drop k)).take 6))])++G4 (s.drop (k+6))=G4 s from by
    rw[←G.o,HC.o,←b5.o,DW];first|done|simp)
   clear HC b5 G HS b6 b7 S;generalize C8 ((F0 (s.drop k)).take 6)=n at c1 a5⊢;have c2:=fun W=>dA n W c1
   have hc:=(Bp n).toNat_lt;generalize Bp n=X at c2 a5 hc;go_wp2_with fail;with_reducible refine(c2 _).mono ?_
   rintro e Y⟨rfl,hw⟩;obtain rfl:=hw.symm;clear hw;go_wp2_with(at_builtin;refine Na rfl _ _ rfl r.heap.size _ O [X] wr.heap.size 1 1 rfl rfl (Cs.alloc c _) rfl (Q7 wr X _) (by simp;omega) (by have:=A.size;simp;omega) ?_;intro V u a H);have d:=(A.alloc A.size (.cells #[.int .u8 (X.toNat:Int)] 5)).trans H;clear H;go_wp2_with fail;go_roundw
   case rel=>exact⟨k+6,O++[X],by go_num,by omega,by simp;omega,a,a5,d⟩
   simp[intOf];omega
  have Q:=AB (by rw[←G.o,BK (by omega)];simp[oN]:O=G4 s);have f5:¬(k:Int)<(s.length:Int):=by omega
  go_wp2_with fail;go_meet;exact⟨by rw[←Q.o];exact c,A⟩
 case rest=>
 obtain⟨c3,A⟩:=hcut;obtain⟨w2,rfl⟩:∃x:World,x=wc:=⟨_,rfl⟩;have C:=AB (show Ml b=Kh (G5 (G4 s))from C.o);have d7:(G4 s).length≤800000010:=by have:=dC s.length s;unfold G4;omega
 generalize G4 s=L at c3 C d7;have F:=B.trans (A.mono d1);have Z:=A.size;clear b2 a3 A;go_upto_block 8 with fail;go_cut[6] (fun v f=>Cs f r.heap.size v (G5 L)∧Below w.heap.size w f)
 case first=>
  go_wp2_with fail;go_loopw[6] (fun v wr=>∃O:Bs,Cs wr r.heap.size v O∧O.length≤800000020∧Hid (G5 O=G5 L)∧Below w.heap.size w wr∧r.heap.size≤wr.heap.size) (fun v _=>match v with| .slice _ n _=>(4-n%4)%4|_=>0)
  case atStart=>exact⟨L,c3,by omega,AB rfl,F,Z⟩
  clear F Z;obtain⟨O,c,b3,c4,F,Z⟩:=hrel;obtain⟨oa,f6,rfl,_⟩:=Cs.shape c;by_cases h4:O.length%4=0
  ·have a6:=AB (by rw[←c4.o,vO h4]:G5 L=O);have d8:(O.length:Int)%4=0:=by omega
   go_wp2_with fail;go_meet;exact⟨by rw[a6.o];exact c,F⟩
  have a6:=AB (by rw[←c4.o,vN h4]:G5 (O++[61])=G5 L);have d8:((O.length:Int)%4 !=0)=true:=by rw[CZ];omega
  go_wp2_with(at_builtin;refine Na rfl _ _ rfl r.heap.size _ O [61] wr.heap.size 1 1 rfl rfl (Cs.alloc c _) rfl (Q7 wr 61 _) (by simp;omega) (by simp;omega) ?_;intro V u a H);have d:=(F.alloc F.size (.cells #[.int .u8 61] 5)).trans (H.mono (by omega));have d9:=H.size;clear H;obtain⟨va,f7,rfl,_⟩:=Cs.shape a;go_wp2_with fail;go_roundw
  case rel=>exact⟨O++[61],a,by simp;omega,a6,d,by simp at d9;omega⟩
  simp;omega
 case rest=>
 obtain⟨a0,c5⟩:=hcut;obtain⟨Y,rfl⟩:∃x:World,x=wc:=⟨_,rfl⟩;have e0:(G5 L).length≤800000020:=by unfold G5;simp;omega
 generalize G5 L=l at a0 C e0;obtain⟨pa,I,rfl,c6⟩:=Cs.shape a0;have f8:l.length≤I∨l.length=0:=by
  rcases a0.2 with⟨E,U⟩|⟨g,f9,g0,E,_,_,e3,_⟩
  ·exact Or.inr U
  injection E with e1 e2 e4;subst e4;exact Or.inl e3
 have a7:=AB c6;clear c6 a0 F Z;by_cases a8:l=[]
 ·subst a8;have Q:=AB (by rw[C.o];rfl:Ml b=[]);go_wp2_with fail;go_loopw[6,10] (fun v x wr=>v=.slice pa 0 I∧x=.string ⟨([]:Bs).toArray⟩∧wr=Y) (fun _ _ _=>0)
  case atStart=>exact⟨rfl,rfl,rfl⟩
  obtain⟨rfl,rfl,rfl⟩:=hrel;go_wp2_with fail;go_ret;exact⟨by rw[Q.o];rfl,c5⟩
 have e5:0<l.length:=BE.2 a8;obtain⟨g,he,_⟩:=a7.o 0 e5;subst he;have e6:=AB (show∀j(hj:j<l.length),Y.cell? ⟨g,j,none⟩=some (.int .u8 (l[j].toNat:Int))from fun j hj=>by
  obtain⟨g',e,h⟩:=a7.o j hj;injection e with e;injection e with e;subst e;exact h)
 clear a7 a8;go_wp2_with fail;go_loopw[6,10] (fun v x wr=>∃(sa:Option Go.Addr)(o:Nat)(O:Bs),v=.slice sa (l.length-o) (I-o)∧Hid (o<l.length→sa=some ⟨g,o,none⟩)∧o≤l.length∧x=.string ⟨O.toArray⟩∧O.length≤3*o∧Hid (O++Kh (l.drop o)=Ml b)∧wr=Y) (fun v _ _=>match v with| .slice _ n _=>n|_=>0)
 case atStart=>exact⟨_,0,[],rfl,AB (fun _=>rfl),CX _,rfl,by simp,AB (by rw[C.o];simp),rfl⟩
 obtain⟨sa,o,O,rfl,e7,ho,rfl,b3,G,rfl⟩:=hrel;by_cases R:o<l.length
 ·have e8:=e7.o R;subst e8;have a1:∃K:Nat,K=min (l.length-o) 76:=⟨_,rfl⟩;obtain⟨K,a1⟩:=a1;have HK:=AB a1;have g1:1≤K∧K≤76∧o+K≤l.length:=by omega
  have J:l.drop o≠[]:=fun h=>by have:=AF List.length h;simp at this;omega
  have HL:=AB (show(O++((l.drop o).take K++[13,10]))++Kh (l.drop (o+K))=Ml b from by
   rw[←G.o,V4 J];have e1:(l.drop o).take 76=(l.drop o).take K:=by
    by_cases h:l.length-o≤76
    ·rw[CH (by simp;omega),CH (by simp;omega)]
    rw[show K=76 by omega]
   have e2:(l.drop o).drop 76=l.drop (o+K):=by
    by_cases h:l.length-o≤76
    ·rw[BK (by simp;omega),BK (by omega)]
    rw[show K=76 by omega,DW]
   rw[e1,e2];simp)
  have a2:((l.drop o).take K).length=K:=by simp;omega
  have e9:(convert 126 9 (.slice (some ⟨g,o,none⟩) K (I-o))).run prog wr=.ok (.string ⟨((l.drop o).take K).toArray⟩) wr:=by
   have h:=EI (P:=prog) wr 126 9 5 ⟨g,o,none⟩ (I-o) ((l.drop o).take K) underlying126 underlying5 underlying9 (fun j hj=>by
    rw[a2]at hj;rw[vI,e6.o (o+j) (by omega)];simp)
   rw[a2]at h;exact h
  generalize hT:(l.drop o).take K=T at HL a2 e9;have g2:T.length≤K:=by omega
  clear J hT a2;have c0:(K:Int)≤((l.length-o:Nat):Int):=by omega
  have g3:K≤I-o:=by omega
  have i0:(0:Int)≤(K:Int):=by omega
  have g4:(0:Int)<((l.length-o:Nat):Int):=by omega
  go_upto_region 27 with fail;go_cut[11] (fun t f=>t=.int .i64 (K:Int)∧f=wr)
  case first=>
   go_wp2_with fail;go_meet;exact⟨by congr 1;have:=HK.o;omega,rfl⟩
  case rest=>
  obtain⟨rfl,c7⟩:=hcut;obtain rfl:=c7.symm;clear c7 a1;go_wp2_with fail;refine⟨⟨_,o+K,O++(T++[13,10]),by rw[JH,JH],AB (fun h=>?_),by omega,rfl,by simp;omega,HL,trivial⟩,?_⟩
  ·rw[AI (by omega)]
  show l.length-o-K<l.length-o;omega
 obtain rfl:o=l.length:=by omega
 have Q:=AB (by rw[←G.o,AQ];simp[oO]:Ml b=O);have h0:l.length-l.length=0:=by omega
 go_wp2_with fail;go_ret;exact⟨by rw[Q.o];rfl,c5⟩
end Go.Proofs.YtignjjnflcpiiaaGreatDoor
