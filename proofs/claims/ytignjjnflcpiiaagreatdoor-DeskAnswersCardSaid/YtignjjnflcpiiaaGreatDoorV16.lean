/- Bytes packed by bits, by the document's answer: the progr -/
import Derived.Test.YtignjjnflcpiiaaGreatDoorV05
import Derived.Test.YtignjjnflcpiiaaGreatDoorV13
set_option maxHeartbeats 8000000
set_option maxRecDepth 100000 set_option linter.all false
namespace Go.Proofs.YtignjjnflcpiiaaGreatDoor
open Go Go.RowKit Proofs.Tryz Lib
def SE:((List.range 64).all fun n=>(Bv n).toNat==(if n<26 then 65+n else if n<52 then 97+n-26 else if n<62 then 48+n-52 else if n=62 then 43 else 47))=true:=af
variable {n k:Nat}{b l:Bs}
def SF(h:n<64):(Bv n).toNat=(if n<26 then 65+n else if n<52 then 97+n-26 else if n<62 then 48+n-52 else if n=62 then 43 else 47):=BL.1 (AW.1 SE n (BT.2 h))
def jX(n:Nat)(w:World)(h:n<64):Calls prog 245 #[n] w fun e W=>e=.returned (.int .u8 ((Bv n).toNat:Int))/\W=w:=by
 have H:=AE (SF h);go_enter func245,ntmps245;by_cases a:n<26
 ·have H:=AE (by rw[H.o,AN a];omega:((Bv n).toNat:Int)=65+n)
  go_wp2
  go_ret;exact⟨Fg (by rw[H.o]<;>omega),rfl⟩
 by_cases b:n<52
 ·have H:=AE (by rw[H.o,AL a,AN b];omega:((Bv n).toNat:Int)=97+n-26)
  go_wp2
  go_ret;exact⟨Fg (by rw[H.o]<;>omega),rfl⟩
 by_cases c:n<62
 ·have H:=AE (by rw[H.o,AL a,AL b,AN c];omega:((Bv n).toNat:Int)=48+n-52)
  go_wp2
  go_ret;exact⟨Fg (by rw[H.o]<;>omega),rfl⟩
 by_cases d:n=62
 ·subst d
  go_wp2
  go_ret;exact⟨rfl,rfl⟩
 obtain rfl:n=63:=aa
 go_wp2
 go_ret;exact⟨rfl,rfl⟩
def Nx(n:Nat):List Value:=[n]
theorem Sk(n:Nat):(Nx n).length=1:=rfl
def SG(n:Nat):∀u∈Nx n,u.oneCell'=true:=fun u h=>by simp[Nx]at h;rw[h];rfl
def SH:(prog.info? 3).map (fun i=>(i.zero,i.size,i.bytes))=some (some (.int .i64 0),1,8):=af
abbrev N7(w:World)(B:Nat)(v:Value)(l:List Nat):Prop:=A1 3 1 Nx w B v l
def Ey(w:World)(x:Nat)(t:TypeId):∀j u,([x].flatMap Nx)[j]?=some u->(w.alloc (.cells #[x] t)).cell? ((⟨w.heap.size,0,none⟩:Go.Addr).add j)=some u:=fun j u h=>by
 rw[Er,(A0.new w #[x] t).cell]
 match j,h with
 |0,h=>exact h
 |j+1,h=>simp[Nx]at h
def Ku{Q:Exit->Act->World->Prop}{O:Array Oper}{rest:List Oper}{o:Oper}{a:Act}{w:World}(H:o.guard=none)(s x:Operand)
  (d:o.op=.call {callee:=.builtin .append,args:=#[s,x],argTypes:=#[301,301]}) (B:Nat) (v:Value) (xs:List Nat) (y:Nat) (b c:Nat)
  (e:a.eval s=v) (n:N7 w B v xs) (f:a.eval x=.slice (some ⟨b,0,none⟩) 1 c) (g:∀j u,([y].flatMap Nx)[j]?=some u->w.cell? ((⟨b,0,none⟩:Go.Addr).add j)=some u) (k:xs.length+1<=1000000000001) (i:B<=w.heap.size)
  (h:∀V W,N7 W B V (xs++[y])->w.grownBy W v.ownBlock->Below B w W->wpList prog O Q rest (a.put o.dst V) W):wpList prog O Q (o::rest) a w:=
 P7 (α:=Nat) (cs:=Nx) (size:=1) (z:=.int .i64 0) Sk SG SH rfl ae underlying301 H s x d B v xs [y] ⟨b,0,none⟩ 1 c rfl e n f g ag ao i h
def SI(b o j:Nat):(⟨b,o,none⟩:Go.Addr).add j=⟨b,o+j,none⟩:=by
 unfold Go.Addr.add;cases j<;>rfl
def Kv(x:Int)(h0:0<=x)(h:x<1099511627776):Go.bits .and .i64 x 1=x%2:=Vj 1 ae x h0 aa
def Fb(c:UInt8)(m:Nat):Nat:=c.toNat/2^(7-m)%2
def SJ(c:UInt8)(m:Nat)(h:m<8):(An c).take (m+1)=(An c).take m++[Fb c m]:=by
 have:m=0\/m=1\/m=2\/m=3\/m=4\/m=5\/m=6\/m=7:=aa
 rcases this with rfl|rfl|rfl|rfl|rfl|rfl|rfl|rfl<;>simp[An,Fb]
def SK(h:k<b.length):Fq (b.take (k+1))=Fq (b.take k)++An b[k]:=by
 unfold Fq;rw[AZ h,CZ];simp
def jY(b:Bs):(Fq b).length=8*b.length:=by
 unfold Fq;induction b with
 |nil=>rfl
 |cons c b ih=>rw[BV,AJ,ih];simp[An];omega
def SL(b:Bs):∀x∈Fq b,x<=1:=by
 intro x h;unfold Fq at h;obtain⟨c,_,H⟩:=FU.1 h;simp[An]at H;omega
def SM(l:List Nat)(m:Nat)(h:m<6):(Fr l).take (m+1)=(Fr l).take m++[l.getD m 0]:=by
 have a:m<(Fr l).length:=by unfold Fr;simp;omega
 rw[AZ a];congr 2;apply CU;rw[<-BC];unfold Fr;rw[EF,AN h];by_cases H:m<l.length
 ·rw[GO H,AM];simp[H]
 rw[List.getElem?_append_right aa,AM,DC (show l.length<=m by omega)];have:m-l.length=0\/m-l.length=1\/m-l.length=2\/m-l.length=3\/m-l.length=4\/m-l.length=5:=aa
 rcases this with h|h|h|h|h|h<;>simp[h]
theorem jZ:∀(k:Nat)(l:List Nat),(Of k l).length<=k
 |0,_=>AF _
 |k+1,l=>by
  unfold Of;split
  ·simp
  have:=jZ k (l.drop 6);simp;omega
def kA(x:List Nat)(b:Nat):Cf (x++[b])=Cf x*2+b:=by unfold Cf;rw[List.foldl_append];rfl
def SN(h:l.length%4≠0):H6 (l++[61])=H6 l:=by
 unfold H6;rw[AJ,AP];congr 1;simp only[AK,BG];have:l.length%4=1\/l.length%4=2\/l.length%4=3:=aa
 rcases this with H|H|H
 ·have e:(4-(l.length+(0+1))%4)%4=2:=by omega
  have E:(4-l.length%4)%4=3:=aa
  rw[e,E];rfl
 ·have e:(4-(l.length+(0+1))%4)%4=1:=by omega
  have E:(4-l.length%4)%4=2:=aa
  rw[e,E];rfl
 have e:(4-(l.length+(0+1))%4)%4=0:=aa
 have E:(4-l.length%4)%4=1:=aa
 rw[e,E];rfl
def SO(h:l.length%4=0):H6 l=l:=by
 unfold H6;rw[h];simp
def kB(b:Bs)(w:World)(hl:b.length<=100000000):Calls prog 157 #[b] w fun e w'=>e=.returned (Dn b)/\Below w.heap.size w w':=by
 rw[<-wB];have C:=AE (ca:Pe b=N0 (H6 (H0 (Fq b))));have a8:=AE (jY b);have a2:=AE (SL b);go_enter func157,ntmps157;go_upto_block 0 with fail;go_cut[3] (fun v f=>N7 f w.heap.size v (Fq b)/\Below w.heap.size w f)
 case first=>
  go_wp2_with fail;go_loopw[3,14] (fun v i wr=>∃k:Nat,i=k/\k<=b.length/\N7 wr w.heap.size v (Fq (b.take k))/\Below w.heap.size w wr) (fun _ i _=>b.length-(intOf i).toNat)
  case atStart=>exact⟨0,rfl,aa,A1.nil _ _ _ _ _,AG _ _⟩
  obtain⟨k,rfl,hk,c,B⟩:=hrel;by_cases Q:k<b.length
  ·have HT:=AE (SK Q);have a9:(Fq (b.take k)).length=8*k:=by rw[jY];simp;omega
   have e9:(b[k].toNat:Int)<256:=re
   generalize Fq (b.take k)=done at c HT a9;go_wp2_with fail;go_loopw[3,5] (fun v x f=>∃m:Nat,x=.int .i64 (7-(m:Int))/\m<=8/\N7 f w.heap.size v (done++(An b[k]).take m)/\Below w.heap.size w f) (fun _ x _=>(intOf x+1).toNat)
   case atStart=>exact⟨0,rfl,aa,by simpa using c,B⟩
   clear c B;obtain⟨m,rfl,hm,c,B⟩:=hrel;by_cases c7:m<8
   ·have M:=AE (SJ b[k] m c7);have f0:(done++(An b[k]).take m).length<=8*k+8:=by simp[An,a9];omega
    have f1:(0:Int)<=(b[k].toNat:Int):=aa
    have:m=0\/m=1\/m=2\/m=3\/m=4\/m=5\/m=6\/m=7:=aa
    rcases this with rfl|rfl|rfl|rfl|rfl|rfl|rfl|rfl
    ·have z:Go.bits .and .i64 ((b[k].toNat:Int)/128) 1=((Fb b[k] 0:Nat):Int):=by
      rw[Kv _ aa aa];show _=((b[k].toNat/128%2:Nat):Int);omega
     go_wp2_with(at_builtin;refine Ku rfl _ _ rfl w.heap.size _ (done++(An b[k]).take 0) (Fb b[k] 0) wr.heap.size 1 rfl (A1.alloc c _) rfl dy aa cy ?_;intro V u a q H);rw[AP,<-M.o]at a;have d:=(B.alloc B.size (.cells #[.int .i64 (Fb b[k] 0:Int)] 3)).trans H;clear q H;go_wp2;go_roundw
     case rel=>exact⟨1,aj,aa,a,d⟩
     simp[intOf];try omega
    ·have z:Go.bits .and .i64 ((b[k].toNat:Int)/64) 1=((Fb b[k] 1:Nat):Int):=by
      rw[Kv _ aa aa];show _=((b[k].toNat/64%2:Nat):Int);omega
     go_wp2_with(at_builtin;refine Ku rfl _ _ rfl w.heap.size _ (done++(An b[k]).take 1) (Fb b[k] 1) wr.heap.size 1 rfl (A1.alloc c _) rfl dy aa cy ?_;intro V u a q H);rw[AP,<-M.o]at a;have d:=(B.alloc B.size (.cells #[.int .i64 (Fb b[k] 1:Int)] 3)).trans H;clear q H;go_wp2;go_roundw
     case rel=>exact⟨2,aj,aa,a,d⟩
     simp[intOf];try omega
    ·have z:Go.bits .and .i64 ((b[k].toNat:Int)/32) 1=((Fb b[k] 2:Nat):Int):=by
      rw[Kv _ aa aa];show _=((b[k].toNat/32%2:Nat):Int);omega
     go_wp2_with(at_builtin;refine Ku rfl _ _ rfl w.heap.size _ (done++(An b[k]).take 2) (Fb b[k] 2) wr.heap.size 1 rfl (A1.alloc c _) rfl dy aa cy ?_;intro V u a q H);rw[AP,<-M.o]at a;have d:=(B.alloc B.size (.cells #[.int .i64 (Fb b[k] 2:Int)] 3)).trans H;clear q H;go_wp2;go_roundw
     case rel=>exact⟨3,aj,aa,a,d⟩
     simp[intOf];try omega
    ·have z:Go.bits .and .i64 ((b[k].toNat:Int)/16) 1=((Fb b[k] 3:Nat):Int):=by
      rw[Kv _ aa aa];show _=((b[k].toNat/16%2:Nat):Int);omega
     go_wp2_with(at_builtin;refine Ku rfl _ _ rfl w.heap.size _ (done++(An b[k]).take 3) (Fb b[k] 3) wr.heap.size 1 rfl (A1.alloc c _) rfl dy aa cy ?_;intro V u a q H);rw[AP,<-M.o]at a;have d:=(B.alloc B.size (.cells #[.int .i64 (Fb b[k] 3:Int)] 3)).trans H;clear q H;go_wp2;go_roundw
     case rel=>exact⟨4,aj,aa,a,d⟩
     simp[intOf];try omega
    ·have z:Go.bits .and .i64 ((b[k].toNat:Int)/8) 1=((Fb b[k] 4:Nat):Int):=by
      rw[Kv _ aa aa];show _=((b[k].toNat/8%2:Nat):Int);omega
     go_wp2_with(at_builtin;refine Ku rfl _ _ rfl w.heap.size _ (done++(An b[k]).take 4) (Fb b[k] 4) wr.heap.size 1 rfl (A1.alloc c _) rfl dy aa cy ?_;intro V u a q H);rw[AP,<-M.o]at a;have d:=(B.alloc B.size (.cells #[.int .i64 (Fb b[k] 4:Int)] 3)).trans H;clear q H;go_wp2;go_roundw
     case rel=>exact⟨5,aj,aa,a,d⟩
     simp[intOf];try omega
    ·have z:Go.bits .and .i64 ((b[k].toNat:Int)/4) 1=((Fb b[k] 5:Nat):Int):=by
      rw[Kv _ aa aa];show _=((b[k].toNat/4%2:Nat):Int);omega
     go_wp2_with(at_builtin;refine Ku rfl _ _ rfl w.heap.size _ (done++(An b[k]).take 5) (Fb b[k] 5) wr.heap.size 1 rfl (A1.alloc c _) rfl dy aa cy ?_;intro V u a q H);rw[AP,<-M.o]at a;have d:=(B.alloc B.size (.cells #[.int .i64 (Fb b[k] 5:Int)] 3)).trans H;clear q H;go_wp2;go_roundw
     case rel=>exact⟨6,aj,aa,a,d⟩
     simp[intOf];try omega
    ·have z:Go.bits .and .i64 ((b[k].toNat:Int)/2) 1=((Fb b[k] 6:Nat):Int):=by
      rw[Kv _ aa aa];show _=((b[k].toNat/2%2:Nat):Int);omega
     go_wp2_with(at_builtin;refine Ku rfl _ _ rfl w.heap.size _ (done++(An b[k]).take 6) (Fb b[k] 6) wr.heap.size 1 rfl (A1.alloc c _) rfl dy aa cy ?_;intro V u a q H);rw[AP,<-M.o]at a;have d:=(B.alloc B.size (.cells #[.int .i64 (Fb b[k] 6:Int)] 3)).trans H;clear q H;go_wp2;go_roundw
     case rel=>exact⟨7,aj,aa,a,d⟩
     simp[intOf];try omega
    have z:Go.bits .and .i64 (b[k].toNat:Int) 1=((Fb b[k] 7:Nat):Int):=by
     rw[Kv _ aa aa];show _=((b[k].toNat/1%2:Nat):Int);omega
    go_wp2_with(at_builtin;refine Ku rfl _ _ rfl w.heap.size _ (done++(An b[k]).take 7) (Fb b[k] 7) wr.heap.size 1 rfl (A1.alloc c _) rfl dy aa cy ?_;intro V u a q H);rw[AP,<-M.o]at a;have d:=(B.alloc B.size (.cells #[.int .i64 (Fb b[k] 7:Int)] 3)).trans H;clear q H;go_wp2;go_roundw
    case rel=>exact⟨8,aj,aa,a,d⟩
    simp[intOf];try omega
   obtain rfl:m=8:=aa
   have M:=AE (by rw[HT.o];rfl:done++(An b[k]).take 8=Fq (b.take (k+1)));rw[M.o]at c;go_wp2;go_roundw
   case rel=>exact⟨k+1,aj,aa,c,B⟩
   simp[intOf];omega
  obtain rfl:k=b.length:=aa
  rw[CM (AF _)]at c;go_wp2;go_meet;exact⟨c,B⟩
 case rest=>
 obtain⟨a3,B⟩:=hcut;obtain⟨r,rfl⟩:∃x:World,x=wc:=⟨_,rfl⟩;have c8:(Fq b).length<=800000000:=by have:=a8.o;omega
 generalize Fq b=s at a3 C a2 c8;obtain⟨ba,f2,c9,b0⟩:=A1.rd ae Sk a3;subst c9;have b1:=AE b0;have d0:=B.size;clear b0 a3 a8;go_upto_block 4 with fail;go_cut[6] (fun v f=>Bq f r.heap.size v (H0 s)/\Below r.heap.size r f)
 case first=>
  go_wp2_with fail;go_loopw[6,7] (fun v x wr=>∃(k:Nat)(O:Bs),x=k/\k<=s.length+6/\O.length<=k/\Bq wr r.heap.size v O/\Hid (O++H0 (s.drop k)=H0 s)/\Below r.heap.size r wr) (fun _ x _=>s.length-(intOf x).toNat)
  case atStart=>exact⟨0,[],rfl,aa,ah,A1.nil _ _ _ _ _,AE ah,AG _ _⟩
  obtain⟨k,O,rfl,hk,b2,c,F,A⟩:=hrel;by_cases Q:k<s.length
  ·have I:s.drop k≠[]:=fun h=>by have:=CI List.length h;simp at this;omega
   have HS:=AE (fun m hm=>SM (s.drop k) m hm);have HC:=AE (Nm I);have b3:Fr (s.drop k)=(Fr (s.drop k)).take 6:=by unfold Fr;rw[IS];rfl
   have b4:=AE b3;have b5:=AE (show∀m,(s.drop k).getD m 0<=1 from fun m=>by
    by_cases h:m<(s.drop k).length
    ·rw[AM,BC h];exact a2.o _ (JL (AQ h))
    rw[AM,DC aa];simp)
   have b6:=AE (show∀m,(s.drop k).getD m 0=s.getD (k+m) 0 from fun m=>by
    rw[AM,AM,IT])
   clear I b3;go_wp2_with fail;go_loopw[8,38] (fun n y f=>∃m:Nat,y=m/\m<=6/\n=.int .i64 (Cf ((Fr (s.drop k)).take m):Int)/\Cf ((Fr (s.drop k)).take m)<2^m/\f=wr) (fun _ y _=>6-(intOf y).toNat)
   case atStart=>exact⟨0,rfl,aa,rfl,by show Cf ([]:List Nat)<1;decide,rfl⟩
   obtain⟨m,rfl,hm,rfl,R,rfl⟩:=hrel;by_cases d1:m<6
   ·have M:=AE (by rw[HS.o m d1,kA]:Cf ((Fr (s.drop k)).take (m+1))=Cf ((Fr (s.drop k)).take m)*2+(s.drop k).getD m 0);have D:=b5.o m;have hg:=b6.o m;have d2:Cf ((Fr (s.drop k)).take m)<64:=BN R (by
     have:m=0\/m=1\/m=2\/m=3\/m=4\/m=5:=aa
     rcases this with rfl|rfl|rfl|rfl|rfl|rfl<;>decide)
    have hp:2^(m+1)=2*2^m:=by rw[JB];omega
    have b7:=AE (by rw[M.o,hp];omega:Cf ((Fr (s.drop k)).take (m+1))<2^(m+1));rw[hg]at M D;clear hg hp;generalize Cf ((Fr (s.drop k)).take m)=n at M d2 R|-;by_cases b8:k+m<s.length
    ·obtain⟨g,rfl,d3,d4⟩:=b1.o aa;have d5:wr.cell? ⟨g,k+m,none⟩=some (.int .i64 (s[k+m]:Int)):=by
      have h:=(A.cell (p:=⟨g,k+m,none⟩) d3).trans (d4 (k+m) aa);rw[h];have S:=L8 (cs:=Nx) Sk s (k+m) b8 0 ae;rw[IE,BI]at S;rw[S];rfl
     have J:s.getD (k+m) 0=s[k+m]:=by rw[AM];simp[b8]
     rw[J]at M D;have b9:(k:Int)+(m:Int)<(s.length:Int):=aa
     have HV:=AE (aa:((n:Int)*2+(s[k+m]:Int))=((n*2+s[k+m]:Nat):Int));generalize s[k+m]=f3 at d5 D M HV;have i0:(0:Int)<=(k:Int)+(m:Int):=aa
     have z1:((k:Int)+(m:Int)).toNat=k+m:=aa
     clear J;go_wp2;go_roundw
     case rel=>exact⟨m+1,aj,aa,by rw[M.o];first|rw[HV.o]|(congr 1;exact HV.o),b7.o,bo⟩
     simp[intOf];omega
    have J:s.getD (k+m) 0=0:=by rw[AM,DC aa];rfl
    rw[J]at M;have b9:¬(k:Int)+(m:Int)<(s.length:Int):=aa
    clear J D;go_wp2;go_roundw
    case rel=>exact⟨m+1,aj,aa,by rw[M.o]<;>(congr 1<;>omega),b7.o,bo⟩
    simp[intOf];omega
   obtain rfl:m=6:=aa
   have c0:Cf ((Fr (s.drop k)).take 6)<64:=R;have a4:=AE (show(O++[Bv (Cf ((Fr (s.drop k)).take 6))])++H0 (s.drop (k+6))=H0 s from by
    rw[<-F.o,HC.o,<-b4.o,ET];first|done|simp)
   clear HC b4 F HS b5 b6 R;generalize Cf ((Fr (s.drop k)).take 6)=n at c0 a4|-;have c1:=fun W=>jX n W c0
   have hc:=(Bv n).toNat_lt;generalize Bv n=U at c1 a4 hc;go_wp2_with fail;with_reducible refine(c1 _).mono ?_
   rintro e X⟨rfl,hw⟩;obtain rfl:=hw.symm;clear hw;go_wp2_with(at_builtin;refine Q6 rfl _ _ rfl r.heap.size _ O [U] wr.heap.size 1 1 rfl rfl (Bq.alloc c _) rfl (Tf wr U _) ag (by have:=A.size;simp;omega) ?_;intro V u a H);have d:=(A.alloc A.size (.cells #[.int .u8 (U.toNat:Int)] 5)).trans H;clear H;go_wp2;go_roundw
   case rel=>exact⟨k+6,O++[U],aj,aa,ag,a,a4,d⟩
   simp[intOf];omega
  have N:=AE (by rw[<-F.o,BP aa];simp[vV]:O=H0 s);have f4:¬(k:Int)<(s.length:Int):=aa
  go_wp2;go_meet;exact⟨by rw[<-N.o];exact c,A⟩
 case rest=>
 obtain⟨c2,A⟩:=hcut;obtain⟨w2,rfl⟩:∃x:World,x=wc:=⟨_,rfl⟩;have C:=AE (show Pe b=N0 (H6 (H0 s))from C.o);have d6:(H0 s).length<=800000010:=by have:=jZ s.length s;unfold H0;omega
 generalize H0 s=L at c2 C d6;have E:=B.trans (A.mono d0);have Y:=A.size;clear b1 a2 A;go_upto_block 8 with fail;go_cut[6] (fun v f=>Bq f r.heap.size v (H6 L)/\Below w.heap.size w f)
 case first=>
  go_wp2_with fail;go_loopw[6] (fun v wr=>∃O:Bs,Bq wr r.heap.size v O/\O.length<=800000020/\Hid (H6 O=H6 L)/\Below w.heap.size w wr/\r.heap.size<=wr.heap.size) (fun v _=>match v with| .slice _ n _=>(4-n%4)%4|_=>0)
  case atStart=>exact⟨L,c2,aa,AE rfl,E,Y⟩
  clear E Y;obtain⟨O,c,b2,c3,E,Y⟩:=hrel;obtain⟨oa,f5,rfl,_⟩:=Bq.shape c;by_cases h4:O.length%4=0
  ·have a5:=AE (by rw[<-c3.o,SO h4]:H6 L=O);have d7:(O.length:Int)%4=0:=by omega
   go_wp2;go_meet;exact⟨by rw[a5.o];exact c,E⟩
  have a5:=AE (by rw[<-c3.o,SN h4]:H6 (O++[61])=H6 L);have d7:((O.length:Int)%4 !=0)=true:=gi
  go_wp2_with(at_builtin;refine Q6 rfl _ _ rfl r.heap.size _ O [61] wr.heap.size 1 1 rfl rfl (Bq.alloc c _) rfl (Tf wr 61 _) ag ag ?_;intro V u a H);have d:=(E.alloc E.size (.cells #[.int .u8 61] 5)).trans (H.mono aa);have d8:=H.size;clear H;obtain⟨va,f6,rfl,_⟩:=Bq.shape a;go_wp2;go_roundw
  case rel=>exact⟨O++[61],a,ag,a5,d,by simp at d8;omega⟩
  simp;omega
 case rest=>
 obtain⟨Z,c4⟩:=hcut;obtain⟨X,rfl⟩:∃x:World,x=wc:=⟨_,rfl⟩;have d9:(H6 L).length<=800000020:=by unfold H6;simp;omega
 generalize H6 L=l at Z C d9;obtain⟨pa,G,rfl,c5⟩:=Bq.shape Z;have f7:l.length<=G\/l.length=0:=by
  rcases Z.2 with⟨D,S⟩|⟨g,f8,f9,D,_,_,e0,_⟩
  ·exact Or.inr S
  injection D with e1 e2 e3;subst e3;exact Or.inl e0
 have a6:=AE c5;clear c5 Z E Y;by_cases a7:l=[]
 ·subst a7;have N:=AE (ic:Pe b=[]);go_wp2_with fail;go_loopw[6,10] (fun v x wr=>v=.slice pa 0 G/\x=([]:Bs)/\wr=X) (fun _ _ _=>0)
  case atStart=>exact⟨rfl,rfl,rfl⟩
  obtain⟨rfl,rfl,rfl⟩:=hrel;go_wp2;go_ret;exact⟨ay,c4⟩
 have e4:0<l.length:=BK.2 a7;obtain⟨g,he,_⟩:=a6.o 0 e4;subst he;have e5:=AE (show∀j(hj:j<l.length),X.cell? ⟨g,j,none⟩=some (.int .u8 (l[j].toNat:Int))from fun j hj=>by
  obtain⟨g',e,h⟩:=a6.o j hj;injection e with e;injection e with e;subst e;exact h)
 clear a6 a7;go_wp2_with fail;go_loopw[6,10] (fun v x wr=>∃(sa:Option Go.Addr)(o:Nat)(O:Bs),v=.slice sa (l.length-o) (G-o)/\Hid (o<l.length->sa=some ⟨g,o,none⟩)/\o<=l.length/\x=O/\O.length<=3*o/\Hid (O++N0 (l.drop o)=Pe b)/\wr=X) (fun v _ _=>match v with| .slice _ n _=>n|_=>0)
 case atStart=>exact⟨_,0,[],rfl,AE (fun _=>rfl),DE _,rfl,ah,AE (by rw[C.o];simp),rfl⟩
 obtain⟨sa,o,O,rfl,e6,ho,rfl,b2,F,rfl⟩:=hrel;by_cases Q:o<l.length
 ·have e7:=e6.o Q;subst e7;have a0:∃K:Nat,K=min (l.length-o) 76:=⟨_,rfl⟩;obtain⟨K,a0⟩:=a0;have HK:=AE a0;have g0:1<=K/\K<=76/\o+K<=l.length:=by omega
  have I:l.drop o≠[]:=fun h=>by have:=CI List.length h;simp at this;omega
  have HL:=AE (show(O++((l.drop o).take K++[13,10]))++N0 (l.drop (o+K))=Pe b from by
   rw[<-F.o,Z3 I];have e1:(l.drop o).take 76=(l.drop o).take K:=by
    by_cases h:l.length-o<=76
    ·rw[CM ag,CM ag]
    rw[show K=76 by omega]
   have e2:(l.drop o).drop 76=l.drop (o+K):=by
    by_cases h:l.length-o<=76
    ·rw[BP ag,BP aa]
    rw[show K=76 by omega,ET]
   rw[e1,e2];simp)
  have a1:((l.drop o).take K).length=K:=ag
  have e8:(convert 126 9 (.slice (some ⟨g,o,none⟩) K (G-o))).run prog wr=.ok ((l.drop o).take K) wr:=by
   have h:=EP (P:=prog) wr 126 9 5 ⟨g,o,none⟩ (G-o) ((l.drop o).take K) underlying126 underlying5 underlying9 (fun j hj=>by
    rw[a1]at hj;rw[SI,e5.o (o+j) aa];simp)
   rw[a1]at h;exact h
  generalize hT:(l.drop o).take K=T at HL a1 e8;have g1:T.length<=K:=aa
  clear I hT a1;have b9:(K:Int)<=((l.length-o:Nat):Int):=aa
  have g2:K<=G-o:=aa
  have i0:(0:Int)<=(K:Int):=aa
  have g3:(0:Int)<((l.length-o:Nat):Int):=aa
  go_upto_region 27 with fail;go_cut[11] (fun t f=>t=K/\f=wr)
  case first=>
   go_wp2;go_meet;exact⟨by congr 1;have:=HK.o;omega,rfl⟩
  case rest=>
  obtain⟨rfl,c6⟩:=hcut;obtain rfl:=c6.symm;clear c6 a0;go_wp2_with fail;refine⟨⟨_,o+K,O++(T++[13,10]),by rw[KT,KT],AE (fun h=>?_),aa,rfl,ag,HL,trivial⟩,?_⟩
  ·rw[AL aa]
  show l.length-o-K<l.length-o;omega
 obtain rfl:o=l.length:=aa
 have N:=AE (by rw[<-F.o,AS];simp[vW]:Pe b=O);have h0:l.length-l.length=0:=aa
 go_wp2;go_ret;exact⟨ay,c4⟩
end Go.Proofs.YtignjjnflcpiiaaGreatDoor
