/- api.Small gives the text with its letters A to Z in small -/
import Derived.Seven
import Derived.Test.YtignjjnflcpiiaaGreatDoorV00
set_option maxHeartbeats 4000000
set_option maxRecDepth 100000 set_option linter.all false
namespace Go.Proofs.YtignjjnflcpiiaaGreatDoor
open Go Go.RowKit Proofs.Tryz Lib
def Bx(c:UInt8):UInt8:=if 65<=c/\c<=90 then c+32 else c
def A2(l:List UInt8):List UInt8:=l.map Bx
def Kh(l:List UInt8)(k:Nat):List UInt8:=(l.take k).map Bx++l.drop k
def tR(l:List UInt8):Kh l 0=l:=by simp[Kh]
def tS(l:List UInt8):Kh l l.length=A2 l:=by simp[Kh,A2]
def Yi(l:List UInt8)(k:Nat):(Kh l k).length=l.length:=by simp[Kh];omega
def dS(l:List UInt8)(k:Nat)(h:k<l.length):(Kh l k)[k]'(by rw[Yi];exact h)=l[k]:=by
 simp[Kh,EX (HJ h)]
def dT(l:List UInt8)(k:Nat)(h:k<l.length):Kh l (k+1)=(Kh l k).set k (Bx l[k]):=by
 unfold Kh;rw[List.set_append,DQ,CH,EX (HJ h),AL (FO k),Nat.sub_self,AH h,AZ h,List.set_cons_zero,FJ,AP];rfl
def tT(l:List UInt8)(k:Nat)(h:k<l.length)(e:Bx l[k]=l[k]):Kh l (k+1)=Kh l k:=by
 rw[dT l k h,e,<-dS l k h,JG]
def dU(c:UInt8)(a:(65:Int)<=c.toNat)(b:(c.toNat:Int)<=90):((c.toNat:Int)+32)=((Bx c).toNat:Int):=by
 have h:65<=c.toNat:=aa
 have H:c.toNat<=90:=aa
 unfold Bx;rw[AN ⟨FE.2 h,FE.2 H⟩,UInt8.toNat_add];simp;omega
def dV(c:UInt8)(h:¬((65:Int)<=c.toNat/\(c.toNat:Int)<=90)):Bx c=c:=by
 unfold Bx;rw[AL];rintro⟨H,a⟩;have:=FE.1 H;have:=FE.1 a;simp at*;omega
def Gw(l:List UInt8)(w:World)(m:l.length<=140737488355328):Calls prog 42 #[l] w fun e W=>e=.returned (A2 l)/\Below w.heap.size w W:=by
 have v:=fun w=>run_bytes_of_string (P:=prog) w 9 126 5 ⟨l.toArray⟩ underlying9 underlying126 underlying5
 go_enter func42,ntmps42
 go_wp2
 go_loopw[10] (fun i wr=>∃k:Nat,k<=l.length/\i=k/\Fo wr w.heap.size (Kh l k)/\Below w.heap.size w wr) (fun i _=>l.length-(intOf i).toNat)
 case atStart=>exact⟨0,DE _,rfl,by rw[tR];exact dK w l _ _,((AG _ _).alloc (AF _) _).drew⟩
 obtain⟨k,n,rfl,h,a⟩:=hrel;by_cases H:k<l.length
 ·have c:=h.cell (j:=k) (by rw[Yi];exact H);have o:=h.frozen (j:=k) (by rw[Yi];exact H);rw[dS l k H]at c
  go_wp2
  ·have b:(65:Int)<=l[k].toNat:=by assumption
   have d:(l[k].toNat:Int)<=90:=ax
   go_roundw
   case rel=>
    refine⟨k+1,aa,aj,?_,a.setCell (AF _) _⟩;rw[dU _ b d,dT l k H];exact h.set k _
   simp[intOf];omega
  all_goals
   go_roundw
   case rel=>exact⟨k+1,aa,aj,by rw[tT l k H (dV _ aa)];exact h,a⟩
   simp[intOf];omega
 obtain rfl:k=l.length:=aa
 rw[tS]at h;have f:=EP (P:=prog) wr 126 9 5 ⟨w.heap.size,0,none⟩ (grownCap w l.length 0 5) (A2 l) underlying126 underlying5 underlying9
  (fun j g=>by rw[Er];exact h.cell g)
 rw[(by simp[A2]:(A2 l).length=l.length)]at f;clear h
 go_wp2
 go_ret;exact⟨rfl,a⟩
abbrev A4:=Bs×Bs
def Ki(c:UInt8):Bool:=decide (33<=c)&&decide (c<=126)&&c !=58
def Ez(s:Bs):Bool:=s.all Ki&&!s.isEmpty
def Gx(c:UInt8):Bool:=(decide (32<=c)||c==9)&&c !=127
def Gd(s:Bs):Bool:=s.all Gx&&(trimS s [32,9]==s)
def Rn:Bs->Bool
 |c::_=>c==32||c==9
 |[]=>false
def L7(out:List A4)(l:Bs):Option (List A4):=
 if Rn l then match out.getLast? with
  |none=>none
  |some f=>some (out.dropLast++[(f.1,f.2++l)])
 else match Ao [58] l with
  |none=>none
  |some (a,b)=>if Ez a then some (out++[(a,b)])else none
def Hj:Nat->List A4->Bs->Option (List A4×Bs)
 |0,_,_=>none
 |k+1,O,s=>
  if s=[]then some (O,[])else
  let c:=cut s [13,10]
  if c.1=[]/\c.2.2=true then some (O,c.2.1)
  else match L7 O c.1 with
   |none=>none
   |some o=>Hj k o c.2.1
def E7(s:Bs):Option (List A4×Bs):=Hj (s.length+1) [] s
def Cz:List A4->Option (List A4)
 |[]=>some []
 |f::l=>if Gd (trimS f.2 [32,9])then(Cz l).map ((f.1,trimS f.2 [32,9])::·)else none
def Ck(l:List A4):Bool:=l.all fun f=>Ez f.1&&Gd f.2
def Aj:List A4->Bs->Option Bs
 |[],_=>none
 |f::l,s=>if A2 f.1=A2 s then some f.2 else Aj l s
def Ro(x cs:Bs):(trimS x cs).length<=x.length:=by
 unfold trimS trimLeftS;have h:=(EM (fun c=>cs.contains c) (l:=trimRightS x cs)).length_le;have H:=T9 x cs;omega
def tU:((List.range 256).all fun n=>Ki n.toUInt8==(decide (33<=(n.toUInt8.toNat:Int))&&decide ((n.toUInt8.toNat:Int)<=126)&&!((n.toUInt8.toNat:Int)==58)))=true:=af
def dW(c:UInt8):Ki c=(decide (33<=(c.toNat:Int))&&decide ((c.toNat:Int)<=126)&&!((c.toNat:Int)==58)):=by
 have:=AW.1 tU c.toNat (BT.2 c.toNat_lt);rw[Rl]at this;exact BL.1 this
def tV:((List.range 256).all fun n=>Gx n.toUInt8==((decide (32<=(n.toUInt8.toNat:Int))||((n.toUInt8.toNat:Int)==9))&&!((n.toUInt8.toNat:Int)==127)))=true:=af
def dX(c:UInt8):Gx c=((decide (32<=(c.toNat:Int))||((c.toNat:Int)==9))&&!((c.toNat:Int)==127)):=by
 have:=AW.1 tV c.toNat (BT.2 c.toNat_lt);rw[Rl]at this;exact BL.1 this
variable {k size B e g cap n:Nat}{l s:Bs}{α:Type}{v:Value}{w w':World}{out xs:List A4}{f:A4}
def Ti(p:UInt8->Bool)(h:k<l.length):(l.drop k).all p=(p l[k]&&(l.drop (k+1)).all p):=by
 rw[Q7 h,FP]
def dY(s:Bs)(w:World)(f:s.length<=1000000000000):Calls prog 249 #[s] w fun e W=>e=.returned (.bool (Ez s))/\w=W:=by
 go_enter func249,ntmps249;go_wp2_with fail;go_loop[6] (fun i=>∃k:Nat,i=k/\k<=s.length/\s.all Ki=(s.drop k).all Ki) (fun i=>s.length-(intOf i).toNat)
 case atStart=>exact⟨0,rfl,aa,ah⟩
 obtain⟨k,rfl,g,a⟩:=hrel;have l:=AE a;clear a;by_cases c:k<s.length
 ·have A:=AE (Ti Ki c);have I:=AE (dW s[k]);have j:=AE (by rw[AT];intro h;rw[GK]at h;subst h;simp at c:s.isEmpty=false);have m:(s[k].toNat:Int)<256:=by have:=s[k].toNat_lt;omega
  go_upto_region 4 with fail;go_cut[24] (fun t x=>t=.bool (!Ki s[k])/\x=w)
  case first=>
   go_wp2_with fail;all_goals
    go_meet;exact⟨fi,rfl⟩
  obtain⟨rfl,rfl⟩:=hcut;generalize Ki s[k]=b at A|-;cases b with
  |false=>
   go_wp2;go_ret;exact⟨Bm (by unfold Ez;rw[l.o,A.o];rfl),rfl⟩
  |true=>
   go_wp2_with fail
   go_round
   case rel=>exact⟨k+1,aj,aa,by rw[l.o,A.o];rfl⟩
   simp[intOf];omega
 obtain rfl:k=s.length:=aa
 have H:=AE (by unfold Ez;rw[l.o,AS];rfl:Ez s=!s.isEmpty);by_cases h0:s=[]
 ·subst h0;go_wp2;go_ret;exact⟨Bm bu,rfl⟩
 have d:s.isEmpty=false:=ed
 go_wp2;go_ret;exact⟨Bm (by rw[H.o,d];rfl),rfl⟩
def dZ(s:Bs)(w:World)(d:s.length<=1000000000000):Calls prog 250 #[s] w fun e W=>e=.returned (.bool (Gd s))/\Below w.heap.size w W:=by
 go_enter func250,ntmps250;go_wp2_with fail;go_loop[6] (fun i=>∃k:Nat,i=k/\k<=s.length/\s.all Gx=(s.drop k).all Gx) (fun i=>s.length-(intOf i).toNat)
 case atStart=>exact⟨0,rfl,aa,ah⟩
 obtain⟨k,rfl,f,l⟩:=hrel;have h:=AE l;clear l;by_cases a:k<s.length
 ·have A:=AE (Ti Gx a);have I:=AE (dX s[k]);have g:(s[k].toNat:Int)<256:=by have:=s[k].toNat_lt;omega
  go_upto_region 4 with fail;go_cut[24] (fun t x=>t=.bool (!Gx s[k])/\x=w)
  case first=>
   go_wp2_with fail;all_goals
    go_meet;exact⟨fi,rfl⟩
  obtain⟨rfl,rfl⟩:=hcut;generalize Gx s[k]=b at A|-;cases b with
  |false=>
   go_wp2;go_ret;exact⟨Bm (by unfold Gd;rw[h.o,A.o];rfl),AG _ _⟩
  |true=>
   go_wp2_with fail
   go_round
   case rel=>exact⟨k+1,aj,aa,vu⟩
   simp[intOf];omega
 obtain rfl:k=s.length:=aa
 have H:=AE (by unfold Gd;rw[h.o,AS];rfl:Gd s=(trimS s [32,9]==s));go_wp2_with fail;refine(Tc s [32,9] _ aa ae ae).mono ?_;rintro e j⟨rfl,c⟩;go_wp2;go_ret;exact⟨Bm ix,c⟩
def Kj{cs:α->List Value}(h:∀x,(cs x).length=size)(z:List α):(z.flatMap cs).length=z.length*size:=by
 induction z with
 |nil=>simp
 |cons y z ih=>rw[BV,AJ,h,ih,AK,DL];omega
theorem L8{α:Type}{size:Nat}{cs:α->List Value}(h:∀x,(cs x).length=size):∀(Z:List α)(k:Nat)(a:k<Z.length)(i:Nat),i<size->(Z.flatMap cs)[k*size+i]?=(cs Z[k])[i]?
 |z::Z,0,_,i,H=>by
  rw[BV,Nat.zero_mul,EQ,GO (by rw[h];exact H)];rfl
 |z::Z,k+1,a,i,H=>by
  rw[BV,List.getElem?_append_right (by rw[h,DL];omega),h,(by rw[DL];omega:(k+1)*size+i-size=k*size+i),L8 h Z k xu i H];rfl
def F9(size:Nat)(cs:α->List Value)(w:World)(v:Value)(xs:List α):Prop:=∃a c,v=.slice a xs.length c/\(0<xs.length->∃b,a=some ⟨b,0,none⟩/\b<w.heap.size/\∀j,j<xs.length*size->w.cell? ⟨b,j,none⟩=(xs.flatMap cs)[j]?)
def F9.next{cs:α->List Value}{xs:List α}(h:F9 size cs w v xs)(H:Below w.heap.size w w'):F9 size cs w' v xs:=by
 obtain⟨a,c,d,e⟩:=h;refine⟨a,c,d,fun h0=>?_⟩;obtain⟨b,f,t,l⟩:=e h0;exact⟨b,f,BN t H.size,fun j g=>(H.cell (p:=⟨b,j,none⟩) t).trans (l j g)⟩
def A1.rd{cs:α->List Value}(z:0<size)(s:∀x,(cs x).length=size){xs:List α}(h:A1 e size cs w B v xs):F9 size cs w v xs:=by
 unfold A1 at h;rcases h.2 with⟨H,h0⟩|⟨g,C,r,H,k,a,n,p,z,d⟩
 ·have l:=Kj s xs;rw[h0]at l;have f:xs.length=0:=by
   rcases GX xs.length with h|h
   ·exact h
   have:=Nat.mul_pos h z;simp at l;omega
  exact⟨none,0,by rw[H,f],fun m=>aa⟩
 refine⟨_,C,H,fun _=>⟨g,rfl,?_,fun j i=>?_⟩⟩
 ·rcases CL g w.heap.size with b|b
  ·exact b
  rw[CA b]at a;cases a
 have c:(r.toList.take (xs.length*size))[j]?=(xs.flatMap cs)[j]?:=by rw[d]
 rw[EF,AN i]at c;simp[World.cell?,a];simpa using c
def Bc(f:A4):List Value:=[f.1,f.2]
abbrev Cq(w:World)(v:Value)(l:List A4):Prop:=F9 2 Bc w v l
theorem Af(f:A4):(Bc f).length=2:=rfl
def Cq.open{l:List A4}(h:Cq w v l):∃a c,v=.slice a l.length c/\∀k(H:k<l.length),∃b,a=some ⟨b,0,none⟩/\b<w.heap.size/\w.cell? ⟨b,k*2,none⟩=some (.string ⟨(l[k]).1.toArray⟩)/\w.cell? ⟨b,k*2+1,none⟩=some (.string ⟨(l[k]).2.toArray⟩):=by
 obtain⟨a,c,e,f⟩:=h;refine⟨a,c,e,fun k H=>?_⟩;obtain⟨b,g,t,d⟩:=f aa;refine⟨b,g,t,?_,?_⟩
 ·rw[d (k*2) aa];have:=L8 Af l k H 0 ae;rw[BI]at this;rw[this];rfl
 rw[d (k*2+1) aa,L8 Af l k H 1 ae];rfl
def Nk(l:List A4):Prop:=l.length<=1000000000000/\∀f∈l,f.1.length<=1000000000000/\f.2.length<=1000000000000
def Yj(v:Value)(l:List A4)(w:World)(r:Cq w v l)(c:Nk l):Calls prog 192 #[v] w fun e W=>e=.returned (.bool (Ck l))/\Below w.heap.size w W:=by
 have G:=c.1;have u:=AE c.2;clear c;obtain⟨a,I,rfl,g⟩:=r.open;have z:=AE g;clear g r;go_enter func192,ntmps192;go_wp2_with fail;go_loopw[7] (fun i wr=>∃k:Nat,i=k/\k<=l.length/\Ck l=Ck (l.drop k)/\Below w.heap.size w wr) (fun i _=>l.length-(intOf i).toNat)
 case atStart=>exact⟨0,rfl,aa,ah,AG _ _⟩
 obtain⟨k,rfl,J,j,B⟩:=hrel;have h:=AE j;clear j;by_cases t:k<l.length
 ·obtain⟨b,rfl,m,n,o⟩:=z.o k t;have d:=u.o l[k] (AQ _);have H:=AE (by unfold Ck;rw[AH t,FP]:Ck (l.drop k)=(Ez l[k].1&&Gd l[k].2&&Ck (l.drop (k+1))));have C:=(B.cell (p:=⟨b,k*2,none⟩) m).trans n;have q:=(B.cell (p:=⟨b,k*2+1,none⟩) m).trans o;clear n o;generalize l[k]=f at d H C q;obtain⟨x,y⟩:=f;simp only at d H C q;obtain⟨A,D⟩:=d;go_wp2_with fail;refine(dY x _ A).mono ?_;rintro e W⟨rfl,rfl⟩;generalize Ez x=E at H|-;cases E with
  |false=>
   go_wp2;go_ret;exact⟨Bm od,B.alloc B.size _⟩
  |true=>
   go_wp2_with fail;refine(dZ y _ D).mono ?_;rintro e K⟨rfl,s⟩;generalize Gd y=F at H|-;cases F with
   |false=>
    go_wp2;go_ret;exact⟨Bm od,(B.alloc B.size _).trans (s.mono (B.alloc B.size _).size)⟩
   |true=>
    go_wp2;go_roundw
    case rel=>exact⟨k+1,aj,aa,od,(B.alloc B.size _).trans (s.mono (B.alloc B.size _).size)⟩
    simp[intOf];omega
 obtain rfl:k=l.length:=aa
 go_wp2;go_ret;exact⟨Bm (by rw[h.o,AS];rfl),B⟩
def Rp(v:Value)(l:List A4)(s:Bs)(w:World)(r:Cq w v l)(c:Nk l)(I:s.length<=1000000000000):Calls prog 33 #[v,s] w fun e W=>e=.returned (.tuple #[(Aj l s).getD [],.bool (Aj l s).isSome])/\Below w.heap.size w W:=by
 have J:=c.1;have E:=AE c.2;clear c;obtain⟨a,L,rfl,o⟩:=r.open;have F:=AE o;clear o r;go_enter func33,ntmps33;go_wp2_with fail;go_loopw[10] (fun i wr=>∃k:Nat,i=k/\k<=l.length/\Aj l s=Aj (l.drop k) s/\Below w.heap.size w wr) (fun i _=>l.length-(intOf i).toNat)
 case atStart=>exact⟨0,rfl,aa,ah,AG _ _⟩
 obtain⟨k,rfl,M,q,B⟩:=hrel;have d:=AE q;clear q;by_cases t:k<l.length
 ·obtain⟨b,rfl,u,z,A⟩:=F.o k t;have g:=E.o l[k] (AQ _);have D:=AE (ir:Aj (l.drop k) s=if A2 l[k].1=A2 s then some l[k].2 else Aj (l.drop (k+1)) s);have C:=(B.cell (p:=⟨b,k*2,none⟩) u).trans z;have j:=(B.cell (p:=⟨b,k*2+1,none⟩) u).trans A;clear z A;generalize l[k]=f at g D C j;obtain⟨x,y⟩:=f;simp only at g D C j;obtain⟨N,O⟩:=g;have K:=A0.new wr #[x,y] 92;have B:=B.alloc B.size (.cells #[x,y] 92);go_wp2_with fail;refine(Gw x _ aa).mono ?_;rintro e P⟨rfl,m⟩;have K:=K.next m K.lt;have B:=B.trans (m.mono B.size);clear m C j;go_wp2_with fail;refine(Gw s _ aa).mono ?_;rintro e Q⟨rfl,n⟩;have K:=K.next n K.lt;have B:=B.trans (n.mono B.size);clear n;have R:=K.cell 1;by_cases h:A2 x=A2 s
  ·have G:(A2 x==A2 s)=true:=by rw[BL];exact h
   have H:=AE (by rw[d.o,D.o,AN h]:Aj l s=some y);clear h;go_wp2;go_ret2;exact⟨bu,B⟩
  have G:(A2 x==A2 s)=false:=su
  have H:=AE (by rw[d.o,D.o,AL h]:Aj l s=Aj (l.drop (k+1)) s);clear h;go_wp2;go_roundw
  case rel=>exact⟨k+1,aj,aa,H.o,B⟩
  simp[intOf];omega
 obtain rfl:k=l.length:=aa
 have H:=AE (oq:Aj l s=none);go_wp2;go_ret2;exact⟨bu,B⟩
abbrev Bt(w:World)(B:Nat)(v:Value)(l:List A4):Prop:=A1 92 2 Bc w B v l
def My:(prog.info? 92).map (fun i=>(i.zero,i.size,i.bytes))=some (some (.agg #[.string ByteArray.empty,.string ByteArray.empty]),2,32):=af
def M0(f:A4):∀u∈Bc f,u.oneCell'=true:=fun u h=>by
 simp[Bc]at h;rcases h with rfl|rfl<;>rfl
def I0(w:World)(f:A4)(t:TypeId):∀j u,([f].flatMap Bc)[j]?=some u->(w.alloc (.cells #[f.1,f.2] t)).cell? ((⟨w.heap.size,0,none⟩:Go.Addr).add j)=some u:=fun j u h=>by
 rw[Er,(A0.new w #[f.1,f.2] t).cell]
 match j,h with
 |0,h=>exact h
 |1,h=>exact h
 |j+2,h=>simp[Bc]at h
def Q8{Q:Exit->Act->World->Prop}{O:Array Oper}{rest:List Oper}{o:Oper}{a:Act}(H:o.guard=none)(s x:Operand)
  (d:o.op=.call {callee:=.builtin .append,args:=#[s,x],argTypes:=#[42,42]}) (B:Nat) (v:Value) (xs:List A4) (y:A4) (b c:Nat)
  (e:a.eval s=v) (n:Bt w B v xs) (f:a.eval x=.slice (some ⟨b,0,none⟩) 1 c) (g:∀j u,([y].flatMap Bc)[j]?=some u->w.cell? ((⟨b,0,none⟩:Go.Addr).add j)=some u) (k:xs.length+1<=1000000000001) (i:B<=w.heap.size)
  (h:∀V W,Bt W B V (xs++[y])->w.grownBy W v.ownBlock->Below B w W->wpList prog O Q rest (a.put o.dst V) W):wpList prog O Q (o::rest) a w:=
 P7 (α:=A4) (cs:=Bc) (size:=2) (z:=.agg #[.string ByteArray.empty,.string ByteArray.empty]) Af M0 My rfl ae underlying42 H s x d B v xs [y] ⟨b,0,none⟩ 1 c rfl e n f g ag ao i h
def Jo(w:World)(v:Value)(n:Int):Prop:=(v=.nilIface/\n=0)\/v=.iface 30 n\/∃b p,v=.iface 253 (.pointer (some ⟨b,0,none⟩))/\w.cell? ⟨b,0,none⟩=some n/\w.cell? ⟨b,1,none⟩=some (.int .i64 p)
def Jo.at(w:World)(n p:Int)(t:TypeId):Jo (w.alloc (.cells #[n,p] t)) (.iface 253 (.pointer (some ⟨w.heap.size,0,none⟩))) n:=Or.inr (Or.inr ⟨_,p,rfl,(A0.new w _ t).cell 0,(A0.new w _ t).cell 1⟩)
def tW(B:Nat)(n:Int)(r:Option (List A4))(e:Ending)(w':World):Prop:=(∃o v,r=some o/\e=.returned (.tuple #[v,.nilIface])/\Bt w' B v o)\/(∃v,r=none/\e=.returned (.tuple #[.slice none 0 0,v])/\Jo w' v n)
def tX(v:Value)(l:List A4)(w:World)(r:Cq w v l)(g:Nk l):Calls prog 163 #[v] w fun e W=>tW w.heap.size 1 (Cz l) e W/\Below w.heap.size w W:=by
 have P:=g.1;have F:=AE g.2;clear g;obtain⟨a,Q,rfl,q⟩:=r.open;have G:=AE q;clear q r;go_enter func163,ntmps163;go_wp2_with fail;go_loopw[4,10] (fun o i wr=>∃(k:Nat)(O:List A4),i=k/\k<=l.length/\O.length=k/\Bt wr w.heap.size o O/\(Cz (l.drop k)).map (O++·)=Cz l/\Below w.heap.size w wr) (fun _ i _=>l.length-(intOf i).toNat)
 case atStart=>exact⟨0,[],rfl,aa,rfl,A1.nil _ _ _ _ _,ah,AG _ _⟩
 obtain⟨k,O,rfl,R,S,h,s,B⟩:=hrel;have j:=AE s;clear s;by_cases t:k<l.length
 ·obtain⟨b,rfl,u,A,D⟩:=G.o k t;have m:=F.o l[k] (AQ _);have H:=AE (ir:Cz (l.drop k)=if Gd (trimS l[k].2 [32,9])then(Cz (l.drop (k+1))).map ((l[k].1,trimS l[k].2 [32,9])::·)else none);have C:=(B.cell (p:=⟨b,k*2,none⟩) u).trans A;have n:=(B.cell (p:=⟨b,k*2+1,none⟩) u).trans D;clear A D;generalize l[k]=f at m H C n;obtain⟨x,y⟩:=f;simp only at m H C n;obtain⟨T,U⟩:=m;have K:=A0.new wr #[x,y] 92;have B:=B.alloc B.size (.cells #[x,y] 92);have h:=h.alloc (.cells #[x,y] 92);go_wp2_with fail;refine(Tc y [32,9] _ aa ae ae).mono ?_;rintro e V⟨rfl,c⟩;have K:=K.next c K.lt;have h:=A1.next h c;have B:=B.trans (c.mono B.size);clear c C n;have I:=Ro y [32,9];generalize trimS y [32,9]=z at I H|-;go_wp2_with fail;refine(dZ z _ aa).mono ?_;rintro e E⟨rfl,d⟩;have K:=K.next d K.lt;have h:=A1.next h d;have B:=B.trans (d.mono B.size);clear d;have X:=K.cell 0;generalize Gd z=J at H|-;cases J with
  |false=>
   have N:=AE (by rw[<-j.o,H.o];rfl:Cz l=none);go_wp2;go_ret2;exact⟨Or.inr ⟨_,N.o,rfl,Jo.at _ _ _ _⟩,B.alloc B.size _⟩
  |true=>
   have N:=AE (by rw[<-j.o,H.o];simp only[DK];cases Cz (l.drop (k+1))<;>simp:(Cz (l.drop (k+1))).map ((O++[(x,z)])++·)=Cz l);go_wp2_with(at_builtin;refine Q8 rfl _ _ rfl w.heap.size _ O (x,z) E.heap.size 1 rfl (A1.alloc h _) rfl (I0 E (x,z) _) aa cy ?_;intro Y Z L a0 M);go_wp2;go_roundw
   case rel=>exact⟨k+1,O++[(x,z)],aj,aa,ag,L,N.o,(B.alloc B.size _).trans M⟩
   simp[intOf];omega
 obtain rfl:k=l.length:=aa
 have N:=AE (by rw[<-j.o,AS];simp[Cz]:Cz l=some O);go_wp2;go_ret2;exact⟨Or.inl ⟨O,_,N.o,rfl,h⟩,B⟩
def Yk(h:s≠[]):Hj (k+1) out s=if(cut s [13,10]).1=[]/\(cut s [13,10]).2.2=true then some (out,(cut s [13,10]).2.1)else match L7 out (cut s [13,10]).1 with
  |none=>none
  |some o=>Hj k o (cut s [13,10]).2.1:=by
 conv=>lhs;unfold Hj
 rw[AL h];all_goals rfl
def Tj(h:s≠[])(p:Bs)(H:p≠[]):(cut s p).1.length+(cut s p).2.1.length<=s.length/\(cut s p).2.1.length<s.length/\((cut s p).1=[]->(cut s p).2.2=true):=by
 rw[Gs];cases c:Ao p s with
 |none=>exact⟨ah,BK.2 h,fun e=>absurd e h⟩
 |some x=>
  obtain⟨a,b⟩:=x;have e:=CI List.length (F7 c);have:=BK.2 H;simp at e;exact⟨ag,ag,fun _=>rfl⟩
def Bt.setLast(a:n=xs.length+1)(h:Bt w B (.slice (some ⟨g,0,none⟩) n cap) (xs++[f]))(y:Bs):Bt (w.setCell ⟨g,xs.length*2+1,none⟩ y) B (.slice (some ⟨g,0,none⟩) n cap) (xs++[(f.1,y)]):=by
 subst a;unfold Bt A1 at h|-;have h0:(xs++[f]).length=xs.length+1:=ah
 have b:(xs++[(f.1,y)]).length=xs.length+1:=ah
 rw[h0]at h;rw[b];have H:=(GP h (xs.length*2+1) y).1;have e:((xs++[f]).flatMap Bc).set (xs.length*2+1) y=(xs++[(f.1,y)]).flatMap Bc:=by
  rw[CZ,CZ,GE _ _ (by rw[Kj Af];omega),Kj Af,show xs.length*2+1-xs.length*2=1 by omega];rfl
 rw[e]at H;exact H
def Bt.last(h:Bt w B v (xs++[f])):∃g c,v=.slice (some ⟨g,0,none⟩) (xs.length+1) c/\B<=g/\g<w.heap.size/\w.cell? ⟨g,xs.length*2+1,none⟩=some f.2/\w.frozen? ⟨g,xs.length*2+1,none⟩=false:=by
 have H:=h;unfold Bt A1 at H;have h0:(xs++[f]).length=xs.length+1:=ah
 rw[h0]at H;obtain⟨a,c,b,d⟩:=Cq.open (A1.rd ae Af h);rw[h0]at b;obtain⟨g,e,t,_,i⟩:=d xs.length ah;subst e;subst b;refine⟨g,c,rfl,?_,t,?_,World.ownsRow.frozenAt H _⟩
 ·exact(World.ownsRow.lt H g rfl).1
 rw[i];simp
def Tk(m:Nat)(l:List A4):Prop:=∀f∈l,f.1.length<=1000000000/\f.2.length+m<=1000000000
def tY(r:Option (List A4×Bs))(e:Ending)(w':World):Prop:=(∃o rest v,r=some (o,rest)/\o.length<=1000000000/\Tk 0 o/\rest.length<=1000000000/\e=.returned (.tuple #[v,.string ⟨rest.toArray⟩,.nilIface])/\Cq w' v o)\/(∃v,r=none/\e=.returned (.tuple #[.slice none 0 0,.string ⟨#[]⟩,v])/\Jo w' v 3)
theorem tZ(s:Bs)(w:World)(hl:s.length<=1000000000)(X:Cj w):Calls prog 162 #[s] w fun e W=>tY (E7 s) e W/\Below w.heap.size w W:=by
 go_enter func162,ntmps162;go_wp2_with fail;go_loopw[0,5,6] (fun t o i wr=>∃(rest:Bs)(out:List A4)(n F:Nat),t=rest/\i=n/\n+rest.length<=1000000000/\out.length<=n/\Bt wr w.heap.size o out/\rest.length<F/\Hj F out rest=E7 s/\Tk rest.length out/\Below w.heap.size w wr) (fun t _ _ _=>Jn t)
 case atStart=>exact⟨s,[],0,s.length+1,rfl,rfl,aa,ah,A1.nil _ _ _ _ _,aa,rfl,fun f C=>by simp at C,AG _ _⟩
 obtain⟨rest,out,n,F,rfl,rfl,b4,a2,p,b5,D,Y,B⟩:=hrel;have v:=AE Y;clear Y;obtain⟨F,rfl⟩:∃m,F=m+1:=⟨F-1,aa⟩;by_cases h0:rest=[]
 ·subst h0;have H:=AE (by rw[<-D];rfl:E7 s=some (out,[]));clear D;have M:=A1.rd ae Af p;go_wp2;go_ret3;exact⟨Or.inl ⟨out,[],_,H.o,aa,v.o,ah,rfl,M⟩,B⟩
 have N:=Tj h0 [13,10] ae;have P:=Yk (k:=F) (out:=out) h0;rw[D]at P;have U:=AE P;clear P D;have b6:rest.isEmpty=false:=ed
 clear h0;go_wp2_with fail;refine(Nj rest [13,10] _ aa (X.next B)).mono ?_;rintro e Z⟨rfl,Q⟩;generalize cut rest [13,10]=c at N U|-;obtain⟨l,r,ok⟩:=c;simp only at N U|-;obtain⟨a0,b7,E⟩:=N;have p:=A1.next p Q;have B:=B.trans (Q.mono B.size);clear Q;cases l with
 |nil=>
  have E:=E rfl;subst E;have H:=AE (by rw[U.o,AN ⟨rfl,rfl⟩]:E7 s=some (out,r));have M:=A1.rd ae Af p;go_wp2;go_ret3;exact⟨Or.inl ⟨out,r,_,H.o,aa,fun f C=>⟨(v.o f C).1,by have:=(v.o f C).2;omega⟩,aa,rfl,M⟩,B⟩
 |cons x L=>
  clear E;have z:=AE (by rw[U.o,AL (fun h=>by cases h.1)]:E7 s=match L7 out (x::L)with|none=>none|some o=>Hj F o r);clear U;have a3:(x.toNat:Int)<256:=by have:=x.toNat_lt;omega
  have G:=AE (show Rn (x::L)=(((x.toNat:Int)==32)||((x.toNat:Int)==9))from by
   show(x==32||x==9)=_;have h:∀d:UInt8,(x==d)=((x.toNat:Int)==(d.toNat:Int)):=fun d=>by
    by_cases e:x=d
    ·subst e;simp
    rw[AI.2 e,eq_comm,AI];intro h;exact e (BQ.1 aa)
   rw[h 32,h 9];rfl)
  go_upto_region 9 with fail;go_cut[38] (fun t wx=>t=.bool (Rn (x::L))/\wx=Z)
  case first=>
   by_cases A:((x.toNat:Int)==32)=true
   ·go_wp2;go_meet;exact⟨by rw[G.o,A];rfl,rfl⟩
   have A:=AT.2 A;by_cases I:((x.toNat:Int)==9)=true
   ·go_wp2;go_meet;exact⟨by rw[G.o,A,I];rfl,rfl⟩
   have I:=AT.2 I;go_wp2;go_meet;exact⟨by rw[G.o,A,I];rfl,rfl⟩
  case rest=>
  obtain⟨rfl,rfl⟩:=hcut;obtain⟨Z,rfl⟩:∃x:World,x=wc:=⟨_,rfl⟩;clear G a3;have a1:L7 out (x::L)=if Rn (x::L)then(match out.getLast? with|none=>none|some f=>some (out.dropLast++[(f.1,f.2++(x::L))]))else match Ao [58] (x::L)with|none=>none|some (a,b)=>if Ez a then some (out++[(a,b)])else none:=rfl
  have O:=AE a1;clear a1;have a4:(x::L).isEmpty=false:=rfl;have a5:(x::L).length<=1000000000:=aa
  have R:=Tj (GL x L) [58] ae;have u:=AE (Gs [58] (x::L));generalize Rn (x::L)=go at O|-;have a6:(x::L).length+r.length<=rest.length:=a0;generalize a7:x::L=l at z O a5 R u a6|-;clear a7 a0 a4;cases go with
  |true=>
   rcases DH out with J|⟨S,f,J⟩
   ·subst J;have H:=AE (by rw[z.o,O.o];rfl:E7 s=none);obtain⟨va,vc,rfl,_⟩:=Cq.open (A1.rd ae Af p);simp only[BG];go_wp2;go_ret3;exact⟨Or.inr ⟨_,H.o,rfl,Jo.at _ _ _ _⟩,B.alloc B.size _⟩
   rw[DI]at J;subst J;have H:=AE (by rw[z.o,O.o];simp:E7 s=Hj F (S++[(f.1,f.2++l)]) r);obtain⟨g,b8,rfl,a8,b9,c0,c1⟩:=Bt.last p;simp only[AJ,AK,BG]at a2;have a9:=v.o f ah;have b0:=fun y=>Bt.setLast (n:=S.length+1) rfl p y
   go_wp2;go_roundw
   case rel=>exact⟨r,S++[(f.1,f.2++l)],n+1,F,rfl,aj,aa,ag,b0 (f.2++l),aa,H.o.symm,fun q j=>by
    rcases BY.1 j with j|j
    ·have:=v.o q qi;exact⟨this.1,aa⟩
    simp at j;subst j;exact⟨a9.1,ag⟩,B.setCell a8 _⟩
   simp;omega
  |false=>
   go_wp2_with fail;refine(Nj l [58] _ aa (X.next B)).mono ?_;rintro e w3⟨rfl,T⟩;have p:=A1.next p T;have B:=B.trans (T.mono B.size);clear T;generalize cut l [58]=c2 at R u|-;obtain⟨a,b,b1⟩:=c2;simp only at R u|-;have ha:a.length<=1000000000:=aa
   cases b1 with
   |false=>
    have H:=AE (show E7 s=none from by
     rw[z.o,O.o];cases K:Ao [58] l with
     |none=>rfl
     |some q=>have:=u.o;rw[K]at this;simp at this)
    go_wp2;go_ret3;exact⟨Or.inr ⟨_,H.o,rfl,Jo.at _ _ _ _⟩,B.alloc B.size _⟩
   |true=>
    have H:=AE (show E7 s=match(if Ez a then some (out++[(a,b)])else none)with|none=>none|some o=>Hj F o r from by
     rw[z.o,O.o];cases K:Ao [58] l with
     |none=>have:=u.o;rw[K]at this;simp at this
     |some q=>have:=u.o;rw[K]at this;simp at this;rw[this.1,this.2];rfl)
    clear z O u;go_wp2_with fail;refine(dY a _ aa).mono ?_;rintro e W⟨rfl,rfl⟩;generalize Ez a=nb at H|-;cases nb with
    |false=>
     have V:=AE (bu:E7 s=none);go_wp2;go_ret3;exact⟨Or.inr ⟨_,V.o,rfl,Jo.at _ _ _ _⟩,B.alloc B.size _⟩
    |true=>
     have V:=AE (bu:Hj F (out++[(a,b)]) r=E7 s);go_wp2_with(at_builtin;refine Q8 rfl _ _ rfl w.heap.size _ out (a,b) w3.heap.size 1 rfl (A1.alloc p _) rfl (I0 w3 (a,b) _) aa cy ?_;intro v' w4 b2 c3 b3);go_wp2;go_roundw
     case rel=>exact⟨r,out++[(a,b)],n+1,F,rfl,aj,aa,ag,b2,aa,V.o,fun q j=>by
      rcases BY.1 j with j|j
      ·have:=v.o q j;exact⟨this.1,aa⟩
      simp at j;subst j;exact⟨ha,ag⟩,(B.alloc B.size _).trans b3⟩
     simp;omega
def nb(l:Bs):Nat:=(l.takeWhile (fun c=>c==32)).length
def nw(l:Bs):Nat:=(l.takeWhile (fun c=>c !=32)).length
def Dg(l:Bs):Nat:=nb l+nw (l.drop (nb l))
def uA(l:Bs):nb l<=l.length:=(FY _).length_le
def uB(l:Bs):nw l<=l.length:=(FY _).length_le
def eA(l:Bs):Dg l<=l.length:=by
 have H:=uA l;have h:=uB (l.drop (nb l));unfold Dg;simp at h;omega
def Yl(h:l≠[]):1<=Dg l:=by
 cases l with
 |nil=>exact absurd rfl h
 |cons c l=>
  unfold Dg;by_cases H:c=32
  ·have:1<=nb (c::l):=by unfold nb;rw[EO];simp[H]
   omega
  have h0:nb (c::l)=0:=by unfold nb;rw[EO];simp[H]
  have a:1<=nw (c::l):=by unfold nw;rw[EO];simp[H]
  rw[h0,DR];omega
def Io:Nat->Bs->Bs->Bs
 |0,_,_=>[]
 |k+1,h,rest=>
  if rest=[]then h++[13,10]
  else(if h.length+Dg rest>76 then h++[13,10]else[])++Io k ((if h.length+Dg rest>76 then[]else h)++rest.take (Dg rest)) (rest.drop (Dg rest))
def Ob(h rest:Bs):Bs:=Io (rest.length+1) h rest
theorem Vl:∀(k:Nat)(H rest:Bs),(Io k H rest).length<=H.length+2+3*rest.length
 |0,_,_=>by simp[Io]
 |k+1,H,rest=>by
  unfold Io;split
  ·simp
  rename_i h;have p:=Yl h;have e:=eA rest;have ih:=Vl k ((if H.length+Dg rest>76 then[]else H)++rest.take (Dg rest)) (rest.drop (Dg rest));split at ih
  ·rename_i a;rw[AN a,AN a];simp at ih|-;omega
  rename_i a;rw[AL a,AL a];simp at ih|-;omega
def eB(h:k<l.length):nb (l.drop k)=if l[k]=32 then 1+nb (l.drop (k+1))else 0:=by
 rw[Q7 h];unfold nb;rw[EO];by_cases H:l[k]=32
 ·simp[H];omega
 simp[H]
def eC(h:k<l.length):nw (l.drop k)=if l[k]=32 then 0 else 1+nw (l.drop (k+1)):=by
 rw[Q7 h];unfold nw;rw[EO];by_cases H:l[k]=32
 ·simp[H]
 simp[H];omega
def uC(B b:Nat)(l d rest:Bs)(w:World)(h:E6 B b l w)(J:B<=w.heap.size)(h1:l.length<=10000000000000)(h2:d.length<=1000000000000)(h3:rest.length<=1000000000000):Calls prog 272 #[.pointer (some ⟨b,0,none⟩),d,rest] w fun e K=>e=.returned (.tuple #[])/\E6 B b (l++Ob d rest) K/\Below B w K:=by
 have X:=Vl (rest.length+1) d rest;have L:=AE (ca:Ob d rest=Io (rest.length+1) d rest);generalize M:Io (rest.length+1) d rest=T at X L;have Y:=AE M;clear M;go_enter func272,ntmps272;go_wp2_with fail;go_loopw[1,2] (fun x y wr=>∃(H r o:Bs)(f:Nat),x=H/\y=r/\H.length+r.length<=2000000000000/\r.length<f/\o++Io f H r=T/\E6 B b (l++o) wr/\Below B w wr) (fun _ y _=>Jn y)
 case atStart=>exact⟨d,rest,[],rest.length+1,rfl,rfl,aa,aa,Y.o,by rw[BU];exact h,AG _ _⟩
 obtain⟨H,r,o,f,rfl,rfl,a2,a3,O,g,p⟩:=hrel;have u:=AE O;clear O;obtain⟨f,rfl⟩:∃m,f=m+1:=⟨f-1,aa⟩;have a4:=AE (Vl (f+1) H r);have P:o.length+(Io (f+1) H r).length=T.length:=by rw[<-u.o];simp
 have HO:=AE P;clear P;go_wp2_with fail;obtain⟨W,rfl⟩:∃W:World,W=wr:=⟨_,rfl⟩;go_loop[6] (fun i=>∃k:Nat,i=k/\k<=r.length/\nb r=k+nb (r.drop k)) (fun i=>r.length-(intOf i).toNat)
 case atStart=>exact⟨0,rfl,aa,ah⟩
 obtain⟨k,rfl,Q,R⟩:=hrel;have A:=AE R;clear R;by_cases c:∃h:k<r.length,r[k]=32
 ·obtain⟨a,q⟩:=c;have D:=AE (by rw[eB a,AN q]:nb (r.drop k)=1+nb (r.drop (k+1)));go_wp2_with fail
  go_round
  case rel=>exact⟨k+1,aj,aa,by rw[A.o,D.o];omega⟩
  simp[intOf];omega
 have S:nb r=k:=by
  rw[A.o];by_cases a:k<r.length
  ·rw[eB a,AL (fun h=>c ⟨a,h⟩)];rfl
  rw[BP aa];simp[nb]
 have U:=AE (by unfold Dg;rw[S]:Dg r=k+nw (r.drop k));have s:=AE c;clear c S A;go_upto_region 1 with fail;go_cut[16] (fun t C=>t=false/\C=W)
 case first=>
  by_cases a:k<r.length
  ·have Z:((r[k].toNat:Int)==32)=false:=by rw[AI];intro h;exact s.o ⟨a,BQ.1 ag⟩
   go_wp2;go_meet;exact⟨rfl,rfl⟩
  go_wp2;go_meet;exact⟨rfl,rfl⟩
 case rest=>
 obtain⟨rfl,rfl⟩:=hcut;obtain⟨W,rfl⟩:∃W:World,W=wc:=⟨_,rfl⟩;clear s;go_wp2_with fail;go_loop[6] (fun i=>∃m:Nat,i=m/\m<=r.length/\Dg r=m+nw (r.drop m)) (fun i=>r.length-(intOf i).toNat)
 case atStart=>exact⟨k,rfl,Q,U.o⟩
 clear U Q;obtain⟨m,rfl,hm,V⟩:=hrel;have E:=AE V;clear V;by_cases c:∃h:m<r.length,r[m]≠32
 ·obtain⟨a,q⟩:=c;have Z:((r[m].toNat:Int)!=32)=true:=by rw[DD];intro h;exact q (BQ.1 ag)
  have D:=AE (by rw[eC a,AL q]:nw (r.drop m)=1+nw (r.drop (m+1)));clear q;go_wp2_with fail
  go_round
  case rel=>exact⟨m+1,aj,aa,by rw[E.o,D.o];omega⟩
  simp[intOf];omega
 have F:Dg r=m:=by
  rw[E.o];by_cases a:m<r.length
  ·rw[eC a,AN (Decidable.not_not.1 fun h=>c ⟨a,h⟩)];rfl
  rw[BP aa];simp[nw]
 have s:=AE c;clear c E;go_upto_region 3 with fail;go_cut[28] (fun t C=>t=false/\C=W)
 case first=>
  by_cases a:m<r.length
  ·have a5:r[m]=32:=Decidable.not_not.1 fun h=>s.o ⟨a,h⟩
   go_wp2;go_meet;exact⟨rfl,rfl⟩
  go_wp2;go_meet;exact⟨rfl,rfl⟩
 case rest=>
 obtain⟨rfl,rfl⟩:=hcut;obtain⟨W,rfl⟩:∃W:World,W=wc:=⟨_,rfl⟩;clear s;by_cases h0:r=[]
 ·subst h0;have N:=AE (by rw[<-u.o];unfold Io;rw[AN rfl]:o++(H++[13,10])=T);have n:=CI List.length N.o;simp at n;have G:=AE n;clear n;go_wp2_with fail;refine(Kg B b (l++o) (H++[13,10]) _ g (by have:=G.o;simp;omega) (AV J p.size)).mono ?_;rintro e w2⟨rfl,g,I⟩;go_wp2_with fail;refine AO (v:=.tuple #[]) (by simp[results,results272,go_sem]) rfl ⟨rfl,by rw[L.o,<-N.o,<-AP];exact g,p.trans I⟩
 have a6:r.isEmpty=false:=ed
 have a0:=Yl h0;rw[F]at a0;have N:=AE (by rw[<-u.o,<-F];conv=>rhs;unfold Io;rw[AL h0]:o++((if H.length+m>76 then H++[13,10]else[])++Io f ((if H.length+m>76 then[]else H)++r.take m) (r.drop m))=T);clear h0 F u;by_cases j:76<H.length+m
 ·have a1:(76:Int)<(H.length:Int)+(m:Int):=by omega
  have z:=AE (by rw[<-N.o,AN j,AN j];simp:o++(H++[13,10])++Io f (r.take m) (r.drop m)=T);have n:=CI List.length z.o;simp only[AJ]at n;have G:=AE n;clear n N j;go_wp2_with fail;refine(Kg B b (l++o) (H++[13,10]) _ g (by have:=G.o;simp at this|-;omega) (AV J p.size)).mono ?_;rintro e w2⟨rfl,g,I⟩;go_wp2;go_roundw
  case rel=>exact⟨r.take m,r.drop m,o++(H++[13,10]),f,rfl,rfl,ag,ag,z.o,by rw[<-AP];exact g,p.trans I⟩
  simp;omega
 have a1:(H.length:Int)+(m:Int)<=76:=aa
 have z:=AE (by rw[<-N.o,AL j,AL j];simp:o++Io f (H++r.take m) (r.drop m)=T);clear N j;go_wp2;go_roundw
 case rel=>exact⟨H++r.take m,r.drop m,o,f,rfl,rfl,ag,ag,z.o,g,p⟩
 simp;omega
end Go.Proofs.YtignjjnflcpiiaaGreatDoor
namespace Go.Proofs.YtignjjnflcpiiaaGreatDoor
open Go Go.RowKit Proofs.Tryz Lib
def Rq:Bs:=[40,41,60,62,64,44,59,58,92,34,47,91,93,63,61]
def Ge(r:Nat):Bool:=decide (r<33)||(decide (126<r)||Rq.contains r.toUInt8)
def uD(r:Nat)(h:128<=r):Ge r=true:=by
 unfold Ge;rw[BH (show 126<r by omega)];simp
def Ag(s:Bs):Bool:=!s.isEmpty&&!(s.any fun c=>Ge c.toNat)
def C6(c:UInt8):Bool:=decide (32<=c)&&decide (c<=126)
def Bj:Bs->Option (Bs×Bs)
 |[]=>none
 |[c]=>if c=34 then some ([],[])else none
 |c::d::l=>
  if c=34 then some ([],d::l)
  else if c=92 then(if C6 d then(Bj l).map fun x=>(d::x.1,x.2)else none)
  else if C6 c then(Bj (d::l)).map fun x=>(c::x.1,x.2)else none
def F0(c:UInt8):Bool:=([59,32,9]:Bs).contains c
def D6(s:Bs):Bs×Bs×Bool:=
 if hasPrefix s [34]then match Bj (s.drop 1)with
  |none=>([],[],false)
  |some x=>(x.1,x.2,true)
 else(s.takeWhile (fun c=>!F0 c),s.dropWhile (fun c=>!F0 c),Ag (s.takeWhile fun c=>!F0 c))
def Hk(rest:Bs):Option (A4×Bs):=let c:=cut (trimLeftS rest [32,9]) [61]
 let n:=trimRightS c.1 [32,9];let v:=D6 (trimLeftS c.2.1 [32,9])
 if c.2.2&&Ag n then(if v.2.2 then some ((A2 n,v.1),trimLeftS v.2.1 [32,9])else none)else none
def Ia:Nat->Bs->Option (List A4)
 |0,_=>none
 |k+1,rest=>match Hk rest with
  |none=>none
  |some (f,r)=>match r with
   |[]=>some [f]
   |c::R=>if c=59 then(Ia k R).map (f::·)else none
def Ay(s:Bs):Option (Bs×List A4):=let c:=cut s [59]
 let m:=A2 (trimS c.1 [32,9]);let d:=cut m [47]
 if Ag d.1&&(!d.2.2||Ag d.2.1)then(if c.2.2 then Ia (c.2.1.length+1) c.2.1 else some []).map fun l=>(m,l)else none
def Cc:List A4->Bs->Option Bs
 |[],_=>none
 |f::l,s=>if f.1=s then some f.2 else Cc l s
def E8(c:UInt8):Bs:=if c=92 then[92,92]else if c=34 then[92,34]else[c]
def Dc(v:Bs):Bs:=if Ag v then v else 34::(v.flatMap E8++[34])
def Hm(p:A4):Option Bs:=
 if Ag p.1&&(A2 p.1==p.1)&&!(p.2.any fun c=>!C6 c)then some (59::32::(p.1++61::Dc p.2))else none
def Ee:List A4->Option Bs
 |[]=>some []
 |p::l=>match Hm p with
  |none=>none
  |some x=>(Ee l).map (x++·)
def Cl(m:Bs)(l:List A4):Option Bs:=let d:=cut m [47]
 if Ag d.1&&(!d.2.2||Ag d.2.1)&&(A2 m==m)then(Ee l).map (m++·)else none
def uE(p:UInt8->Bool)(l:Bs):(l.dropWhile p).length<=l.length:=(EM p).length_le
def Rr(p:UInt8->Bool)(l:Bs):(l.takeWhile p).length<=l.length:=(FY p).length_le
def Q9(x cs:Bs):(trimLeftS x cs).length<=x.length:=by
 unfold trimLeftS;exact uE _ _
def Oc(s p:Bs):(cut s p).1.length+(cut s p).2.1.length<=s.length:=by
 rw[Gs];cases h:Ao p s with
 |none=>simp
 |some x=>
  obtain⟨a,b⟩:=x;have e:=CI List.length (F7 h);simp at e|-;omega
def uF(s p:Bs)(c:p≠[])(h:(cut s p).2.2=true):(cut s p).1.length+(cut s p).2.1.length<s.length:=by
 rw[Gs]at h|-;cases H:Ao p s with
 |none=>rw[H]at h;simp at h
 |some x=>
  obtain⟨a,b⟩:=x;have e:=CI List.length (F7 H);have:=BK.2 c;simp at e|-;omega
def uG(s p:Bs):contains s p=(cut s p).2.2:=by
 rw[Gs];unfold contains;rw[Jl];cases Ao p s with
 |none=>rfl
 |some x=>simp
theorem Vm:∀(s v r:Bs),Bj s=some (v,r)->v.length+r.length<s.length
 |[],_,_,h=>by simp[Bj]at h
 |[c],v,r,h=>by
  unfold Bj at h;split at h
  ·simp at h;rw[h.1,h.2];simp
  cases h
 |c::d::l,v,r,h=>by
  unfold Bj at h;split at h
  ·simp at h;rw[h.1,<-h.2];simp
  split at h
  ·split at h
   ·simp only[BM]at h;obtain⟨⟨a,b⟩,e,H⟩:=h;have:=Vm l a b e;simp at H;simp[<-H.1,<-H.2];omega
   cases h
  split at h
  ·simp only[BM]at h;obtain⟨⟨a,b⟩,e,H⟩:=h;have:=Vm (d::l) a b e;simp at H this;simp[<-H.1,<-H.2];omega
  cases h
def eD(s:Bs):(D6 s).1.length+(D6 s).2.1.length<=s.length:=by
 unfold D6;split
 ·cases h:Bj (s.drop 1)with
  |none=>simp
  |some x=>
   obtain⟨v,r⟩:=x;have:=Vm _ _ _ h;simp at this|-;omega
 have:=CI List.length (DF (p:=fun c=>!F0 c) (l:=s));simp only[AJ]at this;simp only;omega
def Ym{rest r:Bs}{f:A4}(h:Hk rest=some (f,r)):f.1.length+f.2.length+r.length<rest.length:=by
 unfold Hk at h;simp only at h;split at h
 ·rename_i H;split at h
  ·simp at h;obtain⟨a,b⟩:=h;have c:(cut (trimLeftS rest [32,9]) [61]).2.2=true:=by simp at H;exact H.1
   have A:=uF _ _ ae c;have d:=Q9 rest [32,9];have e:=Q9 (cut (trimLeftS rest [32,9]) [61]).2.1 [32,9];have g:=eD (trimLeftS (cut (trimLeftS rest [32,9]) [61]).2.1 [32,9]);have i:=Q9 (D6 (trimLeftS (cut (trimLeftS rest [32,9]) [61]).2.1 [32,9])).2.1 [32,9];have j:=T9 (cut (trimLeftS rest [32,9]) [61]).1 [32,9];rw[<-a,<-b];simp only[A2,DQ];omega
  cases h
 cases h
theorem eE:∀(k:Nat)(rest:Bs)(l:List A4),Ia k rest=some l->l.length<=rest.length/\∀f∈l,f.1.length<=rest.length/\f.2.length<=rest.length
 |0,_,_,h=>by simp[Ia]at h
 |k+1,rest,l,h=>by
  unfold Ia at h;cases p:Hk rest with
  |none=>rw[p]at h;cases h
  |some x=>
   obtain⟨f,r⟩:=x;have e:=Ym p;rw[p]at h;simp only at h;cases r with
   |nil=>simp at h;subst h;exact⟨by simp at e|-;omega,fun g H=>by simp at H;subst H;simp at e;omega⟩
   |cons c R=>
    simp only at h;split at h
    ·simp only[BM]at h;obtain⟨L,a,rfl⟩:=h;obtain⟨B,b⟩:=eE k R L a;simp at e;refine⟨ag,fun g H=>?_⟩;rcases CG.1 H with rfl|H
     ·omega
     have:=b g H;omega
    cases h
def eF{s m:Bs}{l:List A4}(h:Ay s=some (m,l)):m.length<=s.length/\l.length<=s.length/\∀f∈l,f.1.length<=s.length/\f.2.length<=s.length:=by
 unfold Ay at h;simp only at h;have d:=Oc s [59];split at h
 ·simp only[BM]at h;obtain⟨L,H,a⟩:=h;simp at a;obtain⟨rfl,rfl⟩:=a;have e:=Ro (cut s [59]).1 [32,9];refine⟨ot,?_⟩;split at H
  ·obtain⟨B,b⟩:=eE _ _ _ H;exact⟨aa,fun f c=>by have:=b f c;omega⟩
  simp at H;subst H;simp
 cases h
def uH(s:Bs)(k:Nat)(H:k<s.length)(a:s[k]≠34):∃(j:Nat)(d:j<s.length),k<=j/\(s[k]=92/\k+1<s.length->j=k+1)/\(¬(s[k]=92/\k+1<s.length)->j=k)/\Bj (s.drop k)=if C6 s[j]then(Bj (s.drop (j+1))).map fun x=>(s[j]::x.1,x.2)else none:=by
 by_cases h:s[k]=92/\k+1<s.length
 ·refine⟨k+1,h.2,aa,fun _=>rfl,fun n=>absurd h n,?_⟩;rw[AH H,AH h.2];conv=>lhs;unfold Bj
  rw[AL a,AN h.1]
 refine⟨k,H,AF _,fun n=>absurd n h,fun _=>rfl,?_⟩;rw[AH H];by_cases b:k+1<s.length
 ·have c:s[k]≠92:=fun e=>h ⟨e,b⟩
  rw[AH b];conv=>lhs;unfold Bj
  rw[AL a,AL c]
 rw[BP (show s.length<=k+1 by omega)];conv=>lhs;unfold Bj
 rw[AL a];split<;>simp[Bj]
theorem Vn(cs:Bs):∀l:Bs,(indexAny l cs=if(l.takeWhile fun c=>!cs.contains c).length=l.length then-1 else((l.takeWhile fun c=>!cs.contains c).length:Int))
 |[]=>rfl
 |c::l=>by
  unfold indexAny;rw[Vn cs l,EO];have H:=Rr (fun c=>!cs.contains c) l;generalize(l.takeWhile fun c=>!cs.contains c)=t at H|-;cases b:cs.contains c with
  |true=>
   simp only[DK,EK,CC,DM,BG,AK];rw[AL aa];rfl
  |false=>
   simp only[EN,DK,AK,CC,DM];by_cases h:t.length=l.length
   ·rw[AN h,AN (show t.length+1=l.length+1 by omega)];rfl
   rw[AL h,AL (show¬t.length+1=l.length+1 by omega)];have a:((t.length:Int)==-1)=false:=di
   rw[a];simp
def Vo(p:UInt8->Bool)(l:Bs):l.take (l.takeWhile p).length=l.takeWhile p:=by
 have h:=DF (p:=p) (l:=l);generalize l.takeWhile p=a at h|-;rw[<-h];simp
def Yn(p:UInt8->Bool)(l:Bs):l.drop (l.takeWhile p).length=l.dropWhile p:=by
 have h:=DF (p:=p) (l:=l);generalize l.takeWhile p=a at h|-;generalize l.dropWhile p=b at h|-;rw[<-h];simp
def Gf(f:A4):Bs:=(cut f.2 [32]).1
def G0:List A4->Option Bs
 |[]=>some []
 |f::l=>if Ck [f]then(G0 l).map (Ob (f.1++58::32::Gf f) (f.2.drop (Gf f).length)++·)else none
def D7(l:List A4):Option Bs:=(G0 l).map (·++[13,10])
def eG(w:World)(x y:Bs)(t:TypeId):Cq (w.alloc (.cells #[x,y] t)) (.slice (some ⟨w.heap.size,0,none⟩) 1 1) [(x,y)]:=by
 refine⟨_,1,rfl,fun _=>⟨w.heap.size,rfl,ah,fun j h=>?_⟩⟩;rw[(A0.new w #[x,y] t).cell]
 match j,h with
 |0,_=>rfl
 |1,_=>rfl
def eH(h rest:Bs):(Ob h rest).length<=h.length+2+3*rest.length:=Vl _ _ _
def Tl(n:Int)(r:Option Bs)(e:Ending)(w':World):Prop:=(∃o,r=some o/\e=.returned (.tuple #[.string ⟨o.toArray⟩,.nilIface]))\/(∃v,r=none/\e=.returned (.tuple #[.string ⟨#[]⟩,v])/\Jo w' v n)
def eI(v:Value)(l:List A4)(w:World)(t:Cq w v l)(a3:l.length<=1000000)(u:∀f∈l,f.1.length<=1000000/\f.2.length<=1000000)(P:Cj w):Calls prog 199 #[v] w fun e w'=>Tl 1 (D7 l) e w'/\Below w.heap.size w w':=by
 have Q:=AE u;clear u;obtain⟨a,a4,rfl,z⟩:=t.open;have R:=AE z;clear z t;have S:=P6 w;go_enter func199,ntmps199;go_wp2_with fail;go_loopw[12] (fun i wr=>∃(k:Nat)(o:Bs),i=k/\k<=l.length/\o.length<=k*5000010/\E6 w.heap.size w.heap.size o wr/\(G0 (l.drop k)).map (o++·)=G0 l/\Below w.heap.size w wr) (fun i _=>l.length-(intOf i).toNat)
 case atStart=>exact⟨0,[],rfl,aa,ah,S,ah,cu⟩
 obtain⟨k,o,rfl,hk,a5,H,A,B⟩:=hrel;have j:=AE A;clear A;by_cases E:k<l.length
 ·obtain⟨b,rfl,F,G,I⟩:=R.o k E;have r:=Q.o l[k] (AQ _);have D:=AE (by rw[AH E];rfl:G0 (l.drop k)=if Ck [l[k]]then(G0 (l.drop (k+1))).map (Ob (l[k].1++58::32::Gf l[k]) (l[k].2.drop (Gf l[k]).length)++·)else none);have C:=(B.cell (p:=⟨b,k*2,none⟩) F).trans G;have m:=(B.cell (p:=⟨b,k*2+1,none⟩) F).trans I;clear G I;generalize l[k]=f at r D C m;obtain⟨x,y⟩:=f;simp only at r D C m;obtain⟨hx,hy⟩:=r;have K:=(A0.new wr #[x,y] 92).alloc (.cells #[x,y] 92);have s:=eG (wr.alloc (.cells #[x,y] 92)) x y 92;have H:=H.next (w':=(wr.alloc (.cells #[x,y] 92)).alloc (.cells #[x,y] 92)) (((AG _ _).alloc (AF _) _).alloc ah _);have B:=(B.alloc B.size (.cells #[x,y] 92)).alloc (B.alloc B.size (.cells #[x,y] 92)).size (.cells #[x,y] 92);rw[AX]at s;go_wp2_with fail;refine(Yj _ [(x,y)] _ s ⟨ah,fun q d=>by simp at d;subst d;exact⟨ag,ag⟩⟩).mono ?_;rintro e T⟨rfl,g⟩;have K:=K.next g K.lt;have H:=H.next g;have B:=B.trans (g.mono B.size);clear g s C m;have J:=K.cell;generalize Ck [(x,y)]=U at D|-;cases U with
  |false=>
   have N:=AE (by unfold D7;rw[<-j.o,D.o];rfl:D7 l=none);go_wp2;go_ret2;exact⟨Or.inr ⟨_,N.o,rfl,Jo.at _ _ _ _⟩,B.alloc B.size _⟩
  |true=>
   have hF:=AE (ca:Gf (x,y)=(cut y [32]).1);have L:(cut y [32]).1.length<=y.length:=by
    by_cases h:y=[]
    ·subst h;decide
    have:=(Tj h [32] ae).1;omega
   go_wp2_with fail;refine(Nj y [32] _ aa (P.next B)).mono ?_;rintro e w3⟨rfl,n⟩;have K:=K.next n K.lt;have H:=H.next n;have B:=B.trans (n.mono B.size);clear n J;generalize Gf (x,y)=q at D hF;have d:(cut y [32]).1=q:=hF.o.symm;generalize cut y [32]=c at L d|-;obtain⟨C,m,c3⟩:=c;simp only at L d|-;subst d;clear hF;have N:=AE (by rw[<-j.o,D.o];simp only[DK];cases G0 (l.drop (k+1))<;>simp:(G0 (l.drop (k+1))).map ((o++Ob (x++58::32::C) (y.drop C.length))++·)=G0 l);clear D j;have M:=eH (x++58::32::C) (y.drop C.length);have a6:(Ob (x++58::32::C) (y.drop C.length)).length<=5000010:=by simp only[AJ,BD,AK]at M;omega
   clear M;go_upto_region 8 with fail;have rc:=(A0.drew K).cell;have J:=K.cell;have i1:(C.length:Int)<=y.length:=aa
   have i2:(0:Int)<=C.length:=aa
   have V:=fun W(X:E6 w.heap.size w.heap.size o W)(Y:w.heap.size<=W.heap.size)=>uC w.heap.size w.heap.size o (x++58::32::C) (y.drop C.length) W X Y aa ag ag
   have Z:=H.drew;have O:=B.drew;have a0:=O.size;have g1:¬9223372036854775807<x.length+2:=aa
   have g2:¬9223372036854775807<x.length+2+C.length:=aa
   have g3:¬9223372036854775807<x.length+(C.length+1+1):=aa
   go_region_law((go_simp;refine(V _ Z a0).mono ?_;rintro e w4⟨rfl,a1,a2⟩));all_goals
    go_wp2;go_roundw
    case rel=>exact⟨k+1,_,aj,aa,ag,a1,N.o,O.trans a2⟩
    simp[intOf];omega
 obtain rfl:k=l.length:=aa
 have N:=AE (by unfold D7;rw[<-j.o,AS];simp[G0]:D7 l=some (o++[13,10]));go_wp2_with fail;refine(Q5 _ _ _ _ H B.size).mono ?_;rintro e T⟨rfl,g⟩;go_wp2;go_ret2;exact⟨Or.inl ⟨_,N.o,rfl⟩,B.trans g⟩
def C7(s o:Bs):Nat:=(s.takeWhile fun c=>o.contains c).length
def Cr:List (Bs×Bs):=[([38],[38,97,109,112,59]),([34],[38,113,117,111,116,59]),([39],[38,35,51,57,59]),([60],[38,108,116,59]),([62],[38,103,116,59])]
def I1(s:Bs):Option Nat:=Cr.findIdx? fun x=>hasPrefix s x.2
def L9:Nat->Bs->Bs
 |0,_=>[]
 |k+1,l=>if l=[]then[]else match I1 l with
  |none=>l.take 1++L9 k (l.drop 1)
  |some j=>(Cr.getD j ([],[])).1++L9 k (l.drop (Cr.getD j ([],[])).2.length)
def D1(l:Bs):Bs:=L9 (l.length+1) l
abbrev Av:=Nat×Nat×Bs
def Gy:Bs:=[32,9,13,10]
def Ip:List Bs:=[[98,97,99,107,103,114,111,117,110,100],[104,114,101,102],[115,114,99]]
def Qa:List Bs:=[[115,99,114,105,112,116],[115,116,121,108,101],[116,101,120,116,97,114,101,97],[116,105,116,108,101]]
def Em:Bs:=[65,66,67,68,69,70,71,72,73,74,75,76,77,78,79,80,81,82,83,84,85,86,87,88,89,90,97,98,99,100,101,102,103,104,105,106,107,108,109,110,111,112,113,114,115,116,117,118,119,120,121,122,48,49,50,51,52,53,54,55,56,57]
def Cm(s p:Bs)(i:Nat):Nat:=if index (s.drop i) p<0 then s.length else i+((index (s.drop i) p).toNat+p.length)
def E9(s name:Bs)(i:Nat):Bool×Nat×List Av:=
 match s.drop i with
 |[]=>(false,i,[])
 |c::l=>
  let q:=c==34||c==39
  let k:=if q then indexByte l c else indexAny (c::l) [32,9,13,10,62]
  let o:=if q then 1 else 0
  if k<0 then(false,s.length,[])
  else(true,i+k.toNat+2*o,if Ip.contains name then[(i+o,k.toNat,D1 (((c::l).drop o).take k.toNat))]else[])
def C5(s:Bs)(i:Nat):Bool×Nat×List Av:=let a:=i+C7 (s.drop i) [32,9,13,10,47]
 match s.drop a with
 |[]=>(false,a,[])
 |c::l=>
  if c=62 then(false,a+1,[])
  else
   let k:=indexAny l [32,9,13,10,47,61,62]
   if k<0 then(false,s.length,[])
   else
    let b:=a+(1+k.toNat);let d:=b+C7 (s.drop b) Gy
    if(s.drop d).head?=some 61 then E9 s (A2 ((c::l).take (1+k.toNat))) (d+1+C7 (s.drop (d+1)) Gy)
    else(decide (d<s.length),d,[])
def La(s:Bs):Nat->Nat->Nat×List Av
 |0,i=>(i,[])
 |f+1,i=>match C5 s i with
  |(true,j,l)=>((La s f j).1,l++(La s f j).2)
  |(false,j,l)=>(j,l)
def Dt(s:Bs)(i:Nat):Nat×List Av:=let n:=C7 (s.drop i) Em
 let N:=A2 ((s.drop i).take n);let r:=La s (s.length+1) (i+n)
 if Qa.contains N then
  (
   let k:=index (A2 (s.drop r.1)) ([60,47]++N)
   if k<0 then s.length else r.1+k.toNat,r.2)
 else r
def Iq(s:Bs):Nat->Nat->List Av
 |0,_=>[]
 |f+1,i=>
  let a:=Cm s [60] i
  match s.drop a with
  |[]=>[]
  |c::l=>
   if hasPrefix (c::l) [33,45,45]then Iq s f (Cm s [45,45,62] (a+3))
   else if c=47\/c=33\/c=63 then Iq s f (Cm s [62] a)
   else if(Em.take 52).contains c then(Dt s a).2++Iq s f (Dt s a).1
   else Iq s f a
def Bf(s:Bs):List Av:=Iq s (s.length+1) 0
def P9(s o:Bs):C7 s o<=s.length:=Rr _ _
def uI(s o:Bs):s.length-(trimLeftS s o).length=C7 s o:=by
 have h:=CI List.length (DF (p:=fun c=>o.contains c) (l:=s));simp only[AJ]at h;unfold C7 trimLeftS;omega
def Od(s p:Bs):index s p<0\/(0<=index s p/\(index s p).toNat+p.length<=s.length):=by
 rw[Jl];cases h:Ao p s with
 |none=>left;simp
 |some x=>
  obtain⟨a,b⟩:=x;right;have e:=CI List.length (F7 h);simp at e|-;omega
def Pa(s p:Bs)(i:Nat)(H:i<=s.length):i<=Cm s p i/\Cm s p i<=s.length:=by
 unfold Cm;rcases Od (s.drop i) p with h|⟨b,a⟩
 ·rw[AN h];exact⟨H,AF _⟩
 rw[AL aa];simp at a;omega
def Rs(s p:Bs)(i:Nat)(H:i<s.length)(h:p≠[]):i<Cm s p i:=by
 have:=BK.2 h;unfold Cm;split<;>omega
def eJ(l:Bs)(c:UInt8):indexByte l c<0\/(0<=indexByte l c/\(indexByte l c).toNat+1<=l.length):=by
 rw[<-index_one];simpa using Od l [c]
def Vp(l cs:Bs):indexAny l cs<0\/(0<=indexAny l cs/\(indexAny l cs).toNat+1<=l.length):=by
 rw[Vn];have:=Rr (fun c=>!cs.contains c) l;split
 ·left;decide
 right;omega
def uJ{a b:Bool}(h:a=true)(k:b=true):(a&&b)=true:=by rw[h,k];rfl
def uK:joinedFacts Tryz.pinned.checked.prog 7 f7 Rows.deskAnswersSpec Rows.deskAnswersRow=true:=by
 unfold joinedFacts;repeat' with_reducible refine uJ ?_ ?_
 all_goals first|with_reducible exact tA|with_reducible exact tB|with_reducible exact tC|with_reducible exact tD|with_reducible exact tE|with_reducible exact tF|with_reducible exact tG|with_reducible exact tH|with_reducible exact tI|with_reducible exact tJ|with_reducible exact tK|with_reducible exact tL|with_reducible exact tM|kernel_rfl
def eK:Tryz.pinned.checked.prog.funcNamed Rows.deskAnswersRow.func=some 7:=af
def uL:f7.isInstance Tryz.pinned.checked.prog Rows.deskAnswersRow.origin Rows.deskAnswersRow.targs:=EU af
def uM:f7.isWrapper Tryz.pinned.checked.prog Rows.deskAnswersRow.wrapper Rows.deskAnswersRow.mainSum:=by unfold Func.isWrapper;rw[AL (JZ af)];exact⟨rfl,rfl⟩
def uN:Rows.deskAnswersRow.wfByText (OpenSpec.ofChange Rows.deskAnswersSpec)=true:=af
def uO:Tryz.pinned.checked.prog.mainIs=some (true,"6f0251da0188cf8eafed328b06f003c29786626d0e54394887c6c4c50c66b9af".toList):=af
def uP:true=Tryz.pinned.checked.prog.looks []:=af
def uQ:([9].all fun u=>!prog.wantsStandIn u)=true:=af
def uR:true=Rows.deskAnswersRow.goesBy Tryz.pinned.checked.prog:=af
end Go.Proofs.YtignjjnflcpiiaaGreatDoor
