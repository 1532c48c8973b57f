/- strings.IndexRune finds no rune from 128 on in a text of -/
import Derived.Lib.SpaceUEq
import Derived.Test.YtignjjnflcpiiaaGreatDoorV00
set_option maxHeartbeats 4000000
set_option maxRecDepth 100000 set_option linter.all false
namespace Go.Proofs.YtignjjnflcpiiaaGreatDoor
open Go Go.RowKit Proofs.Tryz Lib
def uS(r:Int)(w:World):Calls prog 293 #[.int .i32 r] w fun e W=>e=.returned (.bool (validRune r))/\w=W:=by
 by_cases h:0<=r/\r<55296
 ·obtain⟨a,b⟩:=h;have H:=AE (by unfold validRune;rw[BH];omega:validRune r=true);go_enter func293,ntmps293;go_wp2;go_ret;exact⟨Bm H.o.symm,rfl⟩
 by_cases f:57343<r/\r<=1114111
 ·obtain⟨a,b⟩:=f;have c:¬r<55296:=by omega
  have d:0<=r:=aa
  have H:=AE (by unfold validRune;rw[BH];omega:validRune r=true);clear h;go_enter func293,ntmps293;go_wp2;go_ret;exact⟨Bm H.o.symm,rfl⟩
 have H:=AE (by unfold validRune;rw[AY];omega:validRune r=false);have g:=AE h;clear h;have i:=AE f;clear f;go_enter func293,ntmps293;go_wp2_with fail;all_goals
  go_ret;exact⟨Bm (by have a:=H.o;have b:=g.o;have c:=i.o;first|exact a.symm|(rw[a];done)|(rw[a];simp;omega)),rfl⟩
def Tm(c:UInt8):((c.toNat:Int)).toNat.toUInt8=c:=ah
def Yo(l:List UInt8)(c:Int)(d:UInt8)(H:c.toNat.toUInt8=d)(w:World):Calls prog 100 #[l,.int .u8 c] w fun e W=>e=.returned (.int .i64 (indexByte l d))/\W=w:=(P5 l c d H w).mono fun _ _ h=>⟨h.1,h.2.symm⟩
def uT(l:List UInt8)(r:Int)(h:128<=r)(s:r<=1114111)(a:∀c∈l,c.toNat<128)(u:l.length<=100)(w:World):Calls prog 257 #[.string ⟨l.toArray⟩,.int .i32 r] w fun e W=>e=.returned (.int .i64 (-1))/\Below w.heap.size w W:=by
 have N:¬r<128:=aa
 have y:(0:Int)<=r:=aa
 have H:=AE a;clear a;go_enter func257,ntmps257;by_cases b:r=65533
 ·subst b;go_wp2_with fail
  go_loopg [] l.length (fun g x=>∃i:Nat,i+g=l.length/\x=w.iter ⟨l.toArray⟩ i)
  case atStart=>exact⟨0,aa,rfl⟩
  obtain⟨i,z,rfl⟩:=hrel;cases gk with
  |zero=>
   obtain rfl:i=l.length:=aa
   have j:=run_next_end (P:=prog) w ⟨l.toArray⟩ l.length;go_wp2;go_ret;exact⟨rfl,(AG _ _).alloc (AF _) _⟩
  |succ g=>
   have m:i<l.length:=aa
   have n:l[i].toNat<128:=H.o l[i] (AQ _);have j:=fun t=>run_next_ascii (P:=prog) w ⟨l.toArray⟩ i t m n
   have A:((l[i].toNat:Int)==65533)=false:=di
   go_wp2_with fail
   go_roundg g
   case measure=>omega
   exact⟨i+1,aa,rfl⟩
 have C:(r==65533)=false:=by rw[AI];exact b
 go_wp2_with fail;refine(uS r _).mono ?_;rintro e D⟨rfl,rfl⟩;cases v:validRune r with
 |false=>
  clear v;go_wp2;go_ret;exact⟨rfl,AG _ _⟩
 |true=>
  obtain⟨o,p,f⟩:=encode_facts r (by rw[validRune_eq];exact v) h;have F:=AE f;clear f v;go_wp2_with fail
  go_step3
  go_wp2_with fail;refine wp_loop_rounds 1 ?_;rw[rounds_succ];generalize Utf8.encode r=E at o p F|-;obtain⟨k,d⟩:∃k:Nat,(E.size:Int)-1=(k:Int):=⟨E.size-1,aa⟩;simp only[d];have X:k<E.size:=aa
  have G:128<=(E[k].toNat:Int):=by
   obtain rfl:k=E.size-1:=aa
   have:=F.o aa;omega
  clear d F;by_cases I:k<l.length
  ·go_wp2_with fail
   go_step3
   go_wp2_with fail;have J:((l[k].toNat:Int)!=(E[k].toNat:Int))=true:=by
    have:=H.o l[k] (AQ _);rw[DD];omega
   have hI:indexByte (l.drop (k+1)) E[k]=-1:=by
    rw[Y4,Mu.2];intro q;have:=H.o _ (JL q);omega
   go_quiet(fail);go_wp2_with fail;have Y:IntKind.i64.wrap ((k:Int)+1)=(k:Int)+1:=CQ _ aa;have K:(0:Int)<=(k:Int)+1:=aa
   have L:((k:Int)+1).toNat=k+1:=aa
   have B:=CO (AG w.heap.size w) nq;generalize w.drewN nq=M at B|-;go_quiet((go_at_call 100;exact GW (Yo (l.drop (k+1)) (E[k].toNat:Int) E[k] (Tm E[k]) _)));go_wp2_with fail;rw[Exit.noGoto_ret];go_simp;go_ret;exact⟨rfl,CO B _⟩
  go_wp2_with fail;rw[Exit.noGoto_ret];go_ret;exact⟨rfl,AG _ _⟩
def Tn(l:Bs)(j:Nat)(h:j<l.length):(⟨l.toArray⟩:ByteArray).get! j=l[j]:=by
 show(l.toArray)[j]! =_;simp[h]
def Yp(l:Bs)(pos:Nat)(h:pos<l.length)(b:128<=l[pos].toNat):128<=(Utf8.decode ⟨l.toArray⟩ pos).1/\pos+(Utf8.decode ⟨l.toArray⟩ pos).2<=l.length/\∀j(H:j<l.length),pos<=j->j<pos+(Utf8.decode ⟨l.toArray⟩ pos).2->128<=l[j].toNat:=by
 have s:(⟨l.toArray⟩:ByteArray).size=l.length:=ki
 rw[decode_at,s,Tn l pos h];have k:=decodeN_conts (l.length-pos) l[pos].toNat ((⟨l.toArray⟩:ByteArray).get! (pos+1)).toNat ((⟨l.toArray⟩:ByteArray).get! (pos+2)).toNat ((⟨l.toArray⟩:ByteArray).get! (pos+3)).toNat;have c:=decodeN_cases (l.length-pos) l[pos].toNat ((⟨l.toArray⟩:ByteArray).get! (pos+1)).toNat ((⟨l.toArray⟩:ByteArray).get! (pos+2)).toNat ((⟨l.toArray⟩:ByteArray).get! (pos+3)).toNat;have G:=decodeN_ge1 (l.length-pos) l[pos].toNat ((⟨l.toArray⟩:ByteArray).get! (pos+1)).toNat ((⟨l.toArray⟩:ByteArray).get! (pos+2)).toNat ((⟨l.toArray⟩:ByteArray).get! (pos+3)).toNat;obtain⟨K,d,e,q⟩:=k;refine⟨?_,aa,?_⟩
 ·rcases c with c|⟨f,g,i,C,a⟩|⟨f,g,i,C,a,m⟩|c|c
  ·omega
  ·rw[a];exact C
  ·rw[m];simp only;omega
  ·omega
  rw[c];decide
 intro j H r t;by_cases E:j=pos
 ·subst E;exact b
 by_cases n:j=pos+1
 ·subst n;have:=(K aa).1;rw[Tn l _ H]at this;omega
 by_cases o:j=pos+2
 ·subst o;have:=(d aa).1;rw[Tn l _ H]at this;omega
 have p:j=pos+3:=aa
 subst p;have:=(e aa).1;rw[Tn l _ H]at this;omega
def Yq(l:Bs)(pos:Nat)(h:pos<l.length)(H:l[pos].toNat<128):Utf8.decode ⟨l.toArray⟩ pos=(l[pos].toNat,1):=by
 rw[decode_at,Tn l pos h];unfold decodeN;rw[AN H]
theorem eL(p:Nat->Bool)(a:∀r,128<=r->p r=true)(l:Bs):∀(f pos:Nat),l.length<=pos+f->decide (0<=idxFuncFrom p true ⟨l.toArray⟩ f pos)=(l.drop pos).any fun c=>p c.toNat
 |0,pos,h=>by
  rw[BP aa];simp[idxFuncFrom]
 |f+1,pos,h=>by
  unfold idxFuncFrom;have s:(⟨l.toArray⟩:ByteArray).size=l.length:=ki
  rw[s];by_cases H:pos<l.length
  ·rw[AN H,AH H,GB];by_cases b:l[pos].toNat<128
   ·rw[Yq l pos H b];simp only;cases q:p l[pos].toNat with
    |true=>simp
    |false=>
     simp only[CC,DM,JX];exact eL p a l f (pos+1) aa
   have d:=(Yp l pos H aa).1;rw[AN (a _ d),a l[pos].toNat aa];simp
  rw[AL H,BP aa];simp
def Yr(g:Nat)(E:∀a w,(callFunc g a).run prog w=.ok (.enter g a) w)(p:Nat->Bool)(h:∀r,128<=r->p r=true)(l:Bs)(lb:Array Value)(w:World)(H:PredGrows prog g lb p w):Calls prog 175 #[l,.func (.func g) #[] lb] w fun e W=>e=.returned (.bool (l.any fun c=>p c.toNat))/\Below w.heap.size w W:=by
 refine(Tryz.strings_ContainsFunc_grows g lb E p ⟨l.toArray⟩ w H).mono ?_;rintro e W⟨rfl,b⟩;unfold idxFunc;rw[eL p h l _ 0 ki];exact⟨rfl,b⟩
def uU(l cs:Bs)(z:cs.all (fun b=>decide (b.toNat<128))=true)(S:2<=cs.length)(T:cs.length<=100)(h8:l.length<=8)(w:World):Calls prog 178 #[l,cs] w fun e f=>e=.returned (.int .i64 (indexAny l cs))/\Below w.heap.size w f:=by
 have A:∀c∈cs,c.toNat<128:=fun c r=>by
  have:=AW.1 z c r;simpa using this
 have B:=AE A;clear A z;have a0:cs.isEmpty=false:=by
  cases cs with
  |nil=>simp at S
  |cons _ _=>rfl
 have a1:((cs.length:Int)==1)=false:=AI.2 aa;have a2:decide ((8:Int)<(l.length:Int))=false:=AY aa;go_enter func178,ntmps178;go_wp2_with fail;refine(Tryz.strings_shouldUseASCIISet _ _).mono ?_;rintro e f⟨rfl,m⟩;obtain rfl:=m.symm;go_wp2_with fail
 go_loopg [9,10] l.length (fun g _ _ C=>∃i:Nat,i+g≥l.length/\i<=l.length/\C.heap[w.heap.size]?=some (.stringIter ⟨l.toArray⟩ i)/\Below w.heap.size w C/\NoAny l cs i)
 case atStart=>exact⟨0,aa,aa,World.iter_heap w _ 0,(AG _ w).alloc (AF _) _,NoAny.zero _ _⟩
 obtain⟨i,a3,a4,E,F,G⟩:=hrel;have N:=AE G;clear G;have u:=AE E;clear E;by_cases o:i<l.length
 ·have s:i<(⟨l.toArray⟩:ByteArray).size:=by simpa[ByteArray.size]using o
  have a:∀t,(Instr.next (.pointer (some ⟨w.heap.size,0,none⟩)) true t).run prog wr=_:=fun t=>run_next_any_at wr w.heap.size ⟨l.toArray⟩ i t u.o s
  have h:=below_iterAt F (k:=w.heap.size) (AF _) ⟨l.toArray⟩ (i+(Utf8.decode ⟨l.toArray⟩ i).2);have H:=AE (iterAt_heap wr w.heap.size ⟨l.toArray⟩ i (i+(Utf8.decode ⟨l.toArray⟩ i).2) u.o);obtain⟨g,rfl⟩:∃g,gk=g+1:=⟨gk-1,aa⟩;by_cases r:l[i].toNat<128
  ·have I:=Yq l i o r;rw[I]at a h H;simp only at a h H;have v:=AE (show l[i]?=some l[i]from BC o);clear I;generalize wr.iterAt w.heap.size ⟨l.toArray⟩ (i+1)=W at a h H;generalize l[i]=x at a r v;have n:=contains_iff_indexByte cs x;have J:((x.toNat:Int)).toNat.toUInt8=x:=Tm x;cases d:cs.contains x
   ·rw[d]at n;have a5:¬((0:Int)<=indexByte cs x):=JZ n.symm;clear n;have y:=AE d;clear d;go_wp2_with fail;refine(Tryz.strings_IndexRune_ascii _ _ _ aa aa).mono ?_;rintro e f⟨rfl,m⟩;obtain rfl:=m.symm;rw[J];go_wp2_with fail
    go_roundg g
    case measure=>omega
    exact⟨i+1,aa,aa,H.o,h,N.o.succ v.o y.o⟩
   rw[d]at n;have a6:(0:Int)<=indexByte cs x:=EU n.symm;clear n;have y:=AE d;clear d;go_wp2_with fail;refine(Tryz.strings_IndexRune_ascii _ _ _ aa aa).mono ?_;rintro e f⟨rfl,m⟩;obtain rfl:=m.symm;rw[J];go_wp2;go_ret;exact⟨by rw[indexAny_hit N.o v.o y.o];rfl,h⟩
  obtain⟨L,M,O⟩:=Yp l i o aa;have P:=decode_width_pos ⟨l.toArray⟩ i s;have Q:=rune_le ⟨l.toArray⟩ i;have p:NoAny l cs (i+(Utf8.decode ⟨l.toArray⟩ i).2):=fun j b U q=>by
   by_cases V:j<i
   ·exact N.o j b V q
   obtain⟨X,rfl⟩:=CB.1 q;have a7:=O j X aa U;rw[AT];intro Y;have:=B.o l[j] (IB.1 Y);omega
  have p:=AE p;clear O;generalize Utf8.decode ⟨l.toArray⟩ i=D at a h H L M P Q p;obtain⟨R,K⟩:=D;simp only at a h H L M P Q p;generalize wr.iterAt w.heap.size ⟨l.toArray⟩ (i+K)=W at a h H;have Z:w.heap.size<W.heap.size:=(FD.1 H.o).1;go_wp2_with fail;refine(uT cs (R:Int) aa aa B.o T _).mono ?_;rintro e f⟨rfl,q⟩;go_wp2_with fail
  go_roundg g
  case measure=>omega
  exact⟨i+K,aa,aa,(q.block _ Z).trans H.o,h.trans (q.mono h.size),p.o⟩
 have s:¬i<(⟨l.toArray⟩:ByteArray).size:=by simpa[ByteArray.size]using o
 have a:∀t,(Instr.next (.pointer (some ⟨w.heap.size,0,none⟩)) true t).run prog wr=_:=fun t=>run_next_end_at wr w.heap.size ⟨l.toArray⟩ i t u.o s
 obtain rfl:i=l.length:=aa
 go_wp2;go_ret;exact⟨by rw[indexAny_none N.o];rfl,F⟩
def Ys(l cs:Bs)(h:cs.all (fun b=>decide (b.toNat<128))=true)(H:2<=cs.length)(a:cs.length<=100)(c:l.length<4294967281)(w:World):Calls prog 178 #[l,cs] w fun e W=>e=.returned (.int .i64 (indexAny l cs))/\Below w.heap.size w W:=by
 by_cases d:l.length<=8
 ·exact uU l cs h H a d w
 have v:∀w,(zeroValue 235).run prog w=.ok (.agg (Array.replicate 256 false)) w:=fun w=>af
 refine(Tryz.strings_IndexAny_long v ⟨l.toArray⟩ ⟨cs.toArray⟩ w (by simpa[ByteArray.size]using H) ej (by simpa[ByteArray.size]using c) ej (fun j b f=>?_)).mono ?_
 ·have:=AW.1 h b (CP f);simpa using this
 rintro e W⟨rfl,rfl⟩;exact⟨rfl,((AG _ _).alloc (AF _) _).alloc ah _⟩
def M5(f:Nat->Value):Nat->Nat->List Value
 |_,0=>[]
 |i,n+1=>f i::M5 f (i+1) n
def Fp(f:Nat->Value):List (Nat×Value)->Nat->Nat->List Value
 |_,_,0=>[]
 |[],i,n+1=>f i::Fp f [] (i+1) n
 |x::L,i,n+1=>if x.1=i then x.2::Fp f L (i+1) n else f i::Fp f (x::L) (i+1) n
def Ho(n:Nat)(L:List (Nat×Value))(a:Act):Prop:=∃F:List Value,a=⟨F.toArray,[]⟩/\F.length=n/\L.map (fun x=>F[x.1]?)=L.map fun x=>some x.2
theorem eM(f:Nat->Value):∀(F:List Value)(i:Nat),(∀k,k<F.length->F[k]?=some (f (i+k)))->F=M5 f i F.length
 |[],_,_=>rfl
 |x::F,i,h=>by
  have h0:=h 0 ah;have e:x=f i:=ou
  rw[AK,M5,<-e,<-eM f F (i+1) fun k H=>ef]
variable {n:Nat}{F:List Value}{a:Act}{L:List (Nat × Value)}
def Qb{L:List Value}(h:(L++F).length=n):∃f,F=M5 f 0 (n-L.length):=⟨fun k=>F.getD k undef,by
  rw[<-h,AJ,Nat.add_sub_cancel_left];exact eM _ F 0 fun k H=>je⟩
theorem Vq(f:Nat->Value):∀(F:List Value)(L:List (Nat×Value))(i:Nat),(∀k,k<F.length->F[k]?=some (f (i+k)))->(∀x∈L,∀k,x.1=i+k->F[k]?=some x.2)->F=Fp f L i F.length
 |[],L,_,_,_=>by cases L<;>rfl
 |x::F,[],i,h,H=>by
  have h0:=h 0 ah;have e:x=f i:=ou
  rw[AK,Fp,<-e,<-Vq f F [] (i+1) (fun k b=>ef) ah]
 |x::F,y::L,i,h,H=>by
  have h0:=h 0 ah;have e:x=f i:=ou
  have s:∀k,k<F.length->F[k]?=some (f (i+1+k)):=fun k b=>ef
  have w:∀z∈y::L,∀k,z.1=i+1+k->F[k]?=some z.2:=fun z a k b=>by have:=H z a (k+1) aa;rwa[AR]at this
  rw[AK,Fp];split
  ·rename_i c;have:=H y ah 0 aa;rw[<-Vq f F L (i+1) s fun z a=>w z (by simp[a])];simp at this;rw[this]
  rw[<-e,<-Vq f F (y::L) (i+1) s w]
def Ho.op(h:Ho n L a):∃f,a=⟨(Fp f L 0 n).toArray,[]⟩:=by
 obtain⟨F,rfl,rfl,h⟩:=h;refine⟨fun k=>F.getD k undef,?_⟩;rw[<-Vq (fun k=>F.getD k undef) F L 0 (fun k H=>je) fun x b k H=>?_];have:=List.map_inj_left.1 h x b;rw[<-this,H,EQ]
def Ho.Qc(h:Ho n L ⟨F.toArray,[]⟩):∃f,F=Fp f L 0 n:=by
 obtain⟨f,e⟩:=h.op;injection e with e;injection e with e;exact⟨f,e⟩
def Pb:List Value->List (Nat×Nat)->Nat->List Value
 |[],_,_=>[]
 |_::_,[],_=>[]
 |x::F,r::R,i=>if r.1<=i then x::Pb F (if i+1=r.2 then R else r::R) (i+1)else Pb F (r::R) (i+1)
def Kk(f:Nat->Value):List Value->List (Nat×Nat)->Nat->List Value
 |[],_,_=>[]
 |_::F,[],i=>f i::Kk f F [] (i+1)
 |x::F,r::R,i=>if r.1<=i then x::Kk f F (if i+1=r.2 then R else r::R) (i+1)else f i::Kk f F (r::R) (i+1)
def Kp(R:List (Nat×Nat))(L:List (Nat×Value))(F:List Value)(a:Act):Prop:=∃G:List Value,a=⟨G.toArray,[]⟩/\F.length=G.length/\Pb F R 0=Pb G R 0/\L.map (fun x=>G[x.1]?)=L.map fun x=>some x.2
theorem Vr(f:Nat->Value):∀(F G:List Value)(R:List (Nat×Nat))(i:Nat),F.length=G.length->Pb F R i=Pb G R i->(∀k,k<G.length->G[k]?=some (f (i+k)))->G=Kk f F R i
 |[],[],_,_,_,_,_=>rfl
 |x::F,y::G,R,i,l,H,h=>by
  have h0:=h 0 ah;have e:y=f i:=ou
  have l:F.length=G.length:=by simpa using l
  have s:∀k,k<G.length->G[k]?=some (f (i+1+k)):=fun k H=>ef
  cases R with
  |nil=>rw[Kk,<-e,<-Vr f F G [] (i+1) l (by cases F<;>cases G<;>rfl) s]
  |cons r R=>
   rw[Pb,Pb]at H;rw[Kk];split
   ·rename_i a;rw[AN a,AN a]at H;injection H with b c;rw[b,<-Vr f F G _ (i+1) l c s]
   rename_i a;rw[AL a,AL a]at H;rw[<-e,<-Vr f F G _ (i+1) l H s]
theorem eN(G:List Value):∀L:List (Nat×Value),L.map (fun x=>G[x.1]?)=L.map (fun x=>some x.2)->L.foldl (fun G x=>G.set x.1 x.2) G=G
 |[],_=>rfl
 |x::L,h=>by
  injection h with H a;obtain⟨k,e⟩:=CB.1 H;rw[JE,<-e,JG,eN G L a]
def Kp.op{R:List (Nat×Nat)}(h:Kp R L F a):∃f,a=⟨(L.foldl (fun G x=>G.set x.1 x.2) (Kk f F R 0)).toArray,[]⟩:=by
 obtain⟨G,rfl,H,b,c⟩:=h;exact⟨fun k=>G.getD k undef,by rw[<-Vr _ F G R 0 H b fun k d=>by simp[d],eN G L c]⟩
def Vs(n:Nat)(h:n<64):(⟨#[65,66,67,68,69,70,71,72,73,74,75,76,77,78,79,80,81,82,83,84,85,86,87,88,89,90,97,98,99,100,101,102,103,104,105,106,107,108,109,110,111,112,113,114,115,116,117,118,119,120,121,122,48,49,50,51,52,53,54,55,56,57,43,47]⟩:ByteArray)[n]' xy=Bv n:=by
 show _=Q1.getD n 0;rw[AM,BC (show n<Q1.length from h)];rfl
def pv(l:Bs):Nat->Nat
 |0=>0
 |k+1=>pv l k*256+(l.getD k 0).toNat
def eO(l:Bs)(k:Nat)(h:k<=3):pv l k<16777216:=by
 have h0:=(l.getD 0 0).toNat_lt;have H:=(l.getD 1 0).toNat_lt;have a:=(l.getD 2 0).toNat_lt
 match k,h with
 |0,_=>simp[pv]
 |1,_=>simp only[pv];omega
 |2,_=>simp only[pv];omega
 |3,_=>simp only[pv];omega
def uV(rest:Bs)(line:Nat)(h:rest≠[]):∃N:Nat,1<=N/\N<=3/\N<=rest.length/\(N<3->N=rest.length)/\Dm rest line=Cy (pv rest 3) N++(if line+4=76\/rest.drop N=[]then[13,10]++Dm (rest.drop N) 0 else Dm (rest.drop N) (line+4)):=by
 match rest,h with
 |[x],_=>
  have e:pv [x] 3=x.toNat*65536:=by simp[pv];omega
  exact⟨1,aa,aa,ah,ah,by rw[Dm,e];simp[Dm]⟩
 |[x,y],_=>
  have e:pv [x,y] 3=x.toNat*65536+y.toNat*256:=by simp[pv];omega
  exact⟨2,aa,aa,ah,ah,by rw[Dm,e];simp[Dm]⟩
 |x::y::z::l,_=>
  have e:pv (x::y::z::l) 3=x.toNat*65536+y.toNat*256+z.toNat:=by simp[pv];omega
  exact⟨3,aa,aa,ah,aa,by rw[Dm,e];rfl⟩
def eP(b:Bs)(w:World)(I:b.length<=1000000000000):Calls prog 269 #[b] w fun e J=>e=.returned (Dn b)/\Below w.heap.size w J:=by
 have U:=Y7 b;have K:=P6 w;go_enter func269,ntmps269;go_wp2_with fail;go_loopw[0,4] (fun s n wr=>∃(rest:Bs)(l:Nat)(o:Bs),s=rest/\n=l/\l<=72/\l%4=0/\rest.length<=1000000000000/\o++Dm rest l=Dn b/\E6 w.heap.size w.heap.size o wr/\Below w.heap.size w wr) (fun s _ _=>Jn s)
 case atStart=>exact⟨b,0,[],rfl,rfl,ae,rfl,I,rfl,K,cu⟩
 obtain⟨rest,l,o,rfl,rfl,X,Y,Z,u,h,B⟩:=hrel;have t:=AE u;clear u;have x:o.length+(Dm rest l).length=(Dn b).length:=by rw[<-t.o];simp
 by_cases h0:rest=[]
 ·subst h0;have y:Dn b=o:=by rw[<-t.o];simp[Dm]
  have M:=AE y;clear y;go_wp2_with fail;refine(Q5 _ _ _ _ h B.size).mono ?_;rintro e W⟨rfl,H⟩;go_wp2;go_ret;exact⟨Hz M.o.symm,B.trans H⟩
 have a0:0<rest.length:=BK.2 h0;obtain⟨N,a1,a2,a3,a4,m⟩:=uV rest l h0;have Q:=eO rest 3 aa;have a5:o.length+4<=(Dn b).length:=by rw[<-x,m];simp[Gt]
 have z:=AE m;clear m x;have m1:min (rest.length:Int) 3=N:=aa
 go_wp2_with fail;obtain⟨C,rfl⟩:∃C:World,C=wr:=⟨_,rfl⟩;go_loop[6,15] (fun v i=>∃k:Nat,k<=3/\i=k/\v=.int .i64 (pv rest k)) (fun _ i=>3-(intOf i).toNat)
 case atStart=>exact⟨0,aa,rfl,rfl⟩
 obtain⟨k,D,rfl,rfl⟩:=hrel;by_cases R:k<3
 ·have hp:=eO rest k D;have P:=AE (ca:pv rest (k+1)=pv rest k*256+(rest.getD k 0).toNat);by_cases d:k<N
  ·have S:k<rest.length:=by omega
   have hx:(rest[k].toNat:Int)<256:=by have:=rest[k].toNat_lt;omega
   have O:=sS (pv rest k) rest[k].toNat aa aa aa aa;have E:=AE (by rw[AM,BC S];rfl:rest.getD k 0=rest[k]);go_wp2_with fail
   go_round
   case rel=>exact⟨k+1,aa,aj,by rw[P.o,E.o];go_num⟩
   simp[intOf];omega
  have E:=AE (by rw[AM,DC aa];rfl:rest.getD k 0=0);go_wp2_with fail
  go_round
  case rel=>exact⟨k+1,aa,aj,by rw[P.o,E.o];go_num⟩
  simp[intOf];omega
 obtain rfl:k=3:=aa
 generalize pv rest 3=V at Q z;go_wp2_with fail;go_loopw[30] (fun i F=>∃k:Nat,k<=4/\i=k/\E6 w.heap.size w.heap.size (o++(Cy V N).take k) F/\Below w.heap.size w F) (fun i _=>4-(intOf i).toNat)
 case atStart=>exact⟨0,aa,rfl,by rw[IR,BU];exact h,B⟩
 clear h B;obtain⟨k,D,rfl,h,B⟩:=hrel;by_cases R:k<4
 ·obtain rfl|rfl|rfl|rfl:k=0\/k=1\/k=2\/k=3:=by omega
  ·have A:bits .and .i64 ((V:Int)/262144) 63=((V/262144%64:Nat):Int):=(Vk _ aa aa).trans aa;have a:V/262144%64<64:=by omega
   have L:=AE (Vs (V/262144%64) a);have T:=AE (ca:(Cy V N).take 1=(Cy V N).take 0++[Bv (V/262144%64)]);generalize V/262144%64=n at A a L T;go_wp2_with fail;refine(Mx _ _ _ _ (Bv n) se _ h gu B.size).mono ?_;rintro e W⟨rfl,h,H⟩;go_wp2;go_roundw
   case rel=>exact⟨1,aa,aj,im,B.trans H⟩
   simp[intOf]
  ·have A:bits .and .i64 ((V:Int)/4096) 63=((V/4096%64:Nat):Int):=(Vk _ aa aa).trans aa;have a:V/4096%64<64:=by omega
   have L:=AE (Vs (V/4096%64) a);have T:=AE (ca:(Cy V N).take 2=(Cy V N).take 1++[Bv (V/4096%64)]);generalize V/4096%64=n at A a L T;go_wp2_with fail;refine(Mx _ _ _ _ (Bv n) se _ h gu B.size).mono ?_;rintro e W⟨rfl,h,H⟩;go_wp2;go_roundw
   case rel=>exact⟨2,aa,aj,im,B.trans H⟩
   simp[intOf]
  ·by_cases d:2<=N
   ·have A:bits .and .i64 ((V:Int)/64) 63=((V/64%64:Nat):Int):=(Vk _ aa aa).trans aa;have a:V/64%64<64:=by omega
    have L:=AE (Vs (V/64%64) a);have T:=AE (by unfold Cy;rw[AN d];rfl:(Cy V N).take 3=(Cy V N).take 2++[Bv (V/64%64)]);generalize V/64%64=n at A a L T;go_wp2_with fail;refine(Mx _ _ _ _ (Bv n) se _ h gu B.size).mono ?_;rintro e W⟨rfl,h,H⟩;go_wp2;go_roundw
    case rel=>exact⟨3,aa,aj,im,B.trans H⟩
    simp[intOf]
   have T:=AE (by unfold Cy;rw[AL d];rfl:(Cy V N).take 3=(Cy V N).take 2++[61]);go_wp2_with fail;refine(Mx _ _ _ _ 61 rfl _ h gu B.size).mono ?_;rintro e W⟨rfl,h,H⟩;go_wp2;go_roundw
   case rel=>exact⟨3,aa,aj,im,B.trans H⟩
   simp[intOf]
  by_cases d:3<=N
  ·have A:bits .and .i64 (V:Int) 63=((V%64:Nat):Int):=(Vk _ aa aa).trans aa;have a:V%64<64:=by omega
   have L:=AE (Vs (V%64) a);have T:=AE (by unfold Cy;rw[AN d];rfl:(Cy V N).take 4=(Cy V N).take 3++[Bv (V%64)]);generalize V%64=n at A a L T;go_wp2_with fail;refine(Mx _ _ _ _ (Bv n) se _ h gu B.size).mono ?_;rintro e W⟨rfl,h,H⟩;go_wp2;go_roundw
   case rel=>exact⟨4,aa,aj,im,B.trans H⟩
   simp[intOf]
  have T:=AE (by unfold Cy;rw[AL d];rfl:(Cy V N).take 4=(Cy V N).take 3++[61]);go_wp2_with fail;refine(Mx _ _ _ _ 61 rfl _ h gu B.size).mono ?_;rintro e W⟨rfl,h,H⟩;go_wp2;go_roundw
  case rel=>exact⟨4,aa,aj,im,B.trans H⟩
  simp[intOf]
 obtain rfl:k=4:=aa
 rw[CM (by simp[Gt])]at h;have g:(rest.drop N).length<=1000000000000:=ag
 have j:(rest.drop N).length<rest.length:=ag
 have E:=AE (by rw[z.o,AP]:o++Dm rest l=o++Cy V N++(if l+4=76\/rest.drop N=[]then[13,10]++Dm (rest.drop N) 0 else Dm (rest.drop N) (l+4)));have p:(o++Cy V N).length+2<=140737488355328:=by simp[Gt];omega
 go_upto_region 22 with fail;generalize rest.drop N=r at g j E|-;generalize o++Cy V N=O at h E p;by_cases G:l=72
 ·subst G;have c:Dn b=O++[13,10]++Dm r 0:=by rw[<-t.o,E.o];simp
  have f:=AE c;clear c E;go_wp2_with fail;refine(Kg _ _ _ [13,10] _ h (by simpa using p) B.size).mono ?_;rintro e W⟨rfl,h,H⟩;go_wp2;go_roundw
  case rel=>exact⟨r,0,_,rfl,rfl,aa,rfl,g,f.o.symm,h,B.trans H⟩
  simpa using j
 have a6:((l:Int)+4==76)=false:=di
 by_cases q:r=[]
 ·subst q;have c:Dn b=O++[13,10]++Dm [] 0:=by rw[<-t.o,E.o];simp
  have f:=AE c;clear c E;go_wp2_with fail;refine(Kg _ _ _ [13,10] _ h (by simpa using p) B.size).mono ?_;rintro e W⟨rfl,h,H⟩;go_wp2;go_roundw
  case rel=>exact⟨[],0,_,rfl,rfl,aa,rfl,g,f.o.symm,h,B.trans H⟩
  simpa using j
 have c:Dn b=O++Dm r (l+4):=by rw[<-t.o,E.o];simp[G,q]
 have f:=AE c;clear c E;have a7:r.isEmpty=false:=by rw[AT];simpa using q
 go_wp2;go_roundw
 case rel=>exact⟨r,l+4,_,rfl,aj,aa,aa,g,f.o.symm,h,B⟩
 simpa using j
def Mz:Bs:=[65,66,67,68,69,70,71,72,73,74,75,76,77,78,79,80,81,82,83,84,85,86,87,88,89,90,97,98,99,100,101,102,103,104,105,106,107,108,109,110,111,112,113,114,115,116,117,118,119,120,121,122]
def Qd:Bs:=Mz++[48,49,50,51,52,53,54,55,56,57,43,45,46]
def Rt:Bs->Bool
 |[]=>false
 |c::l=>Mz.contains c&&(c::l).all (Qd.contains ·)
def eQ(l:Bs)(c:UInt8):(0<=indexByte l c)↔l.contains c=true:=by
 rw[Y4];cases h:Ao [c] l with
 |none=>rw[Mu]at h;simp[h]
 |some x=>
  obtain⟨a,b⟩:=x;obtain⟨e,_⟩:=Rj h;simp[e]
theorem Vt{p:UInt8->Bool}:∀{l:Bs},l.dropWhile p=[]↔l.all p=true
 |[]=>ah
 |x::l=>by
  rw[EY];by_cases h:p x=true
  ·simp[h,Vt (l:=l)]
  simp[h]
theorem eR{p:UInt8->Bool}:∀{l:Bs}{x:UInt8}{t:Bs},l.dropWhile p=x::t->p x=false
 |[],_,_,h=>en
 |y::l,x,t,h=>by
  rw[EY]at h;by_cases H:p y=true
  ·rw[AN H]at h;exact eR h
  rw[AL H]at h;injection h with a _;rw[<-a];simpa using H
def uW(l cs:Bs):trimS l cs=[]↔l.all (cs.contains ·)=true:=by
 unfold trimS trimLeftS trimRightS;rw[Vt];constructor
 ·intro h;rw[<-KR];rw[KR]at h;rw[<-Vt];cases H:List.dropWhile (fun x=>cs.contains x) l.reverse with
  |nil=>rfl
  |cons x t=>
   rw[H]at h;have:=eR H;simp only[FP,BR]at h;rw[this]at h;exact absurd h.1 ah
 intro h;rw[<-KR,<-Vt]at h;rw[h];rfl
def uX(l cs:Bs):(trimS l cs).isEmpty=l.all (cs.contains ·):=by
 rw[DY,GK,uW]
def uY(l:Bs)(w:World)(a:l.length<=140737488355328):Calls prog 102 #[l] w fun e W=>e=.returned (.bool (Rt l))/\Below w.heap.size w W:=by
 cases l with
 |nil=>
  go_enter func102,ntmps102;go_wp2;go_ret;exact⟨rfl,AG _ _⟩
 |cons c l=>
  have hI:=P5 Mz (c.toNat:Int) c ah w;have T:=Tc (c::l) Qd w aa ae ae;by_cases H:Mz.contains c=true
  ·have h0:0<=indexByte Mz c:=(eQ _ _).2 H;go_enter func102,ntmps102;go_wp2_with fail;refine hI.mono ?_;rintro e W⟨rfl,rfl⟩;go_wp2_with fail;refine T.mono ?_;rintro e W⟨rfl,b⟩;go_wp2;go_ret;exact⟨Bm (by rw[uX];show _=(Mz.contains c&&_);rw[H,FR]),b⟩
  have h0:indexByte Mz c<0:=by
   rcases IA (indexByte Mz c) 0 with h|h
   ·exact h
   exact absurd ((eQ _ _).1 h) H
  go_enter func102,ntmps102;go_wp2_with fail;refine hI.mono ?_;rintro e W⟨rfl,rfl⟩;go_wp2;go_ret;exact⟨Bm (by show _=(Mz.contains c&&_);rw[AT.2 H,Bool.false_and]),AG _ _⟩
end Go.Proofs.YtignjjnflcpiiaaGreatDoor
namespace Go.Proofs.YtignjjnflcpiiaaGreatDoor
open Go Go.RowKit Proofs.Tryz Lib
structure A3 where
 scheme:Bs
 hasAuth:Bool
 auth:Bs
 path:Bs
 hasQuery:Bool
 query:Bs
 hasFrag:Bool
 frag:Bs
 deriving DecidableEq
def A3.zero:A3:=⟨[],false,[],[],false,[],false,[]⟩
abbrev A3.cells(a:A3):Array Value:=#[a.scheme,.bool a.hasAuth,a.auth,a.path,.bool a.hasQuery,a.query,.bool a.hasFrag,a.frag]
abbrev Bg:Array Value:=#[.string ⟨#[]⟩,false,.string ⟨#[]⟩,.string ⟨#[]⟩,false,.string ⟨#[]⟩,false,.string ⟨#[]⟩]
abbrev A3.val(a:A3):Value:=.agg a.cells
def Lb(c:UInt8):Bool:=decide (33<=c)&&decide (c<=126)
def Ib(l:Bs):Bs×Bs:=match Ao [58] l with
 |some (a,b)=>if !a.isEmpty&&Rt a then(a,b)else([],l)
 |none=>([],l)
def Jp(l:Bs):Bool:=match Ao [58] l with
 |some (a,_)=>!a.isEmpty&&Rt a
 |none=>false
def Nl(l:Bs):Bool×Bs×Bs:=if hasPrefix l [47,47]then(match Ao [47] (l.drop 2)with
 |some (a,b)=>(true,a,47::b)
 |none=>(true,l.drop 2,[]))else(false,[],l)
def Oe(l:Bs):A3:=let c:=cut l [35]
 let C:=cut c.1 [63];let s:=Ib C.1;let u:=Nl s.2
 ⟨s.1,u.1,u.2.1,u.2.2,C.2.2,C.2.1,c.2.2,c.2.1⟩
def Be(l:Bs):Option A3:=if l.all Lb then some (Oe l)else none
def Ea(a:A3):Bs:=(if a.scheme=[]then[]else a.scheme++[58])++(if a.hasAuth then[47,47]++a.auth else[])++a.path++(if a.hasQuery then[63]++a.query else[])++(if a.hasFrag then[35]++a.frag else[])
def En(l:Bs)(c:UInt8)(k:Int):Prop:=(k=-1/\c∉l)\/∃a b,l=a++c::b/\c∉a/\k=a.length
def Yt(l:Bs)(c:UInt8):En l c (indexByte l c):=by
 rw[Y4];cases h:Ao [c] l with
 |none=>exact Or.inl ⟨rfl,Mu.1 h⟩
 |some x=>
  obtain⟨a,b⟩:=x;obtain⟨e,H⟩:=Rj h;exact Or.inr ⟨a,b,e,H,rfl⟩
variable {k:Int}{c:UInt8}{l s f S q h a A p y:Bs}
def En.le(h:En l c k)(h0:0<k):k+1<=l.length:=by
 rcases h with⟨rfl,_⟩|⟨a,b,rfl,_,rfl⟩
 ·omega
 simp;omega
def En.yes(h:En l 58 k)(h0:0<k):Jp l=Rt (l.take k.toNat):=by
 rcases h with⟨rfl,_⟩|⟨a,b,rfl,H,rfl⟩
 ·omega
 unfold Jp;rw[P4 H];cases a with
 |nil=>simp at h0
 |cons x a=>simp
def En.no(h:En l 58 k)(h0:k<=0):Jp l=false:=by
 rcases h with⟨rfl,H⟩|⟨a,b,rfl,H,rfl⟩
 ·unfold Jp;rw[Mu.2 H]
 unfold Jp;rw[P4 H];cases a with
 |nil=>rfl
 |cons x a=>simp at h0;omega
def En.pos(h:En l 58 k)(b:Jp l=true):0<k:=by
 rcases IA 0 k with H|H
 ·exact H
 rw[h.no H]at b;cases b
def En.parse(h:En l 58 k)(H:Jp l=true):Ib l=(l.take k.toNat,l.drop (k+1).toNat):=by
 have h0:=h.pos H;rcases h with⟨rfl,n⟩|⟨a,b,rfl,n,rfl⟩
 ·omega
 unfold Jp at H;unfold Ib;rw[P4 n]at H|-;simp only at H|-;rw[AN H];have:((a.length:Int)+1).toNat=a.length+1:=aa
 rw[this];simp
def Yu(h:Jp l=false):Ib l=([],l):=by
 unfold Jp at h;unfold Ib;cases H:Ao [58] l with
 |none=>rfl
 |some x=>rw[H]at h;simp only at h|-;rw[AL (by rw[h];simp)]
def En.uZ(h:En l c k)(h0:0<=k):k+1<=l.length:=by
 rcases h with⟨rfl,_⟩|⟨a,b,rfl,_,rfl⟩
 ·omega
 simp;omega
def Pc(r:Bs):Bool×Bs×Bs:=match Ao [47] r with
 |some (a,b)=>(true,a,47::b)
 |none=>(true,r,[])
def eS(h:hasPrefix l [47,47]=true):Nl l=Pc (trimPrefix l [47,47]):=by
 unfold Nl trimPrefix;rw[AN h,AN h];rfl
def eT(h:¬hasPrefix l [47,47]=true):Nl l=(false,[],l):=by
 unfold Nl;rw[AL h]
def En.vA(h:En l 47 k)(h0:k<0):Pc l=(true,l,[]):=by
 rcases h with⟨rfl,H⟩|⟨a,b,rfl,H,rfl⟩
 ·unfold Pc;rw[Mu.2 H]
 omega
def En.vB(h:En l 47 k)(h0:0<=k):Pc l=(true,l.take k.toNat,l.drop k.toNat):=by
 rcases h with⟨rfl,H⟩|⟨a,b,rfl,H,rfl⟩
 ·omega
 unfold Pc;rw[P4 H];simp
def To{H b c:Bool}(d:cut l [35]=(s,f,H))(e:cut s [63]=(S,q,b))(g:Ib S=(h,a))(i:Nl a=(c,A,p)):Oe l=⟨h,c,A,p,b,q,H,f⟩:=by
 simp only[Oe,d,e,g,i]
def eU(h:¬((33:Int)<=c.toNat/\(c.toNat:Int)<=126)):Lb c=false:=by
 unfold Lb;rw[Bool.and_eq_false_iff];simp only[EG,FE];simp;omega
def eV(h:(33:Int)<=c.toNat)(H:(c.toNat:Int)<=126):Lb c=true:=by
 unfold Lb;rw[BR];simp only[EL,FE];simp;omega
def Ru(l p:Bs):(cut l p).1.length<=l.length/\(cut l p).2.1.length<=l.length:=by
 rw[Gs];cases h:Ao p l with
 |none=>simp
 |some x=>
  obtain⟨a,b⟩:=x;have:=F7 h;rw[this];simp;omega
def Yv{k:Nat}(p:UInt8->Bool)(h:k<l.length)(H:(l.take k).all p=true)(a:p l[k]=true):(l.take (k+1)).all p=true:=by
 rw[AZ h,IL,H];simp[a]
def eW{k:Nat}(p:UInt8->Bool)(h:k<l.length)(H:p l[k]=false):l.all p=false:=by
 rw[AT];intro a;have:=AW.1 a l[k] (AQ h);rw[this]at H;cases H
def Ir(first l:Bool)(out:List Bs)(s:Bs):List Bs:=
 if s=[46]\/(s=[]/\first=false/\l=false)then(if l then out++[[]]else out)
 else if s=[46,46]then(if l then(if 1<out.length\/(out.length=1/\out≠[[]])then out.dropLast else out)++[[]]else(if 1<out.length\/(out.length=1/\out≠[[]])then out.dropLast else out))
 else out++[s]
def Gg(l:List Bs):Nat->List Bs
 |0=>[]
 |k+1=>Ir (k==0) (k+1==l.length) (Gg l k) (l.getD k [])
def eX(l:List Bs):List Bs:=Gg l l.length
def Fh(p:Bs):Bs:=join (eX (Ad 47 p)) [47]
def vC(f l:Bool)(o:List Bs)(s:Bs):(Ir f l o s).length<=o.length+1:=by
 unfold Ir;repeat' split
 all_goals simp
 all_goals omega
def Tp(l:List Bs)(k:Nat):(Gg l k).length<=k:=by
 induction k with
 |zero=>simp[Gg]
 |succ k ih=>have:=vC (k==0) (k+1==l.length) (Gg l k) (l.getD k []);unfold Gg;omega
def Yw{l:List Bs}{k:Nat}(h:k<l.length):Gg l (k+1)=Ir (k==0) (k+1==l.length) (Gg l k) l[k]:=by
 show Ir _ _ _ _=_;rw[AM,BC h];rfl
def Vu(f l:Bool)(o:List Bs):Ir f l o [46]=if l then o++[[]]else o:=by simp[Ir]
def eY(o:List Bs):Ir false false o []=o:=by simp[Ir]
def Vv(f l:Bool)(o:List Bs)(h:f=true\/l=true):Ir f l o []=o++[[]]:=by
 rcases h with h|h<;>simp[Ir,h]
def Qe(o:List Bs):List Bs:=if 1<o.length\/(o.length=1/\o≠[[]])then o.dropLast else o
def J8(f l:Bool)(o:List Bs):Ir f l o [46,46]=if l then Qe o++[[]]else Qe o:=by simp[Ir,Qe]
theorem Vw:Qe []=[]:=rfl
theorem Vx:Qe [[]]=[[]]:=rfl
def Pd{o:List Bs}(h:o≠[]\/y≠[]):Qe (o++[y])=o:=by
 unfold Qe;rw[AN,List.dropLast_concat];cases o with
 |nil=>right;simpa using h
 |cons x o=>left;simp
def Vy(f l:Bool)(o:List Bs)(s:Bs)(h:s≠[46])(H:s≠[])(a:s≠[46,46]):Ir f l o s=o++[s]:=by simp[Ir,h,H,a]
theorem vD(f l:Bool)(o:List Bs)(s:Bs):lens (Ir f l o s)<=lens o+s.length:=by
 have d:lens o.dropLast<=lens o:=by rw[List.dropLast_eq_take];exact lens_take_le _ _
 have h:∀(x y:List Bs),lens (x++y)=lens x+lens y:=fun x y=>by simp[lens]
 have H:lens [([]:Bs)]=0:=rfl;have a:∀s:Bs,lens [s]=s.length:=fun s=>by simp[lens]
 unfold Ir;repeat' split
 all_goals try simp only[h,H,a]
 all_goals omega
def vE(l:List Bs)(k:Nat)(H:k<=l.length):lens (Gg l k)<=lens (l.take k):=by
 induction k with
 |zero=>simp[Gg,lens]
 |succ k ih=>
  have h:=vD (k==0) (k+1==l.length) (Gg l k) (l[k]' aa);rw[Yw aa,lens_take_succ l k (l[k]' aa) (BC aa)];have:=ih aa;omega
def Rv(c:UInt8)(l:Bs):lens (Ad c l)+(Ad c l).length=l.length+1:=by
 induction l with
 |nil=>rfl
 |cons x l ih=>
  unfold Ad;by_cases h:x=c
  ·subst h;simp[lens]at*;omega
  simp only[h,DM];split
  ·rename_i e;exact absurd e (Lx c l)
  rename_i H t e;rw[e]at ih;simp[lens]at*;omega
def Qf(p:Bs):(Fh p).length<=2*p.length+2:=by
 unfold Fh eX;have H:=vE (Ad 47 p) _ (AF _);have b:=Rv 47 p;have a:=Tp (Ad 47 p) (Ad 47 p).length;rw[CY]at H;cases h:Gg (Ad 47 p) (Ad 47 p).length with
 |nil=>simp[join_nil]
 |cons x r=>
  rw[h]at H a;rw[join_length];simp at*;omega
end Go.Proofs.YtignjjnflcpiiaaGreatDoor
namespace Go.Proofs.YtignjjnflcpiiaaGreatDoor
open Go Go.RowKit Proofs.Tryz Lib
def Qg(p:Bs)(w:World)(T:p.length<4294967281)(U:Cj w):Calls prog 111 #[p] w fun e X=>e=.returned (Fh p)/\Below w.heap.size w X:=by
 have S:=Ta p 47 w T U;have Y:(Ad 47 p).length<=p.length+1:=by rw[T8];have:=II (a:=(47:UInt8)) (l:=p);omega
 have Z:0<(Ad 47 p).length:=BK.2 (Lx 47 p);have D:Hid (Fh p=join (Gg (Ad 47 p) (Ad 47 p).length) [47]):=AE rfl;generalize Ad 47 p=l at S Y Z D;go_enter func111,ntmps111;go_wp2_with fail;refine S.mono ?_;rintro e w1⟨rfl,rfl⟩;go_wp2_with fail;go_loopw[3,13] (fun v i wr=>∃k:Nat,k<=l.length/\i=k/\Cp wr (w.heap.size+1) v (Gg l k)/\A0 wr w.heap.size (Ds l) 9/\Below w.heap.size w wr) (fun _ i _=>l.length-(intOf i).toNat)
 case atStart=>exact⟨0,DE _,rfl,IC _ _ _ _,A0.new _ _ _,cu⟩
 obtain⟨k,hk,rfl,n,b,H⟩:=hrel;have a6:=b.lt;by_cases L:k<l.length
 ·have hc:wr.cell? ⟨w.heap.size,k,none⟩=some (l[k]):=by rw[b.cell];simp[Ds,L]
  have r:=Tp l k;have m:=Yw L;generalize l[k]=s at hc m;generalize Gg l k=o at n r m;by_cases G:k+1=l.length
  ·have a0:((k:Int)+1==(l.length:Int))=true:=by rw[BL];omega
   have E:(k+1==l.length)=true:=by rw[BL];exact G
   rw[E]at m;clear G E;have t:=AE m;clear m;by_cases u:s=[46]
   ·subst u;go_wp2_with(at_builtin;refine Gv rfl _ _ rfl (w.heap.size+1) _ o [] wr.heap.size rfl (n.alloc _) rfl ?_ aa ea ?_);all_goals first
     |(exact(A0.new _ _ _).cell 0)
     |(
      intro V W c q h;go_wp2;go_roundw
      case rel=>exact⟨k+1,aa,aj,by rw[t.o,Vu _ true];exact c,(b.alloc _).next h aa,(H.alloc H.size _).trans (h.mono aa)⟩
      simp[intOf];omega)
   by_cases F:s=[]
   ·subst F;go_wp2_with(at_builtin;refine Gv rfl _ _ rfl (w.heap.size+1) _ o [] wr.heap.size rfl (n.alloc _) rfl ?_ aa ea ?_);all_goals first
     |(exact(A0.new _ _ _).cell 0)
     |(
      intro V W c q h;go_wp2;go_roundw
      case rel=>exact⟨k+1,aa,aj,by rw[t.o,Vv _ true _ (Or.inr rfl)];exact c,(b.alloc _).next h aa,(H.alloc H.size _).trans (h.mono aa)⟩
      simp[intOf];omega)
   have a1:(s==[46])=false:=by rw[AI];exact u
   by_cases z:s=[46,46]
   ·subst z;rcases DH o with d|⟨O,y,d⟩
    ·subst d;obtain⟨M,N,rfl⟩:=n.shape;simp only[BG]at n;go_wp2_with(at_builtin;refine Gv rfl _ _ rfl (w.heap.size+1) _ [] [] wr.heap.size rfl (n.alloc _) rfl ?_ ae ea ?_);all_goals first
      |(exact(A0.new _ _ _).cell 0)
      |(
       intro V W c q h;go_wp2;go_roundw
       case rel=>exact⟨k+1,aa,aj,by rw[t.o,J8 _ true,AN rfl,Vw];exact c,(b.alloc _).next h aa,(H.alloc H.size _).trans (h.mono aa)⟩
       simp[intOf];omega)
    rw[DI]at d;subst d;obtain⟨g,I,rfl,J,P,C,f⟩:=n.Rk;rw[AJ]at r;simp only[AK,BG]at r;by_cases A:O=[]
    ·subst A;have a2:=f 0 y rfl;clear f;by_cases B:y=[]
     ·subst B;go_wp2_with(at_builtin;refine Gv rfl _ _ rfl (w.heap.size+1) _ [[]] [] wr.heap.size rfl (n.alloc _) rfl ?_ ae ea ?_);all_goals first
       |(exact(A0.new _ _ _).cell 0)
       |(
        intro V W c q h;go_wp2;go_roundw
        case rel=>exact⟨k+1,aa,aj,by rw[t.o,J8 _ true,AN rfl,CT,Vx];exact c,(b.alloc _).next h aa,(H.alloc H.size _).trans (h.mono aa)⟩
        simp[intOf];omega)
     have a3:y.isEmpty=false:=oz
     go_wp2_with(at_builtin;refine Gv rfl _ _ rfl (w.heap.size+1) _ [] [] wr.heap.size rfl (C.alloc _) rfl ?_ ae ea ?_);all_goals first
      |(exact(A0.new _ _ _).cell 0)
      |(
       intro V W c q h;go_wp2;go_roundw
       case rel=>exact⟨k+1,aa,aj,oj,(b.alloc _).next h aa,(H.alloc H.size _).trans (h.mono aa)⟩
       simp[intOf];omega)
    have a4:0<O.length:=BK.2 A;clear f;go_wp2_with(at_builtin;refine Gv rfl _ _ rfl (w.heap.size+1) _ O [] wr.heap.size rfl (C.alloc _) rfl ?_ aa ea ?_);all_goals first
     |(exact(A0.new _ _ _).cell 0)
     |(
      intro V W c q h;go_wp2;go_roundw
      case rel=>exact⟨k+1,aa,aj,om,(b.alloc _).next h aa,(H.alloc H.size _).trans (h.mono aa)⟩
      simp[intOf];omega)
   have a5:(s==[46,46])=false:=by rw[AI];exact z
   go_wp2_with(at_builtin;refine Gv rfl _ _ rfl (w.heap.size+1) _ o s wr.heap.size rfl (n.alloc _) rfl ?_ aa ea ?_);all_goals first
    |(exact(A0.new _ _ _).cell 0)
    |(
     intro V W c q h;go_wp2;go_roundw
     case rel=>exact⟨k+1,aa,aj,iq,(b.alloc _).next h aa,(H.alloc H.size _).trans (h.mono aa)⟩
     simp[intOf];omega)
  have a0:((k:Int)+1==(l.length:Int))=false:=di
  have E:(k+1==l.length)=false:=by rw[AI];exact G
  rw[E]at m;clear G E;have t:=AE m;clear m;by_cases u:s=[46]
  ·subst u;go_wp2_with fail;all_goals
    go_roundw
    case rel=>exact⟨k+1,aa,aj,by rw[t.o,Vu _ false];exact n,b,H⟩
    simp[intOf];omega
  by_cases F:s=[]
  ·subst F;by_cases h0:0<k
   ·have K:(k==0)=false:=by rw[AI];omega
    go_wp2_with fail;all_goals
     go_roundw
     case rel=>exact⟨k+1,aa,aj,by rw[t.o,K,eY];exact n,b,H⟩
     simp[intOf];omega
   have K:(k==0)=true:=uz
   go_wp2_with(at_builtin;refine Gv rfl _ _ rfl (w.heap.size+1) _ o [] wr.heap.size rfl (n.alloc _) rfl ?_ aa ea ?_);all_goals first
    |(exact(A0.new _ _ _).cell 0)
    |(
     intro V W c q h;go_wp2;go_roundw
     case rel=>exact⟨k+1,aa,aj,by rw[t.o,K,Vv true _ _ (Or.inl rfl)];exact c,(b.alloc _).next h aa,(H.alloc H.size _).trans (h.mono aa)⟩
     simp[intOf];omega)
  have a1:(s==[46])=false:=by rw[AI];exact u
  by_cases z:s=[46,46]
  ·subst z;rcases DH o with d|⟨O,y,d⟩
   ·subst d;obtain⟨M,N,rfl⟩:=n.shape;simp only[BG]at n;go_wp2_with fail;all_goals
     go_roundw
     case rel=>exact⟨k+1,aa,aj,by rw[t.o,J8 _ false,AL ae,Vw];exact n,b,H⟩
     simp[intOf];omega
   rw[DI]at d;subst d;obtain⟨g,I,rfl,J,P,C,f⟩:=n.Rk;rw[AJ]at r;simp only[AK,BG]at r;by_cases A:O=[]
   ·subst A;have a2:=f 0 y rfl;clear f;by_cases B:y=[]
    ·subst B;go_wp2_with fail;all_goals
      go_roundw
      case rel=>exact⟨k+1,aa,aj,oe,b,H⟩
      simp[intOf];omega
    have a3:y.isEmpty=false:=oz
    go_wp2_with fail;all_goals
     go_roundw
     case rel=>exact⟨k+1,aa,aj,ji,b,H⟩
     simp[intOf];omega
   have a4:0<O.length:=BK.2 A;clear f;go_wp2_with fail;all_goals
    go_roundw
    case rel=>exact⟨k+1,aa,aj,jo,b,H⟩
    simp[intOf];omega
  have a5:(s==[46,46])=false:=by rw[AI];exact z
  go_wp2_with(at_builtin;refine Gv rfl _ _ rfl (w.heap.size+1) _ o s wr.heap.size rfl (n.alloc _) rfl ?_ aa ea ?_);all_goals first
   |(exact(A0.new _ _ _).cell 0)
   |(
    intro V W c q h;go_wp2;go_roundw
    case rel=>exact⟨k+1,aa,aj,iq,(b.alloc _).next h aa,(H.alloc H.size _).trans (h.mono aa)⟩
    simp[intOf];omega)
 obtain rfl:k=l.length:=aa
 have Q:(join (Gg l l.length) [47]).length<=140737488355328:=by
  rw[<-D.o];have:=Qf p;omega
 have r:=Tp l l.length;generalize Gg l l.length=o at n r Q D;rcases DH o with d|⟨O,y,d⟩
 ·subst d;obtain⟨M,N,rfl⟩:=n.shape;go_wp2_with fail;refine(Vg _ _ _ _).mono ?_;rintro e W⟨rfl,rfl⟩;go_wp2;go_ret;exact⟨Hz D.o.symm,H⟩
 rw[DI]at d;subst d;obtain⟨g,I,rfl,J,P,C,f⟩:=n.Rk;have R:=Tb g 0 I (O++[y]) [47] wr (fun j x hj=>by rw[EQ];exact f j x hj) (BJ wr _ (f O.length y ah)) aa (by simpa using J) Q;rw[AJ]at R;clear f;go_wp2_with fail;refine R.mono ?_;rintro e W⟨rfl,h⟩;go_wp2;go_ret;exact⟨Hz D.o.symm,H.trans (h.mono H.size)⟩
def Yx(p:Bs):Bs:=p.take (lastIndexByte ⟨p.toArray⟩ 47+1).toNat
def M8(b:A3):Bs:=if b.hasAuth&&b.path.isEmpty then[47]else Yx b.path
def Ar(b a:A3):A3:=
 if a.scheme≠[]then{a with path:=Fh a.path}
 else if a.hasAuth then{a with scheme:=b.scheme,path:=Fh a.path}
 else match a.path with
  |[]=>⟨b.scheme,b.hasAuth,b.auth,b.path,if a.hasQuery then true else b.hasQuery,if a.hasQuery then a.query else b.query,a.hasFrag,a.frag⟩
  |c::l=>if c=47 then⟨b.scheme,b.hasAuth,b.auth,Fh (c::l),a.hasQuery,a.query,a.hasFrag,a.frag⟩
   else⟨b.scheme,b.hasAuth,b.auth,Fh (M8 b++c::l),a.hasQuery,a.query,a.hasFrag,a.frag⟩
theorem eZ(s:ByteArray)(c:Int):∀k:Nat,-1<=Lib.lastIdx s c k/\Lib.lastIdx s c k<k
 |0=>by simp[Lib.lastIdx]
 |k+1=>by
  unfold Lib.lastIdx;have:=eZ s c k;split<;>omega
def vF(l:Bs)(c:Int):-1<=lastIndexByte ⟨l.toArray⟩ c/\lastIndexByte ⟨l.toArray⟩ c<l.length:=eZ _ c l.length
def Yy(b:A3):(M8 b).length<=b.path.length+1:=by
 unfold M8 Yx;split
 ·simp
 simp;omega
def Tq(l:Bs)(w:World)(e:Ending)(w':World):Prop:=e=.returned (match Be l with|some a=>.tuple #[a.val,.nilIface]|none=>.tuple #[A3.zero.val,.iface 30 (.int .i64 3)])/\Below w.heap.size w w'
def Vz(l:Bs)(w:World)(hl:l.length<4294967281)(V:Cj w):Calls prog 44 #[l] w (Tq l w):=by
 go_enter func44,ntmps44;go_wp2_with fail;go_loop[12] (fun i=>∃k:Nat,k<=l.length/\i=k/\(l.take k).all Lb=true) (fun i=>l.length-(intOf i).toNat)
 case atStart=>exact⟨0,DE _,rfl,ah⟩
 obtain⟨k,hk,rfl,g⟩:=hrel;by_cases X:k<l.length
 ·by_cases Y:(33:Int)<=l[k].toNat/\(l[k].toNat:Int)<=126
  ·obtain⟨h1,h2⟩:=Y;go_wp2_with fail
   go_round
   case rel=>exact⟨k+1,aa,aj,Yv Lb X g (eV h1 h2)⟩
   simp[intOf];omega
  have H:=eW Lb X (eU Y);go_wp2_with fail;all_goals
   refine AO (v:=.tuple #[A3.zero.val,.iface 30 (.int .i64 3)]) (by simp[results,results44,go_sem,A3.zero]) rfl ⟨by rw[Be,H];rfl,cu⟩
 obtain rfl:k=l.length:=aa
 rw[CY]at g;have Z:=Ru l [35];generalize a0:cut l [35]=c1 at Z;obtain⟨F,f,H⟩:=c1;have r:=AE a0;clear a0;simp only at Z;go_wp2_with fail;refine(Nj l [35] _ hl (V.next cu)).mono ?_;rintro e w1⟨rfl,t⟩;rw[r.o];have R:A0 w1 w.heap.size Bg 36:=((A0.new w _ _).alloc _).next t ea;have A:=(A0.new (w.alloc (.cells Bg 36)) Bg 36).next t ea;rw[AX]at A;have B1:Below w.heap.size w w1:=(((AG _ w).alloc (AF _) _).alloc ea _).trans (t.mono ea);have a1:=Ru F [63];generalize a2:cut F [63]=c2 at a1;obtain⟨s,q,b⟩:=c2;have u:=AE a2;clear a2;simp only at a1;clear t;have z:=A.free;have j:=A.cell;go_wp2_with fail;have G:=(B1.setCell (p:=⟨w.heap.size+1,7,none⟩) ah f).setCell (p:=⟨w.heap.size+1,6,none⟩) ah H;refine(Nj F [63] _ aa (V.next G)).mono ?_;rintro e w2⟨rfl,x⟩;rw[u.o];have r2:=((R.A6 (a:=⟨w.heap.size+1,7,none⟩) ah f).A6 (a:=⟨w.heap.size+1,6,none⟩) ah H).next x (by have:=R.lt;go_size);have y:A0 w2 (w.heap.size+1) #[.string ⟨#[]⟩,false,.string ⟨#[]⟩,.string ⟨#[]⟩,false,.string ⟨#[]⟩,H,f] _:=((A.set 7 f).set 6 H).next x (by have:=A.lt;go_size);have B2:Below w.heap.size w w2:=G.trans (x.mono (by have:=R.lt;go_size));clear x j z A R B1 G;have z:=y.free;have j:=y.cell;have hI:=P5 s 58 58 rfl;have K:En s 58 (indexByte s 58):=Yt s 58;generalize indexByte s 58=k at hI K;go_upto_region 11 with(go_at_call 100;refine(hI _).mono ?_;rintro e I⟨rfl,rfl⟩);go_cut[53] (fun a5 W=>a5=.bool (Jp s)/\A0 W w.heap.size Bg 36/\A0 W (w.heap.size+1) #[.string ⟨#[]⟩,false,.string ⟨#[]⟩,.string ⟨#[]⟩,b,q,H,f] 36/\Below w.heap.size w W)
 case first=>
  have B:=(r2.A6 (a:=⟨w.heap.size+1,5,none⟩) ah q).A6 (a:=⟨w.heap.size+1,4,none⟩) ah b;have J:A0 _ (w.heap.size+1) #[.string ⟨#[]⟩,false,.string ⟨#[]⟩,.string ⟨#[]⟩,b,q,H,f] _:=(y.set 5 q).set 4 b;have B3:=(B2.setCell (p:=⟨w.heap.size+1,5,none⟩) ah q).setCell (p:=⟨w.heap.size+1,4,none⟩) ah b;clear j z;rcases IA 0 k with c|c
  ·have a6:=K.le c;go_wp2_with fail;refine(uY _ _ ag).mono ?_;rintro e w4⟨rfl,L⟩;go_wp2;go_meet;exact⟨by rw[K.yes c],B.next L B.lt,J.next L J.lt,B3.trans (L.mono (by have:=B.lt;omega))⟩
  go_wp2;go_meet;exact⟨by rw[K.no c],B,J,B3⟩
 obtain⟨rfl,M,m,N⟩:=hcut;go_upto_if 53 with fail;go_cut[0] (fun s0 W=>s0=.string ⟨(Ib s).2.toArray⟩/\A0 W w.heap.size Bg 36/\A0 W (w.heap.size+1) #[.string ⟨(Ib s).1.toArray⟩,false,.string ⟨#[]⟩,.string ⟨#[]⟩,b,q,H,f] 36/\Below w.heap.size w W)
 case first=>
  have z:=m.free;have j:=m.cell;cases O:Jp s with
  |false=>
   go_wp2;go_meet;have h:=Yu O;exact⟨by rw[h],M,by rw[h];exact m,N⟩
  |true=>
   have h:=K.parse O;have c:=K.pos O;have a6:=K.le c;go_wp2_with fail;go_region;all_goals go_wp2_with fail
   all_goals go_meet
   all_goals exact⟨by rw[h],M.A6 ah _,by rw[h];exact m.set 0 _,(N.setCell (p:=⟨w.heap.size+1,0,none⟩) ah _).drew⟩
 obtain⟨rfl,P,n,B5⟩:=hcut;clear M m N r2 y B2;generalize a3:Ib s=S at P n B5|-;obtain⟨a7,S⟩:=S;have Q:=AE a3;clear a3;simp only at n|-;have z:=n.free;have j:=n.cell;have rz:=P.free;have T:=P.cell;have a8:=n.lt;by_cases C:hasPrefix S [47,47]=true
 ·have d:=Ye S [47,47] wc;have U:=AE (eS C);have HL:=AE (trimPrefix_le S [47,47]);rw[C]at d;generalize trimPrefix S [47,47]=rest at d U HL;have a4:=P5 rest 47 47 rfl;have D:En rest 47 (indexByte rest 47):=Yt rest 47;generalize indexByte rest 47=k2 at a4 D;go_wp2_with fail;refine d.mono ?_;rintro e I⟨rfl,rfl⟩;go_wp2_with fail;refine(a4 _).mono ?_;rintro e I⟨rfl,rfl⟩;rcases IA k2 0 with E|E
  ·have o:=D.vA E;go_wp2_with fail;go_region;all_goals go_wp2_with fail
   all_goals
    refine AO (v:=.tuple #[(Oe l).val,.nilIface]) ie rfl ⟨by rw[Be,g];rfl,cu⟩
  have o:=D.vB E;have a9:=D.uZ E;go_wp2_with fail;go_region;all_goals go_wp2_with fail
  all_goals
   refine AO (v:=.tuple #[(Oe l).val,.nilIface]) ie rfl ⟨by rw[Be,g];rfl,cu⟩
 have d:=Ye S [47,47] wc;have o:=eT C;rw[AT.2 C]at d;go_wp2_with fail;refine d.mono ?_;rintro e I⟨rfl,rfl⟩;go_wp2_with fail;refine AO (v:=.tuple #[(Oe l).val,.nilIface]) (by rw[To r.o u.o Q.o o];simp[results,results44,go_sem,T]<;>rfl) rfl ⟨by rw[Be,g];rfl,cu⟩
def fA(a b:A3)(w:World):(Op.equalIn 10000 36 (.agg a.cells) (.agg b.cells)).run prog w=.ok (decide (a=b)) w:=by
 obtain⟨A,c,d,e,f,g,i,j⟩:=a;obtain⟨B,k,l,m,n,o,p,q⟩:=b;have u:=underlying4;have t:=isAgg4;have z:=sizeOf4;have U:=underlying9;have T:=isAgg9;have Z:=sizeOf9;have h:prog.underlying 36=some (.struct (prog.fieldsOf 36)):=af
 have H:prog.stoodInHeld 36=false:=af
 rw[(ca:(10000:Nat)=9999+1),run_equalIn_agg w 9999 36 _ _ h H];simp only[Program.fieldsOf,underlying36];go_simp;repeat' split
 all_goals simp[*]
@[go_sem high]theorem fB(a b:A3)(w:World):(binOp .eql 36 (.agg a.cells) (.agg b.cells)).run prog w=.ok (.bool (decide (a=b))) w:=by
 rw[run_eql_struct,fA];rfl
@[go_sem high]theorem vG(a b:A3)(w:World):(binOp .neq 36 (.agg a.cells) (.agg b.cells)).run prog w=.ok (.bool (!decide (a=b))) w:=by
 rw[run_neq_struct,fA];rfl
def Yz:prog.eqGuardType prog.depth 36=false:=af
end Go.Proofs.YtignjjnflcpiiaaGreatDoor
