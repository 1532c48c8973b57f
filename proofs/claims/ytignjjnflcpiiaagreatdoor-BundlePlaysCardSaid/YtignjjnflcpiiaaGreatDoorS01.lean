/- Plain words on lists of bytes: cutting at a text, cutting -/
import Derived.Deep.DeepCutAuto
import Derived.Handy
import Derived.Lib.Hide
import Derived.Lib.IndexAny
import Derived.Lib.LastIndexByte
import Derived.Lib.SlTrimSet
import Derived.Lib.SplitLaws
import Derived.WalkLawsBesides
import Derived.WalkSpells
import Derived.Test.YtignjjnflcpiiaaGreatDoorProg
set_option maxHeartbeats 400000
namespace Go.Proofs.YtignjjnflcpiiaaGreatDoor
open Go Go.RowKit Proofs.Tryz Lib
abbrev AC:=@Nat.le_refl
abbrev AD:=@Go.RowKit.Below.refl
abbrev AE:=@List.drop_eq_getElem_cons
abbrev AG:=@beq_eq_false_iff_ne
abbrev AH:=@List.length_append
abbrev AI:=@if_neg
abbrev AJ:=@List.append_assoc
abbrev AM:=@if_pos
abbrev AO:=@List.length_cons
abbrev AS:=@List.length_drop
abbrev AU:=@List.take_succ_eq_append_getElem
abbrev AW:=@List.all_eq_true
abbrev BD:=@decide_eq_true
abbrev BE:=@List.length_pos_iff
abbrev BG:=@beq_iff_eq
abbrev BH:=@Option.map_eq_some_iff
abbrev BJ:=@UInt8.toNat_inj
abbrev BK:=@List.drop_of_length_le
abbrev BL:=@Bool.and_eq_true
abbrev BM:=@List.append_nil
abbrev BN:=@List.length_nil
abbrev BQ:=@List.take_append_drop
abbrev BR:=@List.isPrefixOf_iff_prefix
abbrev BU:=@Bool.false_eq_true
abbrev BV:=@List.length_take
abbrev BY:=@List.mem_range
abbrev CA:=@List.mem_cons_of_mem
abbrev CB:=@Go.below_drewN
abbrev CD:=@List.mem_cons_self
abbrev CF:=@List.mem_cons
abbrev CH:=@List.take_of_length_le
abbrev CK:=@List.cons_append
abbrev CL:=@Array.getElem?_eq_none
abbrev CN:=@Nat.lt_or_ge
abbrev CO:=@UInt8.toNat_ofNat'
abbrev CP:=@List.mem_singleton
abbrev CU:=@Array.getElem?_setIfInBounds
abbrev CV:=@List.takeWhile_append_dropWhile
abbrev CX:=@Nat.zero_le
abbrev DA:=@List.filter_cons
abbrev DB:=@Go.RowKit.Below.heap_setCell
abbrev DC:=@if_true
abbrev DG:=@List.takeWhile_cons
abbrev DH:=@List.drop_left'
abbrev DI:=@List.length_eq_zero_iff
abbrev DJ:=@if_false
abbrev DL:=@List.mem_filter
abbrev DP:=@List.drop_zero
abbrev DS:=@List.length_map
abbrev DZ:=@Bool.eq_iff_iff
abbrev EC:=@Prod.mk.injEq
abbrev ED:=@Bool.not_true
abbrev EF:=@decide_eq_true_eq
abbrev EG:=@List.dropWhile_sublist
abbrev EH:=@Bool.not_false
abbrev EI:=@Go.run_convert_bytes_back
abbrev EN:=@Nat.min_eq_left
abbrev ER:=@UInt8.le_iff_toNat_le
abbrev EW:=@Bool.or_eq_true
abbrev EX:=@Nat.zero_add
abbrev FA:=@List.all_cons
abbrev FC:=@List.take_succ_cons
abbrev FF:=@List.takeWhile_sublist
abbrev FT:=@Go.Region.noSelect_spec
abbrev FX:=@List.take_left'
abbrev GC:=@Option.some.injEq
abbrev GD:=@Nat.le_of_lt
abbrev GO:=@List.length_reverse
abbrev GP:=@List.take_zero
abbrev HJ:=@Array.setIfInBounds_comm
abbrev IA:=@Nat.pow_succ
abbrev IB:=@List.map_map
abbrev IC:=@Option.map_some
abbrev ID:=@List.map_append
abbrev IH:=@Array.getElem?_modify
abbrev IN:=@List.reverse_append
abbrev IQ:=@List.map_congr_left
abbrev IR:=@List.drop_succ_cons
abbrev IT:=@Go.heap_alloc_new
abbrev IU:=@Go.Lib.mk_data
abbrev IW:=@Bool.and_true
abbrev IY:=@List.count_eq_zero
abbrev IZ:=@Go.mem_ready
abbrev JC:=@Go.ready_mono
abbrev Bs:=List UInt8
def Ab(p:Bs):Bs→Option (Bs×Bs)
 |[]=>if p=[]then some ([],[])else none
 |c::l=>if p.isPrefixOf (c::l)then some ([],(c::l).drop p.length)else(Ab p l).map fun x=>(c::x.1,x.2)
theorem Yb(p:Bs)(l:Bs)(h:p.isPrefixOf l=true):l=p++l.drop p.length:=by
 obtain⟨t,rfl⟩:=BR.1 h;simp
variable {p l a b x y:Bs}{c:UInt8}
theorem Ee(h:Ab p l=some (a,b)):l=a++p++b:=by
 induction l generalizing a with
 |nil=>
  unfold Ab at h;split at h
  ·rename_i H;simp at h;simp[h.1,←h.2,H]
  cases h
 |cons c l ih=>
  unfold Ab at h;split at h
  ·rename_i H;simp at h;obtain⟨rfl,rfl⟩:=h;simpa using Yb p _ H
  cases d:Ab p l with
  |none=>simp[d]at h
  |some x=>
   obtain⟨X,e⟩:=x;simp[d]at h;obtain⟨rfl,rfl⟩:=h;simp[ih d]
theorem He(p l:Bs):index l p=match Ab p l with|none=>-1|some x=>(x.1.length:Int):=by
 induction l with
 |nil=>by_cases h:p=[]<;>simp[index,Ab,h]
 |cons c l ih=>
  unfold index Ab;by_cases h:p.isPrefixOf (c::l)=true
  ·simp[h]
  simp only[h,DJ,BU,ih];cases Ab p l with
  |none=>simp
  |some x=>
   have:¬((x.1.length:Int)=-1):=by omega
   simp[this]
theorem Fx(p l:Bs):cut l p=match Ab p l with|none=>(l,[],false)|some x=>(x.1,x.2,true):=by
 unfold cut;rw[He];cases h:Ab p l with
 |none=>simp
 |some x=>
  obtain⟨a,b⟩:=x;have:=Ee h;simp[this]
theorem Ud(c:UInt8)(l:Bs):indexByte l c=match Ab [c] l with|none=>-1|some x=>(x.1.length:Int):=by
 induction l with
 |nil=>simp[indexByte,Ab]
 |cons b l ih=>
  unfold indexByte Ab;by_cases h:b=c
  ·subst h;simp[List.isPrefixOf]
  have H:(b==c)=false:=by simpa using h
  have a:[c].isPrefixOf (b::l)=false:=by simp[List.isPrefixOf];exact fun e=>h e.symm
  simp only[H,a,DJ,BU,ih];cases Ab [c] l with
  |none=>simp
  |some x=>
   have:¬((x.1.length:Int)=-1):=by omega
   simp[this]
theorem Ke:Ab [c] l=none↔c∉l:=by
 induction l with
 |nil=>simp[Ab]
 |cons b l ih=>
  unfold Ab;by_cases h:b=c
  ·subst h;simp[List.isPrefixOf]
  have H:[c].isPrefixOf (b::l)=false:=by simp[List.isPrefixOf];exact fun e=>h e.symm
  simp[H,ih];exact fun _ e=>h e.symm
theorem Oa(h:Ab [c] l=some (a,b)):l=a++c::b∧c∉a:=by
 refine⟨by simpa using Ee h,?_⟩;induction l generalizing a with
 |nil=>simp[Ab]at h
 |cons x l ih=>
  unfold Ab at h;by_cases e:x=c
  ·subst e;simp[List.isPrefixOf]at h;simp[h.1]
  have d:[c].isPrefixOf (x::l)=false:=by simp[List.isPrefixOf];exact fun E=>e E.symm
  cases H:Ab [c] l with
  |none=>simp[d,H]at h
  |some y=>
   obtain⟨Y,f⟩:=y;simp[d,H]at h;obtain⟨rfl,rfl⟩:=h;simp only[CF,not_or];exact⟨fun E=>e E.symm,ih H⟩
theorem Me(h:c∉a):Ab [c] (a++c::b)=some (a,b):=by
 induction a with
 |nil=>simp[Ab,List.isPrefixOf]
 |cons x a ih=>
  simp only[CF,not_or]at h;have H:[c].isPrefixOf (x::(a++c::b))=false:=by simp[List.isPrefixOf];exact h.1
  simp[Ab,H,ih h.2]
def Bo(c:UInt8):Bs→List Bs
 |[]=>[[]]
 |x::l=>if x=c then[]::Bo c l else match Bo c l with|[]=>[[x]]|h::t=>(x::h)::t
theorem N3(c:UInt8)(l:Bs):Bo c l≠[]:=by
 cases l with
 |nil=>simp[Bo]
 |cons x l=>
  unfold Bo;split;·simp
  split<;>simp
theorem Ue(h:c∉l):Bo c l=[l]:=by
 induction l with
 |nil=>rfl
 |cons x l ih=>
  simp only[CF,not_or]at h;have H:¬x=c:=fun e=>h.1 e.symm
  simp[Bo,H,ih h.2]
theorem Yc(h:c∉a):Bo c (a++c::b)=a::Bo c b:=by
 induction a with
 |nil=>simp[Bo]
 |cons x a ih=>
  simp only[CF,not_or]at h;have H:¬x=c:=fun e=>h.1 e.symm
  simp[Bo,H,ih h.2]
theorem Q1(c:UInt8)(l:Bs):(Bo c l).length=l.count c+1:=by
 induction l with
 |nil=>rfl
 |cons x l ih=>
  unfold Bo;by_cases h:x=c
  ·subst h;simp[ih]
  simp only[h,DJ];have H:(x::l).count c=l.count c:=by rw[List.count_cons];simp[h]
  rw[H];split
  ·rename_i e;exact absurd e (N3 c l)
  rename_i d t e;rw[e]at ih;simpa using ih
theorem Yd(c:UInt8):∀(n:Nat)(l:Bs),l.count c=n→splitK [c] 0 n l=Bo c l
 |0,l,h=>by
  rw[Ue (IY.1 h)];rfl
 |n+1,l,h=>by
  unfold splitK;rw[He];cases H:Ab [c] l with
  |none=>rw[Ke]at H;have:=IY.2 H;omega
  |some x=>
   obtain⟨a,b⟩:=x;obtain⟨e,d⟩:=Oa H;have f:((a.length:Int)==-1)=false:=by rw[AG];omega
   simp only[f,BU,DJ];have g:b.count c=n:=by
    rw[e,List.count_append,IY.2 d]at h;simp at h;omega
   rw[e,Yc d];simp;have:=Yd c n b g;simpa using this
theorem lT(c:UInt8)(l:Bs):splitB ⟨#[c]⟩ 0 (countB ⟨l.toArray⟩ ⟨#[c]⟩) ⟨l.toArray⟩=(Bo c l).map fun x=>(⟨x.toArray⟩:ByteArray):=by
 have h:=splitB_data ⟨#[c]⟩ 0 (countB ⟨l.toArray⟩ ⟨#[c]⟩) ⟨l.toArray⟩;have H:countB ⟨l.toArray⟩ ⟨#[c]⟩=l.count c:=count_one c l;rw[H]at h⊢;have a:splitK [c] 0 (l.count c) l=Bo c l:=Yd c _ l rfl;have b:(splitB ⟨#[c]⟩ 0 (l.count c) ⟨l.toArray⟩).map (·.data.toList)=Bo c l:=h.trans a;rw[←b,IB];conv=>lhs;rw[←List.map_id (splitB ⟨#[c]⟩ 0 (l.count c) ⟨l.toArray⟩)]
 apply IQ;intro x _;exact(IU x).symm
theorem lU(c:UInt8)(l:Bs):countB ⟨l.toArray⟩ ⟨#[c]⟩+1=(Bo c l).length:=by
 rw[Q1];congr 1;exact count_one c l
def N4:Bs:=[65,66,67,68,69,70,71,72,73,74,75,76,77,78,79,80,81,82,83,84,85,86,87,88,89,90,97,98,99,100,101,102,103,104,105,106,107,108,109,110,111,112,113,114,115,116,117,118,119,120,121,122,48,49,50,51,52,53,54,55,56,57,43,47]
def Bp(n:Nat):UInt8:=N4.getD n 0
def Co(v:Nat)(n:Nat):Bs:=[Bp (v/262144%64),Bp (v/4096%64),if 2≤n then Bp (v/64%64)else 61,if 3≤n then Bp (v%64)else 61]
def D9:Bs→Nat→Bs
 |[],_=>[]
 |[a],_=>Co (a.toNat*65536) 1++[13,10]
 |[a,b],_=>Co (a.toNat*65536+b.toNat*256) 2++[13,10]
 |a::b::c::l,n=>Co (a.toNat*65536+b.toNat*256+c.toNat) 3++(if n+4=76∨l=[]then[13,10]++D9 l 0 else D9 l (n+4))
def Ew(b:Bs):Bs:=D9 b 0
theorem Fy(v n:Nat):(Co v n).length=4:=rfl
theorem Uf:∀(b:Bs)(n:Nat),(D9 b n).length≤6*b.length
 |[],_=>by simp[D9]
 |[a],_=>by simp[D9,Fy]
 |[a,b],_=>by simp[D9,Fy]
 |a::b::c::l,n=>by
  unfold D9;split
  ·have:=Uf l 0;simp[Fy];omega
  have:=Uf l (n+4);simp[Fy];omega
theorem Ug(b:Bs):(Ew b).length≤6*b.length:=Uf b 0
def Al(c:UInt8):Bool:=c==13||c==10||c==32||c==9
def Ax(c:UInt8):Int:=indexByte N4 c
def Ff(c:UInt8)(n p:Nat):Option (Nat×Nat):=
 if c=61∧2≤n%4 then some (0,p+1)else if Ax c<0∨0<p then none else some ((Ax c).toNat,p)
def Ek(v n p:Nat):Option (Bs×Nat×Nat×Nat):=
 if 0<n%4 then some ([],v,n,p)
 else if p=1∧v%256≠0∨p=2∧v%65536≠0 then none
 else some ([(v/65536).toUInt8,(v/256).toUInt8,v.toUInt8].take (3-p),0,n,p)
def Hu(c:UInt8)(v n P:Nat):Option (Bs×Nat×Nat×Nat):=
 if Al c then some ([],v,n,P)else match Ff c n P with
  |none=>none
  |some (k,p)=>Ek (v*64+k) (n+1) p
def C6:Bs→Nat→Nat→Nat→Option Bs
 |[],_,n,_=>if 0<n%4 then none else some []
 |c::l,v,n,p=>match Hu c v n p with
  |none=>none
  |some (o,V,N,P)=>(C6 l V N P).map (o++·)
def Ef(s:Bs):Option Bs:=C6 s 0 0 0
def Rq(v n p:Nat):Prop:=p≤2∧(n%4=1→p=0)∧(n%4=2→p=0)∧(n%4=3→p≤1)∧v<262144∧(n%4=0→v=0)∧(n%4=1→v<64)∧(n%4=2→v<4096)
theorem lV:((List.range 256).all fun n=>decide (-1≤Ax n.toUInt8)&&decide (Ax n.toUInt8<64))=true:=by kernel_rfl
theorem Uh(c:UInt8):-1≤Ax c∧Ax c<64:=by
 have:=AW.1 lV c.toNat (BY.2 c.toNat_lt);rw[show c.toNat.toUInt8=c by simp]at this;simpa using this
def Gj(c:UInt8):Bool:=decide (33≤c)&&decide (c≤126)&&c !=61
def N5(n:Nat):UInt8:=([48,49,50,51,52,53,54,55,56,57,65,66,67,68,69,70]:Bs).getD n 0
def Fg(c:UInt8)(l:Bool):Bs:=if Gj c||(c==32||c==9)&&!l then[c]else[61,N5 (c.toNat/16),N5 (c.toNat%16)]
def L2(c:UInt8)(l:Bool):Bool:=!(Gj c)&&((c !=32&&c !=9)||l)
theorem lW(c:UInt8)(l:Bool):Fg c l=if L2 c l then[61,N5 (c.toNat/16),N5 (c.toNat%16)]else[c]:=by
 unfold Fg L2;cases Gj c<;>cases h:(c==32)<;>cases H:(c==9)<;>cases l<;>simp[bne,h,H]
def Fz:Bs→Nat→Bs
 |[],_=>[]
 |c::l,n=>if n+(Fg c l.isEmpty).length>(if l.isEmpty then 76 else 75)then[61,13,10]++Fg c l.isEmpty++Fz l (Fg c l.isEmpty).length
  else Fg c l.isEmpty++Fz l (n+(Fg c l.isEmpty).length)
def Fh(b:Bs):Bs:=Fz b 0
theorem Ui(c:UInt8)(b:Bool):1≤(Fg c b).length∧(Fg c b).length≤3:=by
 unfold Fg;split<;>simp
theorem Uj:∀(b:Bs)(n:Nat),(Fz b n).length≤6*b.length
 |[],_=>by simp[Fz]
 |c::l,n=>by
  have h:=Ui c l.isEmpty;unfold Fz;generalize(if l.isEmpty=true then 76 else 75)=r;split
  ·have:=Uj l (Fg c l.isEmpty).length;simp;omega
  have:=Uj l (n+(Fg c l.isEmpty).length);simp;omega
theorem Rr(b:Bs):(Fh b).length≤6*b.length:=Uj b 0
def Du(c:UInt8):Int:=if 48≤c∧c≤57 then(c.toNat:Int)-48 else if 65≤c∧c≤70 then(c.toNat:Int)-65+10 else if 97≤c∧c≤102 then(c.toNat:Int)-97+10 else-1
theorem lX:((List.range 256).all fun n=>decide (-1≤Du n.toUInt8)&&decide (Du n.toUInt8<16))=true:=by kernel_rfl
theorem Rs(c:UInt8):-1≤Du c∧Du c<16:=by
 have:=AW.1 lX c.toNat (BY.2 c.toNat_lt);rw[show c.toNat.toUInt8=c by simp]at this;simpa using this
def Jq(c:UInt8):Bool:=Gj c||c==32||c==9
def I8:Bs→Option (UInt8×Bs)
 |61::a::b::l=>if 0≤Du a∧0≤Du b then some ((Du a*16+Du b).toNat.toUInt8,l)else none
 |c::l=>if Jq c then some (c,l)else none
 |[]=>none
theorem Uk(h:I8 x=some (c,y)):y.length<x.length:=by
 unfold I8 at h;split at h
 ·split at h
  ·simp at h;simp[←h.2];omega
  cases h
 ·split at h
  ·simp at h;simp[←h.2]
  cases h
 cases h
def It:Nat→Bs→Option Bs
 |_,[]=>some []
 |0,_=>none
 |k+1,x=>match I8 x with
  |none=>none
  |some (c,y)=>(It k y).map (c::·)
def Cp(x:Bs):Option Bs:=It x.length x
theorem Ye:∀(k m:Nat)(x:Bs),x.length≤k→x.length≤m→It k x=It m x
 |_,_,[],_,_=>by simp[It]
 |0,_,c::l,h,_=>by simp at h
 |_,0,c::l,_,h=>by simp at h
 |k+1,m+1,c::l,a,b=>by
  unfold It;cases H:I8 (c::l)with
  |none=>rfl
  |some r=>
   obtain⟨d,y⟩:=r;have:=Uk H;simp only;rw[Ye k m y (by simp at*;omega) (by simp at*;omega)]
theorem Rt(h:x≠[]):Cp x=match I8 x with|none=>none|some (c,y)=>(Cp y).map (c::·):=by
 cases x with
 |nil=>exact absurd rfl h
 |cons a l=>
  unfold Cp;rw[(by rfl:(a::l).length=l.length+1)];conv=>lhs;unfold It
  cases H:I8 (a::l)with
  |none=>rfl
  |some r=>
   obtain⟨d,y⟩:=r;have:=Uk H;simp only;rw[Ye l.length y.length y (by simp at this;omega) (AC _)]
def Kf(x:Bs):Bool:=hasSuffix (trimRightS x [32,9]) [61]
def Hv(x:Bs):Bs:=trimSuffix (trimRightS x [32,9]) [61]
def Df:List Bs→Option Bs
 |[]=>some []
 |x::X=>match Cp (Hv x)with
  |none=>none
  |some a=>(Df X).map (a++(if Kf x||X.isEmpty then[]else[13,10])++·)
def E6(s:Bs):Option Bs:=Df (Lib.split s [13,10])
theorem Ul(p:Bs):∀(n:Nat)(s x:Bs),x∈splitK p 0 n s→x.length≤s.length
 |0,s,x,h=>by simp[splitK]at h;rw[h];exact AC _
 |n+1,s,x,h=>by
  unfold splitK at h;split at h
  ·simp at h;rw[h];exact AC _
  rcases CF.1 h with h|h
  ·rw[h];simp;omega
  have:=Ul p n _ x h;simp at this;omega
theorem Q4(x cs:Bs):(trimRightS x cs).length≤x.length:=by
 unfold trimRightS;rw[GO];have:=(EG (fun c=>cs.contains c) (l:=x.reverse)).length_le;simpa using this
theorem Um(x:Bs):(Hv x).length≤x.length:=by
 have h:(trimRightS x [32,9]).length≤x.length:=by
  unfold trimRightS;rw[GO];have:=(EG (fun c=>([32,9]:Bs).contains c) (l:=x.reverse)).length_le;simpa using this
 unfold Hv trimSuffix;split
 ·simp;omega
 exact h
end Go.Proofs.YtignjjnflcpiiaaGreatDoor
namespace Go.Proofs.YtignjjnflcpiiaaGreatDoor
open Go Go.RowKit Proofs.Tryz Lib
theorem Ba{a b:Bool}(h:a=b):Ending.returned (.bool a)=.returned (.bool b):=by rw[h]
theorem Es{k:IntKind}{a b:Int}(h:a=b):Ending.returned (.int k a)=.returned (.int k b):=by rw[h]
theorem Gx{a b:List UInt8}(h:a=b):Ending.returned (.string ⟨a.toArray⟩)=.returned (.string ⟨b.toArray⟩):=by rw[h]
@[go_sem]theorem ZH(l:List UInt8)(k:Nat)(h:k<(⟨l.toArray⟩:ByteArray).size):(⟨l.toArray⟩:ByteArray)[k]'h=l[k]'h:=rfl
@[go_sem]theorem ZI(l:List UInt8)(a b:Nat):(⟨l.toArray⟩:ByteArray).extract a b=⟨((l.drop a).take (b-a)).toArray⟩:=extract_eq _ _ _
@[go_sem]theorem ZJ(l:List UInt8)(a:Nat):(l.drop a).take (l.length-a)=l.drop a:=CH (by simp)
@[go_sem]theorem ZK(a b:List UInt8):(⟨a.toArray⟩:ByteArray)++⟨b.toArray⟩=⟨(a++b).toArray⟩:=by
 apply ByteArray.ext;rw[ByteArray.data_append];simp
theorem Dz(b j:Nat):(⟨b,0,none⟩:Addr).add j=⟨b,j,none⟩:=by
 unfold Addr.add;split
 ·rename_i h;rw[h]
 simp
variable {w0 W w w':World}{t:TypeId}{c:Array Value}{b B j:Nat}{l:List UInt8}
theorem C4(h:Below W.heap.size W w)(K:Below w0.heap.size w0 W):Below w0.heap.size w0 w:=K.trans (h.mono K.size)
def A1(w:World)(b:Nat)(c:Array Value)(t:TypeId):Prop:=w.heap[b]?=some (.cells c t (0,0))
theorem A1.cell(h:A1 w b c t)(j:Nat):w.cell? ⟨b,j,none⟩=c[j]?:=by
 unfold A1 at h;simp[World.cell?,h]
theorem A1.free(h:A1 w b c t)(j:Nat):w.frozen? ⟨b,j,none⟩=false:=by
 unfold A1 at h;simp[World.frozen?,h]
theorem A1.lt(h:A1 w b c t):b<w.heap.size:=by
 unfold A1 at h;rcases CN b w.heap.size with H|H
 ·exact H
 simp[CL H]at h
theorem A1.next(h:A1 w b c t)(H:Below B w w')(a:b<B):A1 w' b c t:=(H.block b a).trans h
theorem A1.set(h:A1 w b c t)(j:Nat)(v:Value):A1 (w.setCell ⟨b,j,none⟩ v) b (c.setIfInBounds j v) t:=by
 unfold A1 at h⊢;simp[World.setCell,IH,h]
theorem A1.A6(h:A1 w b c t){a:Addr}(H:b≠a.block)(v:Value):A1 (w.setCell a v) b c t:=(DB w a v b H).trans h
theorem A1.alloc{w:World}{b:Nat}{c:Array Value}{t:TypeId}(h:A1 w b c t)(o:Obj):A1 (w.alloc o) b c t:=(Below.heap_alloc w o b h.lt).trans h
theorem A1.drew{w:World}{b:Nat}{c:Array Value}{t:TypeId}(h:A1 w b c t):A1 w.drew b c t:=h
theorem A1.new(w:World)(c:Array Value)(t:TypeId):A1 (w.alloc (.cells c t)) w.heap.size c t:=IT w _
def Ex(w:World)(b:Nat)(l:List UInt8):Prop:=∃C t L H,w.heap[b]?=some (.cells C t (L,H))∧l.length≤L∧∀j(h:j<l.length),C[j]?=some (.int .u8 (l[j].toNat:Int))
theorem Ex.cell(h:Ex w b l)(H:j<l.length):w.cell? ⟨b,j,none⟩=some (.int .u8 (l[j].toNat:Int)):=by
 obtain⟨C,t,L,i,a,o,c⟩:=h;simp[World.cell?,a,c j H]
theorem Ex.frozen(h:Ex w b l)(a:j<l.length):w.frozen? ⟨b,j,none⟩=false:=by
 obtain⟨C,t,L,i,H,o,c⟩:=h;simp only[World.frozen?,H];simp;omega
theorem Ex.lt(h:Ex w b l):b<w.heap.size:=by
 obtain⟨C,t,L,i,a,_⟩:=h;rcases CN b w.heap.size with H|H
 ·exact H
 simp[CL H]at a
theorem Ex.of_block(h:Ex w b l)(e:w'.heap[b]?=w.heap[b]?):Ex w' b l:=by
 unfold Ex at h⊢;rw[e];exact h
theorem Ex.below(h:Ex w b l)(H:Below B w w')(t:b<B):Ex w' b l:=h.of_block (H.block b t)
theorem Ex.set{w:World}{b:Nat}{l:List UInt8}(h:Ex w b l)(j:Nat)(c:UInt8):Ex (w.setCell ⟨b,j,none⟩ (.int .u8 (c.toNat:Int))) b (l.set j c):=by
 obtain⟨C,t,L,f,g,o,a⟩:=h;refine⟨C.setIfInBounds j (.int .u8 (c.toNat:Int)),t,L,f,?_,by simpa using o,?_⟩
 ·simp[World.setCell,IH,g]
 intro i k;have d:i<l.length:=by simpa using k
 rw[CU];by_cases e:j=i
 ·subst e;have:j<C.size:=by
   rcases CN j C.size with H|H
   ·exact H
   have:=a j d;rw[CL H]at this;cases this
  simp[this]
 simp[e,a i d,List.getElem_set_ne e]
theorem Yf(w:World)(l:List UInt8)(cap e:Nat):Ex (w.alloc (.cells (bytesRow ⟨l.toArray⟩ cap) e ((bytesRow ⟨l.toArray⟩ cap).size,(bytesRow ⟨l.toArray⟩ cap).size+1))) w.heap.size l:=by
 refine⟨_,e,_,_,IT w _,?_,?_⟩
 ·simp[bytesRow]
 intro j h;rw[bytesRow_at _ _ _ (by simpa using h)];simp
def Bw(c:UInt8):UInt8:=if 65≤c∧c≤90 then c+32 else c
def A2(l:List UInt8):List UInt8:=l.map Bw
def Iu(l:List UInt8)(k:Nat):List UInt8:=(l.take k).map Bw++l.drop k
theorem lY(l:List UInt8):Iu l 0=l:=by simp[Iu]
theorem lZ(l:List UInt8):Iu l l.length=A2 l:=by simp[Iu,A2]
theorem Un(l:List UInt8)(k:Nat):(Iu l k).length=l.length:=by simp[Iu];omega
theorem Yg(l:List UInt8)(k:Nat)(h:k<l.length):(Iu l k)[k]'(by rw[Un];exact h)=l[k]:=by
 simp[Iu,EN (GD h)]
theorem Yh(l:List UInt8)(k:Nat)(h:k<l.length):Iu l (k+1)=(Iu l k).set k (Bw l[k]):=by
 unfold Iu;rw[List.set_append,DS,BV,EN (GD h),AI (Nat.lt_irrefl k),Nat.sub_self,AE h,AU h,List.set_cons_zero,ID,AJ];rfl
theorem mA(l:List UInt8)(k:Nat)(h:k<l.length)(e:Bw l[k]=l[k]):Iu l (k+1)=Iu l k:=by
 rw[Yh l k h,e,←Yg l k h,List.set_getElem_self]
theorem Yi(c:UInt8)(a:(65:Int)≤c.toNat)(b:(c.toNat:Int)≤90):((c.toNat:Int)+32)=((Bw c).toNat:Int):=by
 have h:65≤c.toNat:=by omega
 have H:c.toNat≤90:=by omega
 unfold Bw;rw[AM ⟨ER.2 h,ER.2 H⟩,UInt8.toNat_add];simp;omega
theorem Yj(c:UInt8)(h:¬((65:Int)≤c.toNat∧(c.toNat:Int)≤90)):Bw c=c:=by
 unfold Bw;rw[AI];rintro⟨H,a⟩;have:=ER.1 H;have:=ER.1 a;simp at*;omega
theorem G0(l:List UInt8)(w:World)(m:l.length≤140737488355328):Calls prog 42 #[.string ⟨l.toArray⟩] w fun e W=>e=.returned (.string ⟨(A2 l).toArray⟩)∧Below w.heap.size w W:=by
 have v:=fun w=>run_bytes_of_string (P:=prog) w 9 126 5 ⟨l.toArray⟩ underlying9 underlying126 underlying5
 go_enter func42,ntmps42
 go_wp2
 go_loopw[10] (fun i wr=>∃k:Nat,k≤l.length∧i=.int .i64 k∧Ex wr w.heap.size (Iu l k)∧Below w.heap.size w wr) (fun i _=>l.length-(intOf i).toNat)
 case atStart=>exact⟨0,CX _,rfl,by rw[lY];exact Yf w l _ _,((AD _ _).alloc (AC _) _).drew⟩
 obtain⟨k,n,rfl,h,a⟩:=hrel;by_cases H:k<l.length
 ·have c:=h.cell (j:=k) (by rw[Un];exact H);have o:=h.frozen (j:=k) (by rw[Un];exact H);rw[Yg l k H]at c
  go_wp2
  ·have b:(65:Int)≤l[k].toNat:=by assumption
   have d:(l[k].toNat:Int)≤90:=by assumption
   go_roundw
   case rel=>
    refine⟨k+1,by omega,by go_num,?_,a.setCell (AC _) _⟩;rw[Yi _ b d,Yh l k H];exact h.set k _
   simp[intOf];omega
  all_goals
   go_roundw
   case rel=>exact⟨k+1,by omega,by go_num,by rw[mA l k H (Yj _ (by omega))];exact h,a⟩
   simp[intOf];omega
 obtain rfl:k=l.length:=by omega
 rw[lZ]at h;have f:=EI (P:=prog) wr 126 9 5 ⟨w.heap.size,0,none⟩ (grownCap w l.length 0 5) (A2 l) underlying126 underlying5 underlying9
  (fun j g=>by rw[Dz];exact h.cell g)
 rw[(by simp[A2]:(A2 l).length=l.length)]at f;clear h
 go_wp2
 go_ret;exact⟨rfl,a⟩
end Go.Proofs.YtignjjnflcpiiaaGreatDoor
namespace Go.Proofs.YtignjjnflcpiiaaGreatDoor
open Go Go.RowKit Proofs.Tryz Lib
abbrev A4:=Bs×Bs
def Iv(c:UInt8):Bool:=decide (33≤c)&&decide (c≤126)&&c !=58
def Eg(s:Bs):Bool:=s.all Iv&&!s.isEmpty
def G1(c:UInt8):Bool:=(decide (32≤c)||c==9)&&c !=127
def Fi(s:Bs):Bool:=s.all G1&&(trimS s [32,9]==s)
def Ob:Bs→Bool
 |c::_=>c==32||c==9
 |[]=>false
def J8(out:List A4)(l:Bs):Option (List A4):=
 if Ob l then match out.getLast? with
  |none=>none
  |some f=>some (out.dropLast++[(f.1,f.2++l)])
 else match Ab [58] l with
  |none=>none
  |some (a,b)=>if Eg a then some (out++[(a,b)])else none
def Gb:Nat→List A4→Bs→Option (List A4×Bs)
 |0,_,_=>none
 |k+1,O,s=>
  if s=[]then some (O,[])else
  let c:=cut s [13,10]
  if c.1=[]∧c.2.2=true then some (O,c.2.1)
  else match J8 O c.1 with
   |none=>none
   |some o=>Gb k o c.2.1
def Dj(s:Bs):Option (List A4×Bs):=Gb (s.length+1) [] s
def Cq:List A4→Option (List A4)
 |[]=>some []
 |f::l=>if Fi (trimS f.2 [32,9])then(Cq l).map ((f.1,trimS f.2 [32,9])::·)else none
def Ca(l:List A4):Bool:=l.all fun f=>Eg f.1&&Fi f.2
def Ai:List A4→Bs→Option Bs
 |[],_=>none
 |f::l,s=>if A2 f.1=A2 s then some f.2 else Ai l s
theorem Oc(x cs:Bs):(trimS x cs).length≤x.length:=by
 unfold trimS trimLeftS;have h:=(EG (fun c=>cs.contains c) (l:=trimRightS x cs)).length_le;have H:=Q4 x cs;omega
def Od:Bs:=[40,41,60,62,64,44,59,58,92,34,47,91,93,63,61]
def Fj(r:Nat):Bool:=decide (r<33)||(decide (126<r)||Od.contains r.toUInt8)
theorem mB(r:Nat)(h:128≤r):Fj r=true:=by
 unfold Fj;rw[BD (show 126<r by omega)];simp
def Ae(s:Bs):Bool:=!s.isEmpty&&!(s.any fun c=>Fj c.toNat)
def Bx(c:UInt8):Bool:=decide (32≤c)&&decide (c≤126)
def Bc:Bs→Option (Bs×Bs)
 |[]=>none
 |[c]=>if c=34 then some ([],[])else none
 |c::d::l=>
  if c=34 then some ([],d::l)
  else if c=92 then(if Bx d then(Bc l).map fun x=>(d::x.1,x.2)else none)
  else if Bx c then(Bc (d::l)).map fun x=>(c::x.1,x.2)else none
def Eh(c:UInt8):Bool:=([59,32,9]:Bs).contains c
def Cy(s:Bs):Bs×Bs×Bool:=
 if hasPrefix s [34]then match Bc (s.drop 1)with
  |none=>([],[],false)
  |some x=>(x.1,x.2,true)
 else(s.takeWhile (fun c=>!Eh c),s.dropWhile (fun c=>!Eh c),Ae (s.takeWhile fun c=>!Eh c))
def Gc(rest:Bs):Option (A4×Bs):=let c:=cut (trimLeftS rest [32,9]) [61]
 let n:=trimRightS c.1 [32,9];let v:=Cy (trimLeftS c.2.1 [32,9])
 if c.2.2&&Ae n then(if v.2.2 then some ((A2 n,v.1),trimLeftS v.2.1 [32,9])else none)else none
def Gy:Nat→Bs→Option (List A4)
 |0,_=>none
 |k+1,rest=>match Gc rest with
  |none=>none
  |some (f,r)=>match r with
   |[]=>some [f]
   |c::R=>if c=59 then(Gy k R).map (f::·)else none
def Ay(s:Bs):Option (Bs×List A4):=let c:=cut s [59]
 let m:=A2 (trimS c.1 [32,9]);let d:=cut m [47]
 if Ae d.1&&(!d.2.2||Ae d.2.1)then(if c.2.2 then Gy (c.2.1.length+1) c.2.1 else some []).map fun l=>(m,l)else none
def C5:List A4→Bs→Option Bs
 |[],_=>none
 |f::l,s=>if f.1=s then some f.2 else C5 l s
def Dk(c:UInt8):Bs:=if c=92 then[92,92]else if c=34 then[92,34]else[c]
def D3(v:Bs):Bs:=if Ae v then v else 34::(v.flatMap Dk++[34])
def Gd(p:A4):Option Bs:=
 if Ae p.1&&(A2 p.1==p.1)&&!(p.2.any fun c=>!Bx c)then some (59::32::(p.1++61::D3 p.2))else none
def Dq:List A4→Option Bs
 |[]=>some []
 |p::l=>match Gd p with
  |none=>none
  |some x=>(Dq l).map (x++·)
def Cz(m:Bs)(l:List A4):Option Bs:=let d:=cut m [47]
 if Ae d.1&&(!d.2.2||Ae d.2.1)&&(A2 m==m)then(Dq l).map (m++·)else none
theorem mC(p:UInt8→Bool)(l:Bs):(l.dropWhile p).length≤l.length:=(EG p).length_le
theorem Oe(p:UInt8→Bool)(l:Bs):(l.takeWhile p).length≤l.length:=(FF p).length_le
theorem N6(x cs:Bs):(trimLeftS x cs).length≤x.length:=by
 unfold trimLeftS;exact mC _ _
theorem Lo(s p:Bs):(cut s p).1.length+(cut s p).2.1.length≤s.length:=by
 rw[Fx];cases h:Ab p s with
 |none=>simp
 |some x=>
  obtain⟨a,b⟩:=x;have e:=congrArg List.length (Ee h);simp at e⊢;omega
theorem mD(s p:Bs)(c:p≠[])(h:(cut s p).2.2=true):(cut s p).1.length+(cut s p).2.1.length<s.length:=by
 rw[Fx]at h⊢;cases H:Ab p s with
 |none=>rw[H]at h;simp at h
 |some x=>
  obtain⟨a,b⟩:=x;have e:=congrArg List.length (Ee H);have:=BE.2 c;simp at e⊢;omega
theorem mE(s p:Bs):contains s p=(cut s p).2.2:=by
 rw[Fx];unfold contains;rw[He];cases Ab p s with
 |none=>rfl
 |some x=>simp
theorem Ru:∀(s v r:Bs),Bc s=some (v,r)→v.length+r.length<s.length
 |[],_,_,h=>by simp[Bc]at h
 |[c],v,r,h=>by
  unfold Bc at h;split at h
  ·simp at h;rw[h.1,h.2];simp
  cases h
 |c::d::l,v,r,h=>by
  unfold Bc at h;split at h
  ·simp at h;rw[h.1,←h.2];simp
  split at h
  ·split at h
   ·simp only[BH]at h;obtain⟨⟨a,b⟩,e,H⟩:=h;have:=Ru l a b e;simp at H;simp[←H.1,←H.2];omega
   cases h
  split at h
  ·simp only[BH]at h;obtain⟨⟨a,b⟩,e,H⟩:=h;have:=Ru (d::l) a b e;simp at H this;simp[←H.1,←H.2];omega
  cases h
theorem Yk(s:Bs):(Cy s).1.length+(Cy s).2.1.length≤s.length:=by
 unfold Cy;split
 ·cases h:Bc (s.drop 1)with
  |none=>simp
  |some x=>
   obtain⟨v,r⟩:=x;have:=Ru _ _ _ h;simp at this⊢;omega
 have:=congrArg List.length (CV (p:=fun c=>!Eh c) (l:=s));simp only[AH]at this;simp only;omega
variable {rest r s m name l:Bs}{i f a:Nat}{c:UInt8}
theorem Uo{f:A4}(h:Gc rest=some (f,r)):f.1.length+f.2.length+r.length<rest.length:=by
 unfold Gc at h;simp only at h;split at h
 ·rename_i H;split at h
  ·simp at h;obtain⟨a,b⟩:=h;have c:(cut (trimLeftS rest [32,9]) [61]).2.2=true:=by simp at H;exact H.1
   have A:=mD _ _ (by decide) c;have d:=N6 rest [32,9];have e:=N6 (cut (trimLeftS rest [32,9]) [61]).2.1 [32,9];have g:=Yk (trimLeftS (cut (trimLeftS rest [32,9]) [61]).2.1 [32,9]);have i:=N6 (Cy (trimLeftS (cut (trimLeftS rest [32,9]) [61]).2.1 [32,9])).2.1 [32,9];have j:=Q4 (cut (trimLeftS rest [32,9]) [61]).1 [32,9];rw[←a,←b];simp only[A2,DS];omega
  cases h
 cases h
theorem Yl:∀(k:Nat)(rest:Bs)(l:List A4),Gy k rest=some l→l.length≤rest.length∧∀f∈l,f.1.length≤rest.length∧f.2.length≤rest.length
 |0,_,_,h=>by simp[Gy]at h
 |k+1,rest,l,h=>by
  unfold Gy at h;cases p:Gc rest with
  |none=>rw[p]at h;cases h
  |some x=>
   obtain⟨f,r⟩:=x;have e:=Uo p;rw[p]at h;simp only at h;cases r with
   |nil=>simp at h;subst h;exact⟨by simp at e⊢;omega,fun g H=>by simp at H;subst H;simp at e;omega⟩
   |cons c R=>
    simp only at h;split at h
    ·simp only[BH]at h;obtain⟨L,a,rfl⟩:=h;obtain⟨B,b⟩:=Yl k R L a;simp at e;refine⟨by simp;omega,fun g H=>?_⟩;rcases CF.1 H with rfl|H
     ·omega
     have:=b g H;omega
    cases h
theorem mF{l:List A4}(h:Ay s=some (m,l)):m.length≤s.length∧l.length≤s.length∧∀f∈l,f.1.length≤s.length∧f.2.length≤s.length:=by
 unfold Ay at h;simp only at h;have d:=Lo s [59];split at h
 ·simp only[BH]at h;obtain⟨L,H,a⟩:=h;simp at a;obtain⟨rfl,rfl⟩:=a;have e:=Oc (cut s [59]).1 [32,9];refine⟨by simp[A2];omega,?_⟩;split at H
  ·obtain⟨B,b⟩:=Yl _ _ _ H;exact⟨by omega,fun f c=>by have:=b f c;omega⟩
  simp at H;subst H;simp
 cases h
theorem mG(s:Bs)(k:Nat)(H:k<s.length)(a:s[k]≠34):∃(j:Nat)(d:j<s.length),k≤j∧(s[k]=92∧k+1<s.length→j=k+1)∧(¬(s[k]=92∧k+1<s.length)→j=k)∧Bc (s.drop k)=if Bx s[j]then(Bc (s.drop (j+1))).map fun x=>(s[j]::x.1,x.2)else none:=by
 by_cases h:s[k]=92∧k+1<s.length
 ·refine⟨k+1,h.2,by omega,fun _=>rfl,fun n=>absurd h n,?_⟩;rw[AE H,AE h.2];conv=>lhs;unfold Bc
  rw[AI a,AM h.1]
 refine⟨k,H,AC _,fun n=>absurd n h,fun _=>rfl,?_⟩;rw[AE H];by_cases b:k+1<s.length
 ·have c:s[k]≠92:=fun e=>h ⟨e,b⟩
  rw[AE b];conv=>lhs;unfold Bc
  rw[AI a,AI c]
 rw[BK (show s.length≤k+1 by omega)];conv=>lhs;unfold Bc
 rw[AI a];split<;>simp[Bc]
theorem Of(cs:Bs):∀l:Bs,(indexAny l cs=if(l.takeWhile fun c=>!cs.contains c).length=l.length then-1 else((l.takeWhile fun c=>!cs.contains c).length:Int))
 |[]=>rfl
 |c::l=>by
  unfold indexAny;rw[Of cs l,DG];have H:=Oe (fun c=>!cs.contains c) l;generalize(l.takeWhile fun c=>!cs.contains c)=t at H⊢;cases b:cs.contains c with
  |true=>
   simp only[DC,ED,BU,DJ,BN,AO];rw[AI (by omega)];rfl
  |false=>
   simp only[EH,DC,AO,BU,DJ];by_cases h:t.length=l.length
   ·rw[AM h,AM (show t.length+1=l.length+1 by omega)];rfl
   rw[AI h,AI (show¬t.length+1=l.length+1 by omega)];have a:((t.length:Int)==-1)=false:=by rw[AG];omega
   rw[a];simp
theorem Rv(p:UInt8→Bool)(l:Bs):l.take (l.takeWhile p).length=l.takeWhile p:=by
 have h:=CV (p:=p) (l:=l);generalize l.takeWhile p=a at h⊢;rw[←h];simp
theorem Up(p:UInt8→Bool)(l:Bs):l.drop (l.takeWhile p).length=l.dropWhile p:=by
 have h:=CV (p:=p) (l:=l);generalize l.takeWhile p=a at h⊢;generalize l.dropWhile p=b at h⊢;rw[←h];simp
def Br(s o:Bs):Nat:=(s.takeWhile fun c=>o.contains c).length
def Cf:List (Bs×Bs):=[([38],[38,97,109,112,59]),([34],[38,113,117,111,116,59]),([39],[38,35,51,57,59]),([60],[38,108,116,59]),([62],[38,103,116,59])]
def Gk(s:Bs):Option Nat:=Cf.findIdx? fun x=>hasPrefix s x.2
def J9:Nat→Bs→Bs
 |0,_=>[]
 |k+1,l=>if l=[]then[]else match Gk l with
  |none=>l.take 1++J9 k (l.drop 1)
  |some j=>(Cf.getD j ([],[])).1++J9 k (l.drop (Cf.getD j ([],[])).2.length)
def Cr(l:Bs):Bs:=J9 (l.length+1) l
abbrev Aj:=Nat×Nat×Bs
def G2:Bs:=[32,9,13,10]
def Hf:List Bs:=[[98,97,99,107,103,114,111,117,110,100],[104,114,101,102],[115,114,99]]
def N7:List Bs:=[[115,99,114,105,112,116],[115,116,121,108,101],[116,101,120,116,97,114,101,97],[116,105,116,108,101]]
def Dv:Bs:=[65,66,67,68,69,70,71,72,73,74,75,76,77,78,79,80,81,82,83,84,85,86,87,88,89,90,97,98,99,100,101,102,103,104,105,106,107,108,109,110,111,112,113,114,115,116,117,118,119,120,121,122,48,49,50,51,52,53,54,55,56,57]
def Cc(s p:Bs)(i:Nat):Nat:=if index (s.drop i) p<0 then s.length else i+((index (s.drop i) p).toNat+p.length)
def Dl(s name:Bs)(i:Nat):Bool×Nat×List Aj:=
 match s.drop i with
 |[]=>(false,i,[])
 |c::l=>
  let q:=c==34||c==39
  let k:=if q then indexByte l c else indexAny (c::l) [32,9,13,10,62]
  let o:=if q then 1 else 0
  if k<0 then(false,s.length,[])
  else(true,i+k.toNat+2*o,if Hf.contains name then[(i+o,k.toNat,Cr (((c::l).drop o).take k.toNat))]else[])
def Bv(s:Bs)(i:Nat):Bool×Nat×List Aj:=let a:=i+Br (s.drop i) [32,9,13,10,47]
 match s.drop a with
 |[]=>(false,a,[])
 |c::l=>
  if c=62 then(false,a+1,[])
  else
   let k:=indexAny l [32,9,13,10,47,61,62]
   if k<0 then(false,s.length,[])
   else
    let b:=a+(1+k.toNat);let d:=b+Br (s.drop b) G2
    if(s.drop d).head?=some 61 then Dl s (A2 ((c::l).take (1+k.toNat))) (d+1+Br (s.drop (d+1)) G2)
    else(decide (d<s.length),d,[])
def Ja(s:Bs):Nat→Nat→Nat×List Aj
 |0,i=>(i,[])
 |f+1,i=>match Bv s i with
  |(true,j,l)=>((Ja s f j).1,l++(Ja s f j).2)
  |(false,j,l)=>(j,l)
def Cu(s:Bs)(i:Nat):Nat×List Aj:=let n:=Br (s.drop i) Dv
 let N:=A2 ((s.drop i).take n);let r:=Ja s (s.length+1) (i+n)
 if N7.contains N then
  (let k:=index (A2 (s.drop r.1)) ([60,47]++N)
   if k<0 then s.length else r.1+k.toNat,r.2)
 else r
def Hg(s:Bs):Nat→Nat→List Aj
 |0,_=>[]
 |f+1,i=>
  let a:=Cc s [60] i
  match s.drop a with
  |[]=>[]
  |c::l=>
   if hasPrefix (c::l) [33,45,45]then Hg s f (Cc s [45,45,62] (a+3))
   else if c=47∨c=33∨c=63 then Hg s f (Cc s [62] a)
   else if(Dv.take 52).contains c then(Cu s a).2++Hg s f (Cu s a).1
   else Hg s f a
def Bf(s:Bs):List Aj:=Hg s (s.length+1) 0
theorem Mf(s o:Bs):Br s o≤s.length:=Oe _ _
theorem mH(s o:Bs):s.length-(trimLeftS s o).length=Br s o:=by
 have h:=congrArg List.length (CV (p:=fun c=>o.contains c) (l:=s));simp only[AH]at h;unfold Br trimLeftS;omega
theorem Lp(s p:Bs):index s p<0∨(0≤index s p∧(index s p).toNat+p.length≤s.length):=by
 rw[He];cases h:Ab p s with
 |none=>left;simp
 |some x=>
  obtain⟨a,b⟩:=x;right;have e:=congrArg List.length (Ee h);simp at e⊢;omega
theorem Mg(s p:Bs)(i:Nat)(H:i≤s.length):i≤Cc s p i∧Cc s p i≤s.length:=by
 unfold Cc;rcases Lp (s.drop i) p with h|⟨b,a⟩
 ·rw[AM h];exact⟨H,AC _⟩
 rw[AI (by omega)];simp at a;omega
theorem Og(s p:Bs)(i:Nat)(H:i<s.length)(h:p≠[]):i<Cc s p i:=by
 have:=BE.2 h;unfold Cc;split<;>omega
theorem Ym(l:Bs)(c:UInt8):indexByte l c<0∨(0≤indexByte l c∧(indexByte l c).toNat+1≤l.length):=by
 rw[←index_one];simpa using Lp l [c]
theorem Rw(l cs:Bs):indexAny l cs<0∨(0≤indexAny l cs∧(indexAny l cs).toNat+1≤l.length):=by
 rw[Of];have:=Oe (fun c=>!cs.contains c) l;split
 ·left;decide
 right;omega
def Bt:Nat→List Aj→Nat→Prop
 |i,[],j=>i≤j
 |i,x::l,j=>i≤x.1∧Bt (x.1+x.2.1) l j
theorem Bt.le:∀{l:List Aj}{i j:Nat},Bt i l j→i≤j
 |[],_,_,h=>h
 |_::l,_,_,h=>by have:=Bt.le (l:=l) h.2;have:=h.1;omega
theorem Bt.wide:∀{l:List Aj}{i j I J:Nat},Bt i l j→I≤i→j≤J→Bt I l J
 |[],_,_,_,_,h,a,H=>by unfold Bt at h⊢;omega
 |_::l,_,_,_,_,h,a,H=>⟨by have:=h.1;omega,Bt.wide (l:=l) h.2 (AC _) H⟩
theorem Bt.append:∀{l m:List Aj}{i j k:Nat},Bt i l j→Bt j m k→Bt i (l++m) k
 |[],_,_,_,_,h,H=>H.wide h (AC _)
 |_::l,_,_,_,_,h,H=>⟨h.1,Bt.append (l:=l) h.2 H⟩
theorem mI(a:i≤s.length):Bt i (Dl s name i).2.2 (Dl s name i).2.1∧(Dl s name i).2.1≤s.length∧(Dl s name i).2.2.length≤1:=by
 unfold Dl;cases d:s.drop i with
 |nil=>exact⟨AC _,a,by simp⟩
 |cons c l=>
  have n:i+(l.length+1)=s.length:=by
   have:=congrArg List.length d;rw[AS,AO]at this;omega
  have H:∀q:Bool,(if q then indexByte l c else indexAny (c::l) [32,9,13,10,62])<0∨(0≤(if q then indexByte l c else indexAny (c::l) [32,9,13,10,62])∧(if q then indexByte l c else indexAny (c::l) [32,9,13,10,62]).toNat+2*(if q then 1 else 0)≤l.length+1):=by
   intro q;cases q with
   |true=>
    rcases Ym l c with h|h
    ·exact Or.inl h
    right;simp;omega
   |false=>
    rcases Rw (c::l) [32,9,13,10,62]with h|h
    ·exact Or.inl h
    right;simp at h;simp;omega
  simp only;have H:=H (c==34||c==39);generalize(c==34||c==39)=q at H⊢;generalize(if q=true then indexByte l c else indexAny (c::l) [32,9,13,10,62])=k at H⊢;have b:(if q=true then 1 else 0)≤1:=by split<;>omega
  generalize(if q=true then 1 else 0)=o at H b⊢;by_cases z:k<0
  ·rw[AM z];exact⟨a,AC _,by simp⟩
  rw[AI z];refine⟨?_,by simp only;omega,by simp only;split<;>simp⟩;simp only;split
  ·exact⟨by simp only;omega,by simp only[Bt];omega⟩
  simp only[Bt];omega
theorem Rx(g:i≤s.length):Bt i (Bv s i).2.2 (Bv s i).2.1∧(Bv s i).2.1≤s.length∧(Bv s i).2.2.length≤(Bv s i).2.1-i∧((Bv s i).1=true→i<(Bv s i).2.1):=by
 have r:=Mf (s.drop i) [32,9,13,10,47];rw[AS]at r;obtain⟨a,j⟩:∃a,a=i+Br (s.drop i) [32,9,13,10,47]:=⟨_,rfl⟩;have m:i≤a:=by omega
 have n:a≤s.length:=by omega
 unfold Bv;simp only[←j];cases o:s.drop a with
 |nil=>exact⟨m,n,by simp,by simp⟩
 |cons c l=>
  have x:a+(l.length+1)=s.length:=by
   have:=congrArg List.length o;rw[AS,AO]at this;omega
  simp only;by_cases e:c=62
  ·rw[AM e];exact⟨by simp only[Bt];omega,by simp only;omega,by simp,by simp⟩
  rw[AI e];have p:=Rw l [32,9,13,10,47,61,62];generalize indexAny l [32,9,13,10,47,61,62]=k at p⊢;by_cases z:k<0
  ·rw[AM z];exact⟨g,AC _,by simp,by simp⟩
  rw[AI z];obtain⟨b,q⟩:∃b,b=a+(1+k.toNat):=⟨_,rfl⟩;simp only[←q];have t:=Mf (s.drop b) G2;rw[AS]at t;obtain⟨d,u⟩:∃d,d=b+Br (s.drop b) G2:=⟨_,rfl⟩;simp only[←u];by_cases H:(s.drop d).head?=some 61
  ·rw[AM H];have y:d<s.length:=by
    rcases CN d s.length with h|h
    ·exact h
    rw[BK h]at H;cases H
   have v:=Mf (s.drop (d+1)) G2;rw[AS]at v;obtain⟨f,w,A⟩:=mI (s:=s) (name:=A2 ((c::l).take (1+k.toNat))) (i:=d+1+Br (s.drop (d+1)) G2) (by omega);have B:=f.le;exact⟨f.wide (by omega) (AC _),w,by omega,fun _=>by omega⟩
  rw[AI H];exact⟨by simp only[Bt];omega,by simp only;omega,by simp,fun _=>by simp only;omega⟩
theorem mJ:∀f i,i≤s.length→s.length-i<f→Ja s f i=Ja s (s.length+1) i:=by
 have k:∀f g i,i≤s.length→s.length-i<f→s.length-i<g→Ja s f i=Ja s g i:=by
  intro f;induction f with
  |zero=>intro g i _ h;omega
  |succ f ih=>
   intro g i a c m;cases g with
   |zero=>omega
   |succ g=>
    have H:=Rx a;unfold Ja;rcases e:Bv s i with⟨b,j,l⟩;rw[e]at H;cases b with
    |false=>rfl
    |true=>
     have d:=H.2.2.2 rfl;simp only at d H⊢;rw[ih g j H.2.1 (by omega) (by omega)]
 exact fun f i a c=>k f _ i a c (by omega)
def Ar(s:Bs)(i:Nat):Nat×List Aj:=Ja s (s.length+1) i
theorem Ry(a:i≤s.length)(h:(Bv s i).1=true):Ar s i=((Ar s (Bv s i).2.1).1,(Bv s i).2.2++(Ar s (Bv s i).2.1).2):=by
 have H:=Rx a;have c:=H.2.2.2 h;unfold Ar;conv=>lhs;unfold Ja
 rw[←mJ s.length _ H.2.1 (by omega)];rcases e:Bv s i with⟨b,j,l⟩;rw[e]at h;simp only at h;subst h;rfl
theorem Mh(h:(Bv s i).1=false):Ar s i=(Bv s i).2:=by
 unfold Ar Ja;rcases H:Bv s i with⟨b,j,l⟩;rw[H]at h;simp only at h;subst h;rfl
theorem Yn{s:Bs}:∀n i,s.length-i≤n→i≤s.length→Bt i (Ar s i).2 (Ar s i).1∧(Ar s i).1≤s.length∧(Ar s i).2.length≤(Ar s i).1-i
 |n,i,c,a=>by
  have h:=Rx a;cases H:(Bv s i).1 with
  |false=>rw[Mh H];exact⟨h.1,h.2.1,h.2.2.1⟩
  |true=>
   have j:=h.2.2.2 H;rw[Ry a H];have b:=h.2.1;cases n with
   |zero=>omega
   |succ n=>
    have ih:=Yn n (Bv s i).2.1 (by omega) b;have:=ih.1.le;refine⟨h.1.append ih.1,ih.2.1,?_⟩;have A:=ih.2.2;have d:=h.2.2.1;simp only[AH];omega
theorem Uq(s:Bs)(i:Nat):Cu s i=if N7.contains (A2 ((s.drop i).take (Br (s.drop i) Dv)))then(if index (A2 (s.drop (Ar s (i+Br (s.drop i) Dv)).1)) ([60,47]++A2 ((s.drop i).take (Br (s.drop i) Dv)))<0 then s.length else(Ar s (i+Br (s.drop i) Dv)).1+(index (A2 (s.drop (Ar s (i+Br (s.drop i) Dv)).1)) ([60,47]++A2 ((s.drop i).take (Br (s.drop i) Dv)))).toNat,(Ar s (i+Br (s.drop i) Dv)).2)else Ar s (i+Br (s.drop i) Dv):=rfl
theorem mK(b:i≤s.length):Bt i (Cu s i).2 (Cu s i).1∧(Cu s i).1≤s.length∧(Cu s i).2.length≤(Cu s i).1-i:=by
 have H:=Mf (s.drop i) Dv;rw[AS]at H;have h:=Yn (s:=s) _ (i+Br (s.drop i) Dv) (AC _) (by omega);have c:=h.1.le;rw[Uq];split
 ·have x:=Lp (A2 (s.drop (Ar s (i+Br (s.drop i) Dv)).1)) ([60,47]++A2 ((s.drop i).take (Br (s.drop i) Dv)));rw[(by simp[A2]:(A2 (s.drop (Ar s (i+Br (s.drop i) Dv)).1)).length=s.length-(Ar s (i+Br (s.drop i) Dv)).1)]at x;have a:=h.2.1;have d:=h.2.2;split
  ·exact⟨h.1.wide (by omega) a,AC _,by simp only;omega⟩
  exact⟨h.1.wide (by omega) (by simp only;omega),by simp only;omega,by simp only;omega⟩
 exact⟨h.1.wide (by omega) (AC _),h.2.1,by have:=h.2.2;omega⟩
def Ey(s:Bs)(a:Nat)(c:UInt8):Nat×List Aj:=
 if hasPrefix (s.drop a) [33,45,45]then(Cc s [45,45,62] (a+3),[])
 else if c=47∨c=33∨c=63 then(Cc s [62] a,[])
 else if(Dv.take 52).contains c then Cu s a
 else(a,[])
theorem Ur(h:s.drop (Cc s [60] i)=[]):Hg s (f+1) i=[]:=by
 unfold Hg;simp only;rw[h]
theorem Us(h:s.drop (Cc s [60] i)=c::l):Hg s (f+1) i=(Ey s (Cc s [60] i) c).2++Hg s f (Ey s (Cc s [60] i) c).1:=by
 unfold Ey;rw[h];conv=>lhs;unfold Hg
 simp only;rw[h];simp only;split
 ·rfl
 split
 ·rfl
 split
 ·rfl
 rfl
theorem N8(h:s.drop a=c::l):Bt a (Ey s a c).2 (Ey s a c).1∧(Ey s a c).1≤s.length∧(Ey s a c).2.length≤(Ey s a c).1-a:=by
 have n:a+(l.length+1)=s.length:=by
  have:=congrArg List.length h;rw[AS,AO]at this;omega
 unfold Ey;split
 ·rename_i H;have b:a+3≤s.length:=by
   have:=(BR.1 (by unfold hasPrefix at H;exact H)).length_le;rw[AS]at this;simp at this;omega
  have:=Mg s [45,45,62] (a+3) b;exact⟨by simp only[Bt];omega,by simp only;omega,by simp⟩
 split
 ·have:=Mg s [62] a (by omega);exact⟨by simp only[Bt];omega,by simp only;omega,by simp⟩
 split
 ·exact mK (by omega)
 exact⟨AC _,by simp only;omega,by simp⟩
theorem mL:∀f i,i≤s.length→s.length-i<f→Hg s f i=Hg s (s.length+1) i:=by
 have k:∀f g i,i≤s.length→s.length-i<f→s.length-i<g→Hg s f i=Hg s g i:=by
  intro f;induction f with
  |zero=>intro g i _ h;omega
  |succ f ih=>
   intro g i a b e;cases g with
   |zero=>omega
   |succ g=>
    have j:=Mg s [60] i a;cases H:s.drop (Cc s [60] i)with
    |nil=>rw[Ur H,Ur H]
    |cons c l=>
     have n:Cc s [60] i+(l.length+1)=s.length:=by
      have:=congrArg List.length H;rw[AS,AO]at this;omega
     have t:=Og s [60] i (by omega) (by simp);have d:=N8 H;have:=d.1.le;rw[Us H,Us H,ih g _ d.2.1 (by omega) (by omega)]
 exact fun f i a b=>k f _ i a b (by omega)
def Iw(s:Bs)(i:Nat):List Aj:=Hg s (s.length+1) i
theorem Oh(h:s.drop (Cc s [60] i)=[]):Iw s i=[]:=Ur h
theorem Rz(a:i≤s.length)(h:s.drop (Cc s [60] i)=c::l):Iw s i=(Ey s (Cc s [60] i) c).2++Iw s (Ey s (Cc s [60] i) c).1:=by
 have b:=Mg s [60] i a;have n:Cc s [60] i+(l.length+1)=s.length:=by
  have:=congrArg List.length h;rw[AS,AO]at this;omega
 have t:=Og s [60] i (by omega) (by simp);have H:=N8 h;have:=H.1.le;unfold Iw;rw[Us h,mL s.length _ H.2.1 (by omega)]
theorem Ut{s:Bs}:∀n i,s.length-i≤n→i≤s.length→Bt i (Iw s i) s.length∧(Iw s i).length≤s.length-i
 |n,i,b,a=>by
  have d:=Mg s [60] i a;cases h:s.drop (Cc s [60] i)with
  |nil=>rw[Oh h];exact⟨a,by simp⟩
  |cons c l=>
   have e:Cc s [60] i+(l.length+1)=s.length:=by
    have:=congrArg List.length h;rw[AS,AO]at this;omega
   have t:=Og s [60] i (by omega) (by simp);have H:=N8 h;have f:=H.1.le;rw[Rz a h];cases n with
   |zero=>omega
   |succ n=>
    have ih:=Ut n (Ey s (Cc s [60] i) c).1 (by omega) H.2.1;have A:=H.2.2;refine⟨(H.1.wide (by omega) (AC _)).append ih.1,?_⟩;rw[AH];omega
theorem Jb(s:Bs):Bt 0 (Bf s) s.length∧(Bf s).length≤s.length:=Ut s.length 0 (by omega) (CX _)
end Go.Proofs.YtignjjnflcpiiaaGreatDoor
