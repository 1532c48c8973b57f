/- What stands in quotes, by the reader of the document's an -/
import Derived.Clock
import Derived.LaidMore
import Derived.Lay
import Derived.Lib.LaidU8
import Derived.Test.YtignjjnflcpiiaaGreatDoorRows
import Derived.Test.YtignjjnflcpiiaaGreatDoorS12
import Derived.Test.YtignjjnflcpiiaaGreatDoorS22
set_option linter.all false
set_option maxHeartbeats 8000000
set_option maxRecDepth 100000
namespace Go.Proofs.YtignjjnflcpiiaaGreatDoor
open Go Go.RowKit Proofs.Tryz Lib
def yY(b:Nat)(s:Bs)(ok:Bool)(e:Ending)(w':World):Prop:=(∃v r,Bc s=some (v,r)∧e=.returned (.string ⟨v.toArray⟩)∧Gh w' b r ok)∨(Bc s=none∧e=.returned (.string ⟨#[]⟩)∧∃r:Bs,Gh w' b r false∧r.length≤s.length)
theorem yZ{c:UInt8}{r:Bs}(h:c≠34):Bc (c::r)=match r with
  |[]=>none
  |d::R=>if c=92 then(if Bx d then(Bc R).map fun x=>(d::x.1,x.2)else none)else if Bx c then(Bc (d::R)).map fun x=>(c::x.1,x.2)else none:=by
 cases r with
 |nil=>unfold Bc;rw[AI h]
 |cons d R=>
  conv=>lhs;unfold Bc
  rw[AI h]
theorem R4(b:Nat)(s:Bs)(ok:Bool)(c:UInt8)(n:Int)(h:(c.toNat:Int)=n)(w:World)(H:Gh w b s ok)(l:s.length≤1000000000000):Calls prog 116 #[.pointer (some ⟨b,0,none⟩),.int .u8 n] w fun e W=>e=.returned (.bool (De c s).1)∧Gh W b (De c s).2 ok∧A5 b w.heap.size w W:=by
 subst h;exact xC b s ok c w H l
theorem zA(b:Nat)(s:Bs)(ok:Bool)(w:World)(V:Gh w b s ok)(hl:s.length≤1000000000000):Calls prog 119 #[.pointer (some ⟨b,0,none⟩)] w fun e M=>yY b s ok e M∧A5 b w.heap.size w M:=by
 go_enter func119,ntmps119;go_wp2_with fail;go_loopw[3] (fun x wr=>∃l o:Bs,x=.string ⟨o.toArray⟩∧l.length+o.length≤s.length∧Gh wr b l ok∧Hid (Bc s=(Bc l).map fun x=>(o++x.1,x.2))∧A5 b w.heap.size w wr) (fun _ wr=>match wr.cell? ⟨b,0,none⟩with|some v=>I9 v|none=>0)
 case atStart=>exact⟨s,[],rfl,by simp,V,AB (by cases Bc s<;>simp),A5.refl _ _ _⟩
 obtain⟨l,o,rfl,g,y,Q,B⟩:=hrel;have O:=y.cell;have X:=y.free;have D:wr.cell? ⟨b,0,none⟩=some (.string ⟨l.toArray⟩):=by rw[O];rfl
 cases l with
 |nil=>
  have N:=AB (by rw[Q.o];rfl:Bc s=none);have a:=y.set 1 (.bool false);go_wp2_with fail;go_ret;exact⟨Or.inr ⟨N.o,rfl,[],by simpa using a,CX _⟩,B.set _⟩
 |cons c r=>
  simp only[AO]at g;have T:=R4 b (c::r) ok 34 34 rfl wr y (by simp;omega);by_cases E:c=34
  ·subst E;have F:De 34 (34::r)=(true,r):=by simp[De]
   rw[F]at T;have Y:=AB (show Bc s=some (o,r)from by
    rw[Q.o];have:Bc (34::r)=some ([],r):=by cases r<;>simp[Bc]
    rw[this];simp)
   go_wp2_with fail;with_reducible refine T.mono ?_
   rintro e z⟨rfl,K,A⟩;go_wp2_with fail;go_ret;exact⟨Or.inl ⟨o,r,Y.o,rfl,K⟩,B.trans (A.mono B.size)⟩
  have F:De 34 (c::r)=(false,c::r):=by simp[De,E]
  rw[F]at T;have G:=AB (yZ (r:=r) E);go_wp2_with fail;with_reducible refine T.mono ?_
  rintro e z⟨rfl,K,A⟩;have j:=B.trans (A.mono B.size);have P:=K.cell;have S:=K.free;clear T O X A;cases r with
  |nil=>
   have N:=AB (by rw[Q.o,G.o];rfl:Bc s=none);have H:=Jh (c.toNat:Int) 32 126 z;rw[←Ni]at H;generalize Bx c=q at H;have U:(c.toNat:Int)<256:=by have:=c.toNat_lt;omega
   cases q with
   |false=>
    have a:=K.set 1 (.bool false);go_wp2_with fail;with_reducible refine H.mono ?_
    rintro e C⟨rfl,rfl⟩;go_wp2_with fail;go_ret;exact⟨Or.inr ⟨N.o,rfl,[c],by simpa using a,by simp;omega⟩,j.set _⟩
   |true=>
    have a:Gh (World.setCell z ⟨b,0,none⟩ (.string ByteArray.empty)) b [] ok:=by have h:=K.set 0 (.string ByteArray.empty);exact h
    go_wp2_with fail;with_reducible refine H.mono ?_
    rintro e i⟨rfl,rfl⟩;go_wp2_with fail;have n:(World.setCell i ⟨b,0,none⟩ (.string ByteArray.empty)).cell? ⟨b,0,none⟩=some (.string ⟨#[]⟩):=by rw[a.cell 0];rfl
    refine⟨⟨([]:Bs),o++[c],by simp,by simp at g⊢;omega,a,AB (by rw[N.o];rfl),j.set _⟩,?_⟩;rw[D,n];first|(simp;done)|(simp;omega)
  |cons d R=>
   have m:=R4 b (c::d::R) ok 92 92 rfl z K (by simp at g⊢;omega);by_cases I:c=92
   ·subst I;have J:De 92 (92::d::R)=(true,d::R):=by simp[De]
    rw[J]at m;have p:=AB (by rw[G.o];rfl:Bc (92::d::R)=if Bx d then(Bc R).map fun x=>(d::x.1,x.2)else none);have H:=fun W=>Jh (d.toNat:Int) 32 126 W
    rw[←Ni]at H;go_wp2_with fail;with_reducible refine m.mono ?_
    rintro e C⟨rfl,k,t⟩;have u:=j.trans (t.mono j.size);have Z:=k.cell;have a0:=k.free;have H:=H C;have U:(d.toNat:Int)<256:=by have:=d.toNat_lt;omega
    clear m P S t;cases f:Bx d with
    |false=>
     have N:=AB (by rw[Q.o,p.o,f];rfl:Bc s=none);rw[f]at H;clear f;have a:=k.set 1 (.bool false);go_wp2_with fail;with_reducible refine H.mono ?_
     rintro e i⟨rfl,rfl⟩;go_wp2_with fail;go_ret;exact⟨Or.inr ⟨N.o,rfl,d::R,by simpa using a,by simp at g⊢;omega⟩,u.set _⟩
    |true=>
     have L:=AB (by rw[Q.o,p.o,f];cases Bc R<;>simp:Bc s=(Bc R).map fun x=>(o++[d]++x.1,x.2));rw[f]at H;clear f;have a:=k.set 0 (.string ⟨R.toArray⟩);go_wp2_with fail;with_reducible refine H.mono ?_
     rintro e i⟨rfl,rfl⟩;go_wp2_with fail;have n:(World.setCell i ⟨b,0,none⟩ (.string ⟨R.toArray⟩)).cell? ⟨b,0,none⟩=some (.string ⟨R.toArray⟩):=by rw[a.cell 0];rfl
     refine⟨⟨R,o++[d],by simp,by simp at g⊢;omega,by simpa using a,L,u.set _⟩,?_⟩;rw[D,n];first|(simp;done)|(simp;omega)
   have J:De 92 (c::d::R)=(false,c::d::R):=by simp[De,I]
   rw[J]at m;have p:=AB (by rw[G.o];simp only;rw[AI I]:Bc (c::d::R)=if Bx c then(Bc (d::R)).map fun x=>(c::x.1,x.2)else none);have H:=fun W=>Jh (c.toNat:Int) 32 126 W
   rw[←Ni]at H;go_wp2_with fail;with_reducible refine m.mono ?_
   rintro e C⟨rfl,k,t⟩;have u:=j.trans (t.mono j.size);have Z:=k.cell;have a0:=k.free;have H:=H C;have U:(c.toNat:Int)<256:=by have:=c.toNat_lt;omega
   clear m P S t;cases f:Bx c with
   |false=>
    have N:=AB (by rw[Q.o,p.o,f];rfl:Bc s=none);rw[f]at H;clear f;have a:=k.set 1 (.bool false);go_wp2_with fail;with_reducible refine H.mono ?_
    rintro e i⟨rfl,rfl⟩;go_wp2_with fail;go_ret;exact⟨Or.inr ⟨N.o,rfl,c::d::R,by simpa using a,by simp at g⊢;omega⟩,u.set _⟩
   |true=>
    have L:=AB (by rw[Q.o,p.o,f];cases Bc (d::R)<;>simp:Bc s=(Bc (d::R)).map fun x=>(o++[c]++x.1,x.2));rw[f]at H;clear f;have a:=k.set 0 (.string ⟨(d::R).toArray⟩);go_wp2_with fail;with_reducible refine H.mono ?_
    rintro e i⟨rfl,rfl⟩;go_wp2_with fail;have n:(World.setCell i ⟨b,0,none⟩ (.string ⟨(d::R).toArray⟩)).cell? ⟨b,0,none⟩=some (.string ⟨(d::R).toArray⟩):=by rw[a.cell 0];rfl
    refine⟨⟨(d::R),o++[c],by simp,by simp at g⊢;omega,by simpa using a,L,u.set _⟩,?_⟩;rw[D,n];first|(simp;done)|(simp;omega)
def Nu(q:Bool)(s v S:Bs)(Q:Bool):Prop:=(q=false→Q=false)∧(q=true→match Ii s with
 |none=>Q=false
 |some (V,r)=>Q=true∧v=V∧S=r)
def Hb(q:Bool)(s:Bs):Bool:=q&&(decide (s=[])||decide (s.head?=some 59))
theorem zB{rest v s:Bs}{q:Bool}(h:Nu ((De 61 (Af ((Af rest).dropWhile Ac))).1&&!((Af rest).takeWhile Ac).isEmpty) (Af (De 61 (Af ((Af rest).dropWhile Ac))).2) v s q):Sm rest=if Hb q (Af s)then some ((A2 ((Af rest).takeWhile Ac),v),Af s)else none:=by
 unfold Sm;obtain⟨a,H⟩:=h;generalize(Af rest).takeWhile Ac=t at a H⊢;generalize Af ((Af rest).dropWhile Ac)=u at a H⊢;by_cases b:t=[]
 ·subst b;have:=a (by simp);subst this;simp[Hb]
 rw[AI b];have g:(!t.isEmpty)=true:=by cases t<;>simp at b⊢
 rw[g,IW]at a H;cases u with
 |nil=>
  have:=a rfl;subst this;simp[Hb]
 |cons c r=>
  by_cases d:c=61
  ·subst d;have E:De 61 (61::r)=(true,r):=by simp[De]
   rw[E]at H;have H:=H rfl;simp only at H⊢;cases f:Ii (Af r)with
   |none=>
    rw[f]at H;simp only at H;subst H;simp[Hb]
   |some x=>
    obtain⟨V,R⟩:=x;rw[f]at H;obtain⟨rfl,rfl,rfl⟩:=H;simp only[Hb,FB,EW,EF]
  have E:De 61 (c::r)=(false,c::r):=by simp[De,d]
  rw[E]at a;have:=a rfl;subst this;simp only[Hb,Bool.false_and,BU,DJ];split
  ·rename_i e;injection e with e _;exact absurd e d
  rfl
def Hc(q:Bool)(fuel:Nat)(s:Bs):Option (List A4):=if q then(match s with
 |[]=>some []
 |c::r=>if c=59 then Gy fuel r else none)else none
theorem zC{rest v s:Bs}{q:Bool}(fuel:Nat)(h:Nu ((De 61 (Af ((Af rest).dropWhile Ac))).1&&!((Af rest).takeWhile Ac).isEmpty) (Af (De 61 (Af ((Af rest).dropWhile Ac))).2) v s q):Hc true (fuel+1) (59::rest)=(Hc (Hb q (Af s)) fuel (Af s)).map ((A2 ((Af rest).takeWhile Ac),v)::·):=by
 have H:=zB h;rw[rQ]at H;generalize A2 ((Af rest).takeWhile Ac)=t at H⊢;generalize Af s=z at H⊢;have e:Hc true (fuel+1) (59::rest)=match Gc rest with|none=>none|some (f,r)=>match r with|[]=>some [f]|c::R=>if c=59 then(Gy fuel R).map (f::·)else none:=by
  unfold Hc;simp only[DC];rfl
 rw[e];cases g:Hb q z with
 |false=>
  rw[g]at H;simp only[BU,DJ]at H;cases o:Gc rest with
  |none=>simp[Hc]
  |some x=>
   obtain⟨f,r⟩:=x;rw[o]at H;simp only at H;cases r with
   |nil=>simp at H
   |cons c R=>
    have a:¬c=59:=by intro a;simp[a]at H
    simp[Hc,a]
 |true=>
  rw[g]at H;simp only[DC]at H;cases o:Gc rest with
  |none=>rw[o]at H;simp at H
  |some x=>
   obtain⟨f,r⟩:=x;rw[o]at H;simp only at H;split at H
   ·rename_i b;injection H with H;obtain⟨rfl,rfl⟩:=Prod.mk.inj H;cases r with
    |nil=>simp[Hc]
    |cons c R=>
     simp at b;subst b;simp[Hc]
   cases H
theorem zD(c:UInt8)(s:Bs):(De c s).2.length≤s.length:=by
 cases s with
 |nil=>simp[De]
 |cons d r=>by_cases h:d=c<;>simp[De,h]
theorem Ti(s:Bs):(Af s).length≤s.length:=by
 unfold Af trimLeftS;exact(EG _).length_le
theorem zE(s:Bs):∃c S:Bs,s=c++S∧((S=[]∧59∉s)∨∃r,S=59::r∧59∉c)∧Ay s=if Ji (A2 (trimS c [32,9]))then(Hc true S.length S).map fun l=>(A2 (trimS c [32,9]),l)else none:=by
 have H:Ay s=if Ae (cut (A2 (trimS (cut s [59]).1 [32,9])) [47]).1&&(!(cut (A2 (trimS (cut s [59]).1 [32,9])) [47]).2.2||Ae (cut (A2 (trimS (cut s [59]).1 [32,9])) [47]).2.1)then((if(cut s [59]).2.2 then Gy ((cut s [59]).2.1.length+1) (cut s [59]).2.1 else some []).map fun l=>(A2 (trimS (cut s [59]).1 [32,9]),l))else none:=rfl
 rw[←cB]at H;rcases Sl s 59 with⟨h,e⟩|⟨a,b,rfl,h,e⟩
 ·rw[e]at H;exact⟨s,[],by simp,Or.inl ⟨rfl,h⟩,by rw[H];simp[Hc]⟩
 rw[e]at H;exact⟨a,59::b,rfl,Or.inr ⟨b,rfl,h⟩,H⟩
def Pi(v:Value)(n:Int):Prop:=(v=.nilIface∧n=0)∨v=.iface 30 (.int .i64 n)
theorem Pi.v{w:World}{v:Value}{n:Int}(h:Pi v n):Gm w v n:=by
 rcases h with h|h
 ·exact Or.inl h
 exact Or.inr (Or.inl h)
@[go_sem]theorem ZO(v:Value)(w:World):(Instr.typeAssert (.iface 30 v) 25 253 true).run prog w=.ok (.tuple #[.pointer none,.bool false]) w:=by kernel_rfl
@[go_sem]theorem ZP(v:Value)(w:World):(Instr.typeAssert (.iface 30 v) 25 270 true).run prog w=.ok (.tuple #[.nilIface,.bool false]) w:=run_typeAssert_lacksB underlying270 (by kernel_rfl) (by kernel_rfl) v _ w
theorem zF(v:Value)(n:Int)(w:World)(h:Pi v n)(g:Gr w):Calls prog 121 #[v] w fun e a=>e=.returned (.tuple #[.int .i64 n,.int .i64 (-1)])∧Below w.heap.size w a:=by
 have H:=Qz v n w h.v g;rcases h with⟨rfl,rfl⟩|rfl
 ·go_enter func121,ntmps121;go_wp2_with fail;with_reducible refine H.mono ?_
  rintro e W⟨rfl,b⟩;go_wp2_with fail;go_loopw[0] (fun x wr=>x=.nilIface∧wr=W) (fun _ _=>0)
  case atStart=>exact⟨rfl,rfl⟩
  obtain⟨rfl,rfl⟩:=hrel;go_wp2_with fail;go_ret2;exact⟨rfl,b⟩
 go_enter func121,ntmps121;go_wp2_with fail;with_reducible refine H.mono ?_
 rintro e W⟨rfl,b⟩;go_wp2_with fail;go_loopw[0] (fun x wr=>x=.iface 30 (.int .i64 n)∧wr=W) (fun _ _=>0)
 case atStart=>exact⟨rfl,rfl⟩
 obtain⟨rfl,rfl⟩:=hrel;go_wp2_with fail;go_ret2;exact⟨rfl,b⟩
theorem zG(v:Value)(n m:Int)(w:World)(c:Pi v n)(g:Gr w):Calls prog 60 #[v,.agg #[.int .i64 m,.int .i64 (-1)]] w fun e W=>e=.returned (.bool (n==m))∧Below w.heap.size w W:=by
 have B:=(AD w.heap.size w).alloc (AC _) (.cells #[.int .i64 m,.int .i64 (-1)] 113);have h:=A1.new w #[.int .i64 m,.int .i64 (-1)] 113;have H:=zF v n _ c (g.next B);go_enter func60,ntmps60;go_wp2_with fail;with_reducible refine H.mono ?_
 rintro e d⟨rfl,b⟩;have k:=(h.next b h.lt).cell;have a:=B.trans (b.mono B.size);clear H;cases q:(n==m)with
 |true=>
  go_wp2_with fail;go_ret;exact⟨Ba q.symm,a⟩
 |false=>
  go_wp2_with fail;go_ret;exact⟨Ba q.symm,a⟩
theorem Pj(v:Value)(n m:Int)(w:World)(h:Pi v n)(H:Gr w):Calls prog 20 #[v,.int .i64 m] w fun e a=>e=.returned (.bool (n==m))∧Below w.heap.size w a:=by
 have B:=P4 m w;have I:=fun W c=>zG v n m W h c
 go_enter func20,ntmps20;go_wp2_with fail;with_reducible refine B.mono ?_
 rintro e f⟨rfl,b⟩;go_wp2_with fail;with_reducible refine(I _ (H.next b)).mono ?_
 rintro e g⟨rfl,d⟩;go_wp2_with fail;go_ret;exact⟨rfl,b.trans (d.mono b.size)⟩
variable {w W:World}
theorem eW{fuel n:Nat}{t e:TypeId}{cs:List Value}{S:List Bs}{p:List MemPlace}(b:prog.underlying t=some (.array n e))(c:prog.underlying e=some .string)(d:prog.cellsOf e=1)(r:prog.cellsOf t=n)
  (h:DataW.trod (fun _=>()) prog w 0 (fun _=>true) false fuel t cs=some (.agg (S.map fun s=>.lit (.string s)),p)):cs=S.map fun s=>Value.string ⟨s.toArray⟩:=by
 obtain⟨x,m,rfl,g,u,v,l⟩:=DataW.trod_array b h;have a:x.map (·.1)=S.map fun s=>(DataW.lit (.string s):DataW Unit):=by
  have:=AF Prod.fst g;simpa using this.symm
 have y:S.length=n:=by have:=AF List.length a;simp at this;omega
 apply List.ext_getElem?;intro i;by_cases j:i<n
 ·have f:=l i j;rw[d,IJ,AZ (by omega:i<x.length)]at f;obtain⟨z,k,o,_⟩:=FK c f;have q:cs[i]?=some (.string z):=by
   have:=AF (·[0]?) k;simpa[EA,GS]using this
  have H:(x.map (·.1))[i]?=(S.map fun s=>(DataW.lit (.string s):DataW Unit))[i]?:=by rw[a]
  simp only[EZ,AZ (by omega:i<x.length),AZ (by omega:i<S.length),IC,o]at H;rw[q,EZ,AZ (by omega:i<S.length)];simp at H;simp[←H]
 rw[CW (by omega),CW (by simp;omega)]
def eX:List Bs:=[[67,111,110,116,101,110,116,45,84,121,112,101],[67,111,110,116,101,110,116,45,84,114,97,110,115,102,101,114,45,69,110,99,111,100,105,110,103]]
theorem zH(h:VarReads prog W "bindery/part.ours" (.agg (eX.map fun s=>.lit (.string s)))):∀k,k<2→W.cell? ⟨2,k,none⟩=dI[k]?:=by
 obtain⟨g,t,c,f,p,H,y,v,d⟩:=h;obtain rfl:=CS ((show prog.globalNamed "bindery/part.ours" =some 2 by kernel_rfl).symm.trans H);obtain rfl:=CS ((show(prog.globals[2]?).map (·.type)=some 249 by kernel_rfl).symm.trans y);have e:=eW underlying249 underlying9 (by kernel_rfl) (by kernel_rfl) d;intro k a;rw[World.var?_cell H v k,←GH,e];rcases(show k=0∨k=1 by omega)with rfl|rfl<;>rfl
theorem zI(h:VarReads prog W "internal/strconv.uint64pow10" (tabData .u64 pow10Tab)):Lib.TabIs prog W "internal/strconv.uint64pow10" .u64 pow10Tab:=by
 obtain⟨g,t,c,f,p,H,y,v,d⟩:=h;obtain rfl:=CS ((show prog.globalNamed "internal/strconv.uint64pow10" =some 4 by kernel_rfl).symm.trans H);obtain rfl:=CS ((show(prog.globals[4]?).map (·.type)=some 340 by kernel_rfl).symm.trans y);unfold Lib.TabIs;rw[v,←cells_of_tab underlying340 underlying143 (by kernel_rfl) (by kernel_rfl) d]
def R5:List (List Bs):=[[[38],[38,97,109,112,59]],[[34],[38,113,117,111,116,59]],[[39],[38,35,51,57,59]],[[60],[38,108,116,59]],[[62],[38,103,116,59]]]
theorem zJ(h:VarReads prog W "bindery/page.signs" (.agg (R5.map fun r=>.agg (r.map fun s=>.lit (.string s))))):∀k,k<10→W.cell? ⟨1,k,none⟩=T6[k]?:=by
 obtain⟨g,t,c,F,p,b,e,v,l⟩:=h;obtain rfl:=CS ((show prog.globalNamed "bindery/page.signs" =some 1 by kernel_rfl).symm.trans b);obtain rfl:=CS ((show(prog.globals[1]?).map (·.type)=some 250 by kernel_rfl).symm.trans e);obtain⟨x,m,rfl,n,B,C,o⟩:=DataW.trod_array underlying250 l;have u:x.map (·.1)=R5.map fun r=>(DataW.agg (r.map fun s=>.lit (.string s)):DataW Unit):=by
  have:=AF Prod.fst n;simpa using this.symm
 have w:prog.cellsOf 249=2:=by kernel_rfl
 have R:∀(i:Nat)(r:List Bs),R5[i]?=some r→i<5→((c.toList.drop (i*2)).take 2)=r.map fun s=>Value.string ⟨s.toArray⟩:=fun i r H a=>by
  have f:=o i a;rw[w]at f;have d:(x.map (·.1))[i]?=some (DataW.agg (r.map fun s=>.lit (.string s)):DataW Unit):=by rw[u,EZ,H];rfl
  rw[EZ,BH]at d;obtain⟨⟨y,q⟩,z,rfl⟩:=d;rw[z]at f;exact eW underlying249 underlying9 (by kernel_rfl) (by kernel_rfl) f
 intro k D;rw[World.var?_cell b v k,←GH];have K:∀(i j:Nat)(r:List Bs),R5[i]?=some r→i<5→j<2→c.toList[i*2+j]?=(r.map fun s=>Value.string ⟨s.toArray⟩)[j]?:=fun i j r H a A=>by
  rw[←R i r H a,EA,AM A,GS]
 rcases(show k=0∨k=1∨k=2∨k=3∨k=4∨k=5∨k=6∨k=7∨k=8∨k=9 by omega)with rfl|rfl|rfl|rfl|rfl|rfl|rfl|rfl|rfl|rfl
 ·exact K 0 0 _ rfl (by decide) (by decide)
 ·exact K 0 1 _ rfl (by decide) (by decide)
 ·exact K 1 0 _ rfl (by decide) (by decide)
 ·exact K 1 1 _ rfl (by decide) (by decide)
 ·exact K 2 0 _ rfl (by decide) (by decide)
 ·exact K 2 1 _ rfl (by decide) (by decide)
 ·exact K 3 0 _ rfl (by decide) (by decide)
 ·exact K 3 1 _ rfl (by decide) (by decide)
 ·exact K 4 0 _ rfl (by decide) (by decide)
 exact K 4 1 _ rfl (by decide) (by decide)
theorem zK(H:Cb W)(h:W.ShapedOpen prog)(a:VarReads prog W "bindery/page.signs" (.agg (R5.map fun r=>.agg (r.map fun s=>.lit (.string s)))))(b:VarReads prog W "bindery/part.ours" (.agg (eX.map fun s=>.lit (.string s))))
  (c:VarReads prog W "internal/strconv.uint64pow10" (tabData .u64 pow10Tab))
  (e:W.cell? ⟨0,0,none⟩=some (.iface 262 (.agg #[.pointer (some ⟨12,25,none⟩)]))):Gz W:=
 ⟨⟨H,zJ a,zH b,e⟩,zI c,Clock.cell_of_shape (zero:=#[.nilIface]) (t:=25) h (EE (by kernel_rfl)) (by kernel_rfl) rfl,Clock.cell_of_shape (zero:=#[.nilIface]) (t:=25) h (EE (by kernel_rfl)) (by kernel_rfl) rfl⟩
end Go.Proofs.YtignjjnflcpiiaaGreatDoor
namespace Go.Proofs.YtignjjnflcpiiaaGreatDoor
open Go Go.ChangeShapes Go.WideShapes Go.ChangeAt Go.RowKit Go.ChangeMaps
abbrev Nv:List (String×DataW Unit):=Rows.bundlePlaysRow.laid
theorem zL:ownKnob Tryz.prog.godebug=none:=by kernel_rfl
theorem zM:(Tryz.prog.cutTypes.find? (·.1== "internal/reflectlite.rtype")).map (·.2)=some 262:=by kernel_rfl
theorem zN:((List.range 1000).filter fun t=>Tryz.prog.rowNamed t [101,114,114,111,114])=[25]:=by kernel_rfl
theorem zO:Tryz.prog.types.size≤1000:=EE (by kernel_rfl)
theorem zP{W:World}(G:Cb W)(s:W.ShapedOpen Tryz.prog)(h:laidMetH Tryz.prog Nv W):Gz W:=by
 have a:laidMet Tryz.prog (Nv.filter fun x=>x.2.handleName?.isNone) W∧handlesMet Tryz.prog [("errors.errorType",Rows.laid_errors_errorType)] W:=h;obtain⟨N,u,T,E,b,c,f,e⟩:=a.2 _ (CP.2 rfl);have g:N=[101,114,114,111,114]:=(CS E).symm;subst g;obtain rfl:=CS (zM.symm.trans b);have H:T∈(List.range 1000).filter fun t=>Tryz.prog.rowNamed t [101,114,114,111,114]:=DL.2 ⟨BY.2 (CG c zO),f⟩
 rw[zN]at H;obtain rfl:=CP.1 H;have j:typeHandle Tryz.prog 25=.pointer (some ⟨12,25,none⟩):=by kernel_rfl
 rw[j]at e;have r:=fun n d(H:(n,d)∈Nv.filter fun x=>x.2.handleName?.isNone)=>Lib.laidMet.reads a.1 H
 exact zK G s (r "bindery/page.signs" Rows.laid_bindery_page_signs (DD (i:=4) (by kernel_rfl))) (r "bindery/part.ours" Rows.laid_bindery_part_ours (DD (i:=5) (by kernel_rfl))) (r _ Rows.laid_internal_strconv_uint64pow10 (DD (i:=2) (by kernel_rfl)))
  (by simpa using World.var?_cell (show Tryz.prog.globalNamed "errors.errorType" =some 0 by kernel_rfl) e 0)
end Go.Proofs.YtignjjnflcpiiaaGreatDoor
