/- Out of the row's laid variables: what the walks ask of an -/
import Derived.Lib.LaidU8
import Derived.Test.YtignjjnflcpiiaaGreatDoorV17
set_option linter.all false
namespace Go.Proofs.YtignjjnflcpiiaaGreatDoor
open Go Go.RowKit Proofs.Tryz Lib
variable {cs:List Value}{w W:World}{t e:TypeId}{fuel n g:Nat}{d D:DataW Unit}
def lS{S:List Bs}{p:List MemPlace}(b:prog.underlying t=some (.array n e))(c:prog.underlying e=some .string)(d:prog.cellsOf e=1)(r:prog.cellsOf t=n)
  (h:DataW.trod (fun _=>()) prog w 0 (fun _=>true) false fuel t cs=some (.agg (S.map fun s=>.lit (.string s)),p)):cs=S.map fun s=>Value.string ⟨s.toArray⟩:=by
 obtain⟨x,m,rfl,g,u,v,l⟩:=DataW.trod_array b h;have a:x.map (·.1)=S.map fun s=>(DataW.lit (.string s):DataW Unit):=by
  have:=CI Prod.fst g;simpa using this.symm
 have y:S.length=n:=by have:=CI List.length a;simp at this;omega
 apply List.ext_getElem?;intro i;by_cases j:i<n
 ·have f:=l i j;rw[d,IE,BC (aa:i<x.length)]at f;obtain⟨z,k,o,_⟩:=DataW.trod_string c f;have q:cs[i]?=some (.string z):=by
   have:=CI (·[0]?) k;simpa[EF,IT]using this
  have H:(x.map (·.1))[i]?=(S.map fun s=>(DataW.lit (.string s):DataW Unit))[i]?:=by rw[a]
  simp only[EV,BC (aa:i<x.length),BC (aa:i<S.length),JD,o]at H;rw[q,EV,BC (aa:i<S.length)];simp at H;simp[<-H]
 rw[DC aa,DC ag]
def lT:List Bs:=[[67,111,110,116,101,110,116,45,84,121,112,101],[67,111,110,116,101,110,116,45,84,114,97,110,115,102,101,114,45,69,110,99,111,100,105,110,103]]
def VY(h:VarReads prog W "bindery/part.ours" (.agg (lT.map fun s=>.lit (.string s)))):∀k,k<2->W.cell? ⟨2,k,none⟩=kF[k]?:=by
 obtain⟨g,t,c,f,p,H,y,v,d⟩:=h;obtain rfl:=CU ((show prog.globalNamed "bindery/part.ours" =some 2 by kernel_rfl).symm.trans H);obtain rfl:=CU ((show(prog.globals[2]?).map (·.type)=some 249 by kernel_rfl).symm.trans y);have e:=lS underlying249 underlying9 af af d;intro k a;rw[JN H v k,<-GF,e];rcases(show k=0\/k=1 by omega)with rfl|rfl<;>rfl
def VZ(h:VarReads prog W "internal/strconv.uint64pow10" (tabData .u64 pow10Tab)):Lib.TabIs prog W "internal/strconv.uint64pow10" .u64 pow10Tab:=by
 obtain⟨g,t,c,f,p,H,y,v,d⟩:=h;obtain rfl:=CU ((show prog.globalNamed "internal/strconv.uint64pow10" =some 4 by kernel_rfl).symm.trans H);obtain rfl:=CU ((show(prog.globals[4]?).map (·.type)=some 340 by kernel_rfl).symm.trans y);unfold Lib.TabIs;rw[v,<-cells_of_tab underlying340 underlying143 af af d]
def Uc:List (List Bs):=[[[38],[38,97,109,112,59]],[[34],[38,113,117,111,116,59]],[[39],[38,35,51,57,59]],[[60],[38,108,116,59]],[[62],[38,103,116,59]]]
def WA(h:VarReads prog W "bindery/page.signs" (.agg (Uc.map fun r=>.agg (r.map fun s=>.lit (.string s))))):∀k,k<10->W.cell? ⟨1,k,none⟩=Wr[k]?:=by
 obtain⟨g,t,c,F,p,b,e,v,l⟩:=h;obtain rfl:=CU ((show prog.globalNamed "bindery/page.signs" =some 1 by kernel_rfl).symm.trans b);obtain rfl:=CU ((show(prog.globals[1]?).map (·.type)=some 250 by kernel_rfl).symm.trans e);obtain⟨x,m,rfl,n,B,C,o⟩:=DataW.trod_array underlying250 l;have u:x.map (·.1)=Uc.map fun r=>(DataW.agg (r.map fun s=>.lit (.string s)):DataW Unit):=by
  have:=CI Prod.fst n;simpa using this.symm
 have w:prog.cellsOf 249=2:=af
 have R:∀(i:Nat)(r:List Bs),Uc[i]?=some r->i<5->((c.toList.drop (i*2)).take 2)=r.map fun s=>Value.string ⟨s.toArray⟩:=fun i r H a=>by
  have f:=o i a;rw[w]at f;have d:(x.map (·.1))[i]?=some (DataW.agg (r.map fun s=>.lit (.string s)):DataW Unit):=by rw[u,EV,H];rfl
  rw[EV,BM]at d;obtain⟨⟨y,q⟩,z,rfl⟩:=d;rw[z]at f;exact lS underlying249 underlying9 af af f
 intro k D;rw[JN b v k,<-GF];have K:∀(i j:Nat)(r:List Bs),Uc[i]?=some r->i<5->j<2->c.toList[i*2+j]?=(r.map fun s=>Value.string ⟨s.toArray⟩)[j]?:=fun i j r H a A=>by
  rw[<-R i r H a,EF,AN A,IT]
 rcases(show k=0\/k=1\/k=2\/k=3\/k=4\/k=5\/k=6\/k=7\/k=8\/k=9 by omega)with rfl|rfl|rfl|rfl|rfl|rfl|rfl|rfl|rfl|rfl
 ·exact K 0 0 _ rfl ae ae
 ·exact K 0 1 _ rfl ae ae
 ·exact K 1 0 _ rfl ae ae
 ·exact K 1 1 _ rfl ae ae
 ·exact K 2 0 _ rfl ae ae
 ·exact K 2 1 _ rfl ae ae
 ·exact K 3 0 _ rfl ae ae
 ·exact K 3 1 _ rfl ae ae
 ·exact K 4 0 _ rfl ae ae
 exact K 4 1 _ rfl ae ae
def WB{x:DataW Unit×List MemPlace}{ms}(H:prog.underlying t=some (.interface ms))(h:DataW.trod (fun _=>()) prog w 0 (fun _=>true) false fuel t cs=some x):cs=[.nilIface]\/∃u v,cs=[.iface u v]:=by
 cases fuel with
 |zero=>simp[DataW.trod]at h
 |succ m=>
  unfold DataW.trod at h;rw[H]at h;split at h<;>simp_all
def lU{name:String}(a:prog.globalNamed name=some g)(y:(prog.globals[g]?).map (·.type)=some 25)(h:VarReads prog W name d):∃E,W.cell? ⟨g,0,none⟩=some E/\(E=.nilIface\/∃T P,E=.iface T P):=by
 obtain⟨G,t,C,F,p,b,c,f,i⟩:=h;obtain rfl:=CU (a.symm.trans b);obtain rfl:=CU (y.symm.trans c);have H:=JN a f 0;rw[<-GF]at H;rcases WB underlying25 i with e|⟨u,v,e⟩
 ·rw[e]at H;exact⟨_,H,Or.inl rfl⟩
 rw[e]at H;exact⟨_,H,Or.inr ⟨_,_,rfl⟩⟩
def WC(h:Cj W)(H:VarReads prog W "bindery/page.signs" (.agg (Uc.map fun r=>.agg (r.map fun s=>.lit (.string s)))))(a:VarReads prog W "bindery/part.ours" (.agg (lT.map fun s=>.lit (.string s))))
  (b:VarReads prog W "internal/strconv.uint64pow10" (tabData .u64 pow10Tab)) (c:VarReads prog W "strconv.ErrSyntax" d) (e:VarReads prog W "strconv.ErrRange" D)
  (f:W.cell? ⟨0,0,none⟩=some (.iface 262 (.agg #[.pointer (some ⟨12,25,none⟩)]))):Gz W:=
 ⟨⟨h,WA H,VY a,f⟩,VZ b,lU af af c,lU af af e⟩
end Go.Proofs.YtignjjnflcpiiaaGreatDoor
