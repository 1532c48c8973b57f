/- A region that draws its order, by a condition on what has -/
import Derived.Test.YtignjjnflcpiiaaGreatDoorV08
set_option linter.all false
namespace Go.Proofs.YtignjjnflcpiiaaGreatDoor
open Go Go.RowKit Proofs.Tryz Lib
def iY{l:Array Bool}{i:Nat}(h:l.getD i true=false):(l.setIfInBounds i true).toList.count false+1=l.toList.count false:=by
 have H:i<l.size:=by
  rcases CL i l.size with a|a
  ·exact a
  rw[EZ,CA a]at h;cases h
 have b:l.toList[i]' el=false:=by
  rw[EZ,IX H]at h;simpa using h
 rw[Array.toList_setIfInBounds,FG,AN el,KM,List.count_cons];conv=>rhs;rw[<-CE i l.toList,KM,AH el,List.count_cons,b]
 simp;omega
section
variable {P : Program} {ops : Array Oper} {Q : Exit → Act → World → Prop} {md : Region.Mode}
theorem iZ(I:Array Bool->Act->World->Prop)
  (s:∀l a w i o,I l a w->ops[i]?=some o->l.getD i true=false->(∀e∈o.after,Region.binds md e=true->l.getD e.on false=true)->wpOp P ops Q i (fun A W=>I (l.setIfInBounds i true) A W) a w)
  (b:∀l a w,I l a w->Region.ready md ops l=[]->Q .normal a w):∀(n:Nat)(l:Array Bool)(a:Act)(w:World),l.toList.count false<=n->I l a w->wpAny P md ops Q n l a w
 |0,l,a,w,d,hI=>by
  have c:Region.ready md ops l=[]:=by
   cases h:Region.ready md ops l with
   |nil=>rfl
   |cons i r=>
    obtain⟨H,_⟩:=IK.1 (show i∈Region.ready md ops l by rw[h];simp);have:=iY H;omega
  exact⟨c,b l a w hI c⟩
 |n+1,l,a,w,d,hI=>⟨b l a w hI,fun i f=>by
  obtain⟨H,o,g,j⟩:=IK.1 f;exact KH (fun A W k=>iZ I s b n _ A W (by have:=iY H;omega) k) (s l a w i o hI g H j)⟩
def jA(P:Program)(md:Region.Mode)(ops:Array Oper)(Q:Exit->Act->World->Prop)(I:Array Bool->Act->World->Prop)(i:Nat):Prop:=∃o,ops[i]?=some o/\∀l a w,I l a w->l.getD i true=false->(∀e∈o.after,Region.binds md e=true->l.getD e.on false=true)->∀K:Act->World->Prop,Shut (∀a w,I (l.setIfInBounds i true) a w->K a w)->if Region.wanted o (yielded ops a.tmps)=true then Oper.wp P o a w K Q else K (a.put o.dst undef) w
def Wi(P:Program)(md:Region.Mode)(ops:Array Oper)(Q:Exit->Act->World->Prop)(I:Array Bool->Act->World->Prop):List Nat->Prop
 |[]=>True
 |i::r=>jA P md ops Q I i/\Wi P md ops Q I r
def Wi.get{I:Array Bool->Act->World->Prop}:∀{r:List Nat}{i:Nat},Wi P md ops Q I r->i∈r->jA P md ops Q I i
 |_::_,_,h,H=>by
  rcases CG.1 H with rfl|H
  ·exact h.1
  exact h.2.get H
def jB(md:Region.Mode)(ops:Array Oper):Bool:=(List.range ops.size).all fun i=>match ops[i]?with
 |none=>true
 |some o=>o.after.all fun e=>!(Region.binds md e)||decide (e.on<i)
theorem jC{l:Array Bool}(d:jB md ops=true)(a:Region.ready md ops l=[]):∀n i,i<n->i<ops.size->l.getD i true=true
 |n+1,i,p,s=>by
  cases h:l.getD i true with
  |true=>rfl
  |false=>
   have o:ops[i]?=some ops[i]:=IX s;have b:=AW.1 d i (BT.2 s);rw[o]at b;have c:i∈Region.ready md ops l:=IK.2 ⟨h,ops[i],o,fun e j k=>by
    have f:=Array.all_eq_true'.1 b e j;rw[k]at f;have q:e.on<i:=by simpa using f
    have g:=jC d a n e.on aa aa;have m:e.on<l.size:=by
     rcases CL e.on l.size with H|H
     ·exact H
     have r:i<l.size:=by
      rcases CL i l.size with H|H
      ·exact H
      rw[EZ,CA H]at h;cases h
     omega
    rw[EZ,IX m]at g|-;exact g⟩
   rw[a]at c;cases c
def jD{d:Nat}{a:Act}{w:World}(I:Array Bool->Act->World->Prop)(r:List Nat)(m:P.follows .mixedOrders=true)(e:jB .any ops=true)(b:r=List.range ops.size)
  (h0:I (Array.replicate ops.size false) a w.drew) (f:∀l a w,I l a w->(∀i∈r,l.getD i true=true)->Q .normal a w) (s:Wi P .any ops Q I r):(Code.region d ops true).wp P Q a w:=
 wp_region_any m (iZ I (fun l a w i o hI H u g=>wpOp_step H fun K j=>by
   obtain⟨O,k,h⟩:=s.get (show i∈r by rw[b];exact BT.2 (FD.1 H).1);obtain rfl:=CU (H.symm.trans k);exact h l a w hI u g K j)
  (fun l a w hI n=>f l a w hI fun i c=>jC e n (i+1) i aa (by rw[b]at c;exact BT.1 c)) _ _ _ _ ah h0)
def Nv(P:Program)(md:Region.Mode)(ops:Array Oper)(Q:Exit->Act->World->Prop)(S:World->Prop)(s:Nat)(b:List Nat)(n:Nat)(l:Array Bool)(a:Act)(w:World):Prop:=Aa P md ops Q S s n l a w
def Nv.go{S:World->Prop}{s n:Nat}{l:Array Bool}{a:Act}{w:World}(r:List Nat)(h:Nv P md ops Q S s r n l a w):Aa P md ops Q S s n l a w:=h
def Nv.nil{S:World->Prop}{s n:Nat}{l:Array Bool}{a:Act}{w:World}(h:Aa P md ops Q S s n l a w):Nv P md ops Q S s [] n l a w:=h
def Nv.cons{S:World->Prop}{s n i:Nat}{r:List Nat}{o:Oper}{v:Value}{l:Array Bool}{a:Act}{w:World}(H:ops[i]?=some o)(b:Region.noSelect ops=true)(f:Region.free md ops l i=true)(d:(Region.ready md ops l).contains i=true)
 (e:Oj md ops i 40 s=true) (g:i≠s) (j:∀c a w,Q (.panic c) (a.put o.dst v) w->Q (.panic c) a w) (y:YieldsIf P ops S o v a) (k:S w)
 (h:Nv P md ops Q S s r n (l.setIfInBounds i true) (a.put o.dst v) w):Nv P md ops Q S s (i::r) (n+1) l a w:=Aa.take H b f d e g j y k h
end
end Go.Proofs.YtignjjnflcpiiaaGreatDoor
