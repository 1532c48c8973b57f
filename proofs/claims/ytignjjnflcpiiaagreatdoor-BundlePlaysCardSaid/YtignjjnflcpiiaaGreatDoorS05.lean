/- A region that draws its order, under a condition that hol -/
import Derived.Deep.RegionHeldLaw
import Derived.Test.YtignjjnflcpiiaaGreatDoorS01
namespace Go.Proofs.YtignjjnflcpiiaaGreatDoor
open Go Go.RowKit Proofs.Tryz Lib
section
variable {P : Program} {ops : Array Oper} {Q : Exit → Act → World → Prop} {md : Region.Mode} {S : World → Prop} {s : Nat}
def Iy(P:Program)(md:Region.Mode)(ops:Array Oper)(Q:Exit→Act→World→Prop)(S:World→Prop)(s:Nat):Nat→Array Bool→Act→World→Prop
 |0,l,a,w=>Region.ready md ops l=[]∧Q .normal a w
 |n+1,l,a,w=>(Region.ready md ops l=[]→Q .normal a w)∧∀i∈Region.ready md ops l,wpOp P ops Q i (fun A W=>if i=s then wpAny P md ops Q n (l.setIfInBounds i true) A W else S W∧Iy P md ops Q S s n (l.setIfInBounds i true) A W) a w
theorem Iy.any:∀{n:Nat}{l:Array Bool}{a:Act}{w:World},Iy P md ops Q S s n l a w→wpAny P md ops Q n l a w
 |0,_,_,_,h=>h
 |n+1,_,_,_,h=>⟨h.1,fun i H=>wpOp_mono (fun A W k=>by
  by_cases e:i=s
  ·rwa[AM e]at k
  rw[AI e]at k;exact k.2.any) (h.2 i H)⟩
def Nf(md:Region.Mode)(ops:Array Oper)(i:Nat):Nat→Nat→Bool
 |0,_=>false
 |n+1,s=>match ops[s]?with
  |none=>false
  |some o=>o.after.any fun e=>Region.binds md e&&(e.on==i||Nf md ops i n e.on)
def Jt(md:Region.Mode)(ops:Array Oper)(l:Array Bool):Prop:=∀j o,ops[j]?=some o→l.getD j false=true→∀e∈o.after,Region.binds md e=true→l.getD e.on false=true
theorem Jt.none(n:Nat):Jt md ops (Array.replicate n false):=fun j o _ h=>by
 rw[Array.getD_eq_getD_getElem?,Array.getElem?_replicate]at h;split at h
 ·cases h
 cases h
theorem Jt.set{l:Array Bool}{i:Nat}(h:Jt md ops l)(r:i∈Region.ready md ops l):Jt md ops (l.setIfInBounds i true):=fun j o H f e a b=>by
 by_cases c:j=i
 ·subst c;obtain⟨_,O,d,g⟩:=IZ.1 r;rw[H]at d;cases d;exact getD_set_true (g e a b)
 exact getD_set_true (h j o H (by rwa[getD_set_ne false (fun e=>c e.symm)]at f) e a b)
theorem Jt.waits{l:Array Bool}{i:Nat}(h:Jt md ops l):∀(n s:Nat),l.getD s false=true→Nf md ops i n s=true→l.getD i false=true
 |0,_,_,H=>by cases H
 |n+1,s,d,H=>by
  unfold Nf at H;cases a:ops[s]?with
  |none=>rw[a]at H;cases H
  |some o=>
   rw[a]at H;obtain⟨x,f,b⟩:=Array.any_eq_true'.1 H;simp only[BL,EW,BG]at b;have c:=h s o a d x f b.1;rcases b.2 with e|e
   ·rw[e]at c;exact c
   exact h.waits n x.on c e
theorem Jt.ready{l:Array Bool}{i s:Nat}(h:Jt md ops l)(n:Nat)(r:s∈Region.ready md ops l)(H:Nf md ops i n s=true):l.getD i false=true:=by
 cases n with
 |zero=>cases H
 |succ n=>
  obtain⟨_,o,c,d⟩:=IZ.1 r;unfold Nf at H;rw[c]at H;obtain⟨x,f,b⟩:=Array.any_eq_true'.1 H;simp only[BL,EW,BG]at b;have a:=d x f b.1;rcases b.2 with e|e
  ·rw[e]at a;exact a
  exact h.waits n x.on a e
theorem Z8{l:Array Bool}{i:Nat}(a:l.getD i true=false)(h:l.getD i false=true):False:=by
 rcases CN i l.size with H|H
 ·simp[H]at a h;rw[a]at h;cases h
 simp[CL H]at h
theorem Z9{l:Array Bool}{i:Nat}{o:Oper}(H:l.getD i true=false)(a:∀e∈o.after,Region.binds md e=true→l.getD e.on false=true):∀e∈o.after,Region.binds md e=true→e.on≠i:=fun e b c d=>by
 have h:=a e b c;rw[d]at h;exact Z8 H h
theorem Iy.first{i:Nat}{o:Oper}{v:Value}(m:ops[i]?=some o)(p:Region.noSelect ops=true)(d:Nat)(x:Nf md ops i d s=true)(y:i≠s)
 (z:∀c a w,Q (.panic c) (a.put o.dst v) w→Q (.panic c) a w):∀(n:Nat)(l:Array Bool)(a:Act)(w:World),Jt md ops l→
 (∀j O,ops[j]?=some O→j≠i→l.getD j true=false→(∀e∈O.after,Region.binds md e=true→e.on≠i)→o.apart ops O=true)→
 i∈Region.ready md ops l→YieldsIf P ops S o v a→S w→Iy P md ops Q S s n (l.setIfInBounds i true) (a.put o.dst v) w→Iy P md ops Q S s (n+1) l a w
 |n,l,a,w,A,B,r,D,E,H=>by
  refine⟨fun h=>(by rw[h]at r;cases r),fun j g=>?_⟩;by_cases f:j=i
  ·subst f;refine D.wpOp m E ?_;rw[AI y];exact⟨E,H⟩
  obtain⟨F,O,t,K⟩:=IZ.1 g;have G:l.getD i true=false:=(IZ.1 r).1;have L:=Z9 G K;have M:j≠s:=fun e=>by
   subst e;exact Z8 G (A.ready d g x)
  have u:=JC g f;cases n with
  |zero=>rw[H.1]at u;cases u
  |succ n=>
   have I:=H.2 j u;simp only[AI M]at I⊢;have N:=wpOp_putIf t (B j O t f F L) (fun C b=>FT p i o C b m) (fun C b=>FT p j O C b t) z D I;refine wpOp_mono (fun R W k=>⟨k.2.1,Iy.first m p d x y z n _ R W (A.set g) (fun q T U V X Y=>?_) (JC r (Ne.symm f)) k.1 k.2.1 ?_⟩) N
   ·refine B q T U V ?_ Y;by_cases J:j=q
    ·subst J;exact F
    rwa[getD_set_ne true J]at X
   rw[HJ _ _ f];exact k.2.2
theorem Iy.Za{i:Nat}{o:Oper}{v:Value}(f:ops[i]?=some o)(g:Region.noSelect ops=true)(x:i≠s)
 (p:∀c a w,Q (.panic c) (a.put o.dst v) w→Q (.panic c) a w):∀(n:Nat)(l:Array Bool)(a:Act)(w:World),
 (∀j O,ops[j]?=some O→j≠i→l.getD j true=false→(∀e∈O.after,Region.binds md e=true→e.on≠i)→o.apart ops O=true)→
 i∈Region.ready md ops l→Yields P ops o v a→S w→Iy P md ops Q S s n (l.setIfInBounds i true) (a.put o.dst v) w→Iy P md ops Q S s (n+1) l a w
 |n,l,a,w,y,r,z,I,H=>by
  refine⟨fun h=>(by rw[h]at r;cases r),fun j B=>?_⟩;by_cases d:j=i
  ·subst d;refine z.wpOp f ?_;rw[AI x];exact⟨I,H⟩
  obtain⟨D,O,t,J⟩:=IZ.1 B;have K:l.getD i true=false:=(IZ.1 r).1;have L:=Z9 K J;have u:=JC B d;have E:∀k ok,ops[k]?=some ok→k≠i→(l.setIfInBounds j true).getD k true=false→(∀e∈ok.after,Region.binds md e=true→e.on≠i)→o.apart ops ok=true:=fun q M N R T U=>by
   refine y q M N R ?_ U;by_cases F:j=q
   ·subst F;exact D
   rwa[getD_set_ne true F]at T
  cases n with
  |zero=>rw[H.1]at u;cases u
  |succ n=>
   have V:=H.2 j u;have m:=wpOp_put t (y j O t d D L) (fun C b=>FT g i o C b f) (fun C b=>FT g j O C b t) p z V;by_cases G:j=s
   ·simp only[AM G]at m⊢;refine wpOp_mono (fun A W k=>wpAny_first f (FT g) p n _ A W E (JC r (Ne.symm d)) k.1 ?_) m;rw[HJ _ _ d];exact k.2
   simp only[AI G]at m⊢;refine wpOp_mono (fun A W k=>⟨k.2.1,Iy.Za f g x p n _ A W E (JC r (Ne.symm d)) k.1 k.2.1 ?_⟩) m;rw[HJ _ _ d];exact k.2.2
def Ap(P:Program)(md:Region.Mode)(ops:Array Oper)(Q:Exit→Act→World→Prop)(S:World→Prop)(s:Nat)(n:Nat)(l:Array Bool)(a:Act)(w:World):Prop:=Jt md ops l→Iy P md ops Q S s n l a w
theorem Ap.take{i:Nat}{o:Oper}{v:Value}{n:Nat}{l:Array Bool}{a:Act}{w:World}(H:ops[i]?=some o)(e:Region.noSelect ops=true)(f:Region.free md ops l i=true)(r:(Region.ready md ops l).contains i=true)
 (g:Nf md ops i 40 s=true) (j:i≠s) (k:∀c a w,Q (.panic c) (a.put o.dst v) w→Q (.panic c) a w) (y:YieldsIf P ops S o v a) (m:S w)
 (h:Ap P md ops Q S s n (l.setIfInBounds i true) (a.put o.dst v) w):Ap P md ops Q S s (n+1) l a w:=fun b=>
 have d:i∈Region.ready md ops l:=by simpa using r
 Iy.first H e 40 g j k n l a w b (Region.free_spec H f) d y m (h (b.set d))
theorem Ap.Zb{i:Nat}{o:Oper}{v:Value}{n:Nat}{l:Array Bool}{a:Act}{w:World}(H:ops[i]?=some o)(d:Region.noSelect ops=true)(f:Region.free md ops l i=true)(r:(Region.ready md ops l).contains i=true)
 (e:i≠s) (g:∀c a w,Q (.panic c) (a.put o.dst v) w→Q (.panic c) a w) (y:Yields P ops o v a) (j:S w)
 (h:Ap P md ops Q S s n (l.setIfInBounds i true) (a.put o.dst v) w):Ap P md ops Q S s (n+1) l a w:=fun k=>
 have b:i∈Region.ready md ops l:=by simpa using r
 Iy.Za H d e g n l a w (Region.free_spec H f) b y j (h (k.set b))
theorem Ap.one{j:Nat}{o:Oper}{n:Nat}{l:Array Bool}{a:Act}{w:World}(H:Region.ready md ops l=[j])(d:ops[j]?=some o)(e:j≠s)
 (h:∀K:Act→World→Prop,Shut (∀a w,S w→Ap P md ops Q S s n (l.setIfInBounds j true) a w→K a w)→if Region.wanted o (yielded ops a.tmps)=true then Oper.wp P o a w K Q else K (a.put o.dst undef) w):Ap P md ops Q S s (n+1) l a w:=fun f=>by
 have g:=f;refine⟨fun b=>(by rw[H]at b;cases b),fun i c=>?_⟩;rw[H]at c;obtain rfl:=CP.1 c;simp only[AI e];exact wpOp_step d fun K k=>h K fun a w m W=>k a w ⟨m,W (g.set (by rw[H];simp))⟩
theorem Ap.stop{o:Oper}{n:Nat}{l:Array Bool}{a:Act}{w:World}(H:Region.ready md ops l=[s])(d:ops[s]?=some o)
 (h:∀K:Act→World→Prop,Shut (∀a w,wpAny P md ops Q n (l.setIfInBounds s true) a w→K a w)→if Region.wanted o (yielded ops a.tmps)=true then Oper.wp P o a w K Q else K (a.put o.dst undef) w):Ap P md ops Q S s (n+1) l a w:=fun e=>by
 have g:=e;refine⟨fun b=>(by rw[H]at b;cases b),fun i c=>?_⟩;rw[H]at c;obtain rfl:=CP.1 c;simp only[DC];exact wpOp_step d fun K f=>h K fun a w W=>f a w W
def Ia(P:Program)(md:Region.Mode)(ops:Array Oper)(Q:Exit→Act→World→Prop)(S:World→Prop)(s:Nat)(n:Nat)(l:Array Bool)(a:Act)(w:World)(r:List Nat):Prop:=∀i∈r,wpOp P ops Q i (fun A W=>S W∧Ap P md ops Q S s n (l.setIfInBounds i true) A W) a w
theorem Ia.nil{n:Nat}{l:Array Bool}{a:Act}{w:World}:Ia P md ops Q S s n l a w []:=fun _ h=>by cases h
theorem Ia.cons{n:Nat}{l:Array Bool}{a:Act}{w:World}{i:Nat}{o:Oper}{r:List Nat}(b:ops[i]?=some o)
 (h:∀K:Act→World→Prop,Shut (∀a w,S w→Ap P md ops Q S s n (l.setIfInBounds i true) a w→K a w)→if Region.wanted o (yielded ops a.tmps)=true then Oper.wp P o a w K Q else K (a.put o.dst undef) w)
 (c:Ia P md ops Q S s n l a w r):Ia P md ops Q S s n l a w (i::r):=fun j H=>by
 rcases CF.1 H with rfl|H
 ·exact wpOp_step b (fun K d=>h K (fun a w e W=>d a w ⟨e,W⟩))
 exact c j H
theorem Ap.all(r:List Nat){n:Nat}{l:Array Bool}{a:Act}{w:World}(H:Region.ready md ops l=r)(d:r≠[])(f:s∉r)(h:Ia P md ops Q S s n l a w r):Ap P md ops Q S s (n+1) l a w:=fun g=>by
 refine⟨fun j=>absurd (H▸j) d,fun i b=>?_⟩;have c:i∈r:=H▸b;have m:i≠s:=fun e=>f (e▸c)
 simp only[AI m];exact wpOp_mono (fun A W k=>⟨k.1,k.2 (g.set b)⟩) (h i c)
theorem Qe{j:Nat}{o:Oper}{n:Nat}{l:Array Bool}{a:Act}{w:World}(H:Region.ready md ops l=[j])(d:ops[j]?=some o)
 (h:∀K:Act→World→Prop,Shut (∀a w,wpAny P md ops Q n (l.setIfInBounds j true) a w→K a w)→if Region.wanted o (yielded ops a.tmps)=true then Oper.wp P o a w K Q else K (a.put o.dst undef) w):wpAny P md ops Q (n+1) l a w:=by
 refine⟨fun b=>(by rw[H]at b;cases b),fun i c=>?_⟩;rw[H]at c;obtain rfl:=CP.1 c;exact wpOp_step d fun K e=>h K fun a w W=>e a w W
theorem Zc{i:Nat}{a:Act}{w:World}(s:Nat)(S:World→Prop)(H:P.follows .mixedOrders=true)(h:Ap P .any ops Q S s ops.size (Array.replicate ops.size false) a w.drew):(Code.region i ops true).wp P Q a w:=wp_region_any H (h (Jt.none _)).any
end
end Go.Proofs.YtignjjnflcpiiaaGreatDoor
