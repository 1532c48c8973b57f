/- head.Right and head.Get over fields. Condition: each text -/
import Derived.Shelf.Strings.BuilderK
import Derived.Test.YtignjjnflcpiiaaGreatDoorS03
set_option maxHeartbeats 4000000
set_option maxRecDepth 100000
namespace Go.Proofs.YtignjjnflcpiiaaGreatDoor
open Go Go.RowKit Proofs.Tryz Lib
def L7(l:List A4):Prop:=l.length≤1000000000000∧∀f∈l,f.1.length≤1000000000000∧f.2.length≤1000000000000
theorem Va(v:Value)(l:List A4)(w:World)(r:C7 w v l)(c:L7 l):Calls prog 192 #[v] w fun e W=>e=.returned (.bool (Ca l))∧Below w.heap.size w W:=by
 have G:=c.1;have u:=AB c.2;clear c;obtain⟨a,I,rfl,g⟩:=r.open;have z:=AB g;clear g r;go_enter func192,ntmps192;go_wp2_with fail;go_loopw[7] (fun i wr=>∃k:Nat,i=.int .i64 k∧k≤l.length∧Ca l=Ca (l.drop k)∧Below w.heap.size w wr) (fun i _=>l.length-(intOf i).toNat)
 case atStart=>exact⟨0,rfl,by omega,by simp,AD _ _⟩
 obtain⟨k,rfl,J,j,B⟩:=hrel;have h:=AB j;clear j;by_cases t:k<l.length
 ·obtain⟨b,rfl,m,n,o⟩:=z.o k t;have d:=u.o l[k] (AN _);have H:=AB (by unfold Ca;rw[AE t,FA]:Ca (l.drop k)=(Eg l[k].1&&Fi l[k].2&&Ca (l.drop (k+1))));have C:=(B.cell (p:=⟨b,k*2,none⟩) m).trans n;have q:=(B.cell (p:=⟨b,k*2+1,none⟩) m).trans o;clear n o;generalize l[k]=f at d H C q;obtain⟨x,y⟩:=f;simp only at d H C q;obtain⟨A,D⟩:=d;go_wp2_with fail;refine(Yw x _ A).mono ?_;rintro e W⟨rfl,rfl⟩;generalize Eg x=E at H⊢;cases E with
  |false=>
   go_wp2_with fail;go_ret;exact⟨Ba (by rw[h.o,H.o];rfl),B.alloc B.size _⟩
  |true=>
   go_wp2_with fail;refine(Yx y _ D).mono ?_;rintro e K⟨rfl,s⟩;generalize Fi y=F at H⊢;cases F with
   |false=>
    go_wp2_with fail;go_ret;exact⟨Ba (by rw[h.o,H.o];rfl),(B.alloc B.size _).trans (s.mono (B.alloc B.size _).size)⟩
   |true=>
    go_wp2_with fail;go_roundw
    case rel=>exact⟨k+1,by go_num,by omega,by rw[h.o,H.o];rfl,(B.alloc B.size _).trans (s.mono (B.alloc B.size _).size)⟩
    simp[intOf];omega
 obtain rfl:k=l.length:=by omega
 go_wp2_with fail;go_ret;exact⟨Ba (by rw[h.o,AQ];rfl),B⟩
theorem Oq(v:Value)(l:List A4)(s:Bs)(w:World)(r:C7 w v l)(c:L7 l)(I:s.length≤1000000000000):Calls prog 33 #[v,.string ⟨s.toArray⟩] w fun e W=>e=.returned (.tuple #[.string ⟨((Ai l s).getD []).toArray⟩,.bool (Ai l s).isSome])∧Below w.heap.size w W:=by
 have J:=c.1;have E:=AB c.2;clear c;obtain⟨a,L,rfl,o⟩:=r.open;have F:=AB o;clear o r;go_enter func33,ntmps33;go_wp2_with fail;go_loopw[10] (fun i wr=>∃k:Nat,i=.int .i64 k∧k≤l.length∧Ai l s=Ai (l.drop k) s∧Below w.heap.size w wr) (fun i _=>l.length-(intOf i).toNat)
 case atStart=>exact⟨0,rfl,by omega,by simp,AD _ _⟩
 obtain⟨k,rfl,M,q,B⟩:=hrel;have d:=AB q;clear q;by_cases t:k<l.length
 ·obtain⟨b,rfl,u,z,A⟩:=F.o k t;have g:=E.o l[k] (AN _);have D:=AB (by rw[AE t];rfl:Ai (l.drop k) s=if A2 l[k].1=A2 s then some l[k].2 else Ai (l.drop (k+1)) s);have C:=(B.cell (p:=⟨b,k*2,none⟩) u).trans z;have j:=(B.cell (p:=⟨b,k*2+1,none⟩) u).trans A;clear z A;generalize l[k]=f at g D C j;obtain⟨x,y⟩:=f;simp only at g D C j;obtain⟨N,O⟩:=g;have K:=A1.new wr #[.string ⟨x.toArray⟩,.string ⟨y.toArray⟩] 92;have B:=B.alloc B.size (.cells #[.string ⟨x.toArray⟩,.string ⟨y.toArray⟩] 92);go_wp2_with fail;refine(G0 x _ (by omega)).mono ?_;rintro e P⟨rfl,m⟩;have K:=K.next m K.lt;have B:=B.trans (m.mono B.size);clear m C j;go_wp2_with fail;refine(G0 s _ (by omega)).mono ?_;rintro e Q⟨rfl,n⟩;have K:=K.next n K.lt;have B:=B.trans (n.mono B.size);clear n;have R:=K.cell 1;by_cases h:A2 x=A2 s
  ·have G:(A2 x==A2 s)=true:=by rw[BG];exact h
   have H:=AB (by rw[d.o,D.o,AM h]:Ai l s=some y);clear h;go_wp2_with fail;go_ret2;exact⟨by rw[H.o];rfl,B⟩
  have G:(A2 x==A2 s)=false:=by rw[AG];exact h
  have H:=AB (by rw[d.o,D.o,AI h]:Ai l s=Ai (l.drop (k+1)) s);clear h;go_wp2_with fail;go_roundw
  case rel=>exact⟨k+1,by go_num,by omega,H.o,B⟩
  simp[intOf];omega
 obtain rfl:k=l.length:=by omega
 have H:=AB (by rw[d.o,AQ];rfl:Ai l s=none);go_wp2_with fail;go_ret2;exact⟨by rw[H.o];rfl,B⟩
abbrev Bk(w:World)(B:Nat)(v:Value)(l:List A4):Prop:=A0 92 2 Au w B v l
theorem Kj:(prog.info? 92).map (fun i=>(i.zero,i.size,i.bytes))=some (some (.agg #[.string ByteArray.empty,.string ByteArray.empty]),2,32):=by kernel_rfl
theorem Ju(f:A4):∀u∈Au f,u.oneCell'=true:=fun u h=>by
 simp[Au]at h;rcases h with rfl|rfl<;>rfl
theorem Gl(w:World)(f:A4)(t:TypeId):∀j u,([f].flatMap Au)[j]?=some u→(w.alloc (.cells #[.string ⟨f.1.toArray⟩,.string ⟨f.2.toArray⟩] t)).cell? ((⟨w.heap.size,0,none⟩:Addr).add j)=some u:=fun j u h=>by
 rw[Dz,(A1.new w #[.string ⟨f.1.toArray⟩,.string ⟨f.2.toArray⟩] t).cell]
 match j,h with
 |0,h=>exact h
 |1,h=>exact h
 |j+2,h=>simp[Au]at h
variable {w w':World}{v:Value}{s l:Bs}{out xs:List A4}{k B g cap:Nat}{f:A4}
theorem Ng{Q:Exit→Act→World→Prop}{O:Array Oper}{rest:List Oper}{o:Oper}{a:Act}(H:o.guard=none)(s x:Operand)
 (d:o.op=.call {callee:=.builtin .append,args:=#[s,x],argTypes:=#[42,42]}) (B:Nat) (v:Value) (xs:List A4) (y:A4) (b c:Nat)
 (e:a.eval s=v) (n:Bk w B v xs) (f:a.eval x=.slice (some ⟨b,0,none⟩) 1 c) (g:∀j u,([y].flatMap Au)[j]?=some u→w.cell? ((⟨b,0,none⟩:Addr).add j)=some u) (k:xs.length+1≤1000000000001) (i:B≤w.heap.size)
 (h:∀V W,Bk W B V (xs++[y])→w.grownBy W v.ownBlock→Below B w W→wpList prog O Q rest (a.put o.dst V) W):wpList prog O Q (o::rest) a w:=
 Mk (α:=A4) (cs:=Au) (size:=2) (z:=.agg #[.string ByteArray.empty,.string ByteArray.empty]) Ah Ju Kj rfl (by decide) underlying42 H s x d B v xs [y] ⟨b,0,none⟩ 1 c rfl e n f g (by simp;omega) (by unfold maxLen;simp;omega) i h
def Gm(w:World)(v:Value)(n:Int):Prop:=(v=.nilIface∧n=0)∨v=.iface 30 (.int .i64 n)∨∃b p,v=.iface 253 (.pointer (some ⟨b,0,none⟩))∧w.cell? ⟨b,0,none⟩=some (.int .i64 n)∧w.cell? ⟨b,1,none⟩=some (.int .i64 p)
theorem Gm.next{n:Int}(h:Gm w v n)(H:Below w.heap.size w w'):Gm w' v n:=by
 rcases h with h|h|⟨b,p,c,a,d⟩
 ·exact Or.inl h
 ·exact Or.inr (Or.inl h)
 have t:b<w.heap.size:=AY w _ a;exact Or.inr (Or.inr ⟨b,p,c,(H.cell (p:=⟨b,0,none⟩) t).trans a,(H.cell (p:=⟨b,1,none⟩) t).trans d⟩)
theorem Gm.at(w:World)(n p:Int)(t:TypeId):Gm (w.alloc (.cells #[.int .i64 n,.int .i64 p] t)) (.iface 253 (.pointer (some ⟨w.heap.size,0,none⟩))) n:=Or.inr (Or.inr ⟨_,p,rfl,(A1.new w _ t).cell 0,(A1.new w _ t).cell 1⟩)
def pA(B:Nat)(n:Int)(r:Option (List A4))(e:Ending)(w':World):Prop:=(∃o v,r=some o∧e=.returned (.tuple #[v,.nilIface])∧Bk w' B v o)∨(∃v,r=none∧e=.returned (.tuple #[.slice none 0 0,v])∧Gm w' v n)
theorem pB(v:Value)(l:List A4)(w:World)(r:C7 w v l)(g:L7 l):Calls prog 163 #[v] w fun e W=>pA w.heap.size 1 (Cq l) e W∧Below w.heap.size w W:=by
 have P:=g.1;have F:=AB g.2;clear g;obtain⟨a,Q,rfl,q⟩:=r.open;have G:=AB q;clear q r;go_enter func163,ntmps163;go_wp2_with fail;go_loopw[4,10] (fun o i wr=>∃(k:Nat)(O:List A4),i=.int .i64 k∧k≤l.length∧O.length=k∧Bk wr w.heap.size o O∧(Cq (l.drop k)).map (O++·)=Cq l∧Below w.heap.size w wr) (fun _ i _=>l.length-(intOf i).toNat)
 case atStart=>exact⟨0,[],rfl,by omega,rfl,A0.nil _ _ _ _ _,by simp,AD _ _⟩
 obtain⟨k,O,rfl,R,S,h,s,B⟩:=hrel;have j:=AB s;clear s;by_cases t:k<l.length
 ·obtain⟨b,rfl,u,A,D⟩:=G.o k t;have m:=F.o l[k] (AN _);have H:=AB (by rw[AE t];rfl:Cq (l.drop k)=if Fi (trimS l[k].2 [32,9])then(Cq (l.drop (k+1))).map ((l[k].1,trimS l[k].2 [32,9])::·)else none);have C:=(B.cell (p:=⟨b,k*2,none⟩) u).trans A;have n:=(B.cell (p:=⟨b,k*2+1,none⟩) u).trans D;clear A D;generalize l[k]=f at m H C n;obtain⟨x,y⟩:=f;simp only at m H C n;obtain⟨T,U⟩:=m;have K:=A1.new wr #[.string ⟨x.toArray⟩,.string ⟨y.toArray⟩] 92;have B:=B.alloc B.size (.cells #[.string ⟨x.toArray⟩,.string ⟨y.toArray⟩] 92);have h:=h.alloc (.cells #[.string ⟨x.toArray⟩,.string ⟨y.toArray⟩] 92);go_wp2_with fail;refine(Q5 y [32,9] _ (by omega) (by decide) (by decide)).mono ?_;rintro e V⟨rfl,c⟩;have K:=K.next c K.lt;have h:=A0.next h c;have B:=B.trans (c.mono B.size);clear c C n;have I:=Oc y [32,9];generalize trimS y [32,9]=z at I H⊢;go_wp2_with fail;refine(Yx z _ (by omega)).mono ?_;rintro e E⟨rfl,d⟩;have K:=K.next d K.lt;have h:=A0.next h d;have B:=B.trans (d.mono B.size);clear d;have X:=K.cell 0;generalize Fi z=J at H⊢;cases J with
  |false=>
   have N:=AB (by rw[←j.o,H.o];rfl:Cq l=none);go_wp2_with fail;go_ret2;exact⟨Or.inr ⟨_,N.o,rfl,Gm.at _ _ _ _⟩,B.alloc B.size _⟩
  |true=>
   have N:=AB (by rw[←j.o,H.o];simp only[DC];cases Cq (l.drop (k+1))<;>simp:(Cq (l.drop (k+1))).map ((O++[(x,z)])++·)=Cq l);go_wp2_with(at_builtin;refine Ng rfl _ _ rfl w.heap.size _ O (x,z) E.heap.size 1 rfl (A0.alloc h _) rfl (Gl E (x,z) _) (by omega) (by have:=B.size;simp;omega) ?_;intro Y Z L a0 M);go_wp2_with fail;go_roundw
   case rel=>exact⟨k+1,O++[(x,z)],by go_num,by omega,by simp;omega,L,N.o,(B.alloc B.size _).trans M⟩
   simp[intOf];omega
 obtain rfl:k=l.length:=by omega
 have N:=AB (by rw[←j.o,AQ];simp[Cq]:Cq l=some O);go_wp2_with fail;go_ret2;exact⟨Or.inl ⟨O,_,N.o,rfl,h⟩,B⟩
theorem Vb(h:s≠[]):Gb (k+1) out s=if(cut s [13,10]).1=[]∧(cut s [13,10]).2.2=true then some (out,(cut s [13,10]).2.1)else match J8 out (cut s [13,10]).1 with
 |none=>none
 |some o=>Gb k o (cut s [13,10]).2.1:=by
 conv=>lhs;unfold Gb
 rw[AI h];show(if(cut s [13,10]).1=[]∧(cut s [13,10]).2.2=true then some (out,(cut s [13,10]).2.1)else _)=_;rfl
theorem Qf(h:s≠[])(p:Bs)(H:p≠[]):(cut s p).1.length+(cut s p).2.1.length≤s.length∧(cut s p).2.1.length<s.length∧((cut s p).1=[]→(cut s p).2.2=true):=by
 rw[Fx];cases c:Ab p s with
 |none=>exact⟨by simp,BE.2 h,fun e=>absurd e h⟩
 |some x=>
  obtain⟨a,b⟩:=x;have e:=AF List.length (Ee c);have:=BE.2 H;simp at e;exact⟨by simp;omega,by simp;omega,fun _=>rfl⟩
theorem Bk.setLast{n:Nat}(a:n=xs.length+1)(h:Bk w B (.slice (some ⟨g,0,none⟩) n cap) (xs++[f]))(y:Bs):Bk (w.setCell ⟨g,xs.length*2+1,none⟩ (.string ⟨y.toArray⟩)) B (.slice (some ⟨g,0,none⟩) n cap) (xs++[(f.1,y)]):=by
 subst a;unfold Bk A0 at h⊢;have b:(xs++[f]).length=xs.length+1:=by simp
 have c:(xs++[(f.1,y)]).length=xs.length+1:=by simp
 rw[b]at h;rw[c];have H:=(FR h (xs.length*2+1) (.string ⟨y.toArray⟩)).1;have e:((xs++[f]).flatMap Au).set (xs.length*2+1) (.string ⟨y.toArray⟩)=(xs++[(f.1,y)]).flatMap Au:=by
  rw[CR,CR,FI _ _ (by rw[Ix Ah];omega),Ix Ah,show xs.length*2+1-xs.length*2=1 by omega];rfl
 rw[e]at H;exact H
theorem Bk.last(h:Bk w B v (xs++[f])):∃g c,v=.slice (some ⟨g,0,none⟩) (xs.length+1) c∧B≤g∧g<w.heap.size∧w.cell? ⟨g,xs.length*2+1,none⟩=some (.string ⟨f.2.toArray⟩)∧w.frozen? ⟨g,xs.length*2+1,none⟩=false:=by
 have H:=h;unfold Bk A0 at H;have b:(xs++[f]).length=xs.length+1:=by simp
 rw[b]at H;obtain⟨a,c,d,e⟩:=C7.open (A0.rd (by decide) Ah h);rw[b]at d;obtain⟨g,i,t,_,j⟩:=e xs.length (by simp);subst i;subst d;refine⟨g,c,rfl,?_,t,?_,World.ownsRow.frozenAt H _⟩
 ·exact(World.ownsRow.lt H g rfl).1
 rw[j];simp
def Qg(m:Nat)(l:List A4):Prop:=∀f∈l,f.1.length≤1000000000∧f.2.length+m≤1000000000
def pC(r:Option (List A4×Bs))(e:Ending)(w':World):Prop:=(∃o rest v,r=some (o,rest)∧o.length≤1000000000∧Qg 0 o∧rest.length≤1000000000∧e=.returned (.tuple #[v,.string ⟨rest.toArray⟩,.nilIface])∧C7 w' v o)∨(∃v,r=none∧e=.returned (.tuple #[.slice none 0 0,.string ⟨#[]⟩,v])∧Gm w' v 3)
theorem pD(s:Bs)(w:World)(hl:s.length≤1000000000)(Y:Cb w):Calls prog 162 #[.string ⟨s.toArray⟩] w fun e W=>pC (Dj s) e W∧Below w.heap.size w W:=by
 go_enter func162,ntmps162;go_wp2_with fail;go_loopw[0,5,6] (fun t o i wr=>∃(rest:Bs)(out:List A4)(n F:Nat),t=.string ⟨rest.toArray⟩∧i=.int .i64 n∧n+rest.length≤1000000000∧out.length≤n∧Bk wr w.heap.size o out∧rest.length<F∧Gb F out rest=Dj s∧Qg rest.length out∧Below w.heap.size w wr) (fun t _ _ _=>I9 t)
 case atStart=>exact⟨s,[],0,s.length+1,rfl,rfl,by omega,by simp,A0.nil _ _ _ _ _,by omega,rfl,fun f D=>by simp at D,AD _ _⟩
 obtain⟨rest,out,n,F,rfl,rfl,b4,a2,p,b5,E,Z,B⟩:=hrel;have v:=AB Z;clear Z;obtain⟨F,rfl⟩:∃m,F=m+1:=⟨F-1,by omega⟩;by_cases A:rest=[]
 ·subst A;have H:=AB (by rw[←E];rfl:Dj s=some (out,[]));clear E;have N:=A0.rd (by decide) Ah p;go_wp2_with fail;go_ret3;exact⟨Or.inl ⟨out,[],_,H.o,by omega,v.o,by simp,rfl,N⟩,B⟩
 have P:=Qf A [13,10] (by decide);have Q:=Vb (k:=F) (out:=out) A;rw[E]at Q;have U:=AB Q;clear Q E;have b6:rest.isEmpty=false:=by rw[AP];simpa using A
 clear A;go_wp2_with fail;refine(L3 rest [13,10] _ (by omega) (Y.next B)).mono ?_;rintro e w2⟨rfl,R⟩;generalize cut rest [13,10]=c at P U⊢;obtain⟨l,r,ok⟩:=c;simp only at P U⊢;obtain⟨a0,b7,G⟩:=P;have p:=A0.next p R;have B:=B.trans (R.mono B.size);clear R;cases l with
 |nil=>
  have G:=G rfl;subst G;have H:=AB (by rw[U.o,AM ⟨rfl,rfl⟩]:Dj s=some (out,r));have N:=A0.rd (by decide) Ah p;go_wp2_with fail;go_ret3;exact⟨Or.inl ⟨out,r,_,H.o,by omega,fun f D=>⟨(v.o f D).1,by have:=(v.o f D).2;omega⟩,by omega,rfl,N⟩,B⟩
 |cons x L=>
  clear G;have z:=AB (by rw[U.o,AI (fun h=>by cases h.1)]:Dj s=match J8 out (x::L)with|none=>none|some o=>Gb F o r);clear U;have a3:(x.toNat:Int)<256:=by have:=x.toNat_lt;omega
  have I:=AB (show Ob (x::L)=(((x.toNat:Int)==32)||((x.toNat:Int)==9))from by
   show(x==32||x==9)=_;have h:∀d:UInt8,(x==d)=((x.toNat:Int)==(d.toNat:Int)):=fun d=>by
    by_cases e:x=d
    ·subst e;simp
    rw[AG.2 e,eq_comm,AG];intro h;exact e (BJ.1 (by omega))
   rw[h 32,h 9];rfl)
  go_upto_region 9 with fail;go_cut[38] (fun t wx=>t=.bool (Ob (x::L))∧wx=w2)
  case first=>
   by_cases C:((x.toNat:Int)==32)=true
   ·go_wp2_with fail;go_meet;exact⟨by rw[I.o,C];rfl,rfl⟩
   have C:=AP.2 C;by_cases J:((x.toNat:Int)==9)=true
   ·go_wp2_with fail;go_meet;exact⟨by rw[I.o,C,J];rfl,rfl⟩
   have J:=AP.2 J;go_wp2_with fail;go_meet;exact⟨by rw[I.o,C,J];rfl,rfl⟩
  case rest=>
  obtain⟨rfl,rfl⟩:=hcut;obtain⟨w2,rfl⟩:∃x:World,x=wc:=⟨_,rfl⟩;clear I a3;have a1:J8 out (x::L)=if Ob (x::L)then(match out.getLast? with|none=>none|some f=>some (out.dropLast++[(f.1,f.2++(x::L))]))else match Ab [58] (x::L)with|none=>none|some (a,b)=>if Eg a then some (out++[(a,b)])else none:=rfl
  have O:=AB a1;clear a1;have a4:(x::L).isEmpty=false:=rfl;have a5:(x::L).length≤1000000000:=by omega
  have S:=Qf (FM x L) [58] (by decide);have u:=AB (Fx [58] (x::L));generalize Ob (x::L)=go at O⊢;have a6:(x::L).length+r.length≤rest.length:=a0;generalize a7:x::L=l at z O a5 S u a6⊢;clear a7 a0 a4;cases go with
  |true=>
   rcases DE out with K|⟨T,f,K⟩
   ·subst K;have H:=AB (by rw[z.o,O.o];rfl:Dj s=none);obtain⟨va,vc,rfl,_⟩:=C7.open (A0.rd (by decide) Ah p);simp only[BN];go_wp2_with fail;go_ret3;exact⟨Or.inr ⟨_,H.o,rfl,Gm.at _ _ _ _⟩,B.alloc B.size _⟩
   rw[DF]at K;subst K;have H:=AB (by rw[z.o,O.o];simp:Dj s=Gb F (T++[(f.1,f.2++l)]) r);obtain⟨g,b8,rfl,a8,b9,c0,c1⟩:=Bk.last p;simp only[AH,AO,BN]at a2;have a9:=v.o f (by simp);have b0:=fun y=>Bk.setLast (n:=T.length+1) rfl p y
   go_wp2_with fail;go_roundw
   case rel=>exact⟨r,T++[(f.1,f.2++l)],n+1,F,rfl,by go_num,by omega,by simp;omega,b0 (f.2++l),by omega,H.o.symm,fun q j=>by
    rcases BP.1 j with j|j
    ·have:=v.o q (by simp[j]);exact⟨this.1,by omega⟩
    simp at j;subst j;exact⟨a9.1,by simp;omega⟩,B.setCell a8 _⟩
   simp;omega
  |false=>
   go_wp2_with fail;refine(L3 l [58] _ (by omega) (Y.next B)).mono ?_;rintro e w3⟨rfl,V⟩;have p:=A0.next p V;have B:=B.trans (V.mono B.size);clear V;generalize cut l [58]=c2 at S u⊢;obtain⟨a,b,b1⟩:=c2;simp only at S u⊢;have ha:a.length≤1000000000:=by omega
   cases b1 with
   |false=>
    have H:=AB (show Dj s=none from by
     rw[z.o,O.o];cases M:Ab [58] l with
     |none=>rfl
     |some q=>have:=u.o;rw[M]at this;simp at this)
    go_wp2_with fail;go_ret3;exact⟨Or.inr ⟨_,H.o,rfl,Gm.at _ _ _ _⟩,B.alloc B.size _⟩
   |true=>
    have H:=AB (show Dj s=match(if Eg a then some (out++[(a,b)])else none)with|none=>none|some o=>Gb F o r from by
     rw[z.o,O.o];cases M:Ab [58] l with
     |none=>have:=u.o;rw[M]at this;simp at this
     |some q=>have:=u.o;rw[M]at this;simp at this;rw[this.1,this.2];rfl)
    clear z O u;go_wp2_with fail;refine(Yw a _ (by omega)).mono ?_;rintro e W⟨rfl,rfl⟩;generalize Eg a=nb at H⊢;cases nb with
    |false=>
     have X:=AB (by rw[H.o];rfl:Dj s=none);go_wp2_with fail;go_ret3;exact⟨Or.inr ⟨_,X.o,rfl,Gm.at _ _ _ _⟩,B.alloc B.size _⟩
    |true=>
     have X:=AB (by rw[H.o];rfl:Gb F (out++[(a,b)]) r=Dj s);go_wp2_with(at_builtin;refine Ng rfl _ _ rfl w.heap.size _ out (a,b) w3.heap.size 1 rfl (A0.alloc p _) rfl (Gl w3 (a,b) _) (by omega) (by have:=B.size;simp;omega) ?_;intro v' w4 b2 c3 b3);go_wp2_with fail;go_roundw
     case rel=>exact⟨r,out++[(a,b)],n+1,F,rfl,by go_num,by omega,by simp;omega,b2,by omega,X.o,fun q j=>by
      rcases BP.1 j with j|j
      ·have:=v.o q j;exact⟨this.1,by omega⟩
      simp at j;subst j;exact⟨ha,by simp;omega⟩,(B.alloc B.size _).trans b3⟩
     simp;omega
def nb(l:Bs):Nat:=(l.takeWhile (fun c=>c==32)).length
def nw(l:Bs):Nat:=(l.takeWhile (fun c=>c !=32)).length
def D8(l:Bs):Nat:=nb l+nw (l.drop (nb l))
theorem pE(l:Bs):nb l≤l.length:=(FF _).length_le
theorem pF(l:Bs):nw l≤l.length:=(FF _).length_le
theorem Zd(l:Bs):D8 l≤l.length:=by
 have H:=pE l;have h:=pF (l.drop (nb l));unfold D8;simp at h;omega
theorem Vc(h:l≠[]):1≤D8 l:=by
 cases l with
 |nil=>exact absurd rfl h
 |cons c l=>
  unfold D8;by_cases H:c=32
  ·have:1≤nb (c::l):=by unfold nb;rw[DG];simp[H]
   omega
  have a:nb (c::l)=0:=by unfold nb;rw[DG];simp[H]
  have b:1≤nw (c::l):=by unfold nw;rw[DG];simp[H]
  rw[a,DP];omega
def Hi:Nat→Bs→Bs→Bs
 |0,_,_=>[]
 |k+1,h,rest=>
  if rest=[]then h++[13,10]
  else(if h.length+D8 rest>76 then h++[13,10]else[])++Hi k ((if h.length+D8 rest>76 then[]else h)++rest.take (D8 rest)) (rest.drop (D8 rest))
def Lr(h rest:Bs):Bs:=Hi (rest.length+1) h rest
theorem Sf:∀(k:Nat)(H rest:Bs),(Hi k H rest).length≤H.length+2+3*rest.length
 |0,_,_=>by simp[Hi]
 |k+1,H,rest=>by
  unfold Hi;split
  ·simp
  rename_i h;have p:=Vc h;have e:=Zd rest;have ih:=Sf k ((if H.length+D8 rest>76 then[]else H)++rest.take (D8 rest)) (rest.drop (D8 rest));split at ih
  ·rename_i a;rw[AM a,AM a];simp at ih⊢;omega
  rename_i a;rw[AI a,AI a];simp at ih⊢;omega
theorem Ze(h:k<l.length):nb (l.drop k)=if l[k]=32 then 1+nb (l.drop (k+1))else 0:=by
 rw[Qb h];unfold nb;rw[DG];by_cases H:l[k]=32
 ·simp[H];omega
 simp[H]
theorem Zf(h:k<l.length):nw (l.drop k)=if l[k]=32 then 0 else 1+nw (l.drop (k+1)):=by
 rw[Qb h];unfold nw;rw[DG];by_cases H:l[k]=32
 ·simp[H]
 simp[H];omega
theorem pG(B b:Nat)(l d rest:Bs)(w:World)(h:Dc B b l w)(K:B≤w.heap.size)(h1:l.length≤10000000000000)(h2:d.length≤1000000000000)(h3:rest.length≤1000000000000):Calls prog 272 #[.pointer (some ⟨b,0,none⟩),.string ⟨d.toArray⟩,.string ⟨rest.toArray⟩] w fun e L=>e=.returned (.tuple #[])∧Dc B b (l++Lr d rest) L∧Below B w L:=by
 have Y:=Sf (rest.length+1) d rest;have M:=AB (by rfl:Lr d rest=Hi (rest.length+1) d rest);generalize O:Hi (rest.length+1) d rest=T at Y M;have Z:=AB O;clear O;go_enter func272,ntmps272;go_wp2_with fail;go_loopw[1,2] (fun x y wr=>∃(H r o:Bs)(f:Nat),x=.string ⟨H.toArray⟩∧y=.string ⟨r.toArray⟩∧H.length+r.length≤2000000000000∧r.length<f∧o++Hi f H r=T∧Dc B b (l++o) wr∧Below B w wr) (fun _ y _=>I9 y)
 case atStart=>exact⟨d,rest,[],rest.length+1,rfl,rfl,by omega,by omega,Z.o,by rw[BM];exact h,AD _ _⟩
 obtain⟨H,r,o,f,rfl,rfl,a3,a4,P,g,p⟩:=hrel;have z:=AB P;clear P;obtain⟨f,rfl⟩:∃m,f=m+1:=⟨f-1,by omega⟩;have a5:=AB (Sf (f+1) H r);have Q:o.length+(Hi (f+1) H r).length=T.length:=by rw[←z.o];simp
 have HO:=AB Q;clear Q;go_wp2_with fail;obtain⟨W,rfl⟩:∃W:World,W=wr:=⟨_,rfl⟩;go_loop[6] (fun i=>∃k:Nat,i=.int .i64 k∧k≤r.length∧nb r=k+nb (r.drop k)) (fun i=>r.length-(intOf i).toNat)
 case atStart=>exact⟨0,rfl,by omega,by simp⟩
 obtain⟨k,rfl,R,S⟩:=hrel;have C:=AB S;clear S;by_cases c:∃h:k<r.length,r[k]=32
 ·obtain⟨a,q⟩:=c;have D:=AB (by rw[Ze a,AM q]:nb (r.drop k)=1+nb (r.drop (k+1)));go_wp2_with fail
  go_round
  case rel=>exact⟨k+1,by go_num,by omega,by rw[C.o,D.o];omega⟩
  simp[intOf];omega
 have U:nb r=k:=by
  rw[C.o];by_cases a:k<r.length
  ·rw[Ze a,AI (fun h=>c ⟨a,h⟩)];rfl
  rw[BK (by omega)];simp[nb]
 have V:=AB (by unfold D8;rw[U]:D8 r=k+nw (r.drop k));have s:=AB c;clear c U C;go_upto_region 1 with fail;go_cut[16] (fun t E=>t=.bool false∧E=W)
 case first=>
  by_cases a:k<r.length
  ·have a0:((r[k].toNat:Int)==32)=false:=by rw[AG];intro h;exact s.o ⟨a,BJ.1 (by simp;omega)⟩
   go_wp2_with fail;go_meet;exact⟨rfl,rfl⟩
  go_wp2_with fail;go_meet;exact⟨rfl,rfl⟩
 case rest=>
 obtain⟨rfl,rfl⟩:=hcut;obtain⟨W,rfl⟩:∃W:World,W=wc:=⟨_,rfl⟩;clear s;go_wp2_with fail;go_loop[6] (fun i=>∃m:Nat,i=.int .i64 m∧m≤r.length∧D8 r=m+nw (r.drop m)) (fun i=>r.length-(intOf i).toNat)
 case atStart=>exact⟨k,rfl,R,V.o⟩
 clear V R;obtain⟨m,rfl,hm,X⟩:=hrel;have F:=AB X;clear X;by_cases c:∃h:m<r.length,r[m]≠32
 ·obtain⟨a,q⟩:=c;have a0:((r[m].toNat:Int)!=32)=true:=by rw[CZ];intro h;exact q (BJ.1 (by simp;omega))
  have D:=AB (by rw[Zf a,AI q]:nw (r.drop m)=1+nw (r.drop (m+1)));clear q;go_wp2_with fail
  go_round
  case rel=>exact⟨m+1,by go_num,by omega,by rw[F.o,D.o];omega⟩
  simp[intOf];omega
 have G:D8 r=m:=by
  rw[F.o];by_cases a:m<r.length
  ·rw[Zf a,AM (Decidable.not_not.1 fun h=>c ⟨a,h⟩)];rfl
  rw[BK (by omega)];simp[nw]
 have s:=AB c;clear c F;go_upto_region 3 with fail;go_cut[28] (fun t E=>t=.bool false∧E=W)
 case first=>
  by_cases a:m<r.length
  ·have a6:r[m]=32:=Decidable.not_not.1 fun h=>s.o ⟨a,h⟩
   go_wp2_with fail;go_meet;exact⟨rfl,rfl⟩
  go_wp2_with fail;go_meet;exact⟨rfl,rfl⟩
 case rest=>
 obtain⟨rfl,rfl⟩:=hcut;obtain⟨W,rfl⟩:∃W:World,W=wc:=⟨_,rfl⟩;clear s;by_cases u:r=[]
 ·subst u;have N:=AB (by rw[←z.o];unfold Hi;rw[AM rfl]:o++(H++[13,10])=T);have n:=AF List.length N.o;simp at n;have I:=AB n;clear n;go_wp2_with fail;refine(Jd B b (l++o) (H++[13,10]) _ g (by have:=I.o;simp;omega) (BC K p.size)).mono ?_;rintro e w2⟨rfl,g,J⟩;go_wp2_with fail;refine AL (v:=.tuple #[]) (by simp[results,results272,go_sem]) rfl ⟨rfl,by rw[M.o,←N.o,←AJ];exact g,p.trans J⟩
 have a7:r.isEmpty=false:=by rw[AP];simpa using u
 have a1:=Vc u;rw[G]at a1;have N:=AB (by rw[←z.o,←G];conv=>rhs;unfold Hi;rw[AI u]:o++((if H.length+m>76 then H++[13,10]else[])++Hi f ((if H.length+m>76 then[]else H)++r.take m) (r.drop m))=T);clear u G z;by_cases j:76<H.length+m
 ·have a2:(76:Int)<(H.length:Int)+(m:Int):=by omega
  have A:=AB (by rw[←N.o,AM j,AM j];simp:o++(H++[13,10])++Hi f (r.take m) (r.drop m)=T);have n:=AF List.length A.o;simp only[AH]at n;have I:=AB n;clear n N j;go_wp2_with fail;refine(Jd B b (l++o) (H++[13,10]) _ g (by have:=I.o;simp at this⊢;omega) (BC K p.size)).mono ?_;rintro e w2⟨rfl,g,J⟩;go_wp2_with fail;go_roundw
  case rel=>exact⟨r.take m,r.drop m,o++(H++[13,10]),f,rfl,rfl,by simp;omega,by simp;omega,A.o,by rw[←AJ];exact g,p.trans J⟩
  simp;omega
 have a2:(H.length:Int)+(m:Int)≤76:=by omega
 have A:=AB (by rw[←N.o,AI j,AI j];simp:o++Hi f (H++r.take m) (r.drop m)=T);clear N j;go_wp2_with fail;go_roundw
 case rel=>exact⟨H++r.take m,r.drop m,o,f,rfl,rfl,by simp;omega,by simp;omega,A.o,g,p⟩
 simp;omega
def Fl(f:A4):Bs:=(cut f.2 [32]).1
def F6:List A4→Option Bs
 |[]=>some []
 |f::l=>if Ca [f]then(F6 l).map (Lr (f.1++58::32::Fl f) (f.2.drop (Fl f).length)++·)else none
def D0(l:List A4):Option Bs:=(F6 l).map (·++[13,10])
theorem Zg(w:World)(x y:Bs)(t:TypeId):C7 (w.alloc (.cells #[.string ⟨x.toArray⟩,.string ⟨y.toArray⟩] t)) (.slice (some ⟨w.heap.size,0,none⟩) 1 1) [(x,y)]:=by
 refine⟨_,1,rfl,fun _=>⟨w.heap.size,rfl,by simp,fun j h=>?_⟩⟩;rw[(A1.new w #[.string ⟨x.toArray⟩,.string ⟨y.toArray⟩] t).cell]
 match j,h with
 |0,_=>rfl
 |1,_=>rfl
theorem Zh(h rest:Bs):(Lr h rest).length≤h.length+2+3*rest.length:=Sf _ _ _
def Qh(n:Int)(r:Option Bs)(e:Ending)(w':World):Prop:=(∃o,r=some o∧e=.returned (.tuple #[.string ⟨o.toArray⟩,.nilIface]))∨(∃v,r=none∧e=.returned (.tuple #[.string ⟨#[]⟩,v])∧Gm w' v n)
theorem Zi(v:Value)(l:List A4)(w:World)(t:C7 w v l)(a3:l.length≤1000000)(u:∀f∈l,f.1.length≤1000000∧f.2.length≤1000000)(P:Cb w):Calls prog 199 #[v] w fun e w'=>Qh 1 (D0 l) e w'∧Below w.heap.size w w':=by
 have Q:=AB u;clear u;obtain⟨a,a4,rfl,z⟩:=t.open;have R:=AB z;clear z t;have S:=N9 w;go_enter func199,ntmps199;go_wp2_with fail;go_loopw[12] (fun i wr=>∃(k:Nat)(o:Bs),i=.int .i64 k∧k≤l.length∧o.length≤k*5000010∧Dc w.heap.size w.heap.size o wr∧(F6 (l.drop k)).map (o++·)=F6 l∧Below w.heap.size w wr) (fun i _=>l.length-(intOf i).toNat)
 case atStart=>exact⟨0,[],rfl,by omega,by simp,S,by simp,by go_grown⟩
 obtain⟨k,o,rfl,hk,a5,H,A,B⟩:=hrel;have j:=AB A;clear A;by_cases E:k<l.length
 ·obtain⟨b,rfl,F,G,I⟩:=R.o k E;have r:=Q.o l[k] (AN _);have D:=AB (by rw[AE E];rfl:F6 (l.drop k)=if Ca [l[k]]then(F6 (l.drop (k+1))).map (Lr (l[k].1++58::32::Fl l[k]) (l[k].2.drop (Fl l[k]).length)++·)else none);have C:=(B.cell (p:=⟨b,k*2,none⟩) F).trans G;have m:=(B.cell (p:=⟨b,k*2+1,none⟩) F).trans I;clear G I;generalize l[k]=f at r D C m;obtain⟨x,y⟩:=f;simp only at r D C m;obtain⟨hx,hy⟩:=r;have K:=(A1.new wr #[.string ⟨x.toArray⟩,.string ⟨y.toArray⟩] 92).alloc (.cells #[.string ⟨x.toArray⟩,.string ⟨y.toArray⟩] 92);have s:=Zg (wr.alloc (.cells #[.string ⟨x.toArray⟩,.string ⟨y.toArray⟩] 92)) x y 92;have H:=H.next (w':=(wr.alloc (.cells #[.string ⟨x.toArray⟩,.string ⟨y.toArray⟩] 92)).alloc (.cells #[.string ⟨x.toArray⟩,.string ⟨y.toArray⟩] 92)) (((AD _ _).alloc (AC _) _).alloc (by simp) _);have B:=(B.alloc B.size (.cells #[.string ⟨x.toArray⟩,.string ⟨y.toArray⟩] 92)).alloc (B.alloc B.size (.cells #[.string ⟨x.toArray⟩,.string ⟨y.toArray⟩] 92)).size (.cells #[.string ⟨x.toArray⟩,.string ⟨y.toArray⟩] 92);rw[AV]at s;go_wp2_with fail;refine(Va _ [(x,y)] _ s ⟨by simp,fun q d=>by simp at d;subst d;exact⟨by simp;omega,by simp;omega⟩⟩).mono ?_;rintro e T⟨rfl,g⟩;have K:=K.next g K.lt;have H:=H.next g;have B:=B.trans (g.mono B.size);clear g s C m;have J:=K.cell;generalize Ca [(x,y)]=U at D⊢;cases U with
  |false=>
   have N:=AB (by unfold D0;rw[←j.o,D.o];rfl:D0 l=none);go_wp2_with fail;go_ret2;exact⟨Or.inr ⟨_,N.o,rfl,Gm.at _ _ _ _⟩,B.alloc B.size _⟩
  |true=>
   have hF:=AB (by rfl:Fl (x,y)=(cut y [32]).1);have L:(cut y [32]).1.length≤y.length:=by
    by_cases h:y=[]
    ·subst h;decide
    have:=(Qf h [32] (by decide)).1;omega
   go_wp2_with fail;refine(L3 y [32] _ (by omega) (P.next B)).mono ?_;rintro e w3⟨rfl,n⟩;have K:=K.next n K.lt;have H:=H.next n;have B:=B.trans (n.mono B.size);clear n J;generalize Fl (x,y)=q at D hF;have d:(cut y [32]).1=q:=hF.o.symm;generalize cut y [32]=c at L d⊢;obtain⟨C,m,c3⟩:=c;simp only at L d⊢;subst d;clear hF;have N:=AB (by rw[←j.o,D.o];simp only[DC];cases F6 (l.drop (k+1))<;>simp:(F6 (l.drop (k+1))).map ((o++Lr (x++58::32::C) (y.drop C.length))++·)=F6 l);clear D j;have M:=Zh (x++58::32::C) (y.drop C.length);have a6:(Lr (x++58::32::C) (y.drop C.length)).length≤5000010:=by simp only[AH,AS,AO]at M;omega
   clear M;go_upto_region 8 with fail;have rc:=(A1.drew K).cell;have J:=K.cell;have i1:(C.length:Int)≤y.length:=by omega
   have i2:(0:Int)≤C.length:=by omega
   have V:=fun W(X:Dc w.heap.size w.heap.size o W)(Y:w.heap.size≤W.heap.size)=>pG w.heap.size w.heap.size o (x++58::32::C) (y.drop C.length) W X Y (by omega) (by simp;omega) (by simp;omega)
   have Z:=H.drew;have O:=B.drew;have a0:=O.size;have g1:¬9223372036854775807<x.length+2:=by omega
   have g2:¬9223372036854775807<x.length+2+C.length:=by omega
   have g3:¬9223372036854775807<x.length+(C.length+1+1):=by omega
   go_region_law((go_simp;refine(V _ Z a0).mono ?_;rintro e w4⟨rfl,a1,a2⟩));all_goals
    go_wp2_with fail;go_roundw
    case rel=>exact⟨k+1,_,by go_num,by omega,by simp;omega,a1,N.o,O.trans a2⟩
    simp[intOf];omega
 obtain rfl:k=l.length:=by omega
 have N:=AB (by unfold D0;rw[←j.o,AQ];simp[F6]:D0 l=some (o++[13,10]));go_wp2_with fail;refine(Oi _ _ _ _ H B.size).mono ?_;rintro e T⟨rfl,g⟩;go_wp2_with fail;go_ret2;exact⟨Or.inl ⟨_,N.o,rfl⟩,B.trans g⟩
end Go.Proofs.YtignjjnflcpiiaaGreatDoor
namespace Go.Proofs.YtignjjnflcpiiaaGreatDoor
open Go Go.RowKit Proofs.Tryz Lib
inductive A8 where
 |mk:List A4→Bs→Bool→List A8→A8
def A8.head:A8→List A4| .mk h _ _ _=>h
def A8.body:A8→Bs| .mk _ b _ _=>b
def A8.many:A8→Bool| .mk _ _ m _=>m
def A8.parts:A8→List A8| .mk _ _ _ l=>l
def Bu:Bs:=[67,111,110,116,101,110,116,45,84,121,112,101]
def Bl:Bs:=[67,111,110,116,101,110,116,45,84,114,97,110,115,102,101,114,45,69,110,99,111,100,105,110,103]
def Jv:Bs:=[109,117,108,116,105,112,97,114,116,47]
def C9:Bs:=[98,111,117,110,100,97,114,121]
def Iz:Bs:=[55,98,105,116]
def Mo:Bs:=[56,98,105,116]
def Mp:Bs:=[98,105,110,97,114,121]
def Ib:Bs:=[98,97,115,101,54,52]
def Hw:Bs:=[113,117,111,116,101,100,45,112,114,105,110,116,97,98,108,101]
def J0(b:Bs):Bool:=b.isEmpty||decide (70<b.length)||hasSuffix b [32]
def Bg(l:List A4):Option (Option Bs):=
 match Ai l Bu with
 |none=>some none
 |some v=>match Ay v with
  |none=>none
  |some (m,p)=>if hasPrefix m Jv then
   match C5 p C9 with
   |none=>none
   |some b=>if J0 b then none else some (some b)
   else some none
def Ic(s:Bs)(i o:Nat):Bs:=(s.drop o).take (max (i-2) o-o)
def Je(s:Bs)(i:Nat)(op:Option Nat)(out:List Bs):List Bs:=match op with
 |none=>out
 |some o=>out++[Ic s i o]
def Hx(l b:Bs):Option Bs:=if hasPrefix l (45::45::b)then some (trimS (trimPrefix l (45::45::b)) [32,9])else none
def Et(s b:Bs):Nat→Nat→Option Nat→List Bs→Option (List Bs)
 |0,_,_,_=>none
 |k+1,i,o,O=>
  if s.length<i then none else
  let l:=(cut (s.drop i) [13,10]).1
  match Hx l b with
  |none=>Et s b k (i+l.length+2) o O
  |some t=>if t=[45,45]then some (Je s i o O)
   else if t=[]then Et s b k (i+l.length+2) (some (min (i+l.length+2) s.length)) (Je s i o O)
   else Et s b k (i+l.length+2) o O
def Dm(s b:Bs):Option (List Bs):=Et s b (s.length+2) 0 none []
def Dg(l:List A4)(s:Bs):Except Int Bs:=
 match Ai l Bl with
 |none=>.ok s
 |some v=>
  if A2 v=Iz∨A2 v=Mo∨A2 v=Mp then .ok s
  else if A2 v=Ib then(match Ef s with|none=>.error 3|some x=>.ok x)
  else if A2 v=Hw then(match E6 s with|none=>.error 3|some x=>.ok x)
  else .error 5
def By{α β:Type}(f:Nat→α→Except Int (β×Nat)):Nat→List α→Except Int (List β×Nat)
 |n,[]=>.ok ([],n)
 |n,x::X=>match f n x with
  | .error e=>.error e
  | .ok (y,N)=>match By f N X with
   | .error e=>.error e
   | .ok (Y,m)=>.ok (y::Y,m)
def Az:Nat→Nat→Bs→Except Int (A8×Nat)
 |0,_,_=>.error 4
 |_+1,0,_=>.error 4
 |d+1,L+1,s=>match Dj s with
  |none=>.error 3
  |some (a,B)=>match Cq a with
   |none=>.error 1
   |some l=>match Bg l with
    |none=>.error 3
    |some none=>(match Dg l B with
     | .error e=>.error e
     | .ok b=>.ok (.mk l b false [],L))
    |some (some b)=>match Dm B b with
     |none=>.error 3
     |some p=>match By (Az d) L p with
      | .error e=>.error e
      | .ok (q,n)=>.ok (.mk l [] true q,n)
def E8(s:Bs):Except Int A8:=if 20000<s.length then .error 4 else(Az 4 40 s).map (·.1)
def Bz(l:List A4):List A4:=l.filter fun f=>!(A2 f.1==A2 Bl)
def Ch:List A4→Bs→Bs→List A4
 |[],_,_=>[]
 |f::l,n,b=>if f.1=n then(f.1,b)::l else f::Ch l n b
def El(v b:Bs):Bs:=let x:=(Ay v).getD ([],[]);(Cz x.1 (Ch x.2 C9 b)).getD []
def Dr:List A4→Bs→List A4
 |[],_=>[]
 |f::l,b=>if A2 f.1=A2 Bu then(f.1,El f.2 b)::l else f::Dr l b
def Hj(p:Nat→Bool):Nat→Nat→Nat
 |0,n=>n
 |k+1,n=>if p n then n else Hj p k (n+1)
def Dd(p:Bs)(l:List Bs)(n:Nat):Bool:=l.any fun s=>contains s (p++itoa n)
def Bd(l:List Bs):Nat:=(l.map List.length).sum
def Hy(p:Bs)(l:List Bs):Nat:=Hj (fun n=>!Dd p l n) (20*(Bd l+l.length+1)) 0
def Cj(l:List Bs):Bs:=98::itoa (Hy [45,45,98] l)
def L8(c:UInt8):Bool:=c==9||(decide (32≤c)&&decide (c≤126))
def Ie(s:Bs):Bool:=(replaceAll s [13,10] []).all L8
def Ck(s:Bs):Bs×Bs:=
 if Ie s then(Iz,s)else
 if(Fh s).length≤(Ew s).length then(Hw,Fh s)else(Ib,Ew s)
def Dw(b:Bs)(l:List Bs):Bs:=l.flatMap fun s=>45::45::(b++13::10::(s++[13,10]))
def Nh(h:List A4)(body:Bs):Option Bs:=(D0 (Bz h++[(Bl,(Ck body).1)])).map (·++(Ck body).2)
def Mq(h:List A4)(l:List Bs):Option Bs:=(D0 (Dr (Bz h) (Cj l))).map (·++(Dw (Cj l) l++45::45::(Cj l++[45,45,13,10])))
def Bh:Nat→Nat→A8→Except Int (Bs×Nat)
 |0,_,_=>.error 4
 |_+1,0,_=>.error 4
 |d+1,L+1,.mk h b m p=>
  if Ca h=false then .error 1 else
  match Bg h with
  |none=>.error 1
  |some o=>
   if o.isSome≠m then .error 1
   else if m then(if b≠[]then .error 1 else match By (Bh d) L p with
    | .error e=>.error e
    | .ok (l,n)=>match Mq h l with
     |none=>.error 1
     |some s=>.ok (s,n))
   else if p≠[]then .error 1 else match Nh h b with
    |none=>.error 1
    |some s=>.ok (s,L)
def Ig(p:A8):Except Int Bs:=match Bh 4 40 p with
 | .error e=>.error e
 | .ok (s,_)=>if 20000<s.length then .error 4 else .ok s
theorem Ot{p:UInt8→Bool}:∀{l:Bs}{x:UInt8}{t:Bs},l.dropWhile p=x::t→p x=false
 |[],_,_,h=>by simp at h
 |a::l,x,t,h=>by
  rw[EO]at h;split at h
  ·exact Ot h
  rename_i H;injection h with b _;subst b;simpa using H
theorem pH(l:Bs):l.drop (D8 l)=[]∨∃t,l.drop (D8 l)=32::t:=by
 have e:l.drop (D8 l)=(l.drop (nb l)).dropWhile (fun c=>c !=32):=by
  unfold D8;rw[←DW];exact Up _ _
 rw[e];cases h:(l.drop (nb l)).dropWhile (fun c=>c !=32)with
 |nil=>exact Or.inl rfl
 |cons x t=>
  right;have:=Ot h;simp at this;exact⟨t,by rw[this]⟩
theorem pI(f:A4):f.2.drop (Fl f).length=[]∨∃t,f.2.drop (Fl f).length=32::t:=by
 unfold Fl;rw[Fx];cases h:Ab [32] f.2 with
 |none=>left;simp
 |some x=>
  obtain⟨a,b⟩:=x;right;have:=Ee h;rw[this];exact⟨b,by simp⟩
theorem pJ(f:A4):Fl f++f.2.drop (Fl f).length=f.2:=by
 unfold Fl;rw[Fx];cases h:Ab [32] f.2 with
 |none=>simp
 |some x=>
  obtain⟨a,b⟩:=x;have:=Ee h;rw[this];simp
theorem Zj{l:List A4}(h:Ca l=true):∃t,D0 l=some t:=by
 have k:∀l:List A4,Ca l=true→∃t,F6 l=some t:=by
  intro l;induction l with
  |nil=>exact fun _=>⟨[],rfl⟩
  |cons f l ih=>
   intro h;have a:Ca [f]=true∧Ca l=true:=by
    unfold Ca at h⊢;simp only[FA,BL,List.all_nil]at h⊢;exact⟨⟨h.1,trivial⟩,h.2⟩
   obtain⟨t,H⟩:=ih a.2;unfold F6;rw[AM a.1,H];exact⟨_,rfl⟩
 obtain⟨t,H⟩:=k l h;unfold D0;rw[H];exact⟨_,rfl⟩
theorem Qi(c:UInt8)(v cs:Bs):trimRightS (c::v) cs=if trimRightS v cs=[]then(if cs.contains c then[]else[c])else c::trimRightS v cs:=by
 unfold trimRightS;rw[List.reverse_cons];have k:∀l:Bs,(l++[c]).dropWhile (cs.contains ·)=if l.dropWhile (cs.contains ·)=[]then(if cs.contains c then[]else[c])else l.dropWhile (cs.contains ·)++[c]:=by
  intro l;induction l with
  |nil=>simp[EO]
  |cons x l ih=>
   rw[CK,EO,EO];split
   ·exact ih
   simp
 rw[k];split
 ·rename_i h;rw[h];simp;split<;>simp
 rename_i h;rw[AI (by simpa using h)];simp
theorem pK{c:UInt8}{cs:Bs}(h:cs.contains c=true)(v:Bs):trimS (c::v) cs=trimS v cs:=by
 unfold trimS;rw[Qi];split
 ·rename_i H;rw[H]
 unfold trimLeftS;rw[EQ h]
abbrev J1(B b:Nat)(l:Bs)(w:World):Prop:=IsBuilderF 128 5 B b (byteCells l) w
abbrev Vd(b:Nat)(w w':World):Prop:=OthersKept 5 (some b) w w'
theorem pL(w:World):J1 w.heap.size w.heap.size [] (w.alloc (.cells #[.pointer none,.slice none 0 0] 128)):=(N9 w).imp BuilderAtF.of BuilderAtF.of
theorem Ve(B b:Nat)(l s:Bs)(w:World)(h:J1 B b l w)(H:l.length+s.length≤140737488355328)(a:B≤w.heap.size):Calls prog 78 #[.pointer (some ⟨b,0,none⟩),.string ⟨s.toArray⟩] w fun e W=>e=.returned (.tuple #[.int .i64 s.length,.nilIface])∧J1 B b (l++s) W∧Below B w W∧Vd b w W:=by
 refine(Any.Builder_WriteString_k {Pz with} Q0 B b (byteCells l) ⟨s.toArray⟩ w h (by rw[FU];exact H) a).mono ?_;rintro e W⟨rfl,c,d,f⟩;refine⟨rfl,Or.inr ?_,d,f⟩;have e:byteCells l++strCells ⟨s.toArray⟩=byteCells (l++s):=by simp[byteCells,strCells]
 rw[←e];exact c
theorem pM(B b:Nat)(l:Bs)(w:World)(h:J1 B b l w)(H:B≤w.heap.size):Calls prog 80 #[.pointer (some ⟨b,0,none⟩)] w fun e W=>e=.returned (.string ⟨l.toArray⟩)∧J1 B b l W∧Below B w W∧Vd b w W:=Any.Builder_String_any_k {Pz with} Q0 B b l w h H
variable {w w':World}{n k B b g:Nat}{e t:TypeId}
theorem pN{v:Value}{xs:List Value}(h:w.ownsRowF B e k v n xs)(c:Below w.heap.size w w'):w'.ownsRowF B e k v n xs:=by
 rcases h with⟨d,H⟩;refine⟨d,?_⟩;rcases H with H|⟨g,C,f,F,i,j,a,r⟩
 ·exact Or.inl H
 have t:g<w.heap.size:=by
  rcases CN g w.heap.size with b|b
  ·exact b
  rw[CL b]at a;cases a
 exact Or.inr ⟨g,C,f,F,i,j,(c.block g t).trans a,r⟩
theorem J1.next{l:Bs}(h:J1 B b l w)(c:Below w.heap.size w w'):J1 B b l w':=by
 have g:∀p,BuilderAtF 128 5 B b p (byteCells l) w→BuilderAtF 128 5 B b p (byteCells l) w':=by
  rintro p⟨d,v,H,e,f⟩;have t:b<w.heap.size:=by
   rcases CN b w.heap.size with a|a
   ·exact a
   rw[CL a]at H;cases H
  exact⟨d,v,(c.block b t).trans H,pN e c,f⟩
 exact h.imp (g _) (g _)
theorem J1.drew{B b:Nat}{l:Bs}{w:World}(h:J1 B b l w):J1 B b l w.drew:=h.imp (·.drew) (·.drew)
theorem J1.lt{B b:Nat}{l:Bs}{w:World}(h:J1 B b l w):b<w.heap.size:=h.elim (·.lt) (·.lt)
theorem A1.Vf{C:Array Value}(h:A1 w g C t)(H:Vd b w w')(a:g≠b)(d:t≠5):A1 w' g C t:=by
 exact H g _ h (fun e=>a (CS e)) (fun c f e=>d (by injection e))
end Go.Proofs.YtignjjnflcpiiaaGreatDoor
