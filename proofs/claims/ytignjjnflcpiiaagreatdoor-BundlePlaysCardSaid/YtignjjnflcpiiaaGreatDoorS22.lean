/- What an error tells: api.Tell of none, of an Errno, of an -/
import Derived.Lib.AppendIntMem
import Derived.Test.YtignjjnflcpiiaaGreatDoorS08
import Derived.Test.YtignjjnflcpiiaaGreatDoorS15
import Derived.Test.YtignjjnflcpiiaaGreatDoorS20
set_option linter.all false
set_option maxHeartbeats 16000000
set_option maxRecDepth 100000
namespace Go.Proofs.YtignjjnflcpiiaaGreatDoor
open Go Go.RowKit Go.Extern.Stop Go.Stop Go.Extern
theorem Qz(v:Value)(n:Int)(w:World)(d:Gm w v n)(h:Gr w):Calls Tryz.prog 12 #[v] w fun e W=>e=.returned (.int .i64 n)∧Below w.heap.size w W:=by
 have A:=(h.next ((AD _ w).alloc (AC _) (.cells #[.int .i64 0] 30))).et;have a:=A1.new w #[.int .i64 0] 30;rcases d with⟨rfl,rfl⟩|rfl|⟨b,p,rfl,c,_⟩
 ·go_enter Tryz.func12,Tryz.ntmps12
  go_wp2
  go_ret;exact⟨rfl,AD _ _⟩
 ·have H:=wD n ⟨w.heap.size,0,none⟩ (.int .i64 0) (w.alloc (.cells #[.int .i64 0] 30)) A (a.cell 0) (a.free 0);go_enter Tryz.func12,Tryz.ntmps12;go_wp2_with fail;refine H.mono ?_;rintro e f⟨rfl,rfl⟩;go_wp2_with fail;go_ret;exact⟨rfl,by go_grown⟩
 have t:b<w.heap.size:=AY w _ c;have H:=wK n b ⟨w.heap.size,0,none⟩ (.int .i64 0) (w.alloc (.cells #[.int .i64 0] 30)) A (a.cell 0) (a.free 0) (by rw[CC _ _ ⟨b,0,none⟩ t];exact c);go_enter Tryz.func12,Tryz.ntmps12;go_wp2_with fail;refine H.mono ?_;rintro e f⟨rfl,rfl⟩;go_wp2_with fail;go_ret;exact⟨rfl,by go_grown⟩
end Go.Proofs.YtignjjnflcpiiaaGreatDoor
namespace Go.Proofs.YtignjjnflcpiiaaGreatDoor
open Go Go.RowKit Proofs.Tryz Lib
structure A5(lb B:Nat)(w w':World):Prop where
 os:w'.os=w.os
 tape:w'.tape=w.tape
 output:w'.output=w.output
 size:w.heap.size≤w'.heap.size
 block:∀k,k<B→k≠lb→w'.heap[k]?=w.heap[k]?
theorem A5.refl(lb B:Nat)(w:World):A5 lb B w w:=⟨rfl,rfl,rfl,AC _,fun _ _ _=>rfl⟩
theorem A5.of{lb B:Nat}{w w':World}(h:Below B w w'):A5 lb B w w':=⟨h.os,h.tape,h.output,h.size,fun k H _=>h.block k H⟩
theorem A5.trans{lb B:Nat}{a b c:World}(h:A5 lb B a b)(k:A5 lb B b c):A5 lb B a c:=⟨k.os.trans h.os,k.tape.trans h.tape,k.output.trans h.output,BC h.size k.size,fun i H n=>(k.block i H n).trans (h.block i H n)⟩
variable {B' j b e m i:Nat}{a:Go.Addr}{α:Type}{P:Nat → Prop}{p:A8}{R op:Option Nat}{out:List Bs}{s:Bs}
theorem A5.mono{lb B:Nat}{w w':World}(h:A5 lb B w w')(H:B'≤B):A5 lb B' w w':=⟨h.os,h.tape,h.output,h.size,fun k a n=>h.block k (CG a H) n⟩
theorem A5.set{lb B:Nat}{a w:World}(h:A5 lb B a w)(u:Value):A5 lb B a (w.setCell ⟨lb,j,none⟩ u):=h.trans ⟨rfl,rfl,rfl,by simp[World.setCell],fun k _ H=>DB _ _ _ _ (by simpa using H)⟩
theorem A5.own{lb B:Nat}{a w:World}(h:A5 lb B a w){p:Go.Addr}(H:B≤p.block)(u:Value):A5 lb B a (w.setCell p u):=h.trans (A5.of ((AD B w).setCell H u))
theorem A5.shut{lb B:Nat}{w w':World}(h:A5 lb B w w')(l:B≤lb):Below B w w':=⟨h.os,h.tape,h.output,h.size,fun k H=>h.block k H (by omega)⟩
theorem A5.cell{lb B:Nat}{w w':World}(h:A5 lb B w w'){p:Go.Addr}(H:p.block<B)(n:p.block≠lb):w'.cell? p=w.cell? p:=by
 unfold World.cell?;rw[h.block p.block H n]
theorem A5.next{lb B:Nat}{a b c:World}(h:A5 lb B a b)(H:Below b.heap.size b c)(d:B≤b.heap.size):A5 lb B a c:=h.trans (A5.of (H.mono d))
theorem A1.Ag{w w':World}{lb:Nat}{c:Array Value}{t:TypeId}(h:A1 w b c t)(H:A5 lb w.heap.size w w')(n:b≠lb):A1 w' b c t:=(H.block b h.lt n).trans h
theorem Gr.Ag{lb:Nat}{w w':World}(h:Gr w)(H:A5 lb w.heap.size w w')(l:3<lb):Gr w':=by
 have s:=h.size;obtain⟨m,b⟩:=h.g.maxLen;refine⟨⟨m,(H.cell (p:=⟨_,0,none⟩) s (by simp only;omega)).trans b⟩,fun k a=>?_,fun k a=>?_,?_⟩
 ·exact(H.cell (p:=⟨1,k,none⟩) (by simp only;omega) (by simp only;omega)).trans (h.signs k a)
 ·exact(H.cell (p:=⟨2,k,none⟩) (by simp only;omega) (by simp only;omega)).trans (h.ours k a)
 exact(H.cell (p:=⟨0,0,none⟩) (by simp only;omega) (by simp only;omega)).trans h.et
theorem Gr.keep{w w':World}(h:Gr w)(H:∀b,b≤3→w'.heap[b]?=w.heap[b]?):Gr w':=by
 obtain⟨m,a⟩:=h.g.maxLen;have g:∀b k,b≤3→w'.cell? ⟨b,k,none⟩=w.cell? ⟨b,k,none⟩:=fun b k c=>by simp only[World.cell?];rw[H b c]
 exact⟨⟨m,(g _ _ (by decide)).trans a⟩,fun k H=>(g _ _ (by decide)).trans (h.signs k H),fun k H=>(g _ _ (by decide)).trans (h.ours k H),(g _ _ (by decide)).trans h.et⟩
theorem A0.A6{size:Nat}{cs:α→List Value}{w:World}{B:Nat}{v:Value}{xs:List α}(h:A0 e size cs w B v xs)(j:a.block<B)(u:Value):A0 e size cs (w.setCell a u) B v xs:=by
 rcases h with⟨b,H⟩;refine⟨b,?_⟩;rcases H with H|⟨g,c,C,d,f,i,r⟩
 ·exact Or.inl H
 exact Or.inr ⟨g,c,C,d,f,(DB w a u g (by omega)).trans i,r⟩
def Aq(size:Nat)(cs:α→List Value)(P:Nat→Prop)(w:World)(v:Value)(xs:List α):Prop:=∃a c,v=.slice a xs.length c∧(0<xs.length→∃b,a=some ⟨b,0,none⟩∧P b∧b<w.heap.size∧∀j,j<xs.length*size→w.cell? ⟨b,j,none⟩=(xs.flatMap cs)[j]?)
theorem Aq.rd{size:Nat}{cs:α→List Value}{w:World}{v:Value}{xs:List α}(h:Aq size cs P w v xs):E7 size cs w v xs:=by
 obtain⟨a,c,H,d⟩:=h;exact⟨a,c,H,fun e=>by obtain⟨b,f,_,g,i⟩:=d e;exact⟨b,f,g,i⟩⟩
theorem Aq.Ad{size:Nat}{cs:α→List Value}{Q:Nat→Prop}{w:World}{v:Value}{xs:List α}(h:Aq size cs P w v xs)(c:∀b,P b→b<w.heap.size→Q b):Aq size cs Q w v xs:=by
 obtain⟨a,C,d,e⟩:=h;exact⟨a,C,d,fun f=>by obtain⟨b,g,i,H,j⟩:=e f;exact⟨b,g,c b i H,H,j⟩⟩
theorem Aq.keep{size:Nat}{cs:α→List Value}{w w':World}{v:Value}{xs:List α}(h:Aq size cs P w v xs)(s:w.heap.size≤w'.heap.size)(k:∀b,P b→b<w.heap.size→w'.heap[b]?=w.heap[b]?):Aq size cs P w' v xs:=by
 obtain⟨a,c,d,e⟩:=h;refine⟨a,c,d,fun f=>?_⟩;obtain⟨b,g,H,t,l⟩:=e f;refine⟨b,g,H,CG t s,fun j i=>?_⟩;rw[←l j i];simp only[World.cell?];rw[k b H t]
theorem Aq.next{size:Nat}{cs:α→List Value}{w w':World}{v:Value}{xs:List α}(h:Aq size cs P w v xs)(H:Below w.heap.size w w'):Aq size cs P w' v xs:=h.keep H.size fun b _ t=>H.block b t
theorem Aq.Ag{size:Nat}{cs:α→List Value}{lb:Nat}{w w':World}{v:Value}{xs:List α}(h:Aq size cs P w v xs)(H:A5 lb w.heap.size w w')(l:¬P lb):Aq size cs P w' v xs:=h.keep H.size fun b a t=>H.block b t (fun e=>l (e▸a))
theorem Gp(w:World)(a:Go.Addr)(u:Value)(b:Nat)(h:b≠a.block):(w.setCell a u).heap[b]?=w.heap[b]?:=DB w a u b h
theorem Aq.set{size:Nat}{cs:α→List Value}{w:World}{v:Value}{xs:List α}(h:Aq size cs P w v xs)(u:Value)(H:¬P a.block):Aq size cs P (w.setCell a u) v xs:=h.keep (by simp[World.setCell]) fun b c _=>Gp w a u b (fun e=>H (e▸c))
theorem Aq.nil(size:Nat)(cs:α→List Value)(P:Nat→Prop)(w:World)(a:Option Go.Addr)(cap:Nat):Aq size cs P w (.slice a 0 cap) ([]:List α):=⟨a,cap,rfl,fun h=>by simp at h⟩
theorem A0.Dn{size:Nat}{cs:α→List Value}(z:0<size)(s:∀x,(cs x).length=size){w:World}{B:Nat}{v:Value}{xs:List α}(h:A0 e size cs w B v xs):Aq size cs (fun b=>B≤b∧v.ownBlock=some b) w v xs:=by
 have f:=h;unfold A0 at f;obtain⟨a,C,c,j⟩:=A0.rd z s h;refine⟨a,C,c,fun k=>?_⟩;obtain⟨b,i,t,l⟩:=j k;refine⟨b,i,?_,t,l⟩;rcases f.2 with⟨d,o⟩|⟨g,p,r,d,m,_⟩
 ·rw[d]at c;injection c with H q;omega
 have n:=d;rw[d,i]at c;injection c with H _ _;injection H with H;injection H with H;subst H;exact⟨m,by rw[n];rfl⟩
theorem A0.Ag{size:Nat}{cs:α→List Value}{w w':World}{B lb:Nat}{v:Value}{xs:List α}(h:A0 e size cs w B v xs)(c:A5 lb w.heap.size w w')(l:lb<B):A0 e size cs w' B v xs:=by
 rcases h with⟨d,H⟩;refine⟨d,?_⟩;rcases H with H|⟨g,C,f,i,j,a,r⟩
 ·exact Or.inl H
 have t:g<w.heap.size:=by
  rcases CN g w.heap.size with b|b
  ·exact b
  rw[CL b]at a;cases a
 exact Or.inr ⟨g,C,f,i,j,(c.block g t (by omega)).trans a,r⟩
theorem A0.mono{size:Nat}{cs:α→List Value}{w:World}{B:Nat}{v:Value}{xs:List α}(h:A0 e size cs w B v xs)(a:B'≤B):A0 e size cs w B' v xs:=by
 rcases h with⟨b,H⟩;refine⟨b,?_⟩;rcases H with H|⟨g,c,C,d,f,r⟩
 ·exact Or.inl H
 exact Or.inr ⟨g,c,C,d,BC a f,r⟩
theorem A0.Do{size:Nat}{cs:α→List Value}{w:World}{B:Nat}{v:Value}{xs:List α}(h:A0 e size cs w B v xs)(g:Nat)(H:v.ownBlock=some g):g<w.heap.size:=by
 rcases h.2 with⟨a,_⟩|⟨G,C,r,a,_,c,_⟩
 ·rw[a]at H;cases H
 rw[a]at H;injection H with H;simp only at H;subst H;rcases CN G w.heap.size with b|b
 ·exact b
 rw[CL b]at c;cases c
theorem A0.Fp{size:Nat}{cs:α→List Value}{w:World}{B:Nat}{v:Value}{xs:List α}(h:A0 e size cs w B v xs)(g:Nat)(H:v.ownBlock=some g):B≤g:=by
 rcases h.2 with⟨a,_⟩|⟨G,c,C,a,b,_⟩
 ·rw[a]at H;cases H
 rw[a]at H;injection H with H;simp only at H;omega
theorem Kt{size:Nat}{cs:α→List Value}{t:Nat}{z:Value}(g:∀x,(cs x).length=size)(l:∀x,∀u∈cs x,u.oneCell'=true)
  (n:(prog.info? e).map (fun i=>(i.zero,i.size,i.bytes))=some (some z,size,b)) (p:z.cells.size=size) (q:0<size) (r:prog.underlying t=some (.slice e))
  {Q:Exit→Act→World→Prop} {O:Array Oper} {rest:List Oper} {o:Oper} {a:Act} {w:World} (C:o.guard=none) (s x:Operand)
  (D:o.op=.call {callee:=.builtin .append,args:=#[s,x],argTypes:=#[t,t]}) (B:Nat) (v:Value) (xs Y:List α) (A:Go.Addr) (m c:Nat) (E:m=Y.length)
  (F:a.eval s=v) (H:A0 e size cs w B v xs) (G:a.eval x=.slice (some A) m c) (I:∀j u,(Y.flatMap cs)[j]?=some u→w.cell? (A.add j)=some u) (J:(xs.length+Y.length)*b≤140737488355328) (K:xs.length+Y.length≤maxLen) (d:B≤w.heap.size)
  (h:∀V W,A0 e size cs W B V (xs++Y)→w.grownBy W v.ownBlock→Below B w W→(V.ownBlock=v.ownBlock∨V.ownBlock=some w.heap.size)→wpList prog O Q rest (a.put o.dst V) W):wpList prog O Q (o::rest) a w:=by
 subst E;obtain⟨L,M,N,P,R⟩:=FQ n;refine wpList_append_own_at (w:=w) C s x t D B e L z size b r M N P R p q v xs.length _ F H A Y.length c (Y.flatMap cs) G (Ix g Y) I ?_ K J d ?_
 ·intro u S;obtain⟨y,_,T⟩:=FD.1 S;exact l y u T
 intro V W U f _ X;refine h V W ?_ f ((AD B w).grown f d fun k Z=>A0.Fp H k Z) X;unfold A0;rw[CR,AH];exact U
theorem Aq.grown{size:Nat}{cs:α→List Value}{w w':World}{v:Value}{xs:List α}{r:Option Nat}(h:Aq size cs P w v xs)(H:w.grownBy w' r)(a:∀b,P b→some b≠r):Aq size cs P w' v xs:=h.keep H.size fun b c t=>H.block b t (a b c)
theorem E7.opens{size:Nat}{cs:α→List Value}(s:∀x,(cs x).length=size){w:World}{v:Value}{xs:List α}(h:E7 size cs w v xs):∃a c,v=.slice a xs.length c∧∀k(H:k<xs.length),∃b,a=some ⟨b,0,none⟩∧b<w.heap.size∧∀i,i<size→w.cell? ⟨b,k*size+i,none⟩=(cs xs[k])[i]?:=by
 obtain⟨a,c,d,e⟩:=h;refine⟨a,c,d,fun k H=>?_⟩;obtain⟨b,f,t,l⟩:=e (by omega);refine⟨b,f,t,fun i g=>?_⟩;have j:(k+1)*size≤xs.length*size:=EM _ H;rw[DN]at j;rw[l _ (by omega),Kg s xs k H i g]
theorem Aq.at{α:Type}{size:Nat}{cs:α→List Value}{P:Nat→Prop}(s:∀x,(cs x).length=size){w:World}{a:Option Go.Addr}{n cap:Nat}{xs:List α}(h:Aq size cs P w (.slice a n cap) xs)(k:Nat)(H:k<xs.length):∃b,a=some ⟨b,0,none⟩∧P b∧b<w.heap.size∧∀i,i<size→w.cell? ⟨b,k*size+i,none⟩=(cs xs[k])[i]?:=by
 obtain⟨A,C,v,c⟩:=h;injection v with e E m;subst e;obtain⟨b,d,f,t,l⟩:=c (by omega);refine⟨b,d,f,t,fun i g=>?_⟩;have j:(k+1)*size≤xs.length*size:=EM _ H;rw[DN]at j;rw[l _ (by omega),Kg s xs k H i g]
abbrev H7:=Option Go.Addr×Nat×Nat
def A9(s:H7):Value:=.slice s.1 s.2.1 s.2.2
abbrev Ao:=H7×Bs×Bool×H7
def D5(r:Ao):List Value:=[A9 r.1,.string ⟨r.2.1.toArray⟩,.bool r.2.2.1,A9 r.2.2.2]
theorem Db(r:Ao):(D5 r).length=4:=rfl
theorem Wp(r:Ao):∀u∈D5 r,u.oneCell'=true:=fun u h=>by
 simp[D5,A9]at h;rcases h with rfl|rfl|rfl|rfl<;>rfl
theorem Wq:(prog.info? 44).map (fun i=>(i.zero,i.size,i.bytes))=some (some (.agg #[.slice none 0 0,.string ByteArray.empty,.bool false,.slice none 0 0]),4,72):=by kernel_rfl
def A7(P:Nat→Prop):Nat→World→Ao→A8→Prop
 |0,_,_,_=>False
 |n+1,w,r,.mk h b m p=>r.2.1=b∧r.2.2.1=m∧Aq 2 Au P w (A9 r.1) h∧∃R:List Ao,Aq 4 D5 P w (A9 r.2.2.2) R∧R.length=p.length∧∀k(H:k<R.length)(a:k<p.length),A7 P n w R[k] p[k]
theorem A7.keep{P:Nat→Prop}{w w':World}(H:w.heap.size≤w'.heap.size)(a:∀b,P b→b<w.heap.size→w'.heap[b]?=w.heap[b]?):∀{n:Nat}{r:Ao}{p:A8},A7 P n w r p→A7 P n w' r p
 |0,_,_,h=>h.elim
 |_+1,_,.mk _ _ _ _,⟨c,d,e,R,f,g,i⟩=>⟨c,d,e.keep H a,R,f.keep H a,g,fun k K j=>A7.keep H a (i k K j)⟩
theorem A7.next{n:Nat}{w w':World}{r:Ao}(h:A7 P n w r p)(H:Below w.heap.size w w'):A7 P n w' r p:=A7.keep H.size (fun b _ t=>H.block b t) h
theorem A7.Ag{lb n:Nat}{w w':World}{r:Ao}(h:A7 P n w r p)(H:A5 lb w.heap.size w w')(l:¬P lb):A7 P n w' r p:=A7.keep H.size (fun b a t=>H.block b t (fun e=>l (e▸a))) h
theorem A7.set{n:Nat}{w:World}{r:Ao}(h:A7 P n w r p)(u:Value)(H:¬P a.block):A7 P n (w.setCell a u) r p:=A7.keep (by simp[World.setCell]) (fun b c _=>Gp w a u b (fun e=>H (e▸c))) h
theorem A7.Ad{P Q:Nat→Prop}{w:World}(H:∀b,P b→b<w.heap.size→Q b):∀{n:Nat}{r:Ao}{p:A8},A7 P n w r p→A7 Q n w r p
 |0,_,_,h=>h.elim
 |_+1,_,.mk _ _ _ _,⟨a,c,d,R,e,f,g⟩=>⟨a,c,d.Ad H,R,e.Ad H,f,fun k K i=>A7.Ad H (g k K i)⟩
theorem A7.up{P:Nat→Prop}:∀{n:Nat}{w:World}{r:Ao}{p:A8},A7 P n w r p→A7 P (n+1) w r p
 |0,_,_,_,h=>h.elim
 |_+1,_,_,.mk _ _ _ _,⟨H,a,b,R,c,d,e⟩=>⟨H,a,b,R,c,d,fun k K f=>(e k K f).up⟩
theorem A7.to{n:Nat}{w:World}{r:Ao}(h:A7 P n w r p)(H:n≤m):A7 P m w r p:=by
 obtain⟨k,rfl⟩:∃k,m=n+k:=⟨m-n,by omega⟩;clear H;induction k with
 |zero=>exact h
 |succ k ih=>exact ih.up
theorem A7.grown{n:Nat}{w w':World}{r:Ao}(h:A7 P n w r p)(H:w.grownBy w' R)(a:∀b,P b→some b≠R):A7 P n w' r p:=A7.keep H.size (fun b c t=>H.block b t (a b c)) h
def Ly(w:World)(v:Value)(n:Int):Prop:=v=.iface 30 (.int .i64 n)∨∃b p,v=.iface 253 (.pointer (some ⟨b,0,none⟩))∧w.cell? ⟨b,0,none⟩=some (.int .i64 n)∧w.cell? ⟨b,1,none⟩=some (.int .i64 p)
theorem Ly.v{w:World}{v:Value}{n:Int}(h:Ly w v n):Gm w v n:=Or.inr h
theorem Gm.n{w:World}{v:Value}{n:Int}(h:Gm w v n)(H:n≠0):Ly w v n:=by
 rcases h with⟨_,h⟩|h
 ·exact absurd h H
 exact h
theorem Ly.next{w w':World}{v:Value}{n:Int}(h:Ly w v n)(H:Below w.heap.size w w'):Ly w' v n:=by
 rcases h with h|⟨b,p,c,a,d⟩
 ·exact Or.inl h
 have t:b<w.heap.size:=AY w _ a;exact Or.inr ⟨b,p,c,(H.cell (p:=⟨b,0,none⟩) t).trans a,(H.cell (p:=⟨b,1,none⟩) t).trans d⟩
theorem Ly.some{w:World}{v:Value}{n:Int}(h:Ly w v n):∃t x,v=.iface t x:=by
 rcases h with h|⟨b,p,h,_⟩
 ·exact⟨_,_,h⟩
 exact⟨_,_,h⟩
theorem Dh.ok{n:Nat}{l:List A4}(h:Dh n l)(H:n≤1000000000000):L7 l:=⟨BC h.1 H,fun f a=>⟨BC (h.2 f a).1 H,BC (h.2 f a).2 H⟩⟩
def wV(r:Option (Option Bs))(e:Ending):Prop:=(∃b,r=some (some b)∧e=.returned (.tuple #[.string ⟨b.toArray⟩,.bool true,.nilIface]))∨(r=some none∧e=.returned (.tuple #[.string ⟨#[]⟩,.bool false,.nilIface]))∨(r=none∧e=.returned (.tuple #[.string ⟨#[]⟩,.bool false,.iface 30 (.int .i64 3)]))
theorem Wr(v:Value)(l:List A4)(w:World)(q:C7 w v l)(k:Dh 1000000 l)(t:Gr w):Calls prog 164 #[v] w fun e D=>wV (Bg l) e∧Below w.heap.size w D:=by
 have G:=Oq v l Bu w q (k.ok (by decide)) (by decide);have H:=AB (by rfl:Bg l=match Ai l Bu with|none=>some none|some v=>match Ay v with|none=>none|some (m,p)=>if hasPrefix m Jv then(match C5 p C9 with|none=>none|some b=>if J0 b then none else some (some b))else some none);have a:=fun x=>Jw (n:=1000000) (s:=Bu) (v:=x) k
 unfold Bu at G H a;generalize Ai l _=r at G H a;have E:w.cell? ⟨2,0,none⟩=some (.string ⟨#[67,111,110,116,101,110,116,45,84,121,112,101]⟩):=t.ours 0 (by decide);clear k q;cases r with
 |none=>
  have N:=AB (show Bg l=some none from H.o);clear H a;go_enter func164,ntmps164;go_wp2_with fail;with_reducible refine G.mono ?_
  rintro e F⟨rfl,B⟩;go_wp2_with fail;go_ret3;exact⟨Or.inr (Or.inl ⟨N.o,rfl⟩),B⟩
 |some x=>
  have X:=a x rfl;clear a;have K:=fun W I=>P0 x W (by omega) I
  have d:=fun m p(h:Ay x=some (m,p))=>Oy h
  have H:=AB (show Bg l=match Ay x with|none=>none|some (m,p)=>if hasPrefix m Jv then(match C5 p C9 with|none=>none|some b=>if J0 b then none else some (some b))else some none from H.o);generalize Ay x=Y at K H d;go_enter func164,ntmps164;go_wp2_with fail;with_reducible refine G.mono ?_
  rintro e F⟨rfl,B⟩;have J:=(t.next B).g;clear E G;go_wp2_with fail;with_reducible refine(K _ J).mono ?_
  rintro e u⟨L,y⟩;have f:=B.trans (y.mono B.size);clear K y;rcases L with⟨m,p,O,rfl,rfl,z⟩|⟨rfl,rfl⟩
  case inr=>
   have N:=AB (show Bg l=none from H.o);clear H d;go_wp2_with fail;go_ret3;exact⟨Or.inr (Or.inr ⟨N.o,rfl⟩),f⟩
  obtain⟨Z,j⟩:=d m p rfl;have H:=AB (show Bg l=if hasPrefix m Jv then(match C5 p C9 with|none=>none|some b=>if J0 b then none else some (some b))else some none from H.o);have M:=Jc m Jv u;have A:=A0.rd (by decide) Ah z;have P:=aW O p C9 u A (by have:=j.1;omega);have g:=fun b=>Si (s:=C9) (v:=b) j
  clear d z A j;unfold Jv at M H;unfold C9 at P H g;generalize hasPrefix m _=Q at M H;generalize C5 p _=R at P H g;go_wp2_with fail;with_reducible refine M.mono ?_
  rintro e w3⟨rfl,rfl⟩;cases Q with
  |false=>
   have N:=AB (show Bg l=some none from H.o);clear H P M;go_wp2_with fail;go_ret3;exact⟨Or.inr (Or.inl ⟨N.o,rfl⟩),f⟩
  |true=>
   clear M;go_wp2_with fail;with_reducible refine P.mono ?_
   rintro e T⟨rfl,C⟩;have c:=f.trans (C.mono f.size);clear C P;cases R with
   |none=>
    have N:=AB (show Bg l=none from H.o);clear H;simp only[EP,FE];go_wp2_with fail;go_ret3;exact⟨Or.inr (Or.inr ⟨N.o,rfl⟩),c⟩
   |some b=>
    have a0:=g b rfl;have H:=AB (show Bg l=if J0 b then none else some (some b)from H.o);clear g;simp only[CT,EK];by_cases o:b=[]
    ·have N:=AB (by rw[H.o,o];rfl:Bg l=none);subst o;clear H;go_wp2_with fail;go_ret3;exact⟨Or.inr (Or.inr ⟨N.o,rfl⟩),c⟩
    have U:b.isEmpty=false:=by rw[AP];simpa using o
    by_cases i:70<b.length
    ·have N:=AB (by rw[H.o];unfold J0;rw[BD i];simp:Bg l=none);have i:(70:Int)<b.length:=by omega
     clear H;go_wp2_with fail;go_ret3;exact⟨Or.inr (Or.inr ⟨N.o,rfl⟩),c⟩
    have S:=Yq b [32] T (by omega);have H:=AB (by rw[H.o];unfold J0;rw[AX i,U];rfl:Bg l=if hasSuffix b [32]then none else some (some b));have i:¬(70:Int)<b.length:=by omega
    generalize hasSuffix b [32]=V at S H;go_wp2_with fail;with_reducible refine S.mono ?_
    rintro e w5⟨rfl,rfl⟩;cases V with
    |true=>
     have N:=AB (show Bg l=none from H.o);clear H S;go_wp2_with fail;go_ret3;exact⟨Or.inr (Or.inr ⟨N.o,rfl⟩),c⟩
    |false=>
     have N:=AB (show Bg l=some (some b)from H.o);clear H S;go_wp2_with fail;go_ret3;exact⟨Or.inl ⟨b,N.o,rfl⟩,c⟩
def wW(r:Except Int Bs)(e:Ending):Prop:=(∃o,r=.ok o∧e=.returned (.tuple #[.string ⟨o.toArray⟩,.nilIface]))∨(∃n,r=.error n∧(n=3∨n=5)∧e=.returned (.tuple #[.string ⟨#[]⟩,.iface 30 (.int .i64 n)]))
theorem wX(v:Value)(l:List A4)(s:Bs)(w:World)(t:C7 w v l)(m:Dh 1000000 l)(E:s.length≤1000000)(p:Gr w):Calls prog 165 #[v,.string ⟨s.toArray⟩] w fun e u=>wW (Dg l s) e∧Below w.heap.size w u:=by
 have G:=Oq v l Bl w t (m.ok (by decide)) (by decide);have H:=AB (by rfl:Dg l s=match Ai l Bl with|none=>.ok s|some v=>if A2 v=Iz∨A2 v=Mo∨A2 v=Mp then .ok s else if A2 v=Ib then(match Ef s with|none=>.error 3|some x=>.ok x)else if A2 v=Hw then(match E6 s with|none=>.error 3|some x=>.ok x)else .error 5);have g:=fun x=>Jw (n:=1000000) (s:=Bl) (v:=x) m
 unfold Bl at G H g;generalize Ai l _=r at G H g;have C:w.cell? ⟨2,1,none⟩=some (.string ⟨#[67,111,110,116,101,110,116,45,84,114,97,110,115,102,101,114,45,69,110,99,111,100,105,110,103]⟩):=p.ours 1 (by decide);clear m t;cases r with
 |none=>
  have h:=AB (show Dg l s=.ok s from H.o);have S:=fun W=>G0 [] W (by decide)
  clear H g;go_enter func165,ntmps165;go_wp2_with fail;with_reducible refine G.mono ?_
  rintro e z⟨rfl,c⟩;simp only[EP,FE];clear G C;go_wp2_with fail;with_reducible refine(S _).mono ?_
  rintro e q⟨rfl,i⟩;go_wp2_with fail;go_ret2;exact⟨Or.inl ⟨s,h.o,rfl⟩,c.trans (i.mono c.size)⟩
 |some x=>
  have F:=g x rfl;have S:=fun W=>G0 x W (by omega)
  have H:=AB (show Dg l s=if A2 x=Iz∨A2 x=Mo∨A2 x=Mp then .ok s else if A2 x=Ib then(match Ef s with|none=>.error 3|some x=>.ok x)else if A2 x=Hw then(match E6 s with|none=>.error 3|some x=>.ok x)else .error 5 from H.o);clear g;generalize A2 x=y at S H;go_enter func165,ntmps165;go_wp2_with fail;with_reducible refine G.mono ?_
  rintro e z⟨rfl,c⟩;simp only[CT,EK];clear G C;go_wp2_with fail;with_reducible refine(S _).mono ?_
  rintro e q⟨rfl,i⟩;have B:=c.trans (i.mono c.size);have A:=((p.next c).next i).g;clear c i S p;by_cases a:y=Iz
  ·have h:=AB (by rw[H.o,AM (Or.inl a)]:Dg l s=.ok s);subst a;unfold Iz;clear H;go_wp2_with fail;go_ret2;exact⟨Or.inl ⟨s,h.o,rfl⟩,B⟩
  by_cases b:y=Mo
  ·have h:=AB (by rw[H.o,AM (Or.inr (Or.inl b))]:Dg l s=.ok s);subst b;unfold Mo;clear H a;go_wp2_with fail;go_ret2;exact⟨Or.inl ⟨s,h.o,rfl⟩,B⟩
  by_cases d:y=Mp
  ·have h:=AB (by rw[H.o,AM (Or.inr (Or.inr d))]:Dg l s=.ok s);subst d;unfold Mp;clear H a b;go_wp2_with fail;go_ret2;exact⟨Or.inl ⟨s,h.o,rfl⟩,B⟩
  have H:=AB (by rw[H.o,AI (by simp[a,b,d])]:Dg l s=if y=Ib then(match Ef s with|none=>.error 3|some x=>.ok x)else if y=Hw then(match E6 s with|none=>.error 3|some x=>.ok x)else .error 5);by_cases f:y=Ib
  ·have U:=qP s q (by omega);have H:=AB (by rw[H.o,AM f]:Dg l s=match Ef s with|none=>.error 3|some x=>.ok x);generalize Ef s=R at U H;subst f;unfold Ib;clear a b d;go_wp2_with fail;with_reducible refine U.mono ?_
   rintro e D⟨rfl,j⟩;clear U;cases R with
   |none=>
    have h:=AB (show Dg l s=.error 3 from H.o);simp only[Dy];clear H;go_wp2_with fail;go_ret2;exact⟨Or.inr ⟨3,h.o,Or.inl rfl,rfl⟩,B.trans (j.mono B.size)⟩
   |some o=>
    have h:=AB (show Dg l s=.ok o from H.o);simp only[Dy];clear H;go_wp2_with fail;go_ret2;exact⟨Or.inl ⟨o,h.o,rfl⟩,B.trans (j.mono B.size)⟩
  have H:=AB (by rw[H.o,AI f]:Dg l s=if y=Hw then(match E6 s with|none=>.error 3|some x=>.ok x)else .error 5);by_cases k:y=Hw
  ·have U:=qG s q (by omega) A;have H:=AB (by rw[H.o,AM k]:Dg l s=match E6 s with|none=>.error 3|some x=>.ok x);generalize E6 s=R at U H;subst k;unfold Hw;clear a b d f;go_wp2_with fail;with_reducible refine U.mono ?_
   rintro e D⟨rfl,j⟩;clear U;cases R with
   |none=>
    have h:=AB (show Dg l s=.error 3 from H.o);simp only[Dy];clear H;go_wp2_with fail;go_ret2;exact⟨Or.inr ⟨3,h.o,Or.inl rfl,rfl⟩,B.trans (j.mono B.size)⟩
   |some o=>
    have h:=AB (show Dg l s=.ok o from H.o);simp only[Dy];clear H;go_wp2_with fail;go_ret2;exact⟨Or.inl ⟨o,h.o,rfl⟩,B.trans (j.mono B.size)⟩
  have h:=AB (by rw[H.o,AI k]:Dg l s=.error 5);have I:(y==[55,98,105,116])=false:=by rw[AG];exact a
  have J:(y==[56,98,105,116])=false:=by rw[AG];exact b
  have K:(y==[98,105,110,97,114,121])=false:=by rw[AG];exact d
  have L:(y==[98,97,115,101,54,52])=false:=by rw[AG];exact f
  have M:(y==[113,117,111,116,101,100,45,112,114,105,110,116,97,98,108,101])=false:=by rw[AG];exact k
  clear a b d f k H;go_wp2_with fail;go_ret2;exact⟨Or.inr ⟨5,h.o,Or.inr rfl,rfl⟩,B⟩
theorem Ws(w:World)(y:Bs)(t:TypeId):(w.alloc (.cells #[.string ⟨y.toArray⟩] t)).cell? ⟨w.heap.size,0,none⟩=some (.string ⟨y.toArray⟩):=(A1.new w #[.string ⟨y.toArray⟩] t).cell 0
def Nr:Option Nat→Int
 |none=>-1
 |some o=>o
theorem eE{b:Bs}{k:Nat}(h:s.length<i):Et s b (k+1) i op out=none:=by
 unfold Et;rw[AM h]
theorem eF{b:Bs}{k:Nat}(h:i≤s.length):Et s b (k+1) i op out=match Hx (cut (s.drop i) [13,10]).1 b with
  |none=>Et s b k (i+(cut (s.drop i) [13,10]).1.length+2) op out
  |some t=>if t=[45,45]then some (Je s i op out)
   else if t=[]then Et s b k (i+(cut (s.drop i) [13,10]).1.length+2) (some (min (i+(cut (s.drop i) [13,10]).1.length+2) s.length)) (Je s i op out)
   else Et s b k (i+(cut (s.drop i) [13,10]).1.length+2) op out:=by
 conv=>lhs;unfold Et
 rw[AI (by omega)];rfl
theorem wY(l p:Bs):(trimPrefix l p).length≤l.length:=by
 unfold trimPrefix;split
 ·simp
 exact AC _
theorem eG(s:Bs)(i o:Nat)(h:2≤i):List.take ((max ((i:Int)-2) o).toNat-(min (o:Int) (max ((i:Int)-2) o)).toNat) (List.drop (min (o:Int) (max ((i:Int)-2) o)).toNat s)=Ic s i o:=by
 unfold Ic;rw[(by omega:(min (o:Int) (max ((i:Int)-2) o)).toNat=o),(by omega:(max ((i:Int)-2) (o:Int)).toNat=max (i-2) o)]
def wZ(B n:Nat)(r:Option (List Bs))(e:Ending)(w':World):Prop:=(∃o v,r=some o∧o.length≤n+2∧(∀x∈o,x.length≤n)∧e=.returned (.tuple #[v,.nilIface])∧Cg w' B v o)∨(r=none∧e=.returned (.tuple #[.slice none 0 0,.iface 30 (.int .i64 3)]))
theorem xA(s b:Bs)(w:World)(hs:s.length≤1000000)(hb:b.length≤1000000)(U:Gr w):Calls prog 166 #[.string ⟨s.toArray⟩,.string ⟨b.toArray⟩] w fun e L=>wZ w.heap.size s.length (Dm s b) e L∧Below w.heap.size w L:=by
 have N:=AB (by rfl:Dm s b=Et s b (s.length+2) 0 none []);go_enter func166,ntmps166;go_wp2_with fail;go_loopw[6,7,8] (fun V Y A wr=>∃(i:Nat)(p:Option Nat)(O:List Bs)(f:Nat),A=.int .i64 i∧Y=.int .i64 (Nr p)∧Cg wr w.heap.size V O∧i≤s.length+2∧(∀o,p=some o→2≤i∧o≤s.length)∧O.length≤i∧s.length+1-i<f∧Hid (Et s b f i p O=Dm s b)∧Hid (∀x∈O,x.length≤s.length)∧Below w.heap.size w wr) (fun _ _ A _=>s.length+3-(intOf A).toNat)
 case atStart=>exact⟨0,none,[],s.length+2,rfl,rfl,GG _ _ _ _,by omega,(fun o h=>by cases h),by simp,by omega,AB N.o.symm,AB (by simp),AD _ _⟩
 clear N;obtain⟨i,p,O,f,rfl,rfl,a,hi,q,a1,a2,r,X,B⟩:=hrel;obtain⟨f,rfl⟩:∃n,f=n+1:=⟨f-1,by omega⟩;by_cases Z:i≤s.length
 ·have Q:=AB (r.o.symm.trans (eF Z));have u:=Lo (s.drop i) [13,10];rw[AS]at u;have C:=L3 (s.drop i) [13,10] wr (by rw[AS];omega) (U.next B).g;clear r;generalize(cut (s.drop i) [13,10]).1=l at C u Q;generalize(cut (s.drop i) [13,10]).2.1=c2 at C u;generalize(cut (s.drop i) [13,10]).2.2=c3 at C;have a3:l.length≤s.length-i:=by omega
  clear u;have a4:(i:Int)≤s.length:=by omega
  have i0:(0:Int)≤i:=by omega
  go_wp2_with fail;with_reducible refine C.mono ?_
  rintro e w1⟨rfl,v⟩;have a:=Jr a v;have y:=B.trans (v.mono B.size);have a5:(i:Int)+l.length≤s.length:=by omega
  have P:=Uu l (45::45::b) w1;have M:=AB (by rfl:Hx l b=if hasPrefix l (45::45::b)then some (trimS (trimPrefix l (45::45::b)) [32,9])else none);have R:=wY l (45::45::b);generalize hasPrefix l (45::45::b)=ok at P M;generalize trimPrefix l (45::45::b)=rest at P M R;have T:=fun W=>Q5 rest [32,9] W (by omega) (by decide) (by decide)
  generalize trimS rest [32,9]=t at T M;clear C v B R;go_wp2_with fail;with_reducible refine P.mono ?_
  rintro e w2⟨rfl,rfl⟩;clear P;go_wp2_with fail;with_reducible refine(T _).mono ?_
  rintro e w3⟨rfl,z⟩;have a:=Jr a z;have d:=y.trans (z.mono y.size);clear z y;cases ok with
  |false=>
   have H:=AB (by rw[Q.o,M.o];rfl:Et s b f (i+l.length+2) p O=Dm s b);clear Q M T;go_wp2_with fail;go_roundw
   case rel=>exact⟨i+l.length+2,p,O,f,by go_num,rfl,a,by omega,fun o h=>by have:=q o h;omega,by omega,by omega,H,X,d⟩
   simp[intOf];omega
  |true=>
   have M:=AB (show Hx l b=some t from M.o);by_cases k:t=[45,45]
   ·have H:=AB (by rw[Q.o,M.o,k];rfl:Dm s b=some (Je s i p O));clear Q M T;subst k;cases p with
    |none=>
     have H:=AB (show Dm s b=some O from H.o);simp only[Nr];go_wp2_with fail;go_ret2;exact⟨Or.inl ⟨O,_,H.o,by omega,X.o,rfl,a⟩,d⟩
    |some o=>
     obtain⟨D,ho⟩:=q o rfl;have H:=AB (show Dm s b=some (O++[Ic s i o])from H.o);have E:(Ic s i o).length≤s.length:=by unfold Ic;simp;omega
     have F:=AB (show∀x∈O++[Ic s i o],x.length≤s.length from fun x c=>by
      rcases BP.1 c with c|c
      ·exact X.o x c
      simp at c;rw[c];exact E)
     have i1:(2:Int)≤i:=by omega
     have i2:(o:Int)≤s.length:=by omega
     have i3:(0:Int)≤o:=by omega
     simp only[Nr];have a0:=eG s i o D;go_wp2_with(at_builtin;refine G3 rfl _ _ rfl w.heap.size _ O _ w3.heap.size rfl (FY a _) rfl (Ws _ _ _) (by omega) (by have:=d.size;simp;omega) ?_;intro v' w4 G I J);clear I;go_wp2_with fail;go_ret2;exact⟨Or.inl ⟨_,_,H.o,by simp;omega,F.o,rfl,G⟩,(d.alloc d.size _).trans J⟩
   have a6:(t==[45,45])=false:=by rw[AG];exact k
   by_cases m:t=[]
   ·have H:=AB (by rw[Q.o,M.o];subst m;rfl:Et s b f (i+l.length+2) (some (min (i+l.length+2) s.length)) (Je s i p O)=Dm s b);have S:=AB (by simp only[Nr];omega:(min ((i:Int)+l.length+2) s.length)=Nr (some (min (i+l.length+2) s.length)));have e0:t.isEmpty=true:=by rw[m];rfl
    subst m;clear Q M k;cases p with
    |none=>
     have H:=AB (show Et s b f (i+l.length+2) (some (min (i+l.length+2) s.length)) O=Dm s b from H.o);simp only[Nr];go_wp2_with fail;with_reducible refine(T _).mono ?_
     rintro e K⟨rfl,g⟩;have a:=Jr a g;have j:=d.trans (g.mono d.size);clear g T;go_wp2_with fail;go_roundw
     case rel=>exact⟨i+l.length+2,some (min (i+l.length+2) s.length),O,f,by go_num,by rw[S.o],a,by omega,(fun o h=>by cases h;omega),by omega,by omega,H,X,j⟩
     simp[intOf];omega
    |some o=>
     obtain⟨D,ho⟩:=q o rfl;have H:=AB (show Et s b f (i+l.length+2) (some (min (i+l.length+2) s.length)) (O++[Ic s i o])=Dm s b from H.o);have E:(Ic s i o).length≤s.length:=by unfold Ic;simp;omega
     have F:=AB (show∀x∈O++[Ic s i o],x.length≤s.length from fun x c=>by
      rcases BP.1 c with c|c
      ·exact X.o x c
      simp at c;rw[c];exact E)
     have i1:(2:Int)≤i:=by omega
     have i2:(o:Int)≤s.length:=by omega
     have i3:(0:Int)≤o:=by omega
     have a0:=eG s i o D;simp only[Nr];go_wp2_with fail;with_reducible refine(T _).mono ?_
     rintro e K⟨rfl,g⟩;have a:=Jr a g;have j:=d.trans (g.mono d.size);clear g T;go_wp2_with(at_builtin;refine G3 rfl _ _ rfl w.heap.size _ O _ K.heap.size rfl (FY a _) rfl (Ws _ _ _) (by omega) (by have:=j.size;simp;omega) ?_;intro v' w4 G I J);clear I;have B6:=(j.alloc j.size _).trans J;go_wp2_with fail;go_roundw
     case rel=>exact⟨i+l.length+2,some (min (i+l.length+2) s.length),_,f,by go_num,by rw[S.o],G,by omega,(fun o h=>by cases h;omega),by simp;omega,by omega,H,F,B6⟩
     simp[intOf];omega
   have H:=AB (by rw[Q.o,M.o];simp only[k,m,DJ]:Et s b f (i+l.length+2) p O=Dm s b);have e0:t.isEmpty=false:=by rw[AP];simpa using m
   clear Q M k m;go_wp2_with fail;with_reducible refine(T _).mono ?_
   rintro e K⟨rfl,g⟩;have a:=Jr a g;have j:=d.trans (g.mono d.size);clear g T;go_wp2_with fail;go_roundw
   case rel=>exact⟨i+l.length+2,p,O,f,by go_num,rfl,a,by omega,(fun o h=>by have:=q o h;omega),by omega,by omega,H,X,j⟩
   simp[intOf];omega
 have H:=AB (by rw[←r.o];exact eE (by omega):Dm s b=none);have a7:¬(i:Int)≤s.length:=by omega
 clear r;go_wp2_with fail;go_ret2;exact⟨Or.inr ⟨H.o,rfl⟩,B⟩
structure Gz(w:World):Prop where
 r:Gr w
 tab:Lib.TabIs prog w "internal/strconv.uint64pow10" .u64 pow10Tab
 syn:∃ev,w.cell? ⟨7,0,none⟩=some ev
 rng:∃ev,w.cell? ⟨8,0,none⟩=some ev
theorem xB:prog.globalNamed "internal/strconv.uint64pow10" =some 4:=by kernel_rfl
theorem Gz.size{w:World}(h:Gz w):8<w.heap.size:=by
 obtain⟨e,H⟩:=h.rng;exact AY w _ H
theorem Gz.keep{w w':World}(h:Gz w)(a:∀b,b≤8→w'.heap[b]?=w.heap[b]?):Gz w':=by
 have g:∀b k,b≤8→w'.cell? ⟨b,k,none⟩=w.cell? ⟨b,k,none⟩:=fun b k c=>by simp only[World.cell?];rw[a b c]
 refine⟨h.r.keep fun b c=>a b (BC c (by decide)),?_,?_,?_⟩
 ·have H:=h.tab;unfold Lib.TabIs World.var? at H⊢;rw[xB]at H⊢;simp only[Option.bind_some]at H⊢;rw[a _ (by decide)];exact H
 ·obtain⟨e,d⟩:=h.syn;exact⟨e,(g _ _ (by decide)).trans d⟩
 obtain⟨e,d⟩:=h.rng;exact⟨e,(g _ _ (by decide)).trans d⟩
theorem Gz.next{w w':World}(h:Gz w)(H:Below w.heap.size w w'):Gz w':=h.keep fun b e=>H.block b (by have:=h.size;omega)
theorem Gz.Ag{lb:Nat}{w w':World}(h:Gz w)(H:A5 lb w.heap.size w w')(l:8<lb):Gz w':=h.keep fun b e=>H.block b (by have:=h.size;omega) (by omega)
theorem Mz(n:Int)(h:-9223372036854775808≤n)(H:n≤9223372036854775807)(w:World)(g:Gz w):Calls prog 41 #[.int .i64 n] w fun e W=>e=.returned (.string ⟨(itoa n).toArray⟩)∧Below w.heap.size w W:=by
 refine(Tryz.strconv_Itoa n h H w g.tab).mono ?_;rintro e W⟨rfl,k,o,rfl⟩;exact⟨rfl,below_grow _ w (AC _) k o⟩
def De(c:UInt8):Bs→Bool×Bs
 |[]=>(false,[])
 |d::r=>if d=c then(true,r)else(false,d::r)
abbrev Gh(w:World)(b:Nat)(s:Bs)(ok:Bool):Prop:=A1 w b #[.string ⟨s.toArray⟩,.bool ok] 189
theorem xC(b:Nat)(s:Bs)(ok:Bool)(c:UInt8)(w:World)(H:Gh w b s ok)(l:s.length≤1000000000000):Calls prog 116 #[.pointer (some ⟨b,0,none⟩),.int .u8 c.toNat] w fun e W=>e=.returned (.bool (De c s).1)∧Gh W b (De c s).2 ok∧A5 b w.heap.size w W:=by
 have k:=H.cell;have K:=H.free;cases s with
 |nil=>
  go_enter func116,ntmps116;go_wp2_with fail;go_ret;exact⟨rfl,H,A5.of (AD _ _)⟩
 |cons d r=>
  by_cases h:d=c
  ·subst h;have T:=AB (show De d (d::r)=(true,r)from AM rfl);rw[T.o];have a:=H.set 0 (.string ⟨r.toArray⟩);go_enter func116,ntmps116;go_wp2_with fail;go_ret;exact⟨rfl,by simpa using a,(A5.of (AD _ _)).set _⟩
  have T:=AB (show De c (d::r)=(false,d::r)from AI h);have f:¬(d.toNat:Int)=(c.toNat:Int):=fun e=>h (BJ.1 (by omega))
  rw[T.o];go_enter func116,ntmps116;go_wp2_with fail;go_ret;exact⟨rfl,H,A5.of (AD _ _)⟩
theorem T8(b:Nat)(s:Bs)(ok:Bool)(w:World)(f:Gh w b s ok):Calls prog 117 #[.pointer (some ⟨b,0,none⟩)] w fun e W=>e=.returned (.tuple #[])∧Gh W b (Af s) ok∧A5 b w.heap.size w W:=by
 go_enter func117,ntmps117;go_wp2_with fail;go_loopw[2] (fun _ wr=>∃l:Bs,l.length≤s.length∧Hid (Af l=Af s)∧Gh wr b l ok∧A5 b w.heap.size w wr) (fun _ wr=>match wr.cell? ⟨b,0,none⟩with|some v=>I9 v|none=>0)
 case atStart=>exact⟨s,AC _,AB rfl,f,A5.refl _ _ _⟩
 obtain⟨l,g,L,h,B⟩:=hrel;have K:=h.cell;have o:=h.free;have i:wr.cell? ⟨b,0,none⟩=some (.string ⟨l.toArray⟩):=by rw[K];rfl
 cases l with
 |nil=>
  have E:=AB (by rw[←L.o];rfl:Af s=[]);go_wp2_with fail
  go_end0
  exact⟨rfl,by rw[E.o];exact h,B⟩
 |cons d r=>
  have H:=Sx d wr;cases k:Hk d with
  |true=>
   rw[k]at H;have j:=AB (show Af r=Af s from by
    rw[←L.o];unfold Af trimLeftS;rw[EQ (by rw[←P5,k])])
   have p:=h.set 0 (.string ⟨r.toArray⟩);go_wp2_with fail;with_reducible refine H.mono ?_
   rintro e a⟨rfl,rfl⟩;go_wp2_with fail;have c:=(h.set 0 (.string ⟨r.toArray⟩));simp only[AO]at g;refine⟨⟨r,by omega,j,by simpa using c,B.set _⟩,?_⟩;have m:=c.cell 0;rw[i];have n:(World.setCell a ⟨b,0,none⟩ (.string ⟨r.toArray⟩)).cell? ⟨b,0,none⟩=some (.string ⟨r.toArray⟩):=by rw[m];rfl
   rw[n];simp
  |false=>
   rw[k]at H;have X:=AB (show Af s=d::r from by
    rw[←L.o];unfold Af trimLeftS;rw[DQ (by rw[←P5,k];decide)])
   go_wp2_with fail;with_reducible refine H.mono ?_
   rintro e a⟨rfl,rfl⟩;go_wp2_with fail
   go_end0
   exact⟨rfl,by rw[X.o];exact h,B⟩
theorem eH{k:Nat}(a:(s.take k).all Ac=true)(b:∀h:k<s.length,Ac s[k]=false):s.takeWhile Ac=s.take k∧s.dropWhile Ac=s.drop k:=by
 have e:=BQ k s;have:=Qq (p:=Ac) (v:=s.take k) (s.drop k) (fun c H=>AW.1 a c H) (fun c H=>by
  rcases CN k s.length with h|h
  ·rw[AE h]at H;rw[List.head?_cons,GC]at H;rw[←H];exact b h
  rw[BK h]at H;cases H)
 rw[e]at this;exact this
theorem xD(c:UInt8):Ae [c]=Ac c:=by rw[Nl];simp
theorem eI{w:World}{k:Nat}{ok q:Bool}(a:Gh w b s ok)(l:k≤s.length)(H:s.takeWhile Ac=s.take k∧s.dropWhile Ac=s.drop k)(c:q=(ok&&!decide (k=0))):Gh ((w.setCell ⟨b,1,none⟩ (.bool q)).setCell ⟨b,0,none⟩ (.string ⟨(s.drop k).toArray⟩)) b (s.dropWhile Ac) (ok&&!(s.takeWhile Ac).isEmpty)∧A5 b w.heap.size w ((w.setCell ⟨b,1,none⟩ (.bool q)).setCell ⟨b,0,none⟩ (.string ⟨(s.drop k).toArray⟩)):=by
 have m:(s.take k).isEmpty=decide (k=0):=by
  cases k with
  |zero=>rfl
  |succ k=>
   rw[AX (by omega),AP];intro h;rw[FL]at h;have:=AF List.length h;rw[BV,BN]at this;omega
 have d:=(a.set 1 (.bool (ok&&!decide (k=0)))).set 0 (.string ⟨(s.drop k).toArray⟩);rw[H.1,H.2,m,c];exact⟨by simpa using d,((A5.refl b w.heap.size w).set _).set _⟩
theorem eJ(b:Nat)(s:Bs)(ok:Bool)(w:World)(H:Gh w b s ok)(p:s.length≤1000000000000):Calls prog 118 #[.pointer (some ⟨b,0,none⟩)] w fun e W=>e=.returned (.string ⟨(s.takeWhile Ac).toArray⟩)∧Gh W b (s.dropWhile Ac) (ok&&!(s.takeWhile Ac).isEmpty)∧A5 b w.heap.size w W:=by
 have K:=H.cell;have r:=H.free;have u:∀q:Bool,∀j,(w.setCell ⟨b,1,none⟩ (.bool q)).cell? ⟨b,j,none⟩=(#[.string ⟨s.toArray⟩,.bool q]:Array Value)[j]?:=fun q j=>by
  have:=(H.set 1 (.bool q)).cell j;simpa using this
 go_enter func118,ntmps118;go_wp2_with fail;go_loop[3] (fun i=>∃k:Nat,i=.int .i64 k∧k≤s.length∧Hid ((s.take k).all Ac=true)) (fun i=>s.length-(intOf i).toNat)
 case atStart=>exact⟨0,rfl,by omega,AB (by simp)⟩
 obtain⟨k,rfl,n,A⟩:=hrel;by_cases t:k<s.length
 ·have E:(s.drop k).take 1=[s[k]]:=by rw[AE t];rfl
  have X:=P9 ((s.drop k).take 1) w (by rw[E];simp);have f:Ae ((s.drop k).take 1)=Ac s[k]:=by rw[E,xD]
  rw[f]at X;have c:=AB (show Ac s[k]=true→(s.take (k+1)).all Ac=true from fun h=>Vl Ac t A.o h);have d:=AB (show Ac s[k]=false→s.takeWhile Ac=s.take k∧s.dropWhile Ac=s.drop k from fun h=>eH A.o (fun _=>h));clear E f;generalize Ac s[k]=q at X c d;cases q with
  |true=>
   have o:=AB (c.o rfl);clear c d;go_wp2_with fail;with_reducible refine X.mono ?_
   rintro e g⟨rfl,rfl⟩;go_wp2_with fail
   go_round
   case rel=>exact⟨k+1,by go_num,by omega,o⟩
   simp[intOf];omega
  |false=>
   have T:=AB (d.o rfl);have F:=AB (fun q a=>eI (q:=q) H n T.o a);clear c d;cases ok with
   |true=>
    go_wp2_with fail;with_reducible refine X.mono ?_
    rintro e g⟨rfl,rfl⟩;go_wp2_with fail;go_ret;exact⟨by rw[T.o.1];rfl,F.o _ (by cases k<;>simp)⟩
   |false=>
    go_wp2_with fail;with_reducible refine X.mono ?_
    rintro e g⟨rfl,rfl⟩;go_wp2_with fail;go_ret;exact⟨by rw[T.o.1];rfl,F.o _ (by simp)⟩
 obtain rfl:k=s.length:=by omega
 have T:=AB (show s.takeWhile Ac=s.take s.length∧s.dropWhile Ac=s.drop s.length from eH A.o (fun h=>absurd h (Nat.lt_irrefl _)));have F:=AB (fun q a=>eI (q:=q) H (AC s.length) T.o a);have l:=AB (fun q a=>by have:=F.o q a;rw[AQ]at this;exact this);have m:=AB (by rw[T.o.1,CQ]:s.takeWhile Ac=s);clear F T;cases ok with
 |true=>
  go_wp2_with fail;go_ret;exact⟨by rw[m.o];rfl,l.o _ (by cases s.length<;>simp)⟩
 |false=>
  go_wp2_with fail;go_ret;exact⟨by rw[m.o];rfl,l.o _ (by simp)⟩
end Go.Proofs.YtignjjnflcpiiaaGreatDoor
