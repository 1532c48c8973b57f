/- page.Escape; the lists of names; slices.Contains. Conditi -/
import Derived.Test.YtignjjnflcpiiaaGreatDoorS17
import Derived.Test.YtignjjnflcpiiaaGreatDoorS20
set_option linter.all false
set_option maxHeartbeats 8000000
set_option maxRecDepth 100000
namespace Go.Proofs.YtignjjnflcpiiaaGreatDoor
open Go Go.RowKit Proofs.Tryz Lib
def G8:List Pr:=[(38,[38,97,109,112,59]),(34,[38,113,117,111,116,59]),(39,[38,35,51,57,59]),(60,[38,108,116,59]),(62,[38,103,116,59])]
theorem xE:Lc G8:=Lc.of (by decide)
def Ej(s:Bs):Bs:=Ci (Ea G8) s
def R0(k:Nat):Pr:=G8.getD k (0,[])
theorem xF(w:World):(Instr.index 250 (.agg #[.string ⟨#[38]⟩,.string ⟨#[38,97,109,112,59]⟩,.string ⟨#[34]⟩,.string ⟨#[38,113,117,111,116,59]⟩,.string ⟨#[39]⟩,.string ⟨#[38,35,51,57,59]⟩,.string ⟨#[60]⟩,.string ⟨#[38,108,116,59]⟩,.string ⟨#[62]⟩,.string ⟨#[38,103,116,59]⟩]) (.int .i64 0)).run prog w=.ok (.agg #[.string ⟨#[38]⟩,.string ⟨#[38,97,109,112,59]⟩]) w:=by kernel_rfl
theorem xG(w:World):(Instr.index 250 (.agg #[.string ⟨#[38]⟩,.string ⟨#[38,97,109,112,59]⟩,.string ⟨#[34]⟩,.string ⟨#[38,113,117,111,116,59]⟩,.string ⟨#[39]⟩,.string ⟨#[38,35,51,57,59]⟩,.string ⟨#[60]⟩,.string ⟨#[38,108,116,59]⟩,.string ⟨#[62]⟩,.string ⟨#[38,103,116,59]⟩]) (.int .i64 1)).run prog w=.ok (.agg #[.string ⟨#[34]⟩,.string ⟨#[38,113,117,111,116,59]⟩]) w:=by kernel_rfl
theorem xH(w:World):(Instr.index 250 (.agg #[.string ⟨#[38]⟩,.string ⟨#[38,97,109,112,59]⟩,.string ⟨#[34]⟩,.string ⟨#[38,113,117,111,116,59]⟩,.string ⟨#[39]⟩,.string ⟨#[38,35,51,57,59]⟩,.string ⟨#[60]⟩,.string ⟨#[38,108,116,59]⟩,.string ⟨#[62]⟩,.string ⟨#[38,103,116,59]⟩]) (.int .i64 2)).run prog w=.ok (.agg #[.string ⟨#[39]⟩,.string ⟨#[38,35,51,57,59]⟩]) w:=by kernel_rfl
theorem xI(w:World):(Instr.index 250 (.agg #[.string ⟨#[38]⟩,.string ⟨#[38,97,109,112,59]⟩,.string ⟨#[34]⟩,.string ⟨#[38,113,117,111,116,59]⟩,.string ⟨#[39]⟩,.string ⟨#[38,35,51,57,59]⟩,.string ⟨#[60]⟩,.string ⟨#[38,108,116,59]⟩,.string ⟨#[62]⟩,.string ⟨#[38,103,116,59]⟩]) (.int .i64 3)).run prog w=.ok (.agg #[.string ⟨#[60]⟩,.string ⟨#[38,108,116,59]⟩]) w:=by kernel_rfl
theorem xJ(w:World):(Instr.index 250 (.agg #[.string ⟨#[38]⟩,.string ⟨#[38,97,109,112,59]⟩,.string ⟨#[34]⟩,.string ⟨#[38,113,117,111,116,59]⟩,.string ⟨#[39]⟩,.string ⟨#[38,35,51,57,59]⟩,.string ⟨#[60]⟩,.string ⟨#[38,108,116,59]⟩,.string ⟨#[62]⟩,.string ⟨#[38,103,116,59]⟩]) (.int .i64 4)).run prog w=.ok (.agg #[.string ⟨#[62]⟩,.string ⟨#[38,103,116,59]⟩]) w:=by kernel_rfl
theorem xK(k:Nat)(h:k<5)(w:World):(Instr.index 250 (.agg #[.string ⟨#[38]⟩,.string ⟨#[38,97,109,112,59]⟩,.string ⟨#[34]⟩,.string ⟨#[38,113,117,111,116,59]⟩,.string ⟨#[39]⟩,.string ⟨#[38,35,51,57,59]⟩,.string ⟨#[60]⟩,.string ⟨#[38,108,116,59]⟩,.string ⟨#[62]⟩,.string ⟨#[38,103,116,59]⟩]) (.int .i64 (k:Int))).run prog w=.ok (.agg #[.string ⟨#[(R0 k).1]⟩,.string ⟨(R0 k).2.toArray⟩]) w:=by
 have:k=0∨k=1∨k=2∨k=3∨k=4:=by omega
 rcases this with rfl|rfl|rfl|rfl|rfl
 ·exact xF w
 ·exact xG w
 ·exact xH w
 ·exact xI w
 exact xJ w
theorem xL(w:World)(p:Pr)(t:TypeId):∀j u,((G6 [p]).flatMap Bi)[j]?=some u→(w.alloc (.cells #[.string ⟨#[p.1]⟩,.string ⟨p.2.toArray⟩] t)).cell? ((⟨w.heap.size,0,none⟩:Go.Addr).add j)=some u:=fun j u h=>by
 rw[Dz,(A1.new w _ t).cell];rw[Sp]at h
 match j,h with
 |0,h=>exact h
 |1,h=>exact h
 |j+2,h=>simp[P1]at h
theorem xM(w:World)(p:Pr)(t:TypeId)(n:Nat)(h:w.heap.size=n):∀j u,((G6 [p]).flatMap Bi)[j]?=some u→(w.alloc (.cells #[.string ⟨#[p.1]⟩,.string ⟨p.2.toArray⟩] t)).cell? ((⟨n,0,none⟩:Go.Addr).add j)=some u:=h▸xL w p t
theorem xN(a b:List Pr):G6 (a++b)=G6 a++G6 b:=by unfold G6;rw[CR]
theorem xO(k:Nat)(h:k<5):G8.take (k+1)=G8.take k++[R0 k]:=by
 have:k=0∨k=1∨k=2∨k=3∨k=4:=by omega
 rcases this with rfl|rfl|rfl|rfl|rfl<;>rfl
theorem xP(s:Bs)(w:World)(h:Gr w)(E:s.length≤1000000000):Calls prog 104 #[.string ⟨s.toArray⟩] w fun e W=>e=.returned (.string ⟨(Ej s).toArray⟩)∧Below w.heap.size w W:=by
 have F:w.cell? ⟨1,0,none⟩=some (.string ⟨#[38]⟩):=h.signs 0 (by decide);have G:w.cell? ⟨1,1,none⟩=some (.string ⟨#[38,97,109,112,59]⟩):=h.signs 1 (by decide);have I:w.cell? ⟨1,2,none⟩=some (.string ⟨#[34]⟩):=h.signs 2 (by decide);have J:w.cell? ⟨1,3,none⟩=some (.string ⟨#[38,113,117,111,116,59]⟩):=h.signs 3 (by decide);have K:w.cell? ⟨1,4,none⟩=some (.string ⟨#[39]⟩):=h.signs 4 (by decide);have L:w.cell? ⟨1,5,none⟩=some (.string ⟨#[38,35,51,57,59]⟩):=h.signs 5 (by decide);have M:w.cell? ⟨1,6,none⟩=some (.string ⟨#[60]⟩):=h.signs 6 (by decide);have N:w.cell? ⟨1,7,none⟩=some (.string ⟨#[38,108,116,59]⟩):=h.signs 7 (by decide);have O:w.cell? ⟨1,8,none⟩=some (.string ⟨#[62]⟩):=h.signs 8 (by decide);have P:w.cell? ⟨1,9,none⟩=some (.string ⟨#[38,103,116,59]⟩):=h.signs 9 (by decide);go_enter func104,ntmps104;go_wp2_with fail;clear F G I J K L M N O P;go_loopw[3,7] (fun v i wr=>∃k:Nat,i=.int .i64 k∧k≤5∧E9 wr w.heap.size v (G6 (G8.take k))∧Below w.heap.size w wr) (fun _ i _=>5-(intOf i).toNat)
 case atStart=>exact⟨0,rfl,by omega,A0.nil _ _ _ _ _,AD _ _⟩
 obtain⟨k,rfl,hk,H,B⟩:=hrel;by_cases f:k<5
 ·have Q:=xK k f;have T:=AB (by rw[xO k f,xN]:G6 (G8.take (k+1))=G6 (G8.take k)++G6 [R0 k]);have S:=Vz (G8.take k);have U:(G8.take k).length≤5:=by simp;omega
  have V:(G6 (G8.take k)).length≤10:=by omega
  clear S U;generalize G6 (G8.take k)=X at H T V;generalize R0 k=p at Q T;have kp:=(A1.new wr #[.string ⟨#[p.1]⟩,.string ⟨p.2.toArray⟩] 249).cell;have Y:=A0.alloc H (.cells #[.string ⟨#[p.1]⟩,.string ⟨p.2.toArray⟩] 249);have Z:=A0.alloc Y (.cells #[.string ⟨#[p.1]⟩,.string ⟨p.2.toArray⟩] 9);have g:=B.alloc B.size (.cells #[.string ⟨#[p.1]⟩,.string ⟨p.2.toArray⟩] 249);have l:=g.alloc g.size (.cells #[.string ⟨#[p.1]⟩,.string ⟨p.2.toArray⟩] 9);have a0:=xM (wr.alloc (.cells #[.string ⟨#[p.1]⟩,.string ⟨p.2.toArray⟩] 249)) p 9 (wr.heap.size+1) (by simp);have a1:=l.size;have m:2=(G6 [p]).length:=rfl;have d:=AB m;clear m;go_wp2_with(at_builtin;refine Mk (α:=Bs) (cs:=Bi) (size:=1) (z:=.string ByteArray.empty) Cw Mu Q6 rfl (by decide) underlying55 rfl _ _ rfl w.heap.size _ X (G6 [p]) ⟨wr.heap.size+1,0,none⟩ 2 2 d.o rfl Z rfl a0 (by rw[←d.o];omega) (by rw[←d.o];unfold maxLen;omega) a1 ?_;intro v' w4 a2 b2 a3);go_wp2_with fail;go_roundw
  case rel=>exact⟨k+1,by go_num,by omega,by rw[T.o];exact a2,l.trans a3⟩
  simp[intOf];omega
 obtain rfl:k=5:=by omega
 obtain⟨b,b3,hv,b4,hc⟩:=E9.pr H (by decide);subst hv;obtain⟨b5,a4,a5,o⟩:=A0.rd (by decide) Cw H;have hl:(G6 (G8.take 5)).length=10:=rfl;obtain⟨b6,a6,b7,q⟩:=o (by decide);injection a5 with a _ _;rw[a6]at a;injection a with a;injection a with a7 _ _;subst a7;obtain⟨n,c⟩:∃n,n=2*(G8.take 5).length:=⟨_,rfl⟩;rw[←c];have R:=bC b a4 G8 wr (fun j u r=>by
  rw[Dz];have b8:j<10:=by
   have:=(CM.1 r).1;exact this
  rw[q j (by rw[hl];omega),Sp];exact r) (by decide) (by decide) n c
 have Hn:=AB c;clear c;have a8:=AB R;clear R hc H q o;go_wp2_with fail;with_reducible refine a8.o.mono ?_
 rintro e w5⟨t,v5,rfl,x,y,A,C,D⟩;have B5:=B.trans (D.mono B.size);have a9:=cP t v5 G8 xE s w5 y A C E;have b0:w.heap.size≤t:=BC B.size x;clear D y A C x;go_wp2_with fail;refine a9.mono ?_;rintro e w6⟨rfl,b1⟩;go_wp2_with fail;go_ret;exact⟨rfl,B5.trans (b1.mono b0)⟩
theorem xQ(w:World):Calls prog 186 #[] w fun e W=>e=.returned (.agg #[.string ⟨#[115,99,114,105,112,116]⟩,.string ⟨#[115,116,121,108,101]⟩,.string ⟨#[116,101,120,116,97,114,101,97]⟩,.string ⟨#[116,105,116,108,101]⟩])∧Below w.heap.size w W:=by
 go_enter func186,ntmps186;go_wp2_with fail;refine AL (v:=.agg #[.string ⟨#[115,99,114,105,112,116]⟩,.string ⟨#[115,116,121,108,101]⟩,.string ⟨#[116,101,120,116,97,114,101,97]⟩,.string ⟨#[116,105,116,108,101]⟩]) (by simp[results,results186,go_sem]) rfl ⟨rfl,(AD _ _).alloc (AC _) _⟩
theorem xR(w:World):Calls prog 299 #[] w fun e W=>e=.returned (.agg #[.string ⟨#[98,97,99,107,103,114,111,117,110,100]⟩,.string ⟨#[104,114,101,102]⟩,.string ⟨#[115,114,99]⟩])∧Below w.heap.size w W:=by
 go_enter func299,ntmps299;go_wp2_with fail;refine AL (v:=.agg #[.string ⟨#[98,97,99,107,103,114,111,117,110,100]⟩,.string ⟨#[104,114,101,102]⟩,.string ⟨#[115,114,99]⟩]) (by simp[results,results299,go_sem]) rfl ⟨rfl,(AD _ _).alloc (AC _) _⟩
def Hm(x:Aj):List Value:=[.int .i64 (x.1:Int),.int .i64 (x.2.1:Int),.string ⟨x.2.2.toArray⟩]
theorem Gq(x:Aj):(Hm x).length=3:=rfl
theorem T9(x:Aj):∀u∈Hm x,u.oneCell'=true:=fun u h=>by
 simp[Hm]at h;rcases h with rfl|rfl|rfl<;>rfl
theorem Ta:(prog.info? 96).map (fun i=>(i.zero,i.size,i.bytes))=some (some (.agg #[.int .i64 0,.int .i64 0,.string ByteArray.empty]),3,32):=by kernel_rfl
abbrev G9(w:World)(B:Nat)(v:Value)(l:List Aj):Prop:=A0 96 3 Hm w B v l
def Sc(B b:Nat)(s:Bs)(i:Nat)(out:List Aj)(w:World):Prop:=∃v,A1 w b #[.string ⟨s.toArray⟩,.int .i64 (i:Int),v] 165∧G9 w B v out∧B≤b
theorem Sc.next{B b:Nat}{s:Bs}{i:Nat}{out:List Aj}{w w':World}(h:Sc B b s i out w)(H:Below w.heap.size w w'):Sc B b s i out w':=by
 obtain⟨v,a,c,d⟩:=h;exact⟨v,a.next H a.lt,A0.next c H,d⟩
theorem Sc.drew{B b:Nat}{s:Bs}{i:Nat}{out:List Aj}{w:World}(h:Sc B b s i out w):Sc B b s i out w.drew:=h
variable {w:World}{out:List Aj}{i B b t e size n k:Nat}{s name l:Bs}{c:UInt8}
theorem Sc.at(h:Sc B b s i out w)(j:Nat):Sc B b s j out (w.setCell ⟨b,1,none⟩ (.int .i64 (j:Int))):=by
 obtain⟨v,H,a,c⟩:=h;refine⟨v,H.set 1 (.int .i64 (j:Int)),?_,c⟩;exact Qt a fun g d=>DB w ⟨b,1,none⟩ _ g (P2 a H (by decide) g d)
theorem Sc.lt{B b:Nat}{s:Bs}{i:Nat}{out:List Aj}{w:World}(h:Sc B b s i out w):b<w.heap.size:=by
 obtain⟨v,H,_,_⟩:=h;exact H.lt
theorem Sc.base(h:Sc B b s i out w):B≤w.heap.size:=by
 have:=h.lt;obtain⟨v,_,_,H⟩:=h;omega
theorem Wt(l p:Bs)(w:World)(H:l.length<4294967281)(g:Cb w):Calls prog 66 #[.string ⟨l.toArray⟩,.string ⟨p.toArray⟩] w fun e W=>e=.returned (.int .i64 (index l p))∧W=w:=(Uv l p w H g).mono fun _ _ h=>⟨h.1,h.2.symm⟩
theorem Wu(B b:Nat)(s p:Bs)(i:Nat)(out:List Aj)(w:World)(j:Gr w)(h:Sc B b s i out w)(l:i≤s.length)(m:s.length≤1000000000)(o:p.length≤1000):Calls prog 99 #[.pointer (some ⟨b,0,none⟩),.string ⟨p.toArray⟩] w fun e W=>e=.returned (.tuple #[])∧Sc B b s (Cc s p i) out W∧Below B w W:=by
 have q:=h.base;have H:=AB h;obtain⟨v,k,_,f⟩:=h;have K:=k.cell;have r:(i:Int)≤s.length:=by omega
 have t:(0:Int)≤i:=by omega
 have X:=fun n=>Wt (s.drop i) p (w.drewN n) (by simp;omega) (j.next (CB (AD w.heap.size w) n)).g
 have S:=AB (by rfl:Cc s p i=if index (s.drop i) p<0 then s.length else i+((index (s.drop i) p).toNat+p.length));have x:=Lp (s.drop i) p;rw[AS]at x;generalize index (s.drop i) p=z at X S x;go_enter func99,ntmps99;go_wp2_with fail;go_quiet((go_at_call 66;exact FZ (X _)));have a:=CB (AD B w) nq;have c:=H.o.next (CB (AD w.heap.size w) nq);have d:=k.next (CB (AD w.heap.size w) nq) k.lt;generalize w.drewN nq=u at a c d⊢;clear K X;have K:=d.cell;have y:=d.free;by_cases g:z<0
 ·have E:=AB (by rw[S.o,AM g]:Cc s p i=s.length);go_wp2_with fail;refine AL (II rfl _ _ _) rfl ?_;exact⟨rfl,by rw[E.o];exact c.at s.length,a.setCell f _⟩
 have A:0≤z:=by omega
 obtain⟨n,rfl⟩:∃n:Nat,z=(n:Int):=⟨z.toNat,by omega⟩;have E:=AB (by rw[S.o,AI g];rfl:Cc s p i=i+(n+p.length));have V:=AB (by omega:((i:Int)+((n:Int)+(p.length:Int)))=((i+(n+p.length):Nat):Int));have C:n+p.length≤s.length:=by omega
 have D:i+(n+p.length)≤s.length:=by omega
 clear x;go_wp2_with fail
 go_end0
 exact⟨rfl,by rw[E.o,V.o];exact c.at _,a.setCell f _⟩
theorem Ns{α:Type}{cs:α→List Value}{z:Value}(p:∀x,(cs x).length=size)(q:∀x,∀u∈cs x,u.oneCell'=true)
  (r:(prog.info? e).map (fun i=>(i.zero,i.size,i.bytes))=some (some z,size,b)) (C:z.cells.size=size) (D:0<size) (F:prog.underlying t=some (.slice e))
  {O:Array Oper} {o:Oper} {a:Act} {K:Act→World→Prop} {Q:Exit→Act→World→Prop} {E:Prop} (G:o.guard=none) (s x:Operand)
  (I:o.op=.call {callee:=.builtin .append,args:=#[s,x],argTypes:=#[t,t]}) (B:Nat) (v:Value) (xs Y:List α) (A:Go.Addr) (m c:Nat) (J:m=Y.length) (L:0<m)
  (M:a.eval s=v) (n:A0 e size cs w B v xs) (N:a.eval x=.slice (some A) m c) (P:∀j u,(Y.flatMap cs)[j]?=some u→w.cell? (A.add j)=some u) (R:(xs.length+Y.length)*b≤140737488355328) (S:xs.length+Y.length≤maxLen) (f:B≤w.heap.size)
  (h:∀V W,A0 e size cs W B V (xs++Y)→w.grownBy W v.ownBlock→Below B w W→K (a.put o.dst V) W):if Region.wanted o (yielded O a.tmps)=true then Oper.wp prog o a w K Q else E:=by
 subst J;obtain⟨T,U,X,Z,a0⟩:=FQ r;refine step_append_lies (w:=w) G s x t I B e T z size b F U X Z a0 C D v xs.length _ M n A Y.length c (Y.flatMap cs) N (Ix p Y) P (fun u hu=>?_) L S R f _ rfl ?_
 ·obtain⟨y,_,hy⟩:=FD.1 hu;exact q y u hy
 intro g a1 W h1 l _ _;refine h _ W ?_ l ((AD B w).grown l f fun k H=>?_)
 ·unfold A0;rw[CR,AH];exact h1
 rcases n.2 with⟨d,_⟩|⟨g,a1,a2,d,hg,_⟩
 ·rw[d]at H;cases H
 rw[d]at H;injection H with H;rw[←H];exact hg
theorem eK(b c n:Nat)(xs:List Bs)(x:Bs)(w:World)(a:n=xs.length)(d:∀j(h:j<xs.length),w.cell? ⟨b,j,none⟩=some (.string ⟨(xs[j]).toArray⟩))(i:n≤1000000000000):Calls prog 187 #[.slice (some ⟨b,0,none⟩) n c,.string ⟨x.toArray⟩] w fun e W=>e=.returned (.bool (xs.contains x))∧w=W:=by
 subst a;refine(Tryz.slices_Contains_string b 0 xs.length c (xs.map fun y=>(⟨y.toArray⟩:ByteArray)) ⟨x.toArray⟩ w (by simp) (by omega) (fun j H=>?_)).mono ?_
 ·rw[DS]at H;rw[EX,d j H];simp[AK,H]
 rintro e W⟨rfl,rfl⟩;refine⟨Ba ?_,rfl⟩;rw[CH (by simp),DZ,containsS_iff,GF,DY];constructor
 ·rintro⟨y,f,h⟩;have g:y.toArray=x.toArray:=AF ByteArray.data h;have:y=x:=by simpa using g
  rw[←this];exact f
 exact fun h=>⟨x,h,rfl⟩
theorem xS(w:World)(x:Aj)(t:TypeId):∀j u,([x].flatMap Hm)[j]?=some u→(w.alloc (.cells #[.int .i64 (x.1:Int),.int .i64 (x.2.1:Int),.string ⟨x.2.2.toArray⟩] t)).cell? ((⟨w.heap.size,0,none⟩:Go.Addr).add j)=some u:=fun j u h=>by
 rw[Dz,(A1.new w _ t).cell]
 match j,h with
 |0,h=>exact h
 |1,h=>exact h
 |2,h=>exact h
 |j+3,h=>simp[Hm]at h
def Eu(c:UInt8):Bool:=c==34||c==39
def Lf(c:UInt8)(l:Bs):Int:=if Eu c then indexByte l c else indexAny (c::l) [32,9,13,10,62]
def Nt(c:UInt8):Nat:=if Eu c then 1 else 0
theorem xT(h:s.drop i=[]):Dl s name i=(false,i,[]):=by unfold Dl;rw[h]
theorem xU(h:s.drop i=c::l):Dl s name i=if Lf c l<0 then(false,s.length,[])else(true,i+(Lf c l).toNat+2*Nt c,if Hf.contains name then[(i+Nt c,(Lf c l).toNat,Cr (((c::l).drop (Nt c)).take (Lf c l).toNat))]else[]):=by
 unfold Dl;rw[h];rfl
theorem xV(c:UInt8)(l:Bs):Lf c l<0∨(0≤Lf c l∧(Lf c l).toNat+2*Nt c≤l.length+1):=by
 unfold Lf Nt;split
 ·rcases Ym l c with h|h
  ·exact Or.inl h
  right;omega
 rcases Rw (c::l) [32,9,13,10,62]with h|h
 ·exact Or.inl h
 right;simp at h;omega
theorem Wv(c:UInt8):Eu c=(((c.toNat:Int)==34)||((c.toNat:Int)==39)):=by
 have h:∀d:UInt8,(c==d)=((c.toNat:Int)==(d.toNat:Int)):=fun d=>by
  by_cases e:c=d
  ·subst e;simp
  rw[AG.2 e,Ou e]
 unfold Eu;rw[h 34,h 39];rfl
theorem xW(B b:Nat)(s name:Bs)(i:Nat)(out:List Aj)(w:World)(S:Gr w)(h:Sc B b s i out w)(hi:i≤s.length)(hs:s.length≤1000000000)(e3:out.length≤1000000000):Calls prog 264 #[.pointer (some ⟨b,0,none⟩),.string ⟨name.toArray⟩] w fun e w'=>e=.returned (.bool (Dl s name i).1)∧Sc B b s (Dl s name i).2.1 (out++(Dl s name i).2.2) w'∧Below B w w':=by
 have c1:=h.base;have H:=AB h;obtain⟨v,hk,_,r⟩:=h;have kc:=hk.cell;have e4:(i:Int)≤s.length:=by omega
 have e5:(0:Int)≤i:=by omega
 go_enter func264,ntmps264;go_wp2_with fail;go_quiet(fail);have y:=CB (AD B w) nq;have L:=AB (H.o.next (CB (AD w.heap.size w) nq));have T:=S.next (CB (AD w.heap.size w) nq);clear kc hk;generalize w.drewN nq=M at y L T⊢;cases D:s.drop i with
 |nil=>
  have V:=AB (xT (name:=name) D);clear D;go_wp2_with fail;go_ret;exact⟨by rw[V.o];rfl,by rw[V.o,BM];exact L.o,y⟩
 |cons c l=>
  have V:=AB (xU (name:=name) D);have a7:i+(l.length+1)=s.length:=by
   have:=AF List.length D;rw[AS,AO]at this;omega
  have c2:=AB a7;have X:=xV c l;have e6:l.length+1≤1000000000:=by omega
  have F:=AB (by rfl:Lf c l=if Eu c then indexByte l c else indexAny (c::l) [32,9,13,10,62]);have d:=AB (by rfl:Nt c=if Eu c then 1 else 0);have Q:=AB (Wv c);have e7:(c.toNat:Int)<256:=by have:=c.toNat_lt;omega
  clear D a7;generalize Lf c l=k at V X F;generalize Nt c=o at V X d;go_upto_region 5 with fail;go_cut[27] (fun t Y=>t=.bool (Eu c)∧Y=M)
  case first=>
   by_cases G:((c.toNat:Int)==34)=true
   ·go_wp2_with fail;go_meet;exact⟨by rw[Q.o,G];rfl,rfl⟩
   have G:=AP.2 G;by_cases N:((c.toNat:Int)==39)=true
   ·go_wp2_with fail;go_meet;exact⟨by rw[Q.o,G,N];rfl,rfl⟩
   have N:=AP.2 N;go_wp2_with fail;go_meet;exact⟨by rw[Q.o,G,N];rfl,rfl⟩
  case rest=>
  obtain⟨rfl,rfl⟩:=hcut;obtain⟨M,rfl⟩:∃x:World,x=wc:=⟨_,rfl⟩;clear Q;go_upto_if 27 with fail;go_cut[6,7] (fun t u Y=>t=.int .i64 (o:Int)∧u=.int .i64 k∧Below M.heap.size M Y)
  case first=>
   generalize Eu c=q at F d⊢;cases q with
   |true=>
    have Z:=AB (by rw[F.o];rfl:k=indexByte l c);have a0:=AB (by rw[d.o];rfl:o=1);go_wp2_with fail;go_quiet((go_at_call 100;exact FZ (Vg l (c.toNat:Int) c (Qj c) _)));go_wp2_with fail;go_meet;exact⟨by rw[a0.o];rfl,by rw[Z.o],CB (AD _ _) _⟩
   |false=>
    have Z:=AB (by rw[F.o];rfl:k=indexAny (c::l) [32,9,13,10,62]);have a0:=AB (by rw[d.o];rfl:o=0);go_wp2_with fail;refine(Vi (c::l) [32,9,13,10,62] (by decide) (by decide) (by decide) (by simp;omega) _).mono ?_;rintro e w3⟨rfl,hb⟩;go_wp2_with fail;go_meet;exact⟨by rw[a0.o];rfl,by rw[Z.o],hb⟩
  case rest=>
  obtain⟨rfl,rfl,O⟩:=hcut;obtain⟨w3,rfl⟩:∃x:World,x=wc:=⟨_,rfl⟩;have H3:=L.o.next O;have a8:=T.next O;have a1:=y.trans (O.mono (BC c1 y.size));have P:=AB H3;obtain⟨v3,a2,c3,_⟩:=H3;have e8:o≤1:=by have:=d.o;split at this<;>omega
  clear O T L F d y;by_cases hz:k<0
  ·have E:=AB (by rw[V.o,AM hz]:Dl s name i=(false,s.length,[]));have e9:=a2.cell;have f0:=a2.free;go_wp2_with fail;go_ret;exact⟨by rw[E.o];rfl,by rw[E.o,BM];exact P.o.at s.length,a1.setCell r _⟩
  have f1:0≤k:=by omega
  obtain⟨n,rfl⟩:∃n:Nat,k=(n:Int):=⟨k.toNat,by omega⟩;have E:=AB (by rw[V.o,AI hz];rfl:Dl s name i=(true,i+n+2*o,if Hf.contains name then[(i+o,n,Cr (((c::l).drop o).take n))]else[]));have f2:n+2*o≤l.length+1:=by omega
  clear V X hz;go_wp2_with fail;refine(xR _).mono ?_;rintro e W⟨rfl,I⟩;have J:=(P.o.next I).next ((AD W.heap.size W).alloc (AC _) (.cells #[.string ⟨#[98,97,99,107,103,114,111,117,110,100]⟩,.string ⟨#[104,114,101,102]⟩,.string ⟨#[115,114,99]⟩] 343));have a9:=(a8.next I).next ((AD W.heap.size W).alloc (AC _) (.cells #[.string ⟨#[98,97,99,107,103,114,111,117,110,100]⟩,.string ⟨#[104,114,101,102]⟩,.string ⟨#[115,114,99]⟩] 343));have a3:=P.o.base;have a4:=(a1.trans (I.mono a3)).alloc (BC a3 I.size) (.cells #[.string ⟨#[98,97,99,107,103,114,111,117,110,100]⟩,.string ⟨#[104,114,101,102]⟩,.string ⟨#[115,114,99]⟩] 343);have b0:=eK W.heap.size 3 3 Hf name (W.alloc (.cells #[.string ⟨#[98,97,99,107,103,114,111,117,110,100]⟩,.string ⟨#[104,114,101,102]⟩,.string ⟨#[115,114,99]⟩] 343)) rfl (fun j hj=>by
   rw[(A1.new W _ _).cell]
   match j,hj with
   |0,_=>rfl
   |1,_=>rfl
   |2,_=>rfl) (by decide)
  clear I a8 a1 a2 c3 P a3;go_wp2_with fail;refine b0.mono ?_;rintro e w'⟨rfl,rfl⟩;clear b0;generalize(W.alloc (.cells #[.string ⟨#[98,97,99,107,103,114,111,117,110,100]⟩,.string ⟨#[104,114,101,102]⟩,.string ⟨#[115,114,99]⟩] 343))=w5 at J a9 a4⊢;have b1:=AB (by omega:(i:Int)+((n:Int)+2*(o:Int))=((i+n+2*o:Nat):Int));have f3:i+n+2*o≤s.length:=by have:=c2.o;omega
  have b2:=J.base;generalize Hf.contains name=c4 at E⊢;cases c4 with
  |false=>
   have f:=AB (by rw[E.o];rfl:Dl s name i=(true,i+n+2*o,[]));have c5:=AB J;obtain⟨v5,a,_,_⟩:=J;have f4:=a.cell;have f5:=a.free;clear E;go_wp2_with fail;rw[b1.o];go_ret;exact⟨by rw[f.o];rfl,by rw[f.o,BM];exact c5.o.at (i+n+2*o),a4.setCell r _⟩
  |true=>
   have f:=AB (by rw[E.o];rfl:Dl s name i=(true,i+n+2*o,[(i+o,n,Cr (((c::l).drop o).take n))]));obtain⟨v5,a,b3,_⟩:=J;have f6:=(A1.drew a).cell;have c6:Gr w5.drew:=a9.next ((AD _ _).drew);have b4:=wP (((c::l).drop o).take n) w5.drew c6 (by simp;omega);have f7:(((c::l).drop o).take n).length≤1000000000:=by simp;omega
   generalize c7:Cr (((c::l).drop o).take n)=U at b4 f;clear c7 E;have c8:=AB (by omega:(i:Int)+(o:Int)=((i+o:Nat):Int));have c9:=AB a4;have d0:=AB (P2 b3 a (by decide));go_wp2_with fail;have z1:IntKind.i64.wrap ((i:Int)+(o:Int))=(i:Int)+(o:Int):=CI _ (by omega);have z2:IntKind.i64.wrap ((o:Int)+(n:Int))=(o:Int)+(n:Int):=CI _ (by omega);have z3:((o:Int)+(n:Int)).toNat=o+n:=by omega
   have z4:(0:Int)≤o:=by omega
   have z5:(o:Int)≤(o:Int)+(n:Int):=by omega
   have z6:(o:Int)+(n:Int)≤(l.length:Int)+1:=by omega
   have z7:o+n-o=n:=by omega
   have q1:=AB (by simp;omega:(out.length+[(i+o,n,U)].length)*32≤140737488355328);have q2:=AB (by unfold maxLen;simp;omega:out.length+[(i+o,n,U)].length≤maxLen);go_region_law((first
    |(refine Ns (α:=Aj) (cs:=Hm) (size:=3) (z:=.agg #[.int .i64 0,.int .i64 0,.string ByteArray.empty]) Gq T9 Ta rfl (by decide) underlying93 rfl _ _ rfl B _ out [(i+o,n,U)] ⟨m.heap.size,0,none⟩ 1 1 rfl (by decide) rfl d1 rfl b5 q1.o q2.o d2.o ?_;intro v' K a5 d3 d4;have R:=b6.o.grown d3 d0.o;have d5:=R.cell 2;have d6:=R.free 2;obtain⟨A,C,d7,_⟩:=A0.rd (by decide) Gq a5;subst d7)
    |(go_simp;with_reducible refine b4.mono ?_;rintro e m⟨rfl,p⟩;have d8:=((A1.drew a).next p (A1.drew a).lt).cell;have b6:=AB (((A1.drew a).next p (A1.drew a).lt).alloc (.cells #[.int .i64 ((i:Int)+(o:Int)),.int .i64 (n:Int),.string ⟨U.toArray⟩] 96));have d9:=b6.o.cell;have d1:=A0.alloc (A0.next (w:=w5.drew) b3 p) (.cells #[.int .i64 ((i:Int)+(o:Int)),.int .i64 (n:Int),.string ⟨U.toArray⟩] 96);have b5:=(by rw[c8.o];exact xS m (i+o,n,U) 96:∀j u,([(i+o,n,U)].flatMap Hm)[j]?=some u→(m.alloc (.cells #[.int .i64 ((i:Int)+(o:Int)),.int .i64 (n:Int),.string ⟨U.toArray⟩] 96)).cell? ((⟨m.heap.size,0,none⟩:Go.Addr).add j)=some u);have d2:=AB (by have:=p.size;simp at this⊢;omega:B≤(m.alloc (.cells #[.int .i64 ((i:Int)+(o:Int)),.int .i64 (n:Int),.string ⟨U.toArray⟩] 96)).heap.size))))
   all_goals
    have a6:=R.set 2 (.slice A (out.length+1) C);have b7:=P2 a5 R (by decide);have b8:Sc B b s i (out++[(i+o,n,U)]) (K.setCell ⟨b,2,none⟩ (.slice A (out.length+1) C)):=by
     refine⟨.slice A (out.length+1) C,a6,?_,r⟩;have h:=Qt (w':=K.setCell ⟨b,2,none⟩ (.slice A (out.length+1) C)) a5 (fun g S=>DB K ⟨b,2,none⟩ _ g (b7 g S));rw[(by simp:Value.slice A (out++[(i+o,n,U)]).length C=.slice A (out.length+1) C)]at h;exact h
    have b9:=AB b8;have e0:Below B w m:=c9.o.drew.trans (p.mono b2);have c0:Below B w (K.setCell ⟨b,2,none⟩ (.slice A (out.length+1) C)):=((e0.alloc (BC b2 p.size) (.cells #[.int .i64 ((i:Int)+(o:Int)),.int .i64 (n:Int),.string ⟨U.toArray⟩] 96)).trans d4).setCell r _;have e1:=a6.cell;have e2:=a6.free;clear z1 z2 z3 z5 z7 d5 d6 d8 d9 b5 b8 b7;generalize K.setCell ⟨b,2,none⟩ (.slice A (out.length+1) C)=f8 at b9 c0 e1 e2⊢;go_wp2_with fail;rw[b1.o];go_ret;exact⟨by rw[f.o];rfl,by rw[f.o];exact b9.o.at (i+n+2*o),c0.setCell r _⟩
def Lg(c:UInt8):Bs:=if c=38 then[38,97,109,112,59]else if c=34 then[38,113,117,111,116,59]else if c=39 then[38,35,51,57,59]else if c=60 then[38,108,116,59]else if c=62 then[38,103,116,59]else[c]
theorem xX:((List.range 256).all fun n=>(Ea G8 n.toUInt8).getD [n.toUInt8]==Lg n.toUInt8)=true:=by kernel_rfl
theorem xY(c:UInt8):(Ea G8 c).getD [c]=Lg c:=by
 have:=AW.1 xX c.toNat (BY.2 c.toNat_lt);rw[show c.toNat.toUInt8=c by simp]at this;exact BG.1 this
theorem xZ(c:UInt8):(Lg c).length≤6:=by
 unfold Lg;repeat' split
 all_goals first|decide|simp
theorem yA(c:UInt8)(s:Bs):Ej (c::s)=Lg c++Ej s:=by
 unfold Ej;rw[P6,xY]
theorem R1(d:UInt8)(H:d.toNat=n)(h:(c.toNat:Int)=n):c=d:=BJ.1 (by omega)
theorem yB(s:Bs)(w:World)(q:s.length≤1000000000):Calls prog 126 #[.string ⟨s.toArray⟩] w fun e W=>e=.returned (.string ⟨(Ej s).toArray⟩)∧W=w:=by
 go_enter func126,ntmps126;go_wp2_with fail;go_loopw[3,8] (fun x i wr=>∃(k:Nat)(o:Bs),x=.string ⟨o.toArray⟩∧i=.int .i64 k∧k≤s.length∧o.length≤6*k∧Hid (o++Ej (s.drop k)=Ej s)∧wr=w) (fun _ i _=>s.length-(intOf i).toNat)
 case atStart=>exact⟨0,[],rfl,rfl,by omega,by simp,AB (by simp),rfl⟩
 obtain⟨k,o,rfl,rfl,r,u,O,rfl⟩:=hrel;by_cases f:k<s.length
 ·have g:=AB (by rw[←O.o,AE f,yA,AJ]:(o++Lg s[k])++Ej (s.drop (k+1))=Ej s);have L:=AB (xZ s[k]);have v:(s[k].toNat:Int)<256:=by have:=s[k].toNat_lt;omega
  have y:wrap64 ((k:Int)+1)=(k:Int)+1:=by unfold wrap64;omega
  go_upto_block 2 with fail;go_cut[5] (fun t l=>t=.string ⟨(Lg s[k]).toArray⟩∧l=wr)
  case first=>
   by_cases H:((s[k].toNat:Int)==38)=true
   ·have E:=AB (R1 38 rfl (BG.1 H));go_wp2_with fail;go_meet;exact⟨by rw[E.o];rfl,rfl⟩
   by_cases a:((s[k].toNat:Int)==34)=true
   ·have E:=AB (R1 34 rfl (BG.1 a));go_wp2_with fail;go_meet;exact⟨by rw[E.o];rfl,rfl⟩
   by_cases b:((s[k].toNat:Int)==39)=true
   ·have E:=AB (R1 39 rfl (BG.1 b));go_wp2_with fail;go_meet;exact⟨by rw[E.o];rfl,rfl⟩
   by_cases c:((s[k].toNat:Int)==60)=true
   ·have E:=AB (R1 60 rfl (BG.1 c));go_wp2_with fail;go_meet;exact⟨by rw[E.o];rfl,rfl⟩
   by_cases d:((s[k].toNat:Int)==62)=true
   ·have E:=AB (R1 62 rfl (BG.1 d));go_wp2_with fail;go_meet;exact⟨by rw[E.o];rfl,rfl⟩
   have m:=AB (show Lg s[k]=[s[k]]from by
    unfold Lg;rw[AI (fun h=>H (by rw[h];rfl)),AI (fun h=>a (by rw[h];rfl)),AI (fun h=>b (by rw[h];rfl)),AI (fun h=>c (by rw[h];rfl)),AI (fun h=>d (by rw[h];rfl))])
   have H:=AP.2 H;have a:=AP.2 a;have b:=AP.2 b;have c:=AP.2 c;have d:=AP.2 d;go_wp2_with fail;go_meet;have j:=AB (by rw[AE f];rfl:(s.drop k).take 1=[s[k]]);exact⟨by rw[m.o];first|rfl|(rw[j.o];done)|(simp;exact j.o),rfl⟩
  case rest=>
  obtain⟨rfl,n⟩:=hcut;obtain rfl:=n.symm;have p:=L.o;generalize Lg s[k]=z at g p;go_wp2_with fail;go_roundw
  case rel=>exact⟨k+1,o++z,by simp,by go_num,by omega,by simp;omega,g,by first|rfl|trivial⟩
  simp[intOf];omega
 obtain rfl:k=s.length:=by omega
 have N:=AB (by rw[←O.o,AQ];simp[Ej,Ci]:Ej s=o);go_wp2_with fail;go_ret;exact⟨by rw[N.o];rfl,rfl⟩
def Gs(l:Bs)(k:Nat):Bs×Nat:=match Gk l with
 |some j=>if j<k then((Cf.getD j ([],[])).1,(Cf.getD j ([],[])).2.length)else(l.take 1,1)
 |none=>(l.take 1,1)
theorem eL(b:k<5):(hasPrefix l (Cf.getD k ([],[])).2=true)↔Gk l=some k:=by
 constructor
 ·intro h;unfold hasPrefix at h;rw[BR]at h;obtain⟨r,rfl⟩:=h;have:k=0∨k=1∨k=2∨k=3∨k=4:=by omega
  rcases this with rfl|rfl|rfl|rfl|rfl<;>rfl
 intro h;unfold Gk at h;rw[ET]at h;obtain⟨H,a,_⟩:=h;simpa[AK,H]using a
theorem yC(l:Bs):Gs l 0=(l.take 1,1):=by
 unfold Gs;cases Gk l<;>simp
theorem yD(H:k<5)(h:hasPrefix l (Cf.getD k ([],[])).2=true):Gs l (k+1)=((Cf.getD k ([],[])).1,(Cf.getD k ([],[])).2.length):=by
 unfold Gs;rw[(eL H).1 h];simp
theorem yE(a:k<5)(h:hasPrefix l (Cf.getD k ([],[])).2=false):Gs l (k+1)=Gs l k:=by
 unfold Gs;cases s:Gk l with
 |none=>rfl
 |some j=>
  have:j≠k:=fun e=>by
   subst e;rw[(eL a).2 s]at h;cases h
  simp only;by_cases H:j<k
  ·rw[AM H,AM (by omega)]
  rw[AI H,AI (by omega)]
theorem yF(h:l≠[]):Cr l=(Gs l 5).1++Cr (l.drop (Gs l 5).2)∧1≤(Gs l 5).2∧(Gs l 5).2≤l.length∧(Gs l 5).1.length≤1:=by
 unfold Gs;cases H:Gk l with
 |none=>
  have:=BE.2 h;exact⟨eB h H,AC _,this,by simp;omega⟩
 |some j=>
  obtain⟨a,b,c,d,e⟩:=eC h H;simp only;rw[AM a];exact⟨e,b,c,d⟩
def R2:Array Value:=#[.string ⟨#[38,38,97,109,112,59]⟩,.string ⟨#[34,38,113,117,111,116,59]⟩,.string ⟨#[39,38,35,51,57,59]⟩,.string ⟨#[60,38,108,116,59]⟩,.string ⟨#[62,38,103,116,59]⟩]
theorem yG(h:k<5):∃(d:UInt8)(p:Bs),Cf.getD k ([],[])=([d],p)∧R2[k]?=some (.string ⟨(d::p).toArray⟩)∧p.length≤6:=by
 have:k=0∨k=1∨k=2∨k=3∨k=4:=by omega
 rcases this with rfl|rfl|rfl|rfl|rfl
 ·exact⟨38,[38,97,109,112,59],rfl,rfl,by decide⟩
 ·exact⟨34,[38,113,117,111,116,59],rfl,rfl,by decide⟩
 ·exact⟨39,[38,35,51,57,59],rfl,rfl,by decide⟩
 ·exact⟨60,[38,108,116,59],rfl,rfl,by decide⟩
 exact⟨62,[38,103,116,59],rfl,rfl,by decide⟩
theorem yH(s:Bs)(w:World)(I:s.length≤1000000000):Calls prog 213 #[.string ⟨s.toArray⟩] w fun e A=>e=.returned (.string ⟨(Cr s).toArray⟩)∧Below w.heap.size w A:=by
 go_enter func213,ntmps213;go_wp2_with fail;go_loopw[0,3] (fun t o wr=>∃l O:Bs,t=.string ⟨l.toArray⟩∧o=.string ⟨O.toArray⟩∧l.length+O.length≤s.length∧Hid (O++Cr l=Cr s)∧Below w.heap.size w wr) (fun t _ _=>I9 t)
 case atStart=>exact⟨s,[],rfl,rfl,by simp,AB (by simp),AD _ _⟩
 obtain⟨l,O,rfl,rfl,J,U,B⟩:=hrel;by_cases h:l=[]
 ·subst h;have N:=AB (by rw[←U.o];simp[Cr,J9]:Cr s=O);go_wp2_with fail;go_ret;exact⟨by rw[N.o];rfl,B⟩
 have L:l.isEmpty=false:=by rw[AP];simpa using h
 have M:1≤l.length:=BE.2 h;have E:=AB (yF h);have Z:=AB (yC l);have K:=A1.new wr R2 9;have j:=B.alloc B.size (.cells R2 9);have W:=AB (by rfl:R2=#[.string ⟨#[38,38,97,109,112,59]⟩,.string ⟨#[34,38,113,117,111,116,59]⟩,.string ⟨#[39,38,35,51,57,59]⟩,.string ⟨#[60,38,108,116,59]⟩,.string ⟨#[62,38,103,116,59]⟩]);clear h;go_wp2_with fail;rw[←W.o];generalize wr.alloc (.cells R2 9)=C at K j⊢;go_loopw[4,5,14] (fun x n i D=>∃k:Nat,i=.int .i64 k∧k≤5∧x=.string ⟨(Gs l k).1.toArray⟩∧n=.int .i64 ((Gs l k).2:Int)∧D=C) (fun _ _ i _=>5-(intOf i).toNat)
 case atStart=>exact⟨0,rfl,by omega,by rw[Z.o],by rw[Z.o];rfl,rfl⟩
 obtain⟨k,rfl,Q,rfl,rfl,rfl⟩:=hrel;by_cases f:k<5
 ·obtain⟨d,p,c,m,R⟩:=yG f;have S:wr.cell? ⟨_,k,none⟩=_:=(K.cell k).trans m;have P:=Jc l p wr;have r:Hid (∀q,hasPrefix l p=q→Gs l (k+1)=if q then([d],p.length)else Gs l k):=AB fun q H=>by
   cases q with
   |true=>have:=yD (l:=l) f (by rw[c];exact H);rw[this,c];rfl
   |false=>have:=yE (l:=l) f (by rw[c];exact H);rw[this];rfl
  generalize H:hasPrefix l p=q at P;have a:=AB (r.o q H);clear r H c m;generalize Gs l k=y at a⊢;cases q with
  |true=>
   go_wp2_with fail;with_reducible refine P.mono ?_
   rintro e F⟨rfl,rfl⟩;go_wp2_with fail;go_roundw
   case rel=>exact⟨k+1,by go_num,by omega,by rw[a.o];rfl,by rw[a.o];simp,by first|rfl|trivial⟩
   simp[intOf];omega
  |false=>
   go_wp2_with fail;with_reducible refine P.mono ?_
   rintro e F⟨rfl,rfl⟩;go_wp2_with fail;go_roundw
   case rel=>exact⟨k+1,by go_num,by omega,by rw[a.o];rfl,by rw[a.o];rfl,by first|rfl|trivial⟩
   simp[intOf];omega
 obtain rfl:k=5:=by omega
 have b:=E.o;have g:=AB b.1;have u:=b.2.1;have v:=b.2.2.1;have z:=b.2.2.2;clear b E Z W;generalize Gs l 5=y at g u v z⊢;obtain⟨x,n⟩:=y;simp only at g u v z⊢;have G:=AB (by rw[←U.o,g.o,AJ]:(O++x)++Cr (l.drop n)=Cr s);go_wp2_with fail;go_roundw
 case rel=>exact⟨l.drop n,O++x,by simp,by simp,by simp;omega,G,j⟩
 simp;omega
end Go.Proofs.YtignjjnflcpiiaaGreatDoor
namespace Go.Proofs.YtignjjnflcpiiaaGreatDoor
open Go Go.RowKit Proofs.Tryz Lib
def Aa(p:UInt8→Bool)(s:Bs)(i:Nat):Nat:=i+((s.drop i).takeWhile p).length
variable {i j a e d:Nat}{s name:Bs}{p:UInt8 → Bool}
theorem Lh(p:UInt8→Bool)(h:i≤s.length):i≤Aa p s i∧Aa p s i≤s.length:=by
 unfold Aa;have:=Oe p (s.drop i);simp at this;omega
theorem Pf(H:i<s.length)(h:p s[i]=true):Aa p s i=Aa p s (i+1):=by
 unfold Aa;rw[AE H,List.takeWhile_cons_of_pos h,AO];omega
theorem Pg(H:i<s.length)(h:p s[i]=false):Aa p s i=i:=by
 unfold Aa;rw[AE H,List.takeWhile_cons_of_neg (by rw[h];decide)];rfl
theorem Ph(h:s.length≤i):Aa p s i=i:=by
 unfold Aa;rw[BK h];rfl
theorem eM(s o:Bs)(i:Nat):Aa (fun c=>o.contains c) s i=i+Br (s.drop i) o:=rfl
def E4(c:UInt8):Bool:=Al c||c==47
def Eo(c:UInt8):Bool:=!(Al c||c==47||c==61||c==62)
def Fq(c:UInt8):Bool:=!(Al c||c==62)
def D6(c:UInt8):Bool:=Dv.contains c
theorem yI:((List.range 256).all fun n=>E4 n.toUInt8==([32,9,13,10,47]:Bs).contains n.toUInt8&&(Eo n.toUInt8==!(([32,9,13,10,47,61,62]:Bs).contains n.toUInt8))&&(Fq n.toUInt8==!(([32,9,13,10,62]:Bs).contains n.toUInt8))&&(Al n.toUInt8==G2.contains n.toUInt8))=true:=by kernel_rfl
theorem Tb(c:UInt8):E4 c=([32,9,13,10,47]:Bs).contains c∧Eo c=!(([32,9,13,10,47,61,62]:Bs).contains c)∧Fq c=!(([32,9,13,10,62]:Bs).contains c)∧Al c=G2.contains c:=by
 have:=AW.1 yI c.toNat (BY.2 c.toNat_lt);rw[show c.toNat.toUInt8=c by simp]at this;simp only[BL,BG]at this;exact⟨this.1.1.1,this.1.1.2,this.1.2,this.2⟩
theorem eN(s:Bs)(i:Nat):Aa E4 s i=i+Br (s.drop i) [32,9,13,10,47]:=by
 rw[←eM];congr 1;funext c;exact(Tb c).1
theorem eO(s:Bs)(i:Nat):Aa Al s i=i+Br (s.drop i) G2:=by
 rw[←eM];congr 1;funext c;exact(Tb c).2.2.2
theorem eP(s cs:Bs)(p:UInt8→Bool)(H:∀c,p c=!cs.contains c)(i:Nat)(a:i≤s.length):(s.length≤Aa p s i∧indexAny (s.drop i) cs=-1)∨(Aa p s i<s.length∧indexAny (s.drop i) cs=((Aa p s i-i:Nat):Int)):=by
 have e:p=fun c=>!cs.contains c:=funext H
 rw[Of,←e];unfold Aa;have b:=Oe p (s.drop i);have l:(s.drop i).length=s.length-i:=by simp
 by_cases h:((s.drop i).takeWhile p).length=(s.drop i).length
 ·rw[AM h];exact Or.inl ⟨by omega,rfl⟩
 rw[AI h];refine Or.inr ⟨by omega,?_⟩;congr 1;omega
theorem R3(h:s.length≤i):s.drop i=[]:=BK h
theorem yJ(a:j≤s.length)(h:s.length≤Aa E4 s j∨∃H:Aa E4 s j<s.length,s[Aa E4 s j]=62):Ar s j=(min (Aa E4 s j+1) s.length,[]):=by
 have e:=Lh E4 a;have A:Bv s j=(false,min (Aa E4 s j+1) s.length,[]):=by
  unfold Bv;simp only;rw[←eN];rcases h with h|⟨H,h⟩
  ·rw[R3 h];simp only;rw[Nat.min_eq_right (by omega)];have:Aa E4 s j=s.length:=by omega
   rw[this]
  rw[AE H,h];simp only[DC];rw[EN (by omega)]
 rw[Mh (by rw[A]),A]
theorem Ww(n:j≤s.length)(d:a=Aa E4 s j)(l:a<s.length)(f:s[a]≠62)(g:e=Aa Eo s (a+1)):Bv s j=if s.length≤e then(false,s.length,[])else if(s.drop (Aa Al s e)).head?=some 61 then Dl s (A2 ((s.drop a).take (e-a))) (Aa Al s (Aa Al s e+1))else(decide (Aa Al s e<s.length),Aa Al s e,[]):=by
 unfold Bv;simp only;rw[←eN,←d,AE l];simp only;rw[AI f];have h:=eP s [32,9,13,10,47,61,62] Eo (fun c=>(Tb c).2.1) (a+1) (by omega);have k:=Lh Eo (s:=s) (i:=a+1) (by omega);rw[←g]at h k;rcases h with⟨b,H⟩|⟨b,H⟩
 ·rw[H,AM (by decide),AM b]
 rw[H,AI (show¬((e-(a+1):Nat):Int)<0 by omega),AI (show¬s.length≤e by omega),DO];have E:a+(1+(e-(a+1)))=e:=by omega
 have m:1+(e-(a+1))=e-a:=by omega
 rw[E,m,←eO,←eO]
theorem yK(b:j≤s.length)(c:a=Aa E4 s j)(l:a<s.length)(d:s[a]≠62)(f:e=Aa Eo s (a+1))(h:s.length≤e):Ar s j=(s.length,[]):=by
 have H:=Ww b c l d f;rw[AM h]at H;rw[Mh (by rw[H]),H]
theorem yL(c:j≤s.length)(g:a=Aa E4 s j)(l:a<s.length)(k:s[a]≠62)(m:e=Aa Eo s (a+1))(p:e<s.length)(f:d=Aa Al s e)(h:∀h:d<s.length,s[d]≠61):Ar s j=Ar s d:=by
 have H:=Ww c g l k m;have n:=Lh Al (s:=s) (i:=e) (by omega);rw[AI (by omega),←f]at H;rw[←f]at n;have o:(s.drop d).head?≠some 61:=by
  by_cases b:d<s.length
  ·rw[AE b,List.head?_cons];intro e;exact h b (CS e)
  rw[R3 (by omega)];simp
 rw[AI o]at H;by_cases b:d<s.length
 ·rw[Ry c (by rw[H];simp[b]),H];simp
 have q:d=s.length:=by omega
 have B:Bv s d=(false,d,[]):=by
  unfold Bv;simp only;have E:Br (s.drop d) [32,9,13,10,47]=0:=by rw[R3 (by omega)];rfl
  rw[E];simp only[BI];rw[R3 (by omega)]
 rw[Mh (by rw[H];simp[b]),H,Mh (by rw[B]),B]
theorem yM(b:j≤s.length)(c:a=Aa E4 s j)(l:a<s.length)(f:s[a]≠62)(g:e=Aa Eo s (a+1))(m:e<s.length)(i:d=Aa Al s e)(k:d<s.length)(h:s[d]=61):Bv s j=Dl s (A2 ((s.drop a).take (e-a))) (Aa Al s (d+1)):=by
 have H:=Ww b c l f g;rw[AI (by omega),←i]at H;rw[H,AM (by rw[AE k];simp[h])]
def Cm(s:Bs)(i:Nat):Nat:=if Eu (s.getD i 0)then D4 s [s.getD i 0] (i+1)else Aa Fq s i
def Cn(s:Bs)(i:Nat):Nat:=if Eu (s.getD i 0)then 1 else 0
theorem eQ(d:i<s.length):Dl s name i=if s.length≤Cm s i then(false,s.length,[])else(true,Cm s i+Cn s i,if Hf.contains name then[(i+Cn s i,Cm s i-(i+Cn s i),Cr ((s.drop (i+Cn s i)).take (Cm s i-(i+Cn s i))))]else[]):=by
 have g:s.getD i 0=s[i]:=by rw[AK];simp[d]
 have f:=AE d;unfold Dl Cm Cn;rw[g,f];simp only;show(if(if Eu s[i]then indexByte (s.drop (i+1)) s[i]else indexAny (s[i]::s.drop (i+1)) [32,9,13,10,62])<0 then _ else _)=_;cases q:Eu s[i]with
 |true=>
  have a:(s[i]==34||s[i]==39)=true:=q;simp only[DC];rw[a];simp only[DC];have x:indexByte (s.drop (i+1)) s[i]=index (s.drop (i+1)) [s[i]]:=(index_one _ _).symm;rw[x];unfold D4;rcases Lp (s.drop (i+1)) [s[i]]with h|⟨b,H⟩
  ·rw[AM h,AM h,AM (AC _)]
  simp only[AS,AO,BN]at H;have n:¬index (s.drop (i+1)) [s[i]]<0:=by omega
  simp only[AI n];rw[AI (show¬s.length≤i+1+(index (s.drop (i+1)) [s[i]]).toNat by omega)];have e:i+(index (s.drop (i+1)) [s[i]]).toNat+2*1=i+1+(index (s.drop (i+1)) [s[i]]).toNat+1:=by omega
  have E:i+1+(index (s.drop (i+1)) [s[i]]).toNat-(i+1)=(index (s.drop (i+1)) [s[i]]).toNat:=by omega
  rw[e,E];rfl
 |false=>
  have a:(s[i]==34||s[i]==39)=false:=q;simp only[BU,DJ];rw[a];simp only[BU,DJ,BI];rw[←f];have h:=eP s [32,9,13,10,62] Fq (fun c=>(Tb c).2.2.1) i (by omega);have j:=Lh Fq (s:=s) (i:=i) (by omega);rcases h with⟨b,H⟩|⟨b,H⟩
  ·rw[H,AM (by decide),AM b]
  rw[H,AI (show¬((Aa Fq s i-i:Nat):Int)<0 by omega),AI (show¬s.length≤Aa Fq s i by omega),DO];have e:i+(Aa Fq s i-i)+2*0=Aa Fq s i:=by omega
  rw[e];rfl
theorem yN(h:Bv s j=Dl s name i)(a:s.length≤i):Ar s j=(i,[]):=by
 have H:Dl s name i=(false,i,[]):=by
  unfold Dl;rw[R3 a]
 rw[Mh (by rw[h,H]),h,H]
theorem yO(h:Bv s j=Dl s name i)(a:i<s.length)(o:s.length≤Cm s i):Ar s j=(s.length,[]):=by
 have H:=eQ (name:=name) a;rw[AM o]at H;rw[Mh (by rw[h,H]),h,H]
theorem yP(a:j≤s.length)(h:Bv s j=Dl s name i)(b:i<s.length)(o:Cm s i<s.length):Ar s j=((Ar s (Cm s i+Cn s i)).1,(if Hf.contains name then[(i+Cn s i,Cm s i-(i+Cn s i),Cr ((s.drop (i+Cn s i)).take (Cm s i-(i+Cn s i))))]else[])++(Ar s (Cm s i+Cn s i)).2):=by
 have H:=eQ (name:=name) b;rw[AI (by omega)]at H;rw[Ry a (by rw[h,H]),h,H]
end Go.Proofs.YtignjjnflcpiiaaGreatDoor
