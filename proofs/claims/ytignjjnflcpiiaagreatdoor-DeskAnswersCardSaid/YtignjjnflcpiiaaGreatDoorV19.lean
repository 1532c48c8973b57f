/- page.Escape; the lists of names; slices.Contains. Conditi -/
import Derived.Test.YtignjjnflcpiiaaGreatDoorV13
import Derived.Test.YtignjjnflcpiiaaGreatDoorV17
set_option maxHeartbeats 16000000
set_option maxRecDepth 100000 set_option linter.all false
namespace Go.Proofs.YtignjjnflcpiiaaGreatDoor
open Go Go.RowKit Proofs.Tryz Lib
def Hb:List Pr:=[(38,[38,97,109,112,59]),(34,[38,113,117,111,116,59]),(39,[38,35,51,57,59]),(60,[38,108,116,59]),(62,[38,103,116,59])]
def TW:Nt Hb:=Nt.of ae
def F3(s:Bs):Bs:=Ct (Ex Hb) s
def U7(k:Nat):Pr:=Hb.getD k (0,[])
def TX(w:World):(Instr.index 250 (.agg #[.string ⟨#[38]⟩,.string ⟨#[38,97,109,112,59]⟩,.string ⟨#[34]⟩,.string ⟨#[38,113,117,111,116,59]⟩,.string ⟨#[39]⟩,.string ⟨#[38,35,51,57,59]⟩,.string ⟨#[60]⟩,.string ⟨#[38,108,116,59]⟩,.string ⟨#[62]⟩,.string ⟨#[38,103,116,59]⟩]) (.int .i64 0)).run prog w=.ok (.agg #[.string ⟨#[38]⟩,.string ⟨#[38,97,109,112,59]⟩]) w:=af
def TY(w:World):(Instr.index 250 (.agg #[.string ⟨#[38]⟩,.string ⟨#[38,97,109,112,59]⟩,.string ⟨#[34]⟩,.string ⟨#[38,113,117,111,116,59]⟩,.string ⟨#[39]⟩,.string ⟨#[38,35,51,57,59]⟩,.string ⟨#[60]⟩,.string ⟨#[38,108,116,59]⟩,.string ⟨#[62]⟩,.string ⟨#[38,103,116,59]⟩]) (.int .i64 1)).run prog w=.ok (.agg #[.string ⟨#[34]⟩,.string ⟨#[38,113,117,111,116,59]⟩]) w:=af
def TZ(w:World):(Instr.index 250 (.agg #[.string ⟨#[38]⟩,.string ⟨#[38,97,109,112,59]⟩,.string ⟨#[34]⟩,.string ⟨#[38,113,117,111,116,59]⟩,.string ⟨#[39]⟩,.string ⟨#[38,35,51,57,59]⟩,.string ⟨#[60]⟩,.string ⟨#[38,108,116,59]⟩,.string ⟨#[62]⟩,.string ⟨#[38,103,116,59]⟩]) (.int .i64 2)).run prog w=.ok (.agg #[.string ⟨#[39]⟩,.string ⟨#[38,35,51,57,59]⟩]) w:=af
def UA(w:World):(Instr.index 250 (.agg #[.string ⟨#[38]⟩,.string ⟨#[38,97,109,112,59]⟩,.string ⟨#[34]⟩,.string ⟨#[38,113,117,111,116,59]⟩,.string ⟨#[39]⟩,.string ⟨#[38,35,51,57,59]⟩,.string ⟨#[60]⟩,.string ⟨#[38,108,116,59]⟩,.string ⟨#[62]⟩,.string ⟨#[38,103,116,59]⟩]) (.int .i64 3)).run prog w=.ok (.agg #[.string ⟨#[60]⟩,.string ⟨#[38,108,116,59]⟩]) w:=af
def UB(w:World):(Instr.index 250 (.agg #[.string ⟨#[38]⟩,.string ⟨#[38,97,109,112,59]⟩,.string ⟨#[34]⟩,.string ⟨#[38,113,117,111,116,59]⟩,.string ⟨#[39]⟩,.string ⟨#[38,35,51,57,59]⟩,.string ⟨#[60]⟩,.string ⟨#[38,108,116,59]⟩,.string ⟨#[62]⟩,.string ⟨#[38,103,116,59]⟩]) (.int .i64 4)).run prog w=.ok (.agg #[.string ⟨#[62]⟩,.string ⟨#[38,103,116,59]⟩]) w:=af
def UC(k:Nat)(h:k<5)(w:World):(Instr.index 250 (.agg #[.string ⟨#[38]⟩,.string ⟨#[38,97,109,112,59]⟩,.string ⟨#[34]⟩,.string ⟨#[38,113,117,111,116,59]⟩,.string ⟨#[39]⟩,.string ⟨#[38,35,51,57,59]⟩,.string ⟨#[60]⟩,.string ⟨#[38,108,116,59]⟩,.string ⟨#[62]⟩,.string ⟨#[38,103,116,59]⟩]) k).run prog w=.ok (.agg #[.string ⟨#[(U7 k).1]⟩,.string ⟨(U7 k).2.toArray⟩]) w:=by
 have:k=0\/k=1\/k=2\/k=3\/k=4:=aa
 rcases this with rfl|rfl|rfl|rfl|rfl
 ·exact TX w
 ·exact TY w
 ·exact TZ w
 ·exact UA w
 exact UB w
def UD(w:World)(p:Pr)(t:TypeId):∀j u,((H7 [p]).flatMap Bl)[j]?=some u->(w.alloc (.cells #[.string ⟨#[p.1]⟩,p.2] t)).cell? ((⟨w.heap.size,0,none⟩:Go.Addr).add j)=some u:=fun j u h=>by
 rw[Er,(A0.new w _ t).cell];rw[Wh]at h
 match j,h with
 |0,h=>exact h
 |1,h=>exact h
 |j+2,h=>simp[S9]at h
def UE(w:World)(p:Pr)(t:TypeId)(n:Nat)(h:w.heap.size=n):∀j u,((H7 [p]).flatMap Bl)[j]?=some u->(w.alloc (.cells #[.string ⟨#[p.1]⟩,p.2] t)).cell? ((⟨n,0,none⟩:Go.Addr).add j)=some u:=h▸UD w p t
def UF(a b:List Pr):H7 (a++b)=H7 a++H7 b:=by unfold H7;rw[CZ]
def UG(k:Nat)(h:k<5):Hb.take (k+1)=Hb.take k++[U7 k]:=by
 have:k=0\/k=1\/k=2\/k=3\/k=4:=aa
 rcases this with rfl|rfl|rfl|rfl|rfl<;>rfl
theorem UH(s:Bs)(w:World)(h:Gr w)(E:s.length<=1000000000):Calls prog 104 #[s] w fun e W=>e=.returned (F3 s)/\Below w.heap.size w W:=by
 have F:w.cell? ⟨1,0,none⟩=some (.string ⟨#[38]⟩):=h.signs 0 ae;have G:w.cell? ⟨1,1,none⟩=some (.string ⟨#[38,97,109,112,59]⟩):=h.signs 1 ae;have I:w.cell? ⟨1,2,none⟩=some (.string ⟨#[34]⟩):=h.signs 2 ae;have J:w.cell? ⟨1,3,none⟩=some (.string ⟨#[38,113,117,111,116,59]⟩):=h.signs 3 ae;have K:w.cell? ⟨1,4,none⟩=some (.string ⟨#[39]⟩):=h.signs 4 ae;have L:w.cell? ⟨1,5,none⟩=some (.string ⟨#[38,35,51,57,59]⟩):=h.signs 5 ae;have M:w.cell? ⟨1,6,none⟩=some (.string ⟨#[60]⟩):=h.signs 6 ae;have N:w.cell? ⟨1,7,none⟩=some (.string ⟨#[38,108,116,59]⟩):=h.signs 7 ae;have O:w.cell? ⟨1,8,none⟩=some (.string ⟨#[62]⟩):=h.signs 8 ae;have P:w.cell? ⟨1,9,none⟩=some (.string ⟨#[38,103,116,59]⟩):=h.signs 9 ae;go_enter func104,ntmps104;go_wp2_with fail;clear F G I J K L M N O P;go_loopw[3,7] (fun v i wr=>∃k:Nat,i=k/\k<=5/\Do wr w.heap.size v (H7 (Hb.take k))/\Below w.heap.size w wr) (fun _ i _=>5-(intOf i).toNat)
 case atStart=>exact⟨0,rfl,aa,A1.nil _ _ _ _ _,AG _ _⟩
 obtain⟨k,rfl,hk,H,B⟩:=hrel;by_cases f:k<5
 ·have hI:=UC k f;have T:=AE (by rw[UG k f,UF]:H7 (Hb.take (k+1))=H7 (Hb.take k)++H7 [U7 k]);have Q:=Zo (Hb.take k);have S:(Hb.take k).length<=5:=by simp;omega
  have U:(H7 (Hb.take k)).length<=10:=aa
  clear Q S;generalize H7 (Hb.take k)=X at H T U;generalize U7 k=p at hI T;have kp:=(A0.new wr #[.string ⟨#[p.1]⟩,p.2] 249).cell;have V:=A1.alloc H (.cells #[.string ⟨#[p.1]⟩,p.2] 249);have Y:=A1.alloc V (.cells #[.string ⟨#[p.1]⟩,p.2] 9);have g:=B.alloc B.size (.cells #[.string ⟨#[p.1]⟩,p.2] 249);have l:=g.alloc g.size (.cells #[.string ⟨#[p.1]⟩,p.2] 9);have Z:=UE (wr.alloc (.cells #[.string ⟨#[p.1]⟩,p.2] 249)) p 9 (wr.heap.size+1) ah;have a0:=l.size;have m:2=(H7 [p]).length:=rfl;have d:=AE m;clear m;go_wp2_with(at_builtin;refine P7 (α:=Bs) (cs:=Bl) (size:=1) (z:=.string ByteArray.empty) By Pn Td rfl ae underlying55 rfl _ _ rfl w.heap.size _ X (H7 [p]) ⟨wr.heap.size+1,0,none⟩ 2 2 d.o rfl Y rfl Z (by rw[<-d.o];omega) (by rw[<-d.o];unfold maxLen;omega) a0 ?_;intro v' w4 a1 b1 a2);go_wp2;go_roundw
  case rel=>exact⟨k+1,aj,aa,by rw[T.o];exact a1,l.trans a2⟩
  simp[intOf];omega
 obtain rfl:k=5:=aa
 obtain⟨b,b2,hv,b3,hc⟩:=Do.pr H ae;subst hv;obtain⟨b4,a3,a4,o⟩:=A1.rd ae By H;have hl:(H7 (Hb.take 5)).length=10:=rfl;obtain⟨b5,a5,b6,q⟩:=o ae;injection a4 with a _ _;rw[a5]at a;injection a with a;injection a with a6 _ _;subst a6;obtain⟨n,c⟩:∃n,n=2*(Hb.take 5).length:=⟨_,rfl⟩;rw[<-c];have R:=gW b a3 Hb wr (fun j u r=>by
  rw[Er];have b7:j<10:=by
   have:=(CB.1 r).1;exact this
  rw[q j (by rw[hl];omega),Wh];exact r) ae ae n c
 have Hn:=AE c;clear c;have a7:=AE R;clear R hc H q o;go_wp2_with fail;with_reducible refine a7.o.mono ?_
 rintro e w5⟨t,v5,rfl,x,y,A,C,D⟩;have B5:=B.trans (D.mono B.size);have a8:=jI t v5 Hb TW s w5 y A C E;have a9:w.heap.size<=t:=AV B.size x;clear D y A C x;go_wp2_with fail;refine a8.mono ?_;rintro e w6⟨rfl,b0⟩;go_wp2;go_ret;exact⟨rfl,B5.trans (b0.mono a9)⟩
def UI(w:World):Calls prog 186 #[] w fun e W=>e=.returned (.agg #[.string ⟨#[115,99,114,105,112,116]⟩,.string ⟨#[115,116,121,108,101]⟩,.string ⟨#[116,101,120,116,97,114,101,97]⟩,.string ⟨#[116,105,116,108,101]⟩])/\Below w.heap.size w W:=by
 go_enter func186,ntmps186;go_wp2_with fail;refine AO (v:=.agg #[.string ⟨#[115,99,114,105,112,116]⟩,.string ⟨#[115,116,121,108,101]⟩,.string ⟨#[116,101,120,116,97,114,101,97]⟩,.string ⟨#[116,105,116,108,101]⟩]) (by simp[results,results186,go_sem]) rfl ⟨rfl,(AG _ _).alloc (AF _) _⟩
def UJ(w:World):Calls prog 299 #[] w fun e W=>e=.returned (.agg #[.string ⟨#[98,97,99,107,103,114,111,117,110,100]⟩,.string ⟨#[104,114,101,102]⟩,.string ⟨#[115,114,99]⟩])/\Below w.heap.size w W:=by
 go_enter func299,ntmps299;go_wp2_with fail;refine AO (v:=.agg #[.string ⟨#[98,97,99,107,103,114,111,117,110,100]⟩,.string ⟨#[104,114,101,102]⟩,.string ⟨#[115,114,99]⟩]) (by simp[results,results299,go_sem]) rfl ⟨rfl,(AG _ _).alloc (AF _) _⟩
def I4(x:Av):List Value:=[.int .i64 (x.1:Int),.int .i64 (x.2.1:Int),x.2.2]
theorem G3(x:Av):(I4 x).length=3:=rfl
def Wt(x:Av):∀u∈I4 x,u.oneCell'=true:=fun u h=>by
 simp[I4]at h;rcases h with rfl|rfl|rfl<;>rfl
def Wu:(prog.info? 96).map (fun i=>(i.zero,i.size,i.bytes))=some (some (.agg #[.int .i64 0,.int .i64 0,.string ByteArray.empty]),3,32):=af
abbrev Iy(w:World)(B:Nat)(v:Value)(l:List Av):Prop:=A1 96 3 I4 w B v l
def Sc(B b:Nat)(s:Bs)(i:Nat)(out:List Av)(w:World):Prop:=∃v,A0 w b #[s,i,v] 165/\Iy w B v out/\B<=b
def Sc.next{B b:Nat}{s:Bs}{i:Nat}{out:List Av}{w w':World}(h:Sc B b s i out w)(H:Below w.heap.size w w'):Sc B b s i out w':=by
 obtain⟨v,a,c,d⟩:=h;exact⟨v,a.next H a.lt,A1.next c H,d⟩
def Sc.drew{B b:Nat}{s:Bs}{i:Nat}{out:List Av}{w:World}(h:Sc B b s i out w):Sc B b s i out w.drew:=h
variable {w:World}{out:List Av}{i B b t e size n k:Nat}{s name l:Bs}{c:UInt8}
def Sc.at(h:Sc B b s i out w)(j:Nat):Sc B b s j out (w.setCell ⟨b,1,none⟩ j):=by
 obtain⟨v,H,a,c⟩:=h;refine⟨v,H.set 1 j,?_,c⟩;exact U0 a fun g d=>DJ w ⟨b,1,none⟩ _ g (Sb a H ae g d)
def Sc.lt{B b:Nat}{s:Bs}{i:Nat}{out:List Av}{w:World}(h:Sc B b s i out w):b<w.heap.size:=by
 obtain⟨v,H,_,_⟩:=h;exact H.lt
def Sc.base(h:Sc B b s i out w):B<=w.heap.size:=by
 have:=h.lt;obtain⟨v,_,_,H⟩:=h;omega
def aP(l p:Bs)(w:World)(H:l.length<4294967281)(g:Cj w):Calls prog 66 #[l,p] w fun e W=>e=.returned (.int .i64 (index l p))/\W=w:=(Yf l p w H g).mono fun _ _ h=>⟨h.1,h.2.symm⟩
def aQ(B b:Nat)(s p:Bs)(i:Nat)(out:List Av)(w:World)(j:Gr w)(h:Sc B b s i out w)(l:i<=s.length)(m:s.length<=1000000000)(o:p.length<=1000):Calls prog 99 #[.pointer (some ⟨b,0,none⟩),p] w fun e W=>e=.returned (.tuple #[])/\Sc B b s (Cm s p i) out W/\Below B w W:=by
 have q:=h.base;have H:=AE h;obtain⟨v,k,_,f⟩:=h;have K:=k.cell;have r:(i:Int)<=s.length:=aa
 have t:(0:Int)<=i:=aa
 have X:=fun n=>aP (s.drop i) p (w.drewN n) ag (j.next (CO (AG w.heap.size w) n)).g
 have S:=AE (ca:Cm s p i=if index (s.drop i) p<0 then s.length else i+((index (s.drop i) p).toNat+p.length));have x:=Od (s.drop i) p;rw[BD]at x;generalize index (s.drop i) p=z at X S x;go_enter func99,ntmps99;go_wp2_with fail;go_quiet((go_at_call 66;exact GW (X _)));have a:=CO (AG B w) nq;have c:=H.o.next (CO (AG w.heap.size w) nq);have d:=k.next (CO (AG w.heap.size w) nq) k.lt;generalize w.drewN nq=u at a c d|-;clear K X;have K:=d.cell;have y:=d.free;by_cases g:z<0
 ·have E:=AE (by rw[S.o,AN g]:Cm s p i=s.length);go_wp2_with fail;refine AO (JK rfl _ _ _) rfl ?_;exact⟨rfl,by rw[E.o];exact c.at s.length,a.setCell f _⟩
 have A:0<=z:=aa
 obtain⟨n,rfl⟩:∃n:Nat,z=(n:Int):=⟨z.toNat,aa⟩;have E:=AE (by rw[S.o,AL g];rfl:Cm s p i=i+(n+p.length));have V:=AE (aa:((i:Int)+((n:Int)+(p.length:Int)))=((i+(n+p.length):Nat):Int));have C:n+p.length<=s.length:=aa
 have D:i+(n+p.length)<=s.length:=aa
 clear x;go_wp2_with fail
 go_end0
 exact⟨rfl,by rw[E.o,V.o];exact c.at _,a.setCell f _⟩
def Lg{α:Type}{cs:α->List Value}{z:Value}(p:∀x,(cs x).length=size)(q:∀x,∀u∈cs x,u.oneCell'=true)
  (r:(prog.info? e).map (fun i=>(i.zero,i.size,i.bytes))=some (some z,size,b)) (C:z.cells.size=size) (D:0<size) (F:prog.underlying t=some (.slice e))
  {O:Array Oper} {o:Oper} {a:Act} {K:Act->World->Prop} {Q:Exit->Act->World->Prop} {E:Prop} (G:o.guard=none) (s x:Operand)
  (I:o.op=.call {callee:=.builtin .append,args:=#[s,x],argTypes:=#[t,t]}) (B:Nat) (v:Value) (xs Y:List α) (A:Go.Addr) (m c:Nat) (J:m=Y.length) (h0:0<m)
  (L:a.eval s=v) (n:A1 e size cs w B v xs) (M:a.eval x=.slice (some A) m c) (N:∀j u,(Y.flatMap cs)[j]?=some u->w.cell? (A.add j)=some u) (P:(xs.length+Y.length)*b<=140737488355328) (R:xs.length+Y.length<=maxLen) (f:B<=w.heap.size)
  (h:∀V W,A1 e size cs W B V (xs++Y)->w.grownBy W v.ownBlock->Below B w W->K (a.put o.dst V) W):if Region.wanted o (yielded O a.tmps)=true then Oper.wp prog o a w K Q else E:=by
 subst J;obtain⟨S,T,U,X,Z⟩:=GC r;refine step_append_lies (w:=w) G s x t I B e S z size b F T U X Z C D v xs.length _ L n A Y.length c (Y.flatMap cs) M (Kj p Y) N (fun u hu=>?_) h0 R P f _ rfl ?_
 ·obtain⟨y,_,hy⟩:=FU.1 hu;exact q y u hy
 intro g a0 W h1 l _ _;refine h _ W ?_ l ((AG B w).grown l f fun k H=>?_)
 ·unfold A1;rw[CZ,AJ];exact h1
 rcases n.2 with⟨d,_⟩|⟨g,a0,a1,d,hg,_⟩
 ·rw[d]at H;cases H
 rw[d]at H;injection H with H;rw[<-H];exact hg
def lB(b c n:Nat)(xs:List Bs)(x:Bs)(w:World)(a:n=xs.length)(d:∀j(h:j<xs.length),w.cell? ⟨b,j,none⟩=some (xs[j]))(i:n<=1000000000000):Calls prog 187 #[.slice (some ⟨b,0,none⟩) n c,x] w fun e W=>e=.returned (.bool (xs.contains x))/\w=W:=by
 subst a;refine(Tryz.slices_Contains_string b 0 xs.length c (xs.map fun y=>(⟨y.toArray⟩:ByteArray)) ⟨x.toArray⟩ w ah aa (fun j H=>?_)).mono ?_
 ·rw[DQ]at H;rw[EQ,d j H];simp[AM,H]
 rintro e W⟨rfl,rfl⟩;refine⟨Bm ?_,rfl⟩;rw[CM ah,DY,containsS_iff,IB,DN];constructor
 ·rintro⟨y,f,h⟩;have g:y.toArray=x.toArray:=CI ByteArray.data h;have:y=x:=by simpa using g
  rw[<-this];exact f
 exact fun h=>⟨x,h,rfl⟩
def UK(w:World)(x:Av)(t:TypeId):∀j u,([x].flatMap I4)[j]?=some u->(w.alloc (.cells #[.int .i64 (x.1:Int),.int .i64 (x.2.1:Int),x.2.2] t)).cell? ((⟨w.heap.size,0,none⟩:Go.Addr).add j)=some u:=fun j u h=>by
 rw[Er,(A0.new w _ t).cell]
 match j,h with
 |0,h=>exact h
 |1,h=>exact h
 |2,h=>exact h
 |j+3,h=>simp[I4]at h
def Fk(c:UInt8):Bool:=c==34||c==39
def Ny(c:UInt8)(l:Bs):Int:=if Fk c then indexByte l c else indexAny (c::l) [32,9,13,10,62]
def Qw(c:UInt8):Nat:=if Fk c then 1 else 0
def UL(h:s.drop i=[]):E9 s name i=(false,i,[]):=by unfold E9;rw[h]
def UM(h:s.drop i=c::l):E9 s name i=if Ny c l<0 then(false,s.length,[])else(true,i+(Ny c l).toNat+2*Qw c,if Ip.contains name then[(i+Qw c,(Ny c l).toNat,D1 (((c::l).drop (Qw c)).take (Ny c l).toNat))]else[]):=by
 unfold E9;rw[h];rfl
def UN(c:UInt8)(l:Bs):Ny c l<0\/(0<=Ny c l/\(Ny c l).toNat+2*Qw c<=l.length+1):=by
 unfold Ny Qw;split
 ·rcases eJ l c with h|h
  ·exact Or.inl h
  right;omega
 rcases Vp (c::l) [32,9,13,10,62]with h|h
 ·exact Or.inl h
 right;simp at h;omega
def aR(c:UInt8):Fk c=(((c.toNat:Int)==34)||((c.toNat:Int)==39)):=by
 have h:∀d:UInt8,(c==d)=((c.toNat:Int)==(d.toNat:Int)):=fun d=>by
  by_cases e:c=d
  ·subst e;simp
  rw[AI.2 e,S8 e]
 unfold Fk;rw[h 34,h 39];rfl
def UO(B b:Nat)(s name:Bs)(i:Nat)(out:List Av)(w:World)(S:Gr w)(h:Sc B b s i out w)(hi:i<=s.length)(hs:s.length<=1000000000)(e3:out.length<=1000000000):Calls prog 264 #[.pointer (some ⟨b,0,none⟩),name] w fun e w'=>e=.returned (.bool (E9 s name i).1)/\Sc B b s (E9 s name i).2.1 (out++(E9 s name i).2.2) w'/\Below B w w':=by
 have c1:=h.base;have H:=AE h;obtain⟨v,hk,_,r⟩:=h;have kc:=hk.cell;have e4:(i:Int)<=s.length:=aa
 have e5:(0:Int)<=i:=aa
 go_enter func264,ntmps264;go_wp2_with fail;go_quiet(fail);have y:=CO (AG B w) nq;have L:=AE (H.o.next (CO (AG w.heap.size w) nq));have T:=S.next (CO (AG w.heap.size w) nq);clear kc hk;generalize w.drewN nq=M at y L T|-;cases D:s.drop i with
 |nil=>
  have V:=AE (UL (name:=name) D);clear D;go_wp2;go_ret;exact⟨by rw[V.o];rfl,by rw[V.o,BU];exact L.o,y⟩
 |cons c l=>
  have V:=AE (UM (name:=name) D);have a7:i+(l.length+1)=s.length:=by
   have:=CI List.length D;rw[BD,AK]at this;omega
  have c2:=AE a7;have X:=UN c l;have e6:l.length+1<=1000000000:=aa
  have F:=AE (ca:Ny c l=if Fk c then indexByte l c else indexAny (c::l) [32,9,13,10,62]);have d:=AE (ca:Qw c=if Fk c then 1 else 0);have Q:=AE (aR c);have e7:(c.toNat:Int)<256:=eo
  clear D a7;generalize Ny c l=k at V X F;generalize Qw c=o at V X d;go_upto_region 5 with fail;go_cut[27] (fun t Y=>t=.bool (Fk c)/\Y=M)
  case first=>
   by_cases G:((c.toNat:Int)==34)=true
   ·go_wp2;go_meet;exact⟨by rw[Q.o,G];rfl,rfl⟩
   have G:=AT.2 G;by_cases N:((c.toNat:Int)==39)=true
   ·go_wp2;go_meet;exact⟨by rw[Q.o,G,N];rfl,rfl⟩
   have N:=AT.2 N;go_wp2;go_meet;exact⟨by rw[Q.o,G,N];rfl,rfl⟩
  case rest=>
  obtain⟨rfl,rfl⟩:=hcut;obtain⟨M,rfl⟩:∃x:World,x=wc:=⟨_,rfl⟩;clear Q;go_upto_if 27 with fail;go_cut[6,7] (fun t u Y=>t=o/\u=k/\Below M.heap.size M Y)
  case first=>
   generalize Fk c=q at F d|-;cases q with
   |true=>
    have Z:=AE (ui:k=indexByte l c);have a0:=AE (by rw[d.o];rfl:o=1);go_wp2_with fail;go_quiet((go_at_call 100;exact GW (Yo l (c.toNat:Int) c (Tm c) _)));go_wp2;go_meet;exact⟨by rw[a0.o];rfl,by rw[Z.o],CO (AG _ _) _⟩
   |false=>
    have Z:=AE (ui:k=indexAny (c::l) [32,9,13,10,62]);have a0:=AE (by rw[d.o];rfl:o=0);go_wp2_with fail;refine(Ys (c::l) [32,9,13,10,62] ae ae ae ag _).mono ?_;rintro e w3⟨rfl,hb⟩;go_wp2;go_meet;exact⟨by rw[a0.o];rfl,by rw[Z.o],hb⟩
  case rest=>
  obtain⟨rfl,rfl,O⟩:=hcut;obtain⟨w3,rfl⟩:∃x:World,x=wc:=⟨_,rfl⟩;have H3:=L.o.next O;have a8:=T.next O;have a1:=y.trans (O.mono (AV c1 y.size));have P:=AE H3;obtain⟨v3,a2,c3,_⟩:=H3;have e8:o<=1:=by have:=d.o;split at this<;>omega
  clear O T L F d y;by_cases hz:k<0
  ·have E:=AE (by rw[V.o,AN hz]:E9 s name i=(false,s.length,[]));have e9:=a2.cell;have f0:=a2.free;go_wp2;go_ret;exact⟨il,by rw[E.o,BU];exact P.o.at s.length,a1.setCell r _⟩
  have f1:0<=k:=aa
  obtain⟨n,rfl⟩:∃n:Nat,k=(n:Int):=⟨k.toNat,aa⟩;have E:=AE (by rw[V.o,AL hz];rfl:E9 s name i=(true,i+n+2*o,if Ip.contains name then[(i+o,n,D1 (((c::l).drop o).take n))]else[]));have f2:n+2*o<=l.length+1:=aa
  clear V X hz;go_wp2_with fail;refine(UJ _).mono ?_;rintro e W⟨rfl,I⟩;have J:=(P.o.next I).next ((AG W.heap.size W).alloc (AF _) (.cells #[.string ⟨#[98,97,99,107,103,114,111,117,110,100]⟩,.string ⟨#[104,114,101,102]⟩,.string ⟨#[115,114,99]⟩] 343));have a9:=(a8.next I).next ((AG W.heap.size W).alloc (AF _) (.cells #[.string ⟨#[98,97,99,107,103,114,111,117,110,100]⟩,.string ⟨#[104,114,101,102]⟩,.string ⟨#[115,114,99]⟩] 343));have a3:=P.o.base;have a4:=(a1.trans (I.mono a3)).alloc (AV a3 I.size) (.cells #[.string ⟨#[98,97,99,107,103,114,111,117,110,100]⟩,.string ⟨#[104,114,101,102]⟩,.string ⟨#[115,114,99]⟩] 343);have b0:=lB W.heap.size 3 3 Ip name (W.alloc (.cells #[.string ⟨#[98,97,99,107,103,114,111,117,110,100]⟩,.string ⟨#[104,114,101,102]⟩,.string ⟨#[115,114,99]⟩] 343)) rfl (fun j hj=>by
   rw[(A0.new W _ _).cell]
   match j,hj with
   |0,_=>rfl
   |1,_=>rfl
   |2,_=>rfl) ae
  clear I a8 a1 a2 c3 P a3;go_wp2_with fail;refine b0.mono ?_;rintro e w'⟨rfl,rfl⟩;clear b0;generalize(W.alloc (.cells #[.string ⟨#[98,97,99,107,103,114,111,117,110,100]⟩,.string ⟨#[104,114,101,102]⟩,.string ⟨#[115,114,99]⟩] 343))=w5 at J a9 a4|-;have b1:=AE (aa:(i:Int)+((n:Int)+2*(o:Int))=((i+n+2*o:Nat):Int));have f3:i+n+2*o<=s.length:=by have:=c2.o;omega
  have b2:=J.base;generalize Ip.contains name=c4 at E|-;cases c4 with
  |false=>
   have f:=AE (il:E9 s name i=(true,i+n+2*o,[]));have c5:=AE J;obtain⟨v5,a,_,_⟩:=J;have f4:=a.cell;have f5:=a.free;clear E;go_wp2_with fail;rw[b1.o];go_ret;exact⟨by rw[f.o];rfl,by rw[f.o,BU];exact c5.o.at (i+n+2*o),a4.setCell r _⟩
  |true=>
   have f:=AE (il:E9 s name i=(true,i+n+2*o,[(i+o,n,D1 (((c::l).drop o).take n))]));obtain⟨v5,a,b3,_⟩:=J;have f6:=(A0.drew a).cell;have c6:Gr w5.drew:=a9.next ((AG _ _).drew);have b4:=TP (((c::l).drop o).take n) w5.drew c6 ag;have f7:(((c::l).drop o).take n).length<=1000000000:=ag
   generalize c7:D1 (((c::l).drop o).take n)=U at b4 f;clear c7 E;have c8:=AE (aa:(i:Int)+(o:Int)=((i+o:Nat):Int));have c9:=AE a4;have d0:=AE (Sb b3 a ae);go_wp2_with fail;have z1:IntKind.i64.wrap ((i:Int)+(o:Int))=(i:Int)+(o:Int):=CQ _ aa;have z2:IntKind.i64.wrap ((o:Int)+(n:Int))=(o:Int)+(n:Int):=CQ _ aa;have z3:((o:Int)+(n:Int)).toNat=o+n:=aa
   have z4:(0:Int)<=o:=aa
   have z5:(o:Int)<=(o:Int)+(n:Int):=aa
   have z6:(o:Int)+(n:Int)<=(l.length:Int)+1:=aa
   have z7:o+n-o=n:=aa
   have q1:=AE (ag:(out.length+[(i+o,n,U)].length)*32<=140737488355328);have q2:=AE (ao:out.length+[(i+o,n,U)].length<=maxLen);go_region_law((first
    |(refine Lg (α:=Av) (cs:=I4) (size:=3) (z:=.agg #[.int .i64 0,.int .i64 0,.string ByteArray.empty]) G3 Wt Wu rfl ae underlying93 rfl _ _ rfl B _ out [(i+o,n,U)] ⟨m.heap.size,0,none⟩ 1 1 rfl ae rfl d1 rfl b5 q1.o q2.o d2.o ?_;intro v' K a5 d3 d4;have R:=b6.o.grown d3 d0.o;have d5:=R.cell 2;have d6:=R.free 2;obtain⟨A,C,d7,_⟩:=A1.rd ae G3 a5;subst d7)
    |(go_simp;with_reducible refine b4.mono ?_;rintro e m⟨rfl,p⟩;have d8:=((A0.drew a).next p (A0.drew a).lt).cell;have b6:=AE (((A0.drew a).next p (A0.drew a).lt).alloc (.cells #[.int .i64 ((i:Int)+(o:Int)),n,U] 96));have d9:=b6.o.cell;have d1:=A1.alloc (A1.next (w:=w5.drew) b3 p) (.cells #[.int .i64 ((i:Int)+(o:Int)),n,U] 96);have b5:=(by rw[c8.o];exact UK m (i+o,n,U) 96:∀j u,([(i+o,n,U)].flatMap I4)[j]?=some u->(m.alloc (.cells #[.int .i64 ((i:Int)+(o:Int)),n,U] 96)).cell? ((⟨m.heap.size,0,none⟩:Go.Addr).add j)=some u);have d2:=AE (by have:=p.size;simp at this|-;omega:B<=(m.alloc (.cells #[.int .i64 ((i:Int)+(o:Int)),n,U] 96)).heap.size))))
   all_goals
    have a6:=R.set 2 (.slice A (out.length+1) C);have b7:=Sb a5 R ae;have b8:Sc B b s i (out++[(i+o,n,U)]) (K.setCell ⟨b,2,none⟩ (.slice A (out.length+1) C)):=by
     refine⟨.slice A (out.length+1) C,a6,?_,r⟩;have h:=U0 (w':=K.setCell ⟨b,2,none⟩ (.slice A (out.length+1) C)) a5 (fun g S=>DJ K ⟨b,2,none⟩ _ g (b7 g S));rw[(ah:Value.slice A (out++[(i+o,n,U)]).length C=.slice A (out.length+1) C)]at h;exact h
    have b9:=AE b8;have e0:Below B w m:=c9.o.drew.trans (p.mono b2);have c0:Below B w (K.setCell ⟨b,2,none⟩ (.slice A (out.length+1) C)):=((e0.alloc (AV b2 p.size) (.cells #[.int .i64 ((i:Int)+(o:Int)),n,U] 96)).trans d4).setCell r _;have e1:=a6.cell;have e2:=a6.free;clear z1 z2 z3 z5 z7 d5 d6 d8 d9 b5 b8 b7;generalize K.setCell ⟨b,2,none⟩ (.slice A (out.length+1) C)=f8 at b9 c0 e1 e2|-;go_wp2_with fail;rw[b1.o];go_ret;exact⟨by rw[f.o];rfl,by rw[f.o];exact b9.o.at (i+n+2*o),c0.setCell r _⟩
def Nz(c:UInt8):Bs:=if c=38 then[38,97,109,112,59]else if c=34 then[38,113,117,111,116,59]else if c=39 then[38,35,51,57,59]else if c=60 then[38,108,116,59]else if c=62 then[38,103,116,59]else[c]
def UP:((List.range 256).all fun n=>(Ex Hb n.toUInt8).getD [n.toUInt8]==Nz n.toUInt8)=true:=af
def UQ(c:UInt8):(Ex Hb c).getD [c]=Nz c:=by
 have:=AW.1 UP c.toNat (BT.2 c.toNat_lt);rw[show c.toNat.toUInt8=c by simp]at this;exact BL.1 this
def UR(c:UInt8):(Nz c).length<=6:=by
 unfold Nz;repeat' split
 all_goals first|decide|simp
def US(c:UInt8)(s:Bs):F3 (c::s)=Nz c++F3 s:=by
 unfold F3;rw[Se,UQ]
def U8(d:UInt8)(H:d.toNat=n)(h:(c.toNat:Int)=n):c=d:=BQ.1 aa
def UT(s:Bs)(w:World)(q:s.length<=1000000000):Calls prog 126 #[s] w fun e W=>e=.returned (F3 s)/\W=w:=by
 go_enter func126,ntmps126;go_wp2_with fail;go_loopw[3,8] (fun x i wr=>∃(k:Nat)(o:Bs),x=o/\i=k/\k<=s.length/\o.length<=6*k/\Hid (o++F3 (s.drop k)=F3 s)/\wr=w) (fun _ i _=>s.length-(intOf i).toNat)
 case atStart=>exact⟨0,[],rfl,rfl,aa,ah,AE ah,rfl⟩
 obtain⟨k,o,rfl,rfl,r,u,O,rfl⟩:=hrel;by_cases f:k<s.length
 ·have g:=AE (by rw[<-O.o,AH f,US,AP]:(o++Nz s[k])++F3 (s.drop (k+1))=F3 s);have L:=AE (UR s[k]);have v:(s[k].toNat:Int)<256:=by have:=s[k].toNat_lt;omega
  have y:wrap64 ((k:Int)+1)=(k:Int)+1:=da
  go_upto_block 2 with fail;go_cut[5] (fun t l=>t=(Nz s[k])/\l=wr)
  case first=>
   by_cases H:((s[k].toNat:Int)==38)=true
   ·have E:=AE (U8 38 rfl (BL.1 H));go_wp2;go_meet;exact⟨il,rfl⟩
   by_cases a:((s[k].toNat:Int)==34)=true
   ·have E:=AE (U8 34 rfl (BL.1 a));go_wp2;go_meet;exact⟨il,rfl⟩
   by_cases b:((s[k].toNat:Int)==39)=true
   ·have E:=AE (U8 39 rfl (BL.1 b));go_wp2;go_meet;exact⟨il,rfl⟩
   by_cases c:((s[k].toNat:Int)==60)=true
   ·have E:=AE (U8 60 rfl (BL.1 c));go_wp2;go_meet;exact⟨il,rfl⟩
   by_cases d:((s[k].toNat:Int)==62)=true
   ·have E:=AE (U8 62 rfl (BL.1 d));go_wp2;go_meet;exact⟨il,rfl⟩
   have m:=AE (show Nz s[k]=[s[k]]from by
    unfold Nz;rw[AL (fun h=>H iy),AL (fun h=>a iy),AL (fun h=>b iy),AL (fun h=>c iy),AL (fun h=>d iy)])
   have H:=AT.2 H;have a:=AT.2 a;have b:=AT.2 b;have c:=AT.2 c;have d:=AT.2 d;go_wp2;go_meet;have j:=AE (by rw[AH f];rfl:(s.drop k).take 1=[s[k]]);exact⟨by rw[m.o];first|rfl|(rw[j.o];done)|(simp;exact j.o),rfl⟩
  case rest=>
  obtain⟨rfl,n⟩:=hcut;obtain rfl:=n.symm;have p:=L.o;generalize Nz s[k]=z at g p;go_wp2;go_roundw
  case rel=>exact⟨k+1,o++z,ah,aj,aa,ag,g,bo⟩
  simp[intOf];omega
 obtain rfl:k=s.length:=aa
 have N:=AE (by rw[<-O.o,AS];simp[F3,Ct]:F3 s=o);go_wp2;go_ret;exact⟨ay,rfl⟩
def I5(l:Bs)(k:Nat):Bs×Nat:=match I1 l with
 |some j=>if j<k then((Cr.getD j ([],[])).1,(Cr.getD j ([],[])).2.length)else(l.take 1,1)
 |none=>(l.take 1,1)
def lC(b:k<5):(hasPrefix l (Cr.getD k ([],[])).2=true)↔I1 l=some k:=by
 constructor
 ·intro h;unfold hasPrefix at h;rw[DG]at h;obtain⟨r,rfl⟩:=h;have:k=0\/k=1\/k=2\/k=3\/k=4:=by omega
  rcases this with rfl|rfl|rfl|rfl|rfl<;>rfl
 intro h;unfold I1 at h;rw[FH]at h;obtain⟨H,a,_⟩:=h;simpa[AM,H]using a
def UU(l:Bs):I5 l 0=(l.take 1,1):=by
 unfold I5;cases I1 l<;>simp
def UV(H:k<5)(h:hasPrefix l (Cr.getD k ([],[])).2=true):I5 l (k+1)=((Cr.getD k ([],[])).1,(Cr.getD k ([],[])).2.length):=by
 unfold I5;rw[(lC H).1 h];simp
def UW(a:k<5)(h:hasPrefix l (Cr.getD k ([],[])).2=false):I5 l (k+1)=I5 l k:=by
 unfold I5;cases s:I1 l with
 |none=>rfl
 |some j=>
  have:j≠k:=fun e=>by
   subst e;rw[(lC a).2 s]at h;cases h
  simp only;by_cases H:j<k
  ·rw[AN H,AN aa]
  rw[AL H,AL aa]
def UX(h0:l≠[]):D1 l=(I5 l 5).1++D1 (l.drop (I5 l 5).2)/\1<=(I5 l 5).2/\(I5 l 5).2<=l.length/\(I5 l 5).1.length<=1:=by
 unfold I5;cases h:I1 l with
 |none=>
  have:=BK.2 h0;exact⟨kY h0 h,AF _,this,ag⟩
 |some j=>
  obtain⟨H,a,b,c,d⟩:=kZ h0 h;simp only;rw[AN H];exact⟨d,a,b,c⟩
def U9:Array Value:=#[.string ⟨#[38,38,97,109,112,59]⟩,.string ⟨#[34,38,113,117,111,116,59]⟩,.string ⟨#[39,38,35,51,57,59]⟩,.string ⟨#[60,38,108,116,59]⟩,.string ⟨#[62,38,103,116,59]⟩]
def UY(h:k<5):∃(d:UInt8)(p:Bs),Cr.getD k ([],[])=([d],p)/\U9[k]?=some (d::p:Bs)/\p.length<=6:=by
 have:k=0\/k=1\/k=2\/k=3\/k=4:=aa
 rcases this with rfl|rfl|rfl|rfl|rfl
 ·exact⟨38,[38,97,109,112,59],rfl,rfl,ae⟩
 ·exact⟨34,[38,113,117,111,116,59],rfl,rfl,ae⟩
 ·exact⟨39,[38,35,51,57,59],rfl,rfl,ae⟩
 ·exact⟨60,[38,108,116,59],rfl,rfl,ae⟩
 exact⟨62,[38,103,116,59],rfl,rfl,ae⟩
def UZ(s:Bs)(w:World)(G:s.length<=1000000000):Calls prog 213 #[s] w fun e z=>e=.returned (D1 s)/\Below w.heap.size w z:=by
 go_enter func213,ntmps213;go_wp2_with fail;go_loopw[0,3] (fun t o wr=>∃l O:Bs,t=l/\o=O/\l.length+O.length<=s.length/\Hid (O++D1 l=D1 s)/\Below w.heap.size w wr) (fun t _ _=>Jn t)
 case atStart=>exact⟨s,[],rfl,rfl,ah,AE ah,AG _ _⟩
 obtain⟨l,O,rfl,rfl,I,U,B⟩:=hrel;by_cases h0:l=[]
 ·subst h0;have N:=AE (by rw[<-U.o];simp[D1,L9]:D1 s=O);go_wp2;go_ret;exact⟨ay,B⟩
 have J:l.isEmpty=false:=ed
 have L:1<=l.length:=BK.2 h0;have E:=AE (UX h0);have Z:=AE (UU l);have K:=A0.new wr U9 9;have g:=B.alloc B.size (.cells U9 9);have W:=AE (ca:U9=#[.string ⟨#[38,38,97,109,112,59]⟩,.string ⟨#[34,38,113,117,111,116,59]⟩,.string ⟨#[39,38,35,51,57,59]⟩,.string ⟨#[60,38,108,116,59]⟩,.string ⟨#[62,38,103,116,59]⟩]);clear h0;go_wp2_with fail;rw[<-W.o];generalize wr.alloc (.cells U9 9)=A at K g|-;go_loopw[4,5,14] (fun x n i C=>∃k:Nat,i=k/\k<=5/\x=.string ⟨(I5 l k).1.toArray⟩/\n=.int .i64 ((I5 l k).2:Int)/\C=A) (fun _ _ i _=>5-(intOf i).toNat)
 case atStart=>exact⟨0,rfl,aa,by rw[Z.o],by rw[Z.o];rfl,rfl⟩
 obtain⟨k,rfl,M,rfl,rfl,rfl⟩:=hrel;by_cases c:k<5
 ·obtain⟨d,p,b,j,Q⟩:=UY c;have R:wr.cell? ⟨_,k,none⟩=_:=(K.cell k).trans j;have P:=L6 l p wr;have m:Hid (∀q,hasPrefix l p=q->I5 l (k+1)=if q then([d],p.length)else I5 l k):=AE fun q h=>by
   cases q with
   |true=>have:=UV (l:=l) c (by rw[b];exact h);rw[this,b];rfl
   |false=>have:=UW (l:=l) c (by rw[b];exact h);rw[this];rfl
  generalize h:hasPrefix l p=q at P;have H:=AE (m.o q h);clear m h b j;generalize I5 l k=y at H|-;cases q with
  |true=>
   go_wp2_with fail;with_reducible refine P.mono ?_
   rintro e D⟨rfl,rfl⟩;go_wp2;go_roundw
   case rel=>exact⟨k+1,aj,aa,bu,lu,bo⟩
   simp[intOf];omega
  |false=>
   go_wp2_with fail;with_reducible refine P.mono ?_
   rintro e D⟨rfl,rfl⟩;go_wp2;go_roundw
   case rel=>exact⟨k+1,aj,aa,bu,bu,bo⟩
   simp[intOf];omega
 obtain rfl:k=5:=aa
 have a:=E.o;have f:=AE a.1;have r:=a.2.1;have u:=a.2.2.1;have v:=a.2.2.2;clear a E Z W;generalize I5 l 5=y at f r u v|-;obtain⟨x,n⟩:=y;simp only at f r u v|-;have F:=AE (by rw[<-U.o,f.o,AP]:(O++x)++D1 (l.drop n)=D1 s);go_wp2;go_roundw
 case rel=>exact⟨l.drop n,O++x,ah,ah,ag,F,g⟩
 simp;omega
end Go.Proofs.YtignjjnflcpiiaaGreatDoor
namespace Go.Proofs.YtignjjnflcpiiaaGreatDoor
open Go Go.RowKit Proofs.Tryz Lib
def Ab(p:UInt8->Bool)(s:Bs)(i:Nat):Nat:=i+((s.drop i).takeWhile p).length
variable {i j a e d:Nat}{s name:Bs}{p:UInt8 → Bool}
def O0(p:UInt8->Bool)(h:i<=s.length):i<=Ab p s i/\Ab p s i<=s.length:=by
 unfold Ab;have:=Rr p (s.drop i);simp at this;omega
def Sm(H:i<s.length)(h:p s[i]=true):Ab p s i=Ab p s (i+1):=by
 unfold Ab;rw[AH H,List.takeWhile_cons_of_pos h,AK];omega
def Sn(H:i<s.length)(h:p s[i]=false):Ab p s i=i:=by
 unfold Ab;rw[AH H,List.takeWhile_cons_of_neg ko];rfl
def So(h:s.length<=i):Ab p s i=i:=by
 unfold Ab;rw[BP h];rfl
theorem lD(s o:Bs)(i:Nat):Ab (fun c=>o.contains c) s i=i+C7 (s.drop i) o:=rfl
def Et(c:UInt8):Bool:=Am c||c==47
def Fc(c:UInt8):Bool:=!(Am c||c==47||c==61||c==62)
def Gi(c:UInt8):Bool:=!(Am c||c==62)
def De(c:UInt8):Bool:=Em.contains c
def VA:((List.range 256).all fun n=>Et n.toUInt8==([32,9,13,10,47]:Bs).contains n.toUInt8&&(Fc n.toUInt8==!(([32,9,13,10,47,61,62]:Bs).contains n.toUInt8))&&(Gi n.toUInt8==!(([32,9,13,10,62]:Bs).contains n.toUInt8))&&(Am n.toUInt8==Gy.contains n.toUInt8))=true:=af
def Wv(c:UInt8):Et c=([32,9,13,10,47]:Bs).contains c/\Fc c=!(([32,9,13,10,47,61,62]:Bs).contains c)/\Gi c=!(([32,9,13,10,62]:Bs).contains c)/\Am c=Gy.contains c:=by
 have:=AW.1 VA c.toNat (BT.2 c.toNat_lt);rw[show c.toNat.toUInt8=c by simp]at this;simp only[BR,BL]at this;exact⟨this.1.1.1,this.1.1.2,this.1.2,this.2⟩
def lE(s:Bs)(i:Nat):Ab Et s i=i+C7 (s.drop i) [32,9,13,10,47]:=by
 rw[<-lD];congr 1;funext c;exact(Wv c).1
def lF(s:Bs)(i:Nat):Ab Am s i=i+C7 (s.drop i) Gy:=by
 rw[<-lD];congr 1;funext c;exact(Wv c).2.2.2
def lG(s cs:Bs)(p:UInt8->Bool)(H:∀c,p c=!cs.contains c)(i:Nat)(a:i<=s.length):(s.length<=Ab p s i/\indexAny (s.drop i) cs=-1)\/(Ab p s i<s.length/\indexAny (s.drop i) cs=((Ab p s i-i:Nat):Int)):=by
 have e:p=fun c=>!cs.contains c:=funext H
 rw[Vn,<-e];unfold Ab;have b:=Rr p (s.drop i);have l:(s.drop i).length=s.length-i:=ah
 by_cases h:((s.drop i).takeWhile p).length=(s.drop i).length
 ·rw[AN h];exact Or.inl ⟨aa,rfl⟩
 rw[AL h];refine Or.inr ⟨aa,?_⟩;congr 1;omega
def Ua(h:s.length<=i):s.drop i=[]:=BP h
def VB(a:j<=s.length)(h:s.length<=Ab Et s j\/∃H:Ab Et s j<s.length,s[Ab Et s j]=62):Aw s j=(min (Ab Et s j+1) s.length,[]):=by
 have e:=O0 Et a;have A:C5 s j=(false,min (Ab Et s j+1) s.length,[]):=by
  unfold C5;simp only;rw[<-lE];rcases h with h|⟨H,h⟩
  ·rw[Ua h];simp only;rw[Nat.min_eq_right aa];have:Ab Et s j=s.length:=by omega
   rw[this]
  rw[AH H,h];simp only[DK];rw[EX aa]
 rw[Pk (by rw[A]),A]
def aS(n:j<=s.length)(d:a=Ab Et s j)(l:a<s.length)(f:s[a]≠62)(g:e=Ab Fc s (a+1)):C5 s j=if s.length<=e then(false,s.length,[])else if(s.drop (Ab Am s e)).head?=some 61 then E9 s (A2 ((s.drop a).take (e-a))) (Ab Am s (Ab Am s e+1))else(decide (Ab Am s e<s.length),Ab Am s e,[]):=by
 unfold C5;simp only;rw[<-lE,<-d,AH l];simp only;rw[AL f];have h:=lG s [32,9,13,10,47,61,62] Fc (fun c=>(Wv c).2.1) (a+1) aa;have k:=O0 Fc (s:=s) (i:=a+1) aa;rw[<-g]at h k;rcases h with⟨b,H⟩|⟨b,H⟩
 ·rw[H,AN ae,AN b]
 rw[H,AL (show¬((e-(a+1):Nat):Int)<0 by omega),AL (show¬s.length<=e by omega),EW];have E:a+(1+(e-(a+1)))=e:=aa
 have m:1+(e-(a+1))=e-a:=aa
 rw[E,m,<-lF,<-lF]
def VC(b:j<=s.length)(c:a=Ab Et s j)(l:a<s.length)(d:s[a]≠62)(f:e=Ab Fc s (a+1))(h:s.length<=e):Aw s j=(s.length,[]):=by
 have H:=aS b c l d f;rw[AN h]at H;rw[Pk (by rw[H]),H]
def VD(c:j<=s.length)(g:a=Ab Et s j)(l:a<s.length)(k:s[a]≠62)(m:e=Ab Fc s (a+1))(p:e<s.length)(f:d=Ab Am s e)(h:∀h:d<s.length,s[d]≠61):Aw s j=Aw s d:=by
 have H:=aS c g l k m;have n:=O0 Am (s:=s) (i:=e) aa;rw[AL aa,<-f]at H;rw[<-f]at n;have o:(s.drop d).head?≠some 61:=by
  by_cases b:d<s.length
  ·rw[AH b,List.head?_cons];intro e;exact h b (CU e)
  rw[Ua aa];simp
 rw[AL o]at H;by_cases b:d<s.length
 ·rw[Wa c (by rw[H];simp[b]),H];simp
 have q:d=s.length:=aa
 have B:C5 s d=(false,d,[]):=by
  unfold C5;simp only;have E:C7 (s.drop d) [32,9,13,10,47]=0:=by rw[Ua aa];rfl
  rw[E];simp only[BI];rw[Ua aa]
 rw[Pk (by rw[H];simp[b]),H,Pk (by rw[B]),B]
def VE(b:j<=s.length)(c:a=Ab Et s j)(l:a<s.length)(f:s[a]≠62)(g:e=Ab Fc s (a+1))(m:e<s.length)(i:d=Ab Am s e)(k:d<s.length)(h:s[d]=61):C5 s j=E9 s (A2 ((s.drop a).take (e-a))) (Ab Am s (d+1)):=by
 have H:=aS b c l f g;rw[AL aa,<-i]at H;rw[H,AN (by rw[AH k];simp[h])]
def Cw(s:Bs)(i:Nat):Nat:=if Fk (s.getD i 0)then Di s [s.getD i 0] (i+1)else Ab Gi s i
def Cx(s:Bs)(i:Nat):Nat:=if Fk (s.getD i 0)then 1 else 0
def lH(d:i<s.length):E9 s name i=if s.length<=Cw s i then(false,s.length,[])else(true,Cw s i+Cx s i,if Ip.contains name then[(i+Cx s i,Cw s i-(i+Cx s i),D1 ((s.drop (i+Cx s i)).take (Cw s i-(i+Cx s i))))]else[]):=by
 have g:s.getD i 0=s[i]:=by rw[AM];simp[d]
 have f:=AH d;unfold E9 Cw Cx;rw[g,f];simp only;show(if(if Fk s[i]then indexByte (s.drop (i+1)) s[i]else indexAny (s[i]::s.drop (i+1)) [32,9,13,10,62])<0 then _ else _)=_;cases q:Fk s[i]with
 |true=>
  have a:(s[i]==34||s[i]==39)=true:=q;simp only[DK];rw[a];simp only[DK];have x:indexByte (s.drop (i+1)) s[i]=index (s.drop (i+1)) [s[i]]:=(index_one _ _).symm;rw[x];unfold Di;rcases Od (s.drop (i+1)) [s[i]]with h|⟨b,H⟩
  ·rw[AN h,AN h,AN (AF _)]
  simp only[BD,AK,BG]at H;have n:¬index (s.drop (i+1)) [s[i]]<0:=aa
  simp only[AL n];rw[AL (show¬s.length<=i+1+(index (s.drop (i+1)) [s[i]]).toNat by omega)];have e:i+(index (s.drop (i+1)) [s[i]]).toNat+2*1=i+1+(index (s.drop (i+1)) [s[i]]).toNat+1:=aa
  have E:i+1+(index (s.drop (i+1)) [s[i]]).toNat-(i+1)=(index (s.drop (i+1)) [s[i]]).toNat:=aa
  rw[e,E];rfl
 |false=>
  have a:(s[i]==34||s[i]==39)=false:=q;simp only[CC,DM];rw[a];simp only[CC,DM,BI];rw[<-f];have h:=lG s [32,9,13,10,62] Gi (fun c=>(Wv c).2.2.1) i aa;have j:=O0 Gi (s:=s) (i:=i) aa;rcases h with⟨b,H⟩|⟨b,H⟩
  ·rw[H,AN ae,AN b]
  rw[H,AL (show¬((Ab Gi s i-i:Nat):Int)<0 by omega),AL (show¬s.length<=Ab Gi s i by omega),EW];have e:i+(Ab Gi s i-i)+2*0=Ab Gi s i:=aa
  rw[e];rfl
def VF(h:C5 s j=E9 s name i)(a:s.length<=i):Aw s j=(i,[]):=by
 have H:E9 s name i=(false,i,[]):=by
  unfold E9;rw[Ua a]
 rw[Pk (by rw[h,H]),h,H]
def VG(h:C5 s j=E9 s name i)(a:i<s.length)(o:s.length<=Cw s i):Aw s j=(s.length,[]):=by
 have H:=lH (name:=name) a;rw[AN o]at H;rw[Pk (by rw[h,H]),h,H]
def VH(a:j<=s.length)(h:C5 s j=E9 s name i)(b:i<s.length)(o:Cw s i<s.length):Aw s j=((Aw s (Cw s i+Cx s i)).1,(if Ip.contains name then[(i+Cx s i,Cw s i-(i+Cx s i),D1 ((s.drop (i+Cx s i)).take (Cw s i-(i+Cx s i))))]else[])++(Aw s (Cw s i+Cx s i)).2):=by
 have H:=lH (name:=name) b;rw[AL aa]at H;rw[Wa a (by rw[h,H]),h,H]
end Go.Proofs.YtignjjnflcpiiaaGreatDoor
namespace Go.Proofs.YtignjjnflcpiiaaGreatDoor
open Go Go.RowKit Proofs.Tryz Lib
def Hc:Code->Code
 | .seq c _=>c
 |c=>c
def Ak:Code->Code
 | .seq _ c=>c
 |c=>c
def Gj:Code->Code
 | .block _ c=>c
 | .loop c=>c
 |c=>c
noncomputable def Om:Code:=Ak (Ak (Ak (Ak ((f124.body).getD .skip))))
noncomputable def On:Code:=Gj (Gj (Gj (Hc Om)))
noncomputable def lI:Code:=Ak Om
noncomputable def Sp:Code:=Ak (Ak (Ak (Ak (Ak On))))
noncomputable def Ub:Code:=Ak (Ak Sp)
noncomputable def Ww:Code:=Ak (Ak (Ak Ub))
noncomputable def lJ:Code:=Ak (Ak On)
noncomputable def lK:Code:=Ak (Ak Ww)
def Mj(s n:Bs)(j:Nat)(v:Value)(L:List Value)(a:Act):Prop:=∃u U b c F,a=⟨List.toArray (Value.string ⟨s.toArray⟩::Value.int .i64 (j:Int)::u::U::b::c::v::Value.string ⟨n.toArray⟩::(L++F)),[]⟩/\(L++F).length=252
def O1(Q:Exit->Act->World->Prop)(e:Exit)(s n:Bs)(B:Nat)(w0:World)(R:Nat×List Av)(J:Nat):Prop:=∀(j:Nat)(v:Value)(o:List Av)(w:World)(a:Act),Mj s n j v [] a->j<=s.length->J<j->o.length<=j->Iy w B v o->Below B w0 w->Hid ((Aw s j).1=R.1/\o++(Aw s j).2=R.2)->Q e a w
def Sq(Q:Exit->Act->World->Prop)(s n:Bs)(B:Nat)(w0:World)(R:Nat×List Av):Prop:=∀(j:Nat)(v:Value)(w:World)(a:Act),Mj s n j v [] a->j<=s.length+1->Hid (min j s.length=R.1)->Iy w B v R.2->Below B w0 w->Q (.exit 2) a w
def VI(x:Bs):Ip.contains x=((x==[115,114,99])||((x==[104,114,101,102])||(x==[98,97,99,107,103,114,111,117,110,100]))):=by
 unfold Ip;simp only[KG,List.contains_nil,Bool.or_false];cases(x==[98,97,99,107,103,114,111,117,110,100])<;>cases(x==[104,114,101,102])<;>cases(x==[115,114,99])<;>rfl
def VJ(w:World)(x:Av)(t:TypeId):∀j u,([x].flatMap I4)[j]?=some u->(w.alloc (.cells #[.int .i64 (x.1:Int),.int .i64 (x.2.1:Int),x.2.2] t)).cell? ((⟨w.heap.size,0,none⟩:Go.Addr).add j)=some u:=fun j u h=>by
 rw[Er,(A0.new w _ t).cell]
 match j,h with
 |0,h=>exact h
 |1,h=>exact h
 |2,h=>exact h
 |j+3,h=>simp[I4]at h
variable {R:Nat × List Av}{w0 w:World}{j J f T n B:Nat}{out:List Av}{v r x u8 u9:Value}{s N a D:Bs}{Q:Exit → Act → World → Prop}{A U:Act}
def VK
  (h:Mj s N j v [r,x,Value.string ⟨a.toArray⟩,Value.int .i64 (f:Int),Value.int .i64 (T:Int),Value.int .i64 (n:Int)] A) (hs:s.length<=1000000000) (i:Iy w B v out) (c:Below B w0 w) (hB:B<=w0.heap.size) (a2:out.length<=J) (a3:J<=s.length) (hf:f<=T) (a4:T<=s.length) (l:J<n) (a5:n<=T+1)
  (E:Hid (s.length<=T->s.length=R.1/\out=R.2))
  (G:Hid (T<s.length->(Aw s n).1=R.1/\(out++(if Ip.contains a then[(f,T-f,D1 ((s.drop f).take (T-f)))]else[]))++(Aw s n).2=R.2))
  (m:O1 Q .normal s N B w0 R J) (S:Sq Q s N B w0 R):
  Code.wp prog lK Q A w:=by
 obtain⟨u2,u3,u4,u5,F,rfl,hF⟩:=h;obtain⟨g,rfl⟩:=Qb hF;simp only[M5,CR,CT,AK,BG,Nat.reduceAdd,Nat.reduceSub];let a6:=bodyPost prog f124 (fun _ _=>True);delta lK Ww Ub Sp On Om f124;dsimp only[Ak,Hc,Gj,Option.getD];have o:=AE m;have y:=AE S;clear m S;have a7:=c.size;by_cases a8:s.length<=T
 ·obtain rfl:T=s.length:=by omega
  have k:=E.o (AF _);have H:=AE (by rw[Nat.min_self];exact k.1:min s.length s.length=R.1);have b:=AE k.2;clear k E G;go_wp2_with fail;refine y.o s.length v w _ ⟨_,_,_,_,_,rfl,rfl⟩ aa H (by rw[<-b.o];exact i) c
 have C:T<s.length:=aa
 have H:=AE (G.o C);have D:=AE (VI a);have Z:=AE (aa:(T:Int)-(f:Int)=((T-f:Nat):Int));have a9:¬((s.length:Int)<=(T:Int)):=aa
 clear E G;go_upto_region 38 with fail;go_cut[219] (fun t I=>t=.bool (Ip.contains a)/\I=w)
 case first=>
  generalize b0:(a==[115,114,99])=K at D;cases K with
  |true=>
   go_wp2;go_meet;exact⟨xe,rfl⟩
  |false=>
   generalize b1:(a==[104,114,101,102])=L at D;cases L with
   |true=>
    go_wp2;go_meet;exact⟨xe,rfl⟩
   |false=>
    generalize b2:(a==[98,97,99,107,103,114,111,117,110,100])=q3 at D;go_wp2;go_meet;exact⟨xe,rfl⟩
 case rest=>
 obtain⟨rfl,p⟩:=hcut;obtain rfl:=p.symm;clear p D;generalize Ip.contains a=M at H|-;cases M with
 |false=>
  have b:=AE (by have:=H.o;simpa using this:(Aw s n).1=R.1/\out++(Aw s n).2=R.2);clear H;go_wp2_with fail;refine o.o n v out w _ ⟨_,_,_,_,_,rfl,rfl⟩ aa l aa i c b
 |true=>
  have U:=UZ ((s.drop f).take (T-f)) w ag;generalize O:D1 ((s.drop f).take (T-f))=u at U H;clear O;have b:=AE (by have:=H.o;simpa using this:(Aw s n).1=R.1/\(out++[(f,T-f,u)])++(Aw s n).2=R.2);have b3:(f:Int)<=(T:Int):=aa
  have b4:(T:Int)<=(s.length:Int):=aa
  clear H;go_wp2_with fail;with_reducible refine U.mono ?_
  rintro e W⟨rfl,d⟩;have P:=A1.next i d;have V:=c.trans (d.mono aa);have b5:=d.size;clear U d;go_wp2_with(at_builtin;refine P7 (α:=Av) (cs:=I4) (size:=3) (z:=.agg #[.int .i64 0,.int .i64 0,.string ByteArray.empty]) G3 Wt Wu rfl ae underlying93 rfl _ _ rfl B _ out [(f,T-f,u)] ⟨W.heap.size,0,none⟩ 1 1 rfl rfl (A1.alloc P _) rfl (by rw[Z.o];exact VJ W (f,T-f,u) _) ag ao ag ?_;intro X Y a0 a1 q);have B3:=(V.alloc aa _).trans q;clear a1 q;go_wp2_with fail;refine o.o n X (out++[(f,T-f,u)]) Y _ ⟨_,_,_,_,_,rfl,rfl⟩ aa l ag a0 B3 b
def aT(s p:Bs)(i:Nat)(n:Int)(h:n=i)(w:World)(H:s.length<=1000000000000)(a:i<=1000000000002)(b:p≠[]):Calls prog 123 #[s,p,n] w fun e W=>e=.returned (.int .i64 (Di s p i:Int))/\W=w:=by
 subst h;exact aI s p i w H a b
def VL
  (h:Mj s N j v [u8,u9,Value.string ⟨D.toArray⟩] U) (hs:s.length<=1000000000) (a2:Iy w B v out) (X:Below B w0 w) (hB:B<=w0.heap.size) (a3:out.length<=J) (a4:J<=s.length) (hj:j<s.length) (b7:J<j)
  (HE:Hid (s.length<=Cw s j->s.length=R.1/\out=R.2))
  (HG:Hid (Cw s j<s.length->(Aw s (Cw s j+Cx s j)).1=R.1/\(out++(if Ip.contains D then[(j+Cx s j,Cw s j-(j+Cx s j),D1 ((s.drop (j+Cx s j)).take (Cw s j-(j+Cx s j))))]else[]))++(Aw s (Cw s j+Cx s j)).2=R.2))
  (Z:O1 Q .normal s N B w0 R J) (hS:Sq Q s N B w0 R):
  Code.wp prog Ww Q U w:=by
 obtain⟨u2,u3,u4,u5,F,rfl,hF⟩:=h;obtain⟨g,rfl⟩:=Qb hF;simp only[M5,CR,CT,AK,BG,Nat.reduceAdd,Nat.reduceSub];have a5:=AE (fun(x:Bs)(u0:Value)=>True.intro);clear a5;let b8:=bodyPost prog f124 (fun _ _=>True);delta Ww Ub Sp On Om f124;dsimp only[Ak,Hc,Gj,Option.getD];have HN:=AE Z;have HS:=AE hS;clear Z hS;have b9:=X.size;have I:s.getD j 0=s[j]:=by rw[AM];simp[hj]
 have a6:(s[j].toNat:Int)<256:=by have:=s[j].toNat_lt;omega
 have V:=AE (by unfold Cw;rw[I]:Cw s j=if Fk s[j]then Di s [s[j]] (j+1)else Ab Gi s j);have O:=AE (by unfold Cx;rw[I]:Cx s j=if Fk s[j]then 1 else 0);have L:=AE (Wm s [s[j]] (j+1) aa);have K:=AE (O0 Gi (s:=s) (i:=j) aa);have l:=AE (aR s[j]);have hF:=fun W=>aT s [s[j]] (j+1) ((j:Int)+1) aa W aa aa ah
 have a7:=AE (show∀x:Value,True from fun _=>trivial);clear a7 I;go_upto_region 27 with fail;generalize a8:s[j]=c at a6 V O L l hF;go_upto_region 28 with fail;clear a8;go_cut[172] (fun t m=>t=.bool (Fk c)/\m=w)
 case first=>
  by_cases o:((c.toNat:Int)==34)=true
  ·go_wp2;go_meet;exact⟨by rw[l.o,o];rfl,rfl⟩
  have o:=AT.2 o;by_cases u:((c.toNat:Int)==39)=true
  ·go_wp2;go_meet;exact⟨by rw[l.o,o,u];rfl,rfl⟩
  have u:=AT.2 u;go_wp2;go_meet;exact⟨by rw[l.o,o,u];rfl,rfl⟩
 case rest=>
 obtain⟨rfl,r⟩:=hcut;obtain rfl:=r.symm;clear r l;generalize Fk c=q at V O|-;go_upto_if 172 with fail;go_cut[11,12,13] (fun x y z m=>∃f T n:Nat,x=f/\y=T/\z=n/\Hid (f=j+Cx s j/\T=Cw s j/\n=Cw s j+Cx s j)/\f<=T/\T<=s.length/\J<n/\n<=T+1/\Below w.heap.size w m)
 case first=>
  cases q with
  |true=>
   have a:=AE (show Cx s j=1 from O.o);have b:=AE (show Cw s j=Di s [c] (j+1)from V.o);clear V O K;have a9:=L.o;generalize Di s [c] (j+1)=T at hF b a9;go_wp2_with fail;with_reducible refine(hF _).mono ?_
   rintro e M⟨rfl,rfl⟩;go_wp2;go_meet;exact⟨j+1,T,T+1,aj,rfl,aj,AE ⟨by rw[a.o],b.o.symm,by rw[b.o,a.o]⟩,aa,aa,aa,aa,cu⟩
  |false=>
   have a:=AE (show Cx s j=0 from O.o);have b:=AE (show Cw s j=Ab Gi s j from V.o);clear V O;have c0:=K.o;clear K L hF;go_wp2_with fail;go_loopw[12] (fun x wr=>∃k:Nat,x=k/\k<=s.length/\Hid (Ab Gi s k=Ab Gi s j)/\wr=w) (fun x _=>s.length-(intOf x).toNat)
   case atStart=>exact⟨j,rfl,aa,AE rfl,rfl⟩
   obtain⟨k,rfl,hk,d,rfl⟩:=hrel;by_cases a0:k<s.length
   ·have G:=U4 s[k] wr;have c1:(s[k].toNat:Int)<256:=by have:=s[k].toNat_lt;omega
    have Y:=AE (Sm (p:=Gi) a0);have P:=AE (Sn (p:=Gi) a0);have E:=AE (by unfold Gi;rw[F2 s[k] 62];rfl:Gi s[k]=!(Am s[k]||((s[k].toNat:Int)==62)));go_upto_region 33 with fail;go_cut[200] (fun t m=>t=.bool (Gi s[k])/\m=wr)
    case first=>
     generalize Am s[k]=g at G E;cases g with
     |true=>
      go_wp2_with fail;with_reducible refine G.mono ?_
      rintro e M⟨rfl,rfl⟩;go_wp2;go_meet;exact⟨il,rfl⟩
     |false=>
      cases a1:((s[k].toNat:Int)!=62)with
      |false=>
       have S:=AE (Qt a1);go_wp2_with fail;with_reducible refine G.mono ?_
       rintro e M⟨rfl,rfl⟩;go_wp2;go_meet;exact⟨by rw[E.o,S.o];rfl,rfl⟩
      |true=>
       have S:=AE (Qs a1);go_wp2_with fail;with_reducible refine G.mono ?_
       rintro e M⟨rfl,rfl⟩;go_wp2;go_meet;exact⟨by rw[E.o,S.o];rfl,rfl⟩
    case rest=>
    obtain⟨rfl,r⟩:=hcut;obtain rfl:=r.symm;clear r G E;cases A:Gi s[k]with
    |true=>
     have H:=AE (by rw[<-d.o,Y.o A]:Ab Gi s (k+1)=Ab Gi s j);clear A Y P d;go_wp2;go_roundw
     case rel=>exact⟨k+1,aj,aa,H,bo⟩
     simp[intOf];omega
    |false=>
     have H:=AE (by rw[b.o,<-d.o,P.o A]:Cw s j=k);have b0:j<=k:=by have:=H.o;rw[b.o]at this;omega
     clear A Y P d;go_wp2;go_meet;exact⟨j,k,k,rfl,rfl,rfl,AE ⟨by rw[a.o];rfl,H.o.symm,by rw[H.o,a.o];rfl⟩,b0,hk,aa,aa,AG _ _⟩
   obtain rfl:k=s.length:=aa
   have H:=AE (by rw[b.o,<-d.o,So (AF _)]:Cw s j=s.length);clear d;go_wp2;go_meet;exact⟨j,s.length,s.length,rfl,rfl,rfl,AE ⟨by rw[a.o];rfl,H.o.symm,by rw[H.o,a.o];rfl⟩,aa,AF _,aa,aa,AG _ _⟩
 case rest=>
 obtain⟨f,T,n,rfl,rfl,rfl,C,hf,b1,b2,b4,b3⟩:=hcut;obtain⟨w3,rfl⟩:∃x:World,x=wc:=⟨_,rfl⟩;have b5:=AE (by rw[C.o.2.1];exact HE.o:s.length<=T->s.length=R.1/\out=R.2);have b6:=AE (by rw[C.o.1,C.o.2.1,C.o.2.2];exact HG.o:T<s.length->(Aw s n).1=R.1/\(out++(if Ip.contains D then[(f,T-f,D1 ((s.drop f).take (T-f)))]else[]))++(Aw s n).2=R.2);apply_assumption;exact VK (j:=j) ⟨_,_,_,_,_,rfl,rfl⟩ hs (A1.next a2 b3) (X.trans (b3.mono aa)) hB a3 a4 hf b1 b2 b4 b5 b6 HN.o HS.o
end Go.Proofs.YtignjjnflcpiiaaGreatDoor
