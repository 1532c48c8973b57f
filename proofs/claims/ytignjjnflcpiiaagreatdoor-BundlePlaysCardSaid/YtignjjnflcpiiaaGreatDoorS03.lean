/- The shelf's contracts in the form in which this seat's wa -/
import Derived.Deep.AppendLies
import Derived.Shelf.Strings.SlTrimAscii
import Derived.Test.YtignjjnflcpiiaaGreatDoorS00
import Derived.Test.YtignjjnflcpiiaaGreatDoorS01
set_option maxHeartbeats 4000000
set_option maxRecDepth 100000
namespace Go.Proofs.YtignjjnflcpiiaaGreatDoor
open Go Go.RowKit Proofs.Tryz Lib
structure Cb(w:World):Prop where
 maxLen:∃m,w.cell? ⟨3,0,none⟩=some (.int .i64 m)
variable {B B' b cap g n k e t:Nat}{w':World}{l y:Bs}{xs:List Bs}{v z:Value}{a:Act}{o:Oper}{rest:List Oper}{O:Array Oper}{Q:Exit → Act → World → Prop}{α:Type}
theorem Cb.below{w:World}(h:Cb w)(H:Below B w w')(a:3<B):Cb w':=by
 obtain⟨m,b⟩:=h.maxLen;exact⟨m,(H.cell (p:=⟨_,0,none⟩) a).trans b⟩
theorem Cb.size{w:World}(h:Cb w):3<w.heap.size:=by
 obtain⟨m,H⟩:=h.maxLen;exact AY w _ H
theorem Cb.next{w:World}(h:Cb w)(H:Below w.heap.size w w'):Cb w':=h.below H h.size
theorem S0(w:World)(n B:Nat):Below B w (w.drewN n):=CB (AD B w) n
theorem Mi(l:Bs)(c:Int)(d:UInt8)(h:c.toNat.toUInt8=d)(w:World):Calls prog 100 #[.string ⟨l.toArray⟩,.int .u8 c] w fun e W=>e=.returned (.int .i64 (indexByte l d))∧w=W:=by
 refine(Tryz.strings_IndexByte ⟨l.toArray⟩ c w).mono ?_;rintro e W⟨rfl,rfl⟩;rw[h];exact⟨rfl,rfl⟩
theorem L3(l p:Bs)(w:World)(h:l.length<4294967281)(H:Cb w):Calls prog 88 #[.string ⟨l.toArray⟩,.string ⟨p.toArray⟩] w fun e W=>
  e=.returned (.tuple #[.string ⟨(cut l p).1.toArray⟩,.string ⟨(cut l p).2.1.toArray⟩,.bool (cut l p).2.2])∧Below w.heap.size w W:=by
 obtain⟨m,a⟩:=H.maxLen;refine(Tryz.strings_Cut ⟨l.toArray⟩ ⟨p.toArray⟩ m w h a).mono ?_;rintro e W⟨rfl,n,rfl⟩;exact⟨rfl,S0 w n _⟩
theorem Uu(l p:Bs)(w:World):Calls prog 103 #[.string ⟨l.toArray⟩,.string ⟨p.toArray⟩] w fun e W=>e=.returned (.tuple #[.string ⟨(trimPrefix l p).toArray⟩,.bool (hasPrefix l p)])∧w=W:=by
 refine(Tryz.strings_CutPrefix ⟨l.toArray⟩ ⟨p.toArray⟩ w).mono ?_;rintro e W⟨rfl,rfl⟩;exact⟨rfl,rfl⟩
theorem Jc(l p:Bs)(w:World):Calls prog 17 #[.string ⟨l.toArray⟩,.string ⟨p.toArray⟩] w fun e W=>e=.returned (.bool (hasPrefix l p))∧w=W:=by
 refine(Tryz.strings_HasPrefix ⟨l.toArray⟩ ⟨p.toArray⟩ w).mono ?_;rintro e W⟨rfl,rfl⟩;exact⟨rfl,rfl⟩
theorem nM(l:Bs)(c:Int)(w:World)(h:l.length<4611686018427387904):Calls prog 112 #[.string ⟨l.toArray⟩,.int .u8 c] w fun e W=>e=.returned (.int .i64 (lastIndexByte ⟨l.toArray⟩ c))∧w=W:=by
 refine(Tryz.strings_LastIndexByte ⟨l.toArray⟩ c h w).mono ?_;rintro e W⟨rfl,rfl⟩;exact⟨rfl,rfl⟩
theorem Uv(l p:Bs)(w:World)(h:l.length<4294967281)(H:Cb w):Calls prog 66 #[.string ⟨l.toArray⟩,.string ⟨p.toArray⟩] w fun e W=>e=.returned (.int .i64 (index l p))∧w=W:=by
 obtain⟨m,a⟩:=H.maxLen;refine(Tryz.strings_Index ⟨l.toArray⟩ ⟨p.toArray⟩ m w h a).mono ?_;rintro e W⟨rfl,rfl⟩;exact⟨rfl,rfl⟩
def Fk(xs:List Bs):Array Value:=(xs.map fun x=>Value.string ⟨x.toArray⟩).toArray
theorem Uw(l:Bs)(c:UInt8)(w:World)(h:l.length<4294967281)(H:Cb w):Calls prog 85 #[.string ⟨l.toArray⟩,.string ⟨#[c]⟩] w fun e W=>
  e=.returned (.slice (some ⟨w.heap.size,0,none⟩) (Bo c l).length (Bo c l).length)∧W=w.alloc (.cells (Fk (Bo c l)) 9):=by
 obtain⟨m,a⟩:=H.maxLen;refine(Tryz.strings_Split ⟨l.toArray⟩ ⟨#[c]⟩ m w h a (AC 1)).mono ?_;rintro e W⟨rfl,rfl⟩;rw[lU,lT,IB];exact⟨rfl,rfl⟩
theorem Ux(b o c:Nat)(xs:List Bs)(p:Bs)(w:World)(s:∀(j:Nat)x,xs[j]?=some x→w.cell? ⟨b,o+j,none⟩=some (.string ⟨x.toArray⟩))(k:b<w.heap.size)(N:xs.length≤140737488355328)(d:xs.length≤c)(n:(join xs p).length≤140737488355328):Calls prog 155 #[.slice (some ⟨b,o,none⟩) xs.length c,.string ⟨p.toArray⟩] w fun e W=>e=.returned (.string ⟨(join xs p).toArray⟩)∧Below w.heap.size w W:=by
 have m:(xs.map fun x=>(⟨x.toArray⟩:ByteArray)).map (·.data.toList)=xs:=by
  rw[IB];conv=>rhs;rw[←List.map_id xs]
  exact IQ fun x _=>rfl
 have h:=Tryz.strings_Join b o c (xs.map fun x=>(⟨x.toArray⟩:ByteArray)) ⟨p.toArray⟩ w (fun j x H=>by
  rw[EZ]at H;cases a:xs[j]?with
  |none=>rw[a]at H;cases H
  |some y=>rw[a]at H;simp at H;rw[←H];exact s j y a) k (by simpa using N) (by simpa using d) (by rw[m];exact n)
 rw[m,DS]at h;exact h
theorem Uy(a:Option Addr)(c:Nat)(p:Bs)(w:World):Calls prog 155 #[.slice a 0 c,.string ⟨p.toArray⟩] w fun e W=>e=.returned (.string ⟨#[]⟩)∧w=W:=by
 refine(Tryz.strings_Join_none a c ⟨p.toArray⟩ w).mono ?_;rintro e W⟨rfl,rfl⟩;exact⟨rfl,rfl⟩
abbrev Dc(B b:Nat)(l:Bs)(w:World):Prop:=IsBuilder 128 5 B b (byteCells l) w
theorem N9(w:World):Dc w.heap.size w.heap.size [] (w.alloc (.cells #[.pointer none,.slice none 0 0] 128)):=fresh_isBuilder _ _ w
theorem Dc.mono{w:World}(h:Dc B b l w)(a:B'≤B):Dc B' b l w:=by
 have G:∀p,BuilderAt 128 5 B b p (byteCells l) w→BuilderAt 128 5 B' b p (byteCells l) w:=by
  rintro p⟨c,v,d,⟨e,H⟩,f⟩;refine⟨BC a c,v,d,⟨e,?_⟩,f⟩;rcases H with H|⟨g,C,i,j,k,r⟩
  ·exact Or.inl H
  exact Or.inr ⟨g,C,i,j,BC a k,r⟩
 exact h.imp (G _) (G _)
theorem Dc.drew{B b:Nat}{l:Bs}{w:World}(h:Dc B b l w):Dc B b l w.drew:=h.imp (·.drew) (·.drew)
theorem Jd(B b:Nat)(l s:Bs)(w:World)(h:Dc B b l w)(H:l.length+s.length≤140737488355328)(a:B≤w.heap.size):Calls prog 78 #[.pointer (some ⟨b,0,none⟩),.string ⟨s.toArray⟩] w fun e W=>e=.returned (.tuple #[.int .i64 s.length,.nilIface])∧Dc B b (l++s) W∧Below B w W:=by
 refine(Any.Builder_WriteString {Pz with} Q0 B b (byteCells l) ⟨s.toArray⟩ w h (by rw[FU];exact H) a).mono ?_;rintro e W⟨rfl,c,d⟩;refine⟨rfl,Or.inr ?_,d⟩;have e:byteCells l++strCells ⟨s.toArray⟩=byteCells (l++s):=by simp[byteCells,strCells]
 rw[←e];exact c
theorem Oi(B b:Nat)(l:Bs)(w:World)(h:Dc B b l w)(H:B≤w.heap.size):Calls prog 80 #[.pointer (some ⟨b,0,none⟩)] w fun e W=>e=.returned (.string ⟨l.toArray⟩)∧Below B w W:=Tryz.Builder_String_any B b l w h H
theorem Q5(l cs:Bs)(w:World)(h:l.length≤9223372036854775807)(H:cs.length<4294967281)(i:cs.all (fun b=>decide (b.toNat<128))=true):Calls prog 89 #[.string ⟨l.toArray⟩,.string ⟨cs.toArray⟩] w fun e W=>e=.returned (.string ⟨(trimS l cs).toArray⟩)∧Below w.heap.size w W:=Any.strings_Trim_laid kF (by kernel_rfl) ⟨l.toArray⟩ ⟨cs.toArray⟩ w h H (fun j b a=>by
  have:=AW.1 i b (DD a);simpa using this)
abbrev Cg(w:World)(B:Nat)(v:Value)(xs:List Bs):Prop:=w.ownsRow B 9 1 v xs.length (xs.map fun x=>Value.string ⟨x.toArray⟩)
theorem Q6:(prog.info? 9).map (fun i=>(i.zero,i.size,i.bytes))=some (some (.string ByteArray.empty),1,16):=by kernel_rfl
theorem Cg.shape{w:World}(h:Cg w B v xs):∃a c,v=.slice a xs.length c:=by
 rcases h.2 with⟨H,b⟩|⟨g,c,C,H,_⟩
 ·exact⟨none,0,by rw[H,b]⟩
 exact⟨_,_,H⟩
theorem G3{w:World}(p:o.guard=none)(s x:Operand)
 (q:o.op=.call {callee:=.builtin .append,args:=#[s,x],argTypes:=#[55,55]}) (B:Nat) (v:Value) (xs:List Bs) (y:Bs) (b:Nat)
 (r:a.eval s=v) (n:Cg w B v xs) (t:a.eval x=.slice (some ⟨b,0,none⟩) 1 1) (z:w.cell? ⟨b,0,none⟩=some (.string ⟨y.toArray⟩)) (J:xs.length+1≤8796093022208) (f:B≤w.heap.size)
 (h:∀V W,Cg W B V (xs++[y])→w.grownBy W v.ownBlock→Below B w W→wpList prog O Q rest (a.put o.dst V) W):wpList prog O Q (o::rest) a w:=by
 obtain⟨I,A,C,D,E⟩:=FQ Q6;refine wpList_append_own (w:=w) p s x 55 q B 9 I (.string ByteArray.empty) 1 16 underlying55 A C D E rfl (by decide) v xs.length _ r n ⟨b,0,none⟩ 1 1 [.string ⟨y.toArray⟩] t rfl ?_ ?_ ?_ ?_ f ?_
 ·intro j u c
  match j,c with
  |0,c=>simp at c;rw[Dz,←c];exact z
 ·intro u i;simp at i;rw[i];rfl
 ·unfold maxLen;omega
 ·omega
 intro V W l m _;refine h V W ?_ m ((AD B w).grown m f fun k H=>?_)
 ·have e:(xs.map fun x=>Value.string ⟨x.toArray⟩)++[Value.string ⟨y.toArray⟩]=(xs++[y]).map fun x=>Value.string ⟨x.toArray⟩:=by simp
  rw[e]at l;have F:(xs++[y]).length=xs.length+1:=by simp
  unfold Cg;rw[F];exact l
 rcases n.2 with⟨d,_⟩|⟨g,K,L,d,G,_⟩
 ·rw[d]at H;cases H
 rw[d]at H;injection H with H;rw[←H];exact G
theorem Cg.pop{w:World}{a:Option Addr}(h:Cg w B (.slice a (xs.length+1) cap) (xs++[y])):Cg w B (.slice a xs.length cap) xs:=by
 have b:(xs++[y]).length=xs.length+1:=by simp
 unfold Cg at h;rw[b]at h;have c:∃g,a=some ⟨g,0,none⟩:=by
  rcases h.2 with⟨H,b⟩|⟨g,cap,C,H,_⟩
  ·cases H
  injection H with d _;exact⟨g,d⟩
 obtain⟨g,rfl⟩:=c;rw[ID]at h;exact ownsRow_pop (by simp) h
theorem Cg.cell{w:World}(h:Cg w B (.slice (some ⟨g,0,none⟩) xs.length cap) xs)(j:Nat)(y:Bs)(a:xs[j]?=some y):w.cell? ⟨g,j,none⟩=some (.string ⟨y.toArray⟩):=by
 rcases h.2 with⟨v,_⟩|⟨G,C,c,v,f,d,n,p,z,e⟩
 ·cases v
 injection v with H _ _;injection H with H;injection H with H;subst H;have t:j<xs.length:=(CM.1 a).1;have b:(c.toList.take (xs.length*1))[j]?=some (.string ⟨y.toArray⟩):=by rw[e];simp[a]
 rw[EA,AM (by omega)]at b;simp[World.cell?,d];simpa using b
theorem Cg.Oj{w:World}(h:Cg w B v (xs++[y])):∃g cap,v=.slice (some ⟨g,0,none⟩) (xs.length+1) cap∧xs.length+1≤cap∧B≤g∧Cg w B (.slice (some ⟨g,0,none⟩) xs.length cap) xs∧(∀(j:Nat)x,(xs++[y])[j]?=some x→w.cell? ⟨g,j,none⟩=some (.string ⟨x.toArray⟩)):=by
 have a:(xs++[y]).length=xs.length+1:=by simp
 have H:=h;unfold Cg at H;rw[a]at H;rcases H.2 with⟨b,a⟩|⟨g,cap,C,b,c,e,n,r⟩
 ·omega
 subst b;refine⟨g,cap,rfl,n,c,Cg.pop (y:=y) (by unfold Cg;rw[a];exact H),fun j x d=>?_⟩;refine Cg.cell (B:=B) (cap:=cap) (xs:=xs++[y]) ?_ j x d;unfold Cg;rw[a];exact H
def I9:Value→Nat
 | .string b=>b.size
 |_=>0
@[simp]theorem ZL(l:Bs):I9 (.string ⟨l.toArray⟩)=l.length:=by simp[I9,ByteArray.size]
def Yp:Go.Shelf.Ren:=⟨fun|167=>179|240=>130|276=>220|n=>n,fun|72=>128|70=>125|37=>126|75=>25|164=>174|80=>137|n=>n,fun|n=>n⟩
theorem nN:Lays.n167 prog Yp:={
 mixed:=by kernel_rfl
 f167:=func179.trans (AF some (by kernel_rfl))
 f240:=func130.trans (AF some (by kernel_rfl))
 f276:=func220.trans (AF some (by kernel_rfl))
 t0:=underlying0
 a0:=isAgg0
 z0:=sizeOf0
 v0:=zeroValue0
 t4:=underlying4
 a4:=isAgg4
 z4:=sizeOf4
 v4:=zeroValue4
 t5:=underlying5
 a5:=isAgg5
 z5:=sizeOf5
 v5:=zeroValue5
 t9:=underlying9
 a9:=isAgg9
 z9:=sizeOf9
 v9:=zeroValue9
 t20:=underlying20
 a20:=isAgg20
 z20:=sizeOf20
 v20:=zeroValue20
 t37:=underlying126
 a37:=isAgg126
 z37:=sizeOf126
 v37:=zeroValue126
 t70:=underlying125
 a70:=isAgg125
 z70:=sizeOf125
 v70:=zeroValue125
 t72:=underlying128
 a72:=isAgg128
 z72:=sizeOf128
 v72:=zeroValue128
 t75:=underlying25
 a75:=isAgg25
 z75:=sizeOf25
 v75:=zeroValue25
 t164:=underlying174
 a164:=isAgg174
 z164:=sizeOf174
 v164:=zeroValue174}
theorem nO:Builder.Extra prog Yp:={
 sizeBuilder:=by kernel_rfl
 liesBuilder:=by kernel_rfl
 t5:=underlying5
 a5:=isAgg5
 z5:=sizeOf5
 v5:=zeroValue5
 infoByte:=by kernel_rfl
 cellsByte:=by kernel_rfl
 sizeByte:=by kernel_rfl
 neB5:=by decide}
theorem Mj(B b:Nat)(l:Bs)(c:Int)(d:UInt8)(H:c=d.toNat)(w:World)(h:Dc B b l w)(n:l.length+1≤140737488355328)(a:B≤w.heap.size):Calls prog 179 #[.pointer (some ⟨b,0,none⟩),.int .u8 c] w fun e W=>e=.returned .nilIface∧Dc B b (l++[d]) W∧Below B w W:=by
 subst H;refine(Any.Builder_WriteByte nN nO B b (byteCells l) (d.toNat:Int) w h (by rw[FU];exact n) a).mono ?_;rintro e W⟨rfl,f,g⟩;refine⟨rfl,Or.inr ?_,g⟩;have e:byteCells l++[.int .u8 (d.toNat:Int)]=byteCells (l++[d]):=by simp[byteCells]
 rw[←e];exact f
theorem Yq(l p:Bs)(w:World)(h:l.length≤9223372036854775807):Calls prog 251 #[.string ⟨l.toArray⟩,.string ⟨p.toArray⟩] w fun e W=>e=.returned (.bool (hasSuffix l p))∧w=W:=by
 refine(Tryz.strings_HasSuffix ⟨l.toArray⟩ ⟨p.toArray⟩ w h).mono ?_;rintro e W⟨rfl,rfl⟩;exact⟨rfl,rfl⟩
theorem nP(l p:Bs)(w:World)(h:l.length≤9223372036854775807):Calls prog 77 #[.string ⟨l.toArray⟩,.string ⟨p.toArray⟩] w fun e W=>e=.returned (.string ⟨(trimSuffix l p).toArray⟩)∧w=W:=by
 refine(Tryz.strings_TrimSuffix ⟨l.toArray⟩ ⟨p.toArray⟩ w h).mono ?_;rintro e W⟨rfl,rfl⟩;exact⟨rfl,rfl⟩
theorem Yr(l cs:Bs)(w:World)(h:l.length≤9223372036854775807)(H:cs.length<4294967281)(i:cs.all (fun b=>decide (b.toNat<128))=true):Calls prog 92 #[.string ⟨l.toArray⟩,.string ⟨cs.toArray⟩] w fun e W=>e=.returned (.string ⟨(trimRightS l cs).toArray⟩)∧Below w.heap.size w W:=Any.strings_TrimRight_laid kD (by kernel_rfl) ⟨l.toArray⟩ ⟨cs.toArray⟩ w h H (fun j b a=>by
  have:=AW.1 i b (DD a);simpa using this)
theorem S4(l cs:Bs)(w:World)(h:cs.length<4294967281)(H:cs.all (fun b=>decide (b.toNat<128))=true):Calls prog 91 #[.string ⟨l.toArray⟩,.string ⟨cs.toArray⟩] w fun e W=>e=.returned (.string ⟨(trimLeftS l cs).toArray⟩)∧Below w.heap.size w W:=Any.strings_TrimLeft_laid kB (by kernel_rfl) ⟨l.toArray⟩ ⟨cs.toArray⟩ w h (fun j b a=>by
  have:=AW.1 H b (DD a);simpa using this)
def A0(e size:Nat)(cs:α→List Value)(w:World)(B:Nat)(v:Value)(xs:List α):Prop:=w.ownsRow B e size v xs.length (xs.flatMap cs)
theorem A0.nil(e size:Nat)(cs:α→List Value)(w:World)(B:Nat):A0 e size cs w B (.slice none 0 0) []:=GG _ _ _ _
theorem A0.alloc{α:Type}{e size:Nat}{cs:α→List Value}{w:World}{B:Nat}{v:Value}{xs:List α}(h:A0 e size cs w B v xs)(o:Obj):A0 e size cs (w.alloc o) B v xs:=FY h o
theorem Jr{e:TypeId}{xs:List Value}{w:World}(h:w.ownsRow B e k v n xs)(c:Below w.heap.size w w'):w'.ownsRow B e k v n xs:=by
 rcases h with⟨d,H⟩;refine⟨d,?_⟩;rcases H with H|⟨g,C,f,i,j,a,r⟩
 ·exact Or.inl H
 have t:g<w.heap.size:=by
  rcases CN g w.heap.size with b|b
  ·exact b
  rw[CL b]at a;cases a
 exact Or.inr ⟨g,C,f,i,j,(c.block g t).trans a,r⟩
theorem A0.next{size:Nat}{cs:α→List Value}{w:World}{xs:List α}(h:A0 e size cs w B v xs)(H:Below w.heap.size w w'):A0 e size cs w' B v xs:=Jr h H
theorem Dc.next{w:World}(h:Dc B b l w)(c:Below w.heap.size w w'):Dc B b l w':=by
 have g:∀p,BuilderAt 128 5 B b p (byteCells l) w→BuilderAt 128 5 B b p (byteCells l) w':=by
  rintro p⟨d,v,H,e,f⟩;have t:b<w.heap.size:=by
   rcases CN b w.heap.size with a|a
   ·exact a
   rw[CL a]at H;cases H
  exact⟨d,v,(c.block b t).trans H,Jr e c,f⟩
 exact h.imp (g _) (g _)
theorem Mk{size:Nat}{cs:α→List Value}(p:∀x,(cs x).length=size)(q:∀x,∀u∈cs x,u.oneCell'=true)
 (r:(prog.info? e).map (fun i=>(i.zero,i.size,i.bytes))=some (some z,size,b)) (C:z.cells.size=size) (D:0<size) (E:prog.underlying t=some (.slice e))
 {w:World} (F:o.guard=none) (s x:Operand)
 (G:o.op=.call {callee:=.builtin .append,args:=#[s,x],argTypes:=#[t,t]}) (B:Nat) (v:Value) (xs Y:List α) (A:Addr) (m c:Nat) (I:m=Y.length)
 (J:a.eval s=v) (n:A0 e size cs w B v xs) (K:a.eval x=.slice (some A) m c) (L:∀j u,(Y.flatMap cs)[j]?=some u→w.cell? (A.add j)=some u) (M:(xs.length+Y.length)*b≤140737488355328) (N:xs.length+Y.length≤maxLen) (f:B≤w.heap.size)
 (h:∀V W,A0 e size cs W B V (xs++Y)→w.grownBy W v.ownBlock→Below B w W→wpList prog O Q rest (a.put o.dst V) W):wpList prog O Q (o::rest) a w:=by
 subst I;obtain⟨P,R,S,T,U⟩:=FQ r;have X:∀Z:List α,(Z.flatMap cs).length=Z.length*size:=fun Z=>by
  induction Z with
  |nil=>simp
  |cons y Z ih=>rw[BT,AH,p,ih,AO,DN];omega
 refine wpList_append_own (w:=w) F s x t G B e P z size b E R S T U C D v xs.length _ J n A Y.length c (Y.flatMap cs) K (X Y) L ?_ N M f ?_
 ·intro u hu;obtain⟨y,_,hy⟩:=FD.1 hu;exact q y u hy
 intro V W h1 l _;refine h V W ?_ l ((AD B w).grown l f fun k H=>?_)
 ·unfold A0;rw[CR,AH];exact h1
 rcases n.2 with⟨d,_⟩|⟨g,a0,a1,d,hg,_⟩
 ·rw[d]at H;cases H
 rw[d]at H;injection H with H;rw[←H];exact hg
def Cs(w:World)(B:Nat)(v:Value)(l:Bs):Prop:=A0 5 1 (fun c:UInt8=>[Value.int .u8 (c.toNat:Int)]) w B v l
theorem Cs.alloc{w:World}{B:Nat}{v:Value}{l:Bs}(h:Cs w B v l)(o:Obj):Cs (w.alloc o) B v l:=A0.alloc h o
theorem Cs.drew{w:World}{B:Nat}{v:Value}{l:Bs}(h:Cs w B v l):Cs w.drew B v l:=h
theorem Cs.next{w w':World}{B:Nat}{v:Value}{l:Bs}(h:Cs w B v l)(H:Below w.heap.size w w'):Cs w' B v l:=A0.next h H
theorem Ok(l:Bs):l.flatMap (fun c:UInt8=>[Value.int .u8 (c.toNat:Int)])=byteCells l:=by
 induction l with
 |nil=>rfl
 |cons c l ih=>rw[BT,ih];rfl
theorem S5:(prog.info? 5).map (fun i=>(i.zero,i.size,i.bytes))=some (some (.int .u8 0),1,1):=by kernel_rfl
theorem Q7(w:World)(D:UInt8)(t:TypeId)(i:Nat)(h:i<[D].length):(w.alloc (.cells #[.int .u8 (D.toNat:Int)] t)).cell? ⟨w.heap.size,i,none⟩=some (.int .u8 ([D][i].toNat:Int)):=by
 obtain rfl:i=0:=by simpa using h
 rw[(A1.new w #[.int .u8 (D.toNat:Int)] t).cell];rfl
theorem nQ(w:World)(D:UInt8)(t:TypeId)(i:Nat)(h:i<[D].length):(w.alloc (.cells #[.int .u8 (D.toNat:Int)] t)).drew.cell? ⟨w.heap.size,i,none⟩=some (.int .u8 ([D][i].toNat:Int)):=Q7 w.drew D t i h
theorem Na{w:World}(f:o.guard=none)(s x:Operand)
 (g:o.op=.call {callee:=.builtin .append,args:=#[s,x],argTypes:=#[126,126]}) (B:Nat) (v:Value) (l y:Bs) (b m c:Nat) (i:m=y.length)
 (k:a.eval s=v) (n:Cs w B v l) (p:a.eval x=.slice (some ⟨b,0,none⟩) m c) (q:∀j(h:j<y.length),w.cell? ⟨b,j,none⟩=some (.int .u8 (y[j].toNat:Int))) (E:l.length+y.length≤140737488355328) (r:B≤w.heap.size)
 (h:∀V W,Cs W B V (l++y)→Below B w W→wpList prog O Q rest (a.put o.dst V) W):wpList prog O Q (o::rest) a w:=by
 refine Mk (α:=UInt8) (cs:=fun c:UInt8=>[Value.int .u8 (c.toNat:Int)]) (size:=1) (z:=.int .u8 0) (fun _=>rfl) (fun _ u e=>by simp at e;rw[e];rfl) S5 rfl (by decide) underlying126 f s x g B v l y ⟨b,0,none⟩ m c i k n p (fun j u H=>?_) (by omega) (by unfold maxLen;omega) r fun V W t _ A=>h V W t A
 rw[Ok]at H;rw[Dz];simp only[byteCells,EZ,BH]at H;obtain⟨d,C,rfl⟩:=H;obtain⟨D,rfl⟩:=CM.1 C;exact q j D
theorem nR{w:World}{K:Act→World→Prop}{E:Prop}(q:o.guard=none)(s x:Operand)
 (r:o.op=.call {callee:=.builtin .append,args:=#[s,x],argTypes:=#[126,126]}) (B:Nat) (v:Value) (l Y:Bs) (b m c:Nat) (t:m=Y.length) (z:0<m)
 (A:a.eval s=v) (n:Cs w B v l) (C:a.eval x=.slice (some ⟨b,0,none⟩) m c) (D:∀j(h:j<Y.length),w.cell? ⟨b,j,none⟩=some (.int .u8 (Y[j].toNat:Int))) (X:l.length+Y.length≤140737488355328) (i:B≤w.heap.size)
 (h:∀V W,Cs W B V (l++Y)→Below B w W→K (a.put o.dst V) W):if Region.wanted o (yielded O a.tmps)=true then Oper.wp prog o a w K Q else E:=by
 subst t;obtain⟨I,F,G,J,L⟩:=FQ S5;refine step_append_lies (w:=w) q s x 126 r B 5 I (.int .u8 0) 1 1 underlying126 F G J L rfl (by decide) v l.length _ A n ⟨b,0,none⟩ Y.length c (Y.flatMap fun c:UInt8=>[Value.int .u8 (c.toNat:Int)]) C (by rw[Ok,FU];simp) (fun j u e=>?_) (fun u M=>?_) z (by unfold maxLen;omega) (by omega) i _ rfl ?_
 ·rw[Ok]at e;rw[Dz];simp only[byteCells,EZ,BH]at e;obtain⟨d,N,rfl⟩:=e;obtain⟨P,rfl⟩:=CM.1 N;exact D j P
 ·obtain⟨y,_,p⟩:=FD.1 M;simp at p;rw[p];rfl
 intro g R W S T _ _;refine h _ W ?_ ((AD B w).grown T i fun k H=>?_)
 ·unfold Cs A0;rw[CR,AH];exact S
 rcases n.2 with⟨f,_⟩|⟨g,R,Z,f,U,_⟩
 ·rw[f]at H;cases H
 rw[f]at H;injection H with H;rw[←H];exact U
theorem nS{w:World}(d:o.guard=none)(s x:Operand)
 (f:o.op=.call {callee:=.builtin .append,args:=#[s,x],argTypes:=#[126,9]}) (B:Nat) (v:Value) (l y:Bs)
 (i:a.eval s=v) (n:Cs w B v l) (j:a.eval x=.string ⟨y.toArray⟩) (m:l.length+y.length≤140737488355328) (c:B≤w.heap.size)
 (h:∀V W,Cs W B V (l++y)→Below B w W→wpList prog O Q rest (a.put o.dst V) W):wpList prog O Q (o::rest) a w:=by
 obtain⟨I,p,q,r,t⟩:=FQ S5;refine wpList_append_own_string (w:=w) d s x 126 9 f B 5 I underlying126 underlying9 p q r t v l.length _ i n ⟨y.toArray⟩ j (show l.length+y.length≤maxLen by unfold maxLen;omega) (show l.length+y.length≤140737488355328 from m) c ?_;intro V W u z _;refine h V W ?_ ((AD B w).grown z c fun k H=>?_)
 ·have e:byteCells l++strCells ⟨y.toArray⟩=byteCells (l++y):=by simp[byteCells,strCells]
  unfold Cs A0;rw[Ok,←e,AH,←Ok l];exact u
 rcases n.2 with⟨b,_⟩|⟨g,C,D,b,A,_⟩
 ·rw[b]at H;cases H
 rw[b]at H;injection H with H;rw[←H];exact A
theorem Cs.shape{w:World}(h:Cs w B v l):∃a c,v=.slice a l.length c∧∀j(H:j<l.length),∃g,a=some ⟨g,0,none⟩∧w.cell? ⟨g,j,none⟩=some (.int .u8 (l[j].toNat:Int)):=by
 unfold Cs A0 at h;rw[Ok]at h;rcases h.2 with⟨b,e⟩|⟨g,c,C,b,k,f,n,p,z,i⟩
 ·exact⟨none,0,by rw[b,e],fun j H=>by omega⟩
 refine⟨_,_,b,fun j H=>⟨g,rfl,?_⟩⟩;have d:(C.toList.take (l.length*1))[j]?=some (.int .u8 (l[j].toNat:Int)):=by rw[i];simp[byteCells,H]
 rw[EA,AM (by omega)]at d;simp[World.cell?,f];simpa using d
theorem nT(w:World)(a:Option Addr)(cap:Nat):(convert 126 9 (.slice a 0 cap)).run prog w=.ok (.string ⟨#[]⟩) w:=by
 cases a<;>kernel_rfl
theorem Cs.text{w:World}(h:Cs w B v l):(convert 126 9 v).run prog w=.ok (.string ⟨l.toArray⟩) w:=by
 obtain⟨a,C,rfl,H⟩:=h.shape;cases l with
 |nil=>exact nT w a C
 |cons c l=>
  obtain⟨g,rfl,_⟩:=H 0 (by simp);exact EI (P:=prog) w 126 9 5 ⟨g,0,none⟩ C (c::l) underlying126 underlying5 underlying9 (fun j b=>by
   obtain⟨G,e,h⟩:=H j b;injection e with e;injection e with e;subst e;rw[Dz];exact h)
@[go_sem high]theorem nU(w:World)(c:UInt8):(convert 126 9 (.slice (some ⟨w.heap.size,0,none⟩) 1 1)).run prog (w.alloc (.cells #[.int .u8 (c.toNat:Int)] 5))=.ok (.string ⟨#[c]⟩) (w.alloc (.cells #[.int .u8 (c.toNat:Int)] 5)):=EI (P:=prog) (w.alloc (.cells #[.int .u8 (c.toNat:Int)] 5)) 126 9 5 ⟨w.heap.size,0,none⟩ 1 [c] underlying126 underlying5 underlying9
  (fun j h=>by
   obtain rfl:j=0:=by simpa using h
   rw[Dz,(A1.new _ _ _).cell];rfl)
@[go_sem high]theorem nV(w:World)(c d:UInt8):(convert 126 9 (.slice (some ⟨w.heap.size,0,none⟩) 2 2)).run prog (w.alloc (.cells #[.int .u8 (c.toNat:Int),.int .u8 (d.toNat:Int)] 5))=.ok (.string ⟨#[c,d]⟩) (w.alloc (.cells #[.int .u8 (c.toNat:Int),.int .u8 (d.toNat:Int)] 5)):=EI (P:=prog) (w.alloc (.cells #[.int .u8 (c.toNat:Int),.int .u8 (d.toNat:Int)] 5)) 126 9 5 ⟨w.heap.size,0,none⟩ 2 [c,d] underlying126 underlying5 underlying9
  (fun j h=>by
   have h:j=0∨j=1:=by simp at h;omega
   rw[Dz,(A1.new _ _ _).cell];rcases h with rfl|rfl<;>rfl)
@[go_sem high]theorem ZM(w:World)(c:UInt8):(convert 126 9 (.slice (some ⟨w.heap.size,0,none⟩) 1 1)).run prog (w.alloc (.cells #[.int .u8 (c.toNat:Int)] 5)).drew=.ok (.string ⟨#[c]⟩) (w.alloc (.cells #[.int .u8 (c.toNat:Int)] 5)).drew:=nU w.drew c
@[go_sem high]theorem ZN(w:World)(c d:UInt8):(convert 126 9 (.slice (some ⟨w.heap.size,0,none⟩) 2 2)).run prog (w.alloc (.cells #[.int .u8 (c.toNat:Int),.int .u8 (d.toNat:Int)] 5)).drew=.ok (.string ⟨#[c,d]⟩) (w.alloc (.cells #[.int .u8 (c.toNat:Int),.int .u8 (d.toNat:Int)] 5)).drew:=nV w.drew c d
theorem Q8(l p:Bs)(h:1≤p.length):(Lib.split l p).length=count l p+1:=by
 have a:=splitB_data ⟨p.toArray⟩ 0 (countB ⟨l.toArray⟩ ⟨p.toArray⟩) ⟨l.toArray⟩;have b:=splitB_all ⟨p.toArray⟩ h 0 (countB ⟨l.toArray⟩ ⟨p.toArray⟩) ⟨l.toArray⟩ rfl;have H:=AF List.length a;rw[DS,b]at H;exact H.symm
theorem S6(l p:Bs)(h:1≤p.length):count l p≤l.length:=countB_le ⟨p.toArray⟩ h l.length ⟨l.toArray⟩ (AC _)
theorem Uz(l p:Bs)(w:World)(H:l.length<4294967281)(h:1≤p.length)(g:Cb w):Calls prog 85 #[.string ⟨l.toArray⟩,.string ⟨p.toArray⟩] w fun e W=>
  e=.returned (.slice (some ⟨w.heap.size,0,none⟩) (Lib.split l p).length (Lib.split l p).length)∧W=w.alloc (.cells (Fk (Lib.split l p)) 9):=by
 obtain⟨m,a⟩:=g.maxLen;refine(Tryz.strings_Split ⟨l.toArray⟩ ⟨p.toArray⟩ m w H a h).mono ?_;rintro e W⟨rfl,rfl⟩;have b:=splitB_data ⟨p.toArray⟩ 0 (countB ⟨l.toArray⟩ ⟨p.toArray⟩) ⟨l.toArray⟩;have c:(splitB ⟨p.toArray⟩ 0 (countB ⟨l.toArray⟩ ⟨p.toArray⟩) ⟨l.toArray⟩).map Value.string=(Lib.split l p).map fun x=>Value.string ⟨x.toArray⟩:=by
  rw[show Lib.split l p=(splitB ⟨p.toArray⟩ 0 (countB ⟨l.toArray⟩ ⟨p.toArray⟩) ⟨l.toArray⟩).map (·.data.toList)from b.symm,IB];apply IQ;intro x _;exact AF Value.string (IU x).symm
 rw[c,Q8 l p h];exact⟨rfl,rfl⟩
theorem Ys(n:Int)(h:0≤n)(H:n<2^40):IntKind.i64.wrap n=n:=CI n (by omega)
theorem V0(i:Nat)(x y:Int)(h:0≤x)(H:x%2^i=0)(a:x<2^40)(b:0≤y)(c:y<2^i)(d:y<2^40):bits .or .i64 x y=x+y:=bits_join .i64 40 (by decide) Ys i x y h H a b c d
theorem S7(i:Nat)(h:i≤40)(x:Int)(H:0≤x)(a:x<2^40):bits .and .i64 x (2^i-1)=x%2^i:=bits_mask .i64 40 (by decide) Ys i h x H a
theorem nW(x y:Int)(H:0≤x)(a:x<4294967296)(h:0≤y)(b:y<64):bits .or .i64 (x*64) y=x*64+y:=V0 6 _ _ (by omega) (by omega) (by omega) h (by omega) (by omega)
theorem nX(x y:Int)(H:0≤x)(a:x<4294967296)(h:0≤y)(b:y<256):bits .or .i64 (x*256) y=x*256+y:=V0 8 _ _ (by omega) (by omega) (by omega) h (by omega) (by omega)
theorem nY(x y:Int)(H:0≤x)(a:x<4294967296)(h:0≤y)(b:y<16):bits .or .i64 (x*16) y=x*16+y:=V0 4 _ _ (by omega) (by omega) (by omega) h (by omega) (by omega)
theorem S8(x:Int)(h:0≤x)(H:x<1099511627776):bits .and .i64 x 63=x%64:=S7 6 (by decide) x h (by omega)
theorem nZ(x:Int)(h:0≤x)(H:x<1099511627776):bits .and .i64 x 255=x%256:=S7 8 (by decide) x h (by omega)
theorem oA(x:Int)(h:0≤x)(H:x<1099511627776):bits .and .i64 x 65535=x%65536:=S7 16 (by decide) x h (by omega)
theorem Q9(c:UInt8):c.toNat.toUInt8=c:=by simp
theorem oB:((List.range 256).all fun n=>Gj n.toUInt8==(decide (33≤(n.toUInt8.toNat:Int))&&decide ((n.toUInt8.toNat:Int)≤126)&&!((n.toUInt8.toNat:Int)==61)))=true:=by kernel_rfl
theorem oC(c:UInt8):Gj c=(decide (33≤(c.toNat:Int))&&decide ((c.toNat:Int)≤126)&&!((c.toNat:Int)==61)):=by
 have:=AW.1 oB c.toNat (BY.2 c.toNat_lt);rw[Q9]at this;exact BG.1 this
theorem Qa(c:UInt8)(w:World):Calls prog 290 #[.int .u8 c.toNat] w fun e W=>e=.returned (.bool (Gj c))∧w=W:=by
 have H:=AB (oC c);have h:(c.toNat:Int)<256:=by have:=c.toNat_lt;omega
 go_enter func290,ntmps290
 go_wp2
 all_goals
  go_ret;exact⟨Ba (by rw[H.o];first|(simp[*];done)|(simp[*,bne];done)|(simp[*];omega)),rfl⟩
theorem oD:((List.range 256).all fun n=>decide (Du n.toUInt8=if(48≤(n.toUInt8.toNat:Int)∧(n.toUInt8.toNat:Int)≤57)then(n.toUInt8.toNat:Int)-48 else if(65≤(n.toUInt8.toNat:Int)∧(n.toUInt8.toNat:Int)≤70)then(n.toUInt8.toNat:Int)-65+10 else if(97≤(n.toUInt8.toNat:Int)∧(n.toUInt8.toNat:Int)≤102)then(n.toUInt8.toNat:Int)-97+10 else-1))=true:=by kernel_rfl
theorem oE(c:UInt8):Du c=if(48≤(c.toNat:Int)∧(c.toNat:Int)≤57)then(c.toNat:Int)-48 else if(65≤(c.toNat:Int)∧(c.toNat:Int)≤70)then(c.toNat:Int)-65+10 else if(97≤(c.toNat:Int)∧(c.toNat:Int)≤102)then(c.toNat:Int)-97+10 else-1:=by
 have:=AW.1 oD c.toNat (BY.2 c.toNat_lt);rw[Q9]at this;exact EE this
theorem Yt(c:UInt8)(w:World):Calls prog 289 #[.int .u8 c.toNat] w fun e W=>e=.returned (.int .i64 (Du c))∧w=W:=by
 have H:=AB (oE c);have h:(c.toNat:Int)<256:=by have:=c.toNat_lt;omega
 go_enter func289,ntmps289
 go_wp2
 all_goals
  go_ret;exact⟨Es (by rw[H.o];first|(simp[*];done)|(repeat' split<;>omega)),rfl⟩
theorem S9(n:Nat)(h:n<16):(⟨#[48,49,50,51,52,53,54,55,56,57,65,66,67,68,69,70]⟩:ByteArray)[n]'(by exact h)=N5 n:=by
 show _=([48,49,50,51,52,53,54,55,56,57,65,66,67,68,69,70]:Bs).getD n 0;rw[AK,AZ (show n<([48,49,50,51,52,53,54,55,56,57,65,66,67,68,69,70]:Bs).length from h)];rfl
theorem Qb(h:k<l.length):l.drop k=l[k]::l.drop (k+1):=AE h
theorem oF(b:Bs)(w:World)(hl:b.length≤1000000000000):Calls prog 268 #[.string ⟨b.toArray⟩] w fun e w'=>e=.returned (.string ⟨(Fh b).toArray⟩)∧Below w.heap.size w w':=by
 have hT:=Rr b;have b0:=N9 w;go_enter func268,ntmps268;go_wp2_with fail;go_loopw[4,11] (fun n i wr=>∃(k l:Nat)(o:Bs),i=.int .i64 k∧k≤b.length∧n=.int .i64 l∧l≤100∧o++Fz (b.drop k) l=Fh b∧Dc w.heap.size w.heap.size o wr∧Below w.heap.size w wr) (fun _ i _=>b.length-(intOf i).toNat)
 case atStart=>exact⟨0,0,[],rfl,by omega,rfl,by omega,rfl,b0,by go_grown⟩
 obtain⟨k,l,o,rfl,hk,rfl,a8,M,H,B⟩:=hrel;have y:=AB M;clear M;by_cases a0:k<b.length
 ·have z:=AB (Qb a0);have j:o.length+(Fz (b.drop k) l).length=(Fh b).length:=by rw[←y.o];simp
  have A:((k:Int)+1==(b.length:Int))=(b.drop (k+1)).isEmpty:=by
   by_cases h:k+1=b.length
   ·rw[show(b.drop (k+1))=[]from GL.2 (by omega),BG.2 (by omega)];rfl
   have h1:((k:Int)+1==(b.length:Int))=false:=by rw[AG];omega
   rw[h1];symm;simp;omega
  generalize O:b.drop (k+1)=r at A z;have C:=AB O;clear O;have a:=AB (by rw[←z.o];exact y.o:o++Fz (b[k]::r) l=Fh b);have Q:(b[k].toNat:Int)<256:=by have:=b[k].toNat_lt;omega
  rw[z.o]at j;clear z y;go_upto_region 7 with fail;generalize b[k]=c at Q a j⊢;go_upto_region 8 with fail;have H:=H.next (w':=wr.alloc (.cells #[.int .u8 (c.toNat:Int)] 5)) ((AD _ _).alloc (AC _) _);have B:=B.alloc B.size (.cells #[.int .u8 (c.toNat:Int)] 5);generalize a1:wr.alloc (.cells #[.int .u8 (c.toNat:Int)] 5)=W at H B⊢;clear a1;go_cut[37] (fun t f=>t=.bool (L2 c r.isEmpty)∧f=W)
  case first=>
   clear a j C H B;obtain⟨L,I⟩:∃x,r.isEmpty=x:=⟨_,rfl⟩;rw[I]at A;have J:=AB I;clear I;go_wp2_with fail;refine(Qa c _).mono ?_;rintro e w'⟨rfl,rfl⟩;cases g:Gj c with
   |true=>
    have P:=AB (by unfold L2;rw[g];rfl:L2 c L=false);clear g;go_wp2_with fail;go_meet;exact⟨by rw[J.o,P.o],rfl⟩
   |false=>
    by_cases m:c=32∨c=9
    ·have P:=AB (by unfold L2;rw[g];rcases m with rfl|rfl<;>cases L<;>rfl:L2 c L=L);clear g;rcases m with rfl|rfl
     all_goals
      go_wp2_with fail;go_meet;exact⟨by rw[J.o,P.o],rfl⟩
    have N:c≠32:=fun h=>m (Or.inl h)
    have D:c≠9:=fun h=>m (Or.inr h)
    have P:=AB (by unfold L2;rw[g,CZ.2 N,CZ.2 D];rfl:L2 c L=true);have t1:((c.toNat:Int)!=32)=true:=by rw[CZ];intro h;exact N (BJ.1 (by simp;omega))
    have t2:((c.toNat:Int)!=9)=true:=by rw[CZ];intro h;exact D (BJ.1 (by simp;omega))
    clear g m N D;go_wp2_with fail;go_meet;exact⟨by rw[J.o,P.o],rfl⟩
  case rest=>
  obtain⟨rfl,rfl⟩:=hcut;have q:=AB (lW c r.isEmpty);obtain⟨W,rfl⟩:∃W:World,W=wc:=⟨_,rfl⟩;go_upto_if 37 with fail;go_cut[7] (fun s f=>s=.string ⟨(Fg c r.isEmpty).toArray⟩∧Dc w.heap.size w.heap.size o f∧Below w.heap.size w f)
  case first=>
   clear a j C A;generalize L2 c r.isEmpty=a2 at q⊢;cases a2 with
   |false=>
    go_wp2_with fail;go_meet;exact⟨by rw[q.o];rfl,H,B⟩
   |true=>
    have S:c.toNat/16<16:=by omega
    have T:c.toNat%16<16:=by omega
    have q1:(c.toNat:Int)/16=((c.toNat/16:Nat):Int):=by omega
    have q2:bits .and .u8 (c.toNat:Int) 15=((c.toNat%16:Nat):Int):=(u8_and15 _ (by omega) Q).trans (by omega);have U:=AB (S9 (c.toNat/16) S);have V:=AB (S9 (c.toNat%16) T);have a3:((c.toNat/16:Nat):Int)<16:=by omega
    have a4:((c.toNat%16:Nat):Int)<16:=by omega
    generalize c.toNat/16=N at S q1 U q a3;generalize c.toNat%16=D at T q2 V q a4;go_wp2_with fail;go_region;all_goals
     go_wp2_with fail;go_meet;exact⟨by rw[q.o,←U.o,←V.o];rfl,H.next (((AD W.heap.size W).alloc (AC _) _).drew),(B.alloc B.size _).drew⟩
  clear H B;obtain⟨rfl,H,B⟩:=hcut;have a5:=Ui c r.isEmpty;have d:=AB (by rfl:Fz (c::r) l=(if l+(Fg c r.isEmpty).length>(if r.isEmpty then 76 else 75)then[61,13,10]++Fg c r.isEmpty++Fz r (Fg c r.isEmpty).length else Fg c r.isEmpty++Fz r (l+(Fg c r.isEmpty).length)));obtain⟨W,rfl⟩:∃W:World,W=wc:=⟨_,rfl⟩;generalize Fg c r.isEmpty=p at a5 d⊢;have X:∃R:Nat,R≤76∧Hid ((if r.isEmpty then 76 else 75)=R):=⟨if r.isEmpty then 76 else 75,by split<;>omega,AB rfl⟩;obtain⟨R,X,F⟩:=X;rw[F.o]at d;go_upto_if 51 with fail;go_cut[8] (fun v f=>v=.int .i64 R∧f=W)
  case first=>
   clear a j C d H B;generalize r.isEmpty=L at A F⊢;cases L with
   |false=>
    have e:R=75:=F.o.symm;subst e;go_wp2_with fail;go_meet;exact⟨rfl,rfl⟩
   |true=>
    have e:R=76:=F.o.symm;subst e;go_wp2_with fail;go_meet;exact⟨rfl,rfl⟩
  case rest=>
  obtain⟨rfl,rfl⟩:=hcut;obtain⟨W,rfl⟩:∃W:World,W=wc:=⟨_,rfl⟩;have Y:=AB (show b.drop (k+1)=r from C.o);by_cases Z:R<l+p.length
  ·have E:=a.o;rw[d.o,AM Z]at E;have u:=AB E;clear E a d;have a6:o.length+3+p.length≤140737488355328:=by have:=AF List.length u.o;simp at this;omega
   have a7:(R:Int)<(l:Int)+(p.length:Int):=by omega
   go_wp2_with fail;refine(Jd _ _ _ [61,13,10] _ H (by simp;omega) B.size).mono ?_;rintro e w2⟨rfl,H,G⟩;go_wp2_with fail;refine(Jd _ _ _ p _ H (by simp;omega) (B.trans G).size).mono ?_;rintro e w3⟨rfl,H,K⟩;go_wp2_with fail;go_roundw
   case rel=>exact⟨k+1,p.length,_,by go_num,by omega,by go_num,by omega,by rw[Y.o,←u.o];simp,H,(B.trans G).trans K⟩
   simp[intOf];omega
  have E:=a.o;rw[d.o,AI Z]at E;have u:=AB E;clear E a d;have a6:o.length+p.length≤140737488355328:=by have:=AF List.length u.o;simp at this;omega
  have a7:(l:Int)+(p.length:Int)≤(R:Int):=by omega
  go_wp2_with fail;refine(Jd _ _ _ p _ H (by omega) B.size).mono ?_;rintro e w3⟨rfl,H,K⟩;go_wp2_with fail;go_roundw
  case rel=>exact⟨k+1,l+p.length,_,by go_num,by omega,by go_num,by omega,by rw[Y.o,←u.o];simp,H,B.trans K⟩
  simp[intOf];omega
 obtain rfl:k=b.length:=by omega
 have hd:Fh b=o:=by rw[←y.o];simp[Fz]
 have Hd:=AB hd;clear hd;go_wp2_with fail;refine(Oi _ _ _ _ H B.size).mono ?_;rintro e w2⟨rfl,G⟩;go_wp2_with fail;go_ret;exact⟨Gx Hd.o.symm,B.trans G⟩
theorem oG:((List.range 256).all fun n=>Iv n.toUInt8==(decide (33≤(n.toUInt8.toNat:Int))&&decide ((n.toUInt8.toNat:Int)≤126)&&!((n.toUInt8.toNat:Int)==58)))=true:=by kernel_rfl
theorem Yu(c:UInt8):Iv c=(decide (33≤(c.toNat:Int))&&decide ((c.toNat:Int)≤126)&&!((c.toNat:Int)==58)):=by
 have:=AW.1 oG c.toNat (BY.2 c.toNat_lt);rw[Q9]at this;exact BG.1 this
theorem oH:((List.range 256).all fun n=>G1 n.toUInt8==((decide (32≤(n.toUInt8.toNat:Int))||((n.toUInt8.toNat:Int)==9))&&!((n.toUInt8.toNat:Int)==127)))=true:=by kernel_rfl
theorem Yv(c:UInt8):G1 c=((decide (32≤(c.toNat:Int))||((c.toNat:Int)==9))&&!((c.toNat:Int)==127)):=by
 have:=AW.1 oH c.toNat (BY.2 c.toNat_lt);rw[Q9]at this;exact BG.1 this
theorem Qc(p:UInt8→Bool)(h:k<l.length):(l.drop k).all p=(p l[k]&&(l.drop (k+1)).all p):=by
 rw[Qb h,FA]
theorem Yw(s:Bs)(w:World)(g:s.length≤1000000000000):Calls prog 249 #[.string ⟨s.toArray⟩] w fun e W=>e=.returned (.bool (Eg s))∧w=W:=by
 go_enter func249,ntmps249;go_wp2_with fail;go_loop[6] (fun i=>∃k:Nat,i=.int .i64 k∧k≤s.length∧s.all Iv=(s.drop k).all Iv) (fun i=>s.length-(intOf i).toNat)
 case atStart=>exact⟨0,rfl,by omega,by simp⟩
 obtain⟨k,rfl,j,a⟩:=hrel;have l:=AB a;clear a;by_cases c:k<s.length
 ·have A:=AB (Qc Iv c);have I:=AB (Yu s[k]);have m:=AB (by rw[AP];intro h;rw[FL]at h;subst h;simp at c:s.isEmpty=false);have n:(s[k].toNat:Int)<256:=by have:=s[k].toNat_lt;omega
  go_upto_region 4 with fail;go_cut[24] (fun t x=>t=.bool (!Iv s[k])∧x=w)
  case first=>
   go_wp2_with fail;all_goals
    go_meet;exact⟨by rw[I.o];first|(simp[*];done)|(simp[*];omega),rfl⟩
  obtain⟨rfl,rfl⟩:=hcut;generalize Iv s[k]=b at A⊢;cases b with
  |false=>
   go_wp2_with fail;go_ret;exact⟨Ba (by unfold Eg;rw[l.o,A.o];rfl),rfl⟩
  |true=>
   go_wp2_with fail
   go_round
   case rel=>exact⟨k+1,by go_num,by omega,by rw[l.o,A.o];rfl⟩
   simp[intOf];omega
 obtain rfl:k=s.length:=by omega
 have H:=AB (by unfold Eg;rw[l.o,AQ];rfl:Eg s=!s.isEmpty);by_cases d:s=[]
 ·subst d;go_wp2_with fail;go_ret;exact⟨Ba (by rw[H.o];rfl),rfl⟩
 have f:s.isEmpty=false:=by rw[AP];simpa using d
 go_wp2_with fail;go_ret;exact⟨Ba (by rw[H.o,f];rfl),rfl⟩
theorem Yx(s:Bs)(w:World)(d:s.length≤1000000000000):Calls prog 250 #[.string ⟨s.toArray⟩] w fun e W=>e=.returned (.bool (Fi s))∧Below w.heap.size w W:=by
 go_enter func250,ntmps250;go_wp2_with fail;go_loop[6] (fun i=>∃k:Nat,i=.int .i64 k∧k≤s.length∧s.all G1=(s.drop k).all G1) (fun i=>s.length-(intOf i).toNat)
 case atStart=>exact⟨0,rfl,by omega,by simp⟩
 obtain⟨k,rfl,f,l⟩:=hrel;have h:=AB l;clear l;by_cases a:k<s.length
 ·have A:=AB (Qc G1 a);have I:=AB (Yv s[k]);have g:(s[k].toNat:Int)<256:=by have:=s[k].toNat_lt;omega
  go_upto_region 4 with fail;go_cut[24] (fun t x=>t=.bool (!G1 s[k])∧x=w)
  case first=>
   go_wp2_with fail;all_goals
    go_meet;exact⟨by rw[I.o];first|(simp[*];done)|(simp[*];omega),rfl⟩
  obtain⟨rfl,rfl⟩:=hcut;generalize G1 s[k]=b at A⊢;cases b with
  |false=>
   go_wp2_with fail;go_ret;exact⟨Ba (by unfold Fi;rw[h.o,A.o];rfl),AD _ _⟩
  |true=>
   go_wp2_with fail
   go_round
   case rel=>exact⟨k+1,by go_num,by omega,by rw[h.o,A.o];rfl⟩
   simp[intOf];omega
 obtain rfl:k=s.length:=by omega
 have H:=AB (by unfold Fi;rw[h.o,AQ];rfl:Fi s=(trimS s [32,9]==s));go_wp2_with fail;refine(Q5 s [32,9] _ (by omega) (by decide) (by decide)).mono ?_;rintro e j⟨rfl,c⟩;go_wp2_with fail;go_ret;exact⟨Ba (by rw[H.o]),c⟩
theorem Ix{size:Nat}{cs:α→List Value}(h:∀x,(cs x).length=size)(z:List α):(z.flatMap cs).length=z.length*size:=by
 induction z with
 |nil=>simp
 |cons y z ih=>rw[BT,AH,h,ih,AO,DN];omega
theorem Kg{α:Type}{size:Nat}{cs:α→List Value}(h:∀x,(cs x).length=size):∀(Z:List α)(k:Nat)(a:k<Z.length)(i:Nat),i<size→(Z.flatMap cs)[k*size+i]?=(cs Z[k])[i]?
 |z::Z,0,_,i,H=>by
  rw[BT,Nat.zero_mul,EX,GW (by rw[h];exact H)];rfl
 |z::Z,k+1,a,i,H=>by
  rw[BT,List.getElem?_append_right (by rw[h,DN];omega),h,(by rw[DN];omega:(k+1)*size+i-size=k*size+i),Kg h Z k (by simpa using a) i H];rfl
def E7(size:Nat)(cs:α→List Value)(w:World)(v:Value)(xs:List α):Prop:=∃a c,v=.slice a xs.length c∧(0<xs.length→∃b,a=some ⟨b,0,none⟩∧b<w.heap.size∧∀j,j<xs.length*size→w.cell? ⟨b,j,none⟩=(xs.flatMap cs)[j]?)
theorem E7.next{size:Nat}{cs:α→List Value}{w:World}{xs:List α}(h:E7 size cs w v xs)(H:Below w.heap.size w w'):E7 size cs w' v xs:=by
 obtain⟨a,c,d,e⟩:=h;refine⟨a,c,d,fun f=>?_⟩;obtain⟨b,g,t,l⟩:=e f;exact⟨b,g,CG t H.size,fun j i=>(H.cell (p:=⟨b,j,none⟩) t).trans (l j i)⟩
theorem E7.nil(size:Nat)(cs:α→List Value)(w:World)(a:Option Addr)(cap:Nat):E7 size cs w (.slice a 0 cap) ([]:List α):=⟨a,cap,rfl,fun h=>by simp at h⟩
theorem A0.rd{size:Nat}{cs:α→List Value}(z:0<size)(s:∀x,(cs x).length=size){w:World}{xs:List α}(h:A0 e size cs w B v xs):E7 size cs w v xs:=by
 unfold A0 at h;rcases h.2 with⟨H,d⟩|⟨g,C,r,H,m,a,n,p,z,f⟩
 ·have l:=Ix s xs;rw[d]at l;have i:xs.length=0:=by
   rcases GA xs.length with h|h
   ·exact h
   have:=Nat.mul_pos h z;simp at l;omega
  exact⟨none,0,by rw[H,i],fun o=>by omega⟩
 refine⟨_,C,H,fun _=>⟨g,rfl,?_,fun j k=>?_⟩⟩
 ·rcases CN g w.heap.size with b|b
  ·exact b
  rw[CL b]at a;cases a
 have c:(r.toList.take (xs.length*size))[j]?=(xs.flatMap cs)[j]?:=by rw[f]
 rw[EA,AM k]at c;simp[World.cell?,a];simpa using c
def Au(f:A4):List Value:=[.string ⟨f.1.toArray⟩,.string ⟨f.2.toArray⟩]
abbrev C7(w:World)(v:Value)(l:List A4):Prop:=E7 2 Au w v l
theorem Ah(f:A4):(Au f).length=2:=rfl
theorem C7.open{w:World}{l:List A4}(h:C7 w v l):∃a c,v=.slice a l.length c∧∀k(H:k<l.length),∃b,a=some ⟨b,0,none⟩∧b<w.heap.size∧w.cell? ⟨b,k*2,none⟩=some (.string ⟨(l[k]).1.toArray⟩)∧w.cell? ⟨b,k*2+1,none⟩=some (.string ⟨(l[k]).2.toArray⟩):=by
 obtain⟨a,c,e,f⟩:=h;refine⟨a,c,e,fun k H=>?_⟩;obtain⟨b,g,t,d⟩:=f (by omega);refine⟨b,g,t,?_,?_⟩
 ·rw[d (k*2) (by omega)];have:=Kg Ah l k H 0 (by decide);rw[BI]at this;rw[this];rfl
 rw[d (k*2+1) (by omega),Kg Ah l k H 1 (by decide)];rfl
end Go.Proofs.YtignjjnflcpiiaaGreatDoor
