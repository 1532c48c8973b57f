/- bundle.sign: the first sign that stands nowhere. Conditio -/
import Derived.Test.YtignjjnflcpiiaaGreatDoorV28
set_option maxHeartbeats 16000000
set_option maxRecDepth 100000 set_option linter.all false
namespace Go.Proofs.YtignjjnflcpiiaaGreatDoor
open Go Go.RowKit Proofs.Tryz Lib
variable {p:A7}{r:Au}{w w':World}{n t g e size k B M cap:Nat}{P:Nat → Prop}{a:Act}{o:Oper}{rest:List Oper}{O:Array Oper}{Q:Exit → Act → World → Prop}{z v ov:Value}{α β γ:Type}{s:Bs}{h l:List A4}{ps:List A7}{raws:List Au}{F:List Value}
def A8.hd(h:A8 P (n+1) w r p):Ba 2 Bc P w (A9 r.1) p.head:=by
 obtain⟨a,b,c,d⟩:=p;exact h.2.2.1
def A8.mn(h:A8 P (n+1) w r p):r.2.2.1=p.many:=by
 obtain⟨a,b,c,d⟩:=p;exact h.2.1
def dh(g C:Nat)(F:∀A w,(callFunc g A).run prog w=.ok (.enter g A) w)(p:A4->Bool)(v:Value)(l:List A4)(w:World)(r:Cq w v l)(I:l.length<=1000000000000)
  (j:∀x∈l,∀W,Below w.heap.size w W->Calls prog g #[.agg #[x.1,x.2],.pointer (some ⟨C,0,none⟩)] W fun e c=>e=.returned (.bool (p x))/\Below W.heap.size W c):
  Calls prog 180 #[v,.func (.func g) #[] #[.pointer (some ⟨C,0,none⟩)]] w fun e c=>e=.returned (.int .i64 (E0 p l 0))/\Below w.heap.size w c:=by
 obtain⟨a,J,rfl,m⟩:=r.open;have D:=AE m;have P:=AE j;clear m r j;go_enter func180,ntmps180;go_wp2_with fail;go_loopw[8] (fun i wr=>∃k:Nat,i=k/\k<=l.length/\Hid (E0 p l 0=E0 p (l.drop k) k)/\Below w.heap.size w wr) (fun i _=>l.length-(intOf i).toNat)
 case atStart=>exact⟨0,rfl,aa,AE ah,AG _ _⟩
 obtain⟨k,rfl,K,d,B⟩:=hrel;by_cases t:k<l.length
 ·obtain⟨b,rfl,n,o,q⟩:=D.o k t;have H:=AE (ir:E0 p (l.drop k) k=if p l[k]then(k:Int)else E0 p (l.drop (k+1)) (k+1));have s:=(B.cell (p:=⟨b,k*2,none⟩) n).trans o;have u:=(B.cell (p:=⟨b,k*2+1,none⟩) n).trans q;have h:=P.o _ (AQ t) wr B;clear o q;generalize l[k]=f at H s u h;obtain⟨x,y⟩:=f;simp only at H s u h;generalize p (x,y)=E at h H;go_wp2_with fail;with_reducible refine h.mono ?_
  rintro e L⟨rfl,z⟩;have B:=B.trans (z.mono B.size);clear z h;cases E with
  |true=>
   have G:=AE (ve:E0 p l 0=(k:Int));go_wp2;go_ret;exact⟨Fg vo,B⟩
  |false=>
   have G:=AE (ve:E0 p l 0=E0 p (l.drop (k+1)) (k+1));go_wp2;go_roundw
   case rel=>exact⟨k+1,aj,aa,G,B⟩
   simp[intOf];omega
 obtain rfl:k=l.length:=aa
 have G:=AE (oq:E0 p l 0=-1);go_wp2;go_ret;exact⟨Fg vo,B⟩
def dj(g c:Nat)(E:∀A w,(callFunc g A).run prog w=.ok (.enter g A) w)(p:A4->Bool)(v:Value)(l:List A4)(w:World)(h:Cq w v l)(n:l.length<=1000000000000)
  (H:∀x∈l,∀W,Below w.heap.size w W->Calls prog g #[.agg #[x.1,x.2],.pointer (some ⟨c,0,none⟩)] W fun e a=>e=.returned (.bool (p x))/\Below W.heap.size W a):
  Calls prog 95 #[v,.func (.func g) #[] #[.pointer (some ⟨c,0,none⟩)]] w fun e a=>e=.returned (.bool (l.any p))/\Below w.heap.size w a:=by
 have hI:=dh g c E p v l w h n H;have N:=AE (X4 p l 0);generalize E0 p l 0=k at hI N;clear H E h;go_enter func95,ntmps95;go_wp2_with fail;with_reducible refine hI.mono ?_
 rintro e d⟨rfl,b⟩;go_wp2;go_ret;exact⟨Bm (by rw[<-N.o]),b⟩
abbrev RP:=Au×A7
def R6(x:RP):List Value:=Dk x.1
theorem dm(x:RP):(R6 x).length=4:=rfl
def dn(g C:Nat)(I:∀A w,(callFunc g A).run prog w=.ok (.enter g A) w)(p:RP->Bool)(v:Value)(l:List RP)(w:World)(r:F9 4 R6 w v l)(J:l.length<=1000000000000)
  (m:∀x∈l,∀W,Below w.heap.size w W->Calls prog g #[C3 x.1,.pointer (some ⟨C,0,none⟩)] W fun e d=>e=.returned (.bool (p x))/\Below W.heap.size W d):
  Calls prog 181 #[v,.func (.func g) #[] #[.pointer (some ⟨C,0,none⟩)]] w fun e d=>e=.returned (.int .i64 (E0 p l 0))/\Below w.heap.size w d:=by
 obtain⟨a,K,rfl,n⟩:=r.opens dm;have E:=AE n;have P:=AE m;clear n r m;go_enter func181,ntmps181;go_wp2_with fail;go_loopw[8] (fun i wr=>∃k:Nat,i=k/\k<=l.length/\Hid (E0 p l 0=E0 p (l.drop k) k)/\Below w.heap.size w wr) (fun i _=>l.length-(intOf i).toNat)
 case atStart=>exact⟨0,rfl,aa,AE ah,AG _ _⟩
 obtain⟨k,rfl,L,j,B⟩:=hrel;by_cases t:k<l.length
 ·obtain⟨b,rfl,c,h⟩:=E.o k t;have D:=AE (ir:E0 p (l.drop k) k=if p l[k]then(k:Int)else E0 p (l.drop (k+1)) (k+1));have o:=(B.cell (p:=⟨b,k*4+0,none⟩) c).trans (h 0 ae);have s:=(B.cell (p:=⟨b,k*4+1,none⟩) c).trans (h 1 ae);have u:=(B.cell (p:=⟨b,k*4+2,none⟩) c).trans (h 2 ae);have y:=(B.cell (p:=⟨b,k*4+3,none⟩) c).trans (h 3 ae);have H:=P.o _ (AQ t) wr B;clear h;generalize l[k]=f at D o s u y H;obtain⟨⟨⟨R,M,N⟩,O,Q,⟨S,T,U⟩⟩,q⟩:=f;simp only[R6,Dk,C3,A9,BI,AU,AR]at o s u y H;generalize p _=F at H D;go_wp2_with fail;with_reducible refine H.mono ?_
  rintro e V⟨rfl,z⟩;have B:=B.trans (z.mono B.size);clear z H;cases F with
  |true=>
   have G:=AE (by rw[j.o,D.o];rfl:E0 p l 0=(k:Int));go_wp2;go_ret;exact⟨Fg vo,B⟩
  |false=>
   have G:=AE (by rw[j.o,D.o];rfl:E0 p l 0=E0 p (l.drop (k+1)) (k+1));go_wp2;go_roundw
   case rel=>exact⟨k+1,aj,aa,G,B⟩
   simp[intOf];omega
 obtain rfl:k=l.length:=aa
 have G:=AE (by rw[j.o,AS];rfl:E0 p l 0=-1);go_wp2;go_ret;exact⟨Fg vo,B⟩
def dq(g c:Nat)(E:∀A w,(callFunc g A).run prog w=.ok (.enter g A) w)(p:RP->Bool)(v:Value)(l:List RP)(w:World)(h:F9 4 R6 w v l)(n:l.length<=1000000000000)
  (H:∀x∈l,∀W,Below w.heap.size w W->Calls prog g #[C3 x.1,.pointer (some ⟨c,0,none⟩)] W fun e a=>e=.returned (.bool (p x))/\Below W.heap.size W a):
  Calls prog 97 #[v,.func (.func g) #[] #[.pointer (some ⟨c,0,none⟩)]] w fun e a=>e=.returned (.bool (l.any p))/\Below w.heap.size w a:=by
 have hI:=dn g c E p v l w h n H;have N:=AE (X4 p l 0);generalize E0 p l 0=k at hI N;clear H E h;go_enter func97,ntmps97;go_wp2_with fail;with_reducible refine hI.mono ?_
 rintro e d⟨rfl,b⟩;go_wp2;go_ret;exact⟨Bm (by rw[<-N.o]),b⟩
def dr(x y s:Bs)(c:Nat)(w:World)(H:y.length<4294967281)(h:w.cell? ⟨c,0,none⟩=some s)(g:Gr w):Calls prog 96 #[.agg #[x,y],.pointer (some ⟨c,0,none⟩)] w fun e W=>e=.returned (.bool (contains y s))/\Below w.heap.size w W:=by
 have b:c<w.heap.size:=BJ w _ h;have k:=A0.new w #[x,y] 92;have B:=(AG w.heap.size w).alloc (AF _) (.cells #[x,y] 92);have hC:=Qq y s (w.alloc (.cells #[x,y] 92)) H (g.next B).g;have a:=(B.cell (p:=⟨c,0,none⟩) b).trans h;have K:=k.cell;generalize contains y s=q at hC;clear k h;go_enter func96,ntmps96;go_wp2_with fail;with_reducible refine hC.mono ?_
 rintro e d⟨rfl,rfl⟩;go_wp2;go_ret;exact⟨rfl,B⟩
def I9(s:Bs)(p:A7):Bool:=contains p.body s||p.head.any fun f=>contains f.2 s
def ds(n:Nat)(d:Au)(p:A7)(s:Bs)(c:Nat)(w:World)(g:A8 (fun _=>True) (n+1) w d p)(t:p.body.length<4294967281)(u:p.head.length<=1000000000000)(i:∀f∈p.head,f.2.length<4294967281)
  (j:w.cell? ⟨c,0,none⟩=some s) (v:Gr w):
  Calls prog 94 #[C3 d,.pointer (some ⟨c,0,none⟩)] w fun e E=>e=.returned (.bool (I9 s p))/\Below w.heap.size w E:=by
 have y:c<w.heap.size:=BJ w _ j;have h:=g.hd.rd;have z:=g.body;clear g;obtain⟨⟨R,a,b⟩,r,m,⟨k,l,o⟩⟩:=d;simp only at z;subst z;simp only[C3,A9]at h|-;have H:=AE (ca:I9 s p=(contains p.body s||p.head.any fun f=>contains f.2 s));generalize p.body=r at t H;generalize p.head=A at h u i H;have K:=A0.new w #[.slice R a b,r,m,.slice k l o] 44;have B:=(AG w.heap.size w).alloc (AF _) (.cells #[.slice R a b,r,m,.slice k l o] 44);have hC:=Qq r s (w.alloc (.cells #[.slice R a b,r,m,.slice k l o] 44)) t (v.next B).g;have F:=(B.cell (p:=⟨c,0,none⟩) y).trans j;have C:=dj 96 c (DU func96 af rfl) (fun f=>contains f.2 s) (.slice R a b) A _ (h.next B) u (fun x G W D=>dr x.1 x.2 s c W (i x G) ((D.cell (p:=⟨c,0,none⟩) (BN y B.size)).trans F) ((v.next B).next D));have J:=K.cell;generalize contains r s=q at hC H;generalize(A.any fun f=>contains f.2 s)=Q at C H;clear K j i h;go_enter func94,ntmps94;go_wp2_with fail;with_reducible refine hC.mono ?_
 rintro e L⟨rfl,rfl⟩;cases q with
 |true=>
  go_wp2;go_ret;exact⟨Bm bu,B⟩
 |false=>
  go_wp2_with fail;with_reducible refine C.mono ?_
  rintro e M⟨rfl,I⟩;go_wp2;go_ret;exact⟨Bm bu,B.trans (I.mono B.size)⟩
def bT{cs:α->List Value}(k:∀x,(cs x).length=size)(E:∀x,∀u∈cs x,u.oneCell'=true)
  (l:(prog.info? e).map (fun i=>(i.zero,i.size,i.bytes))=some (some z,size,g)) (F:z.cells.size=size) (G:0<size) (m:prog.underlying t=some (.slice e))
  (p:o.guard=none) (s x:Operand)
  (q:o.op=.call {callee:=.builtin .append,args:=#[s,x],argTypes:=#[t,t]}) (B:Nat) (v:Value) (xs y:List α) (S:Option Go.Addr) (n c:Nat)
  (r:a.eval s=v) (d:A1 e size cs w B v xs) (A:a.eval x=.slice S n c) (I:F9 size cs w (.slice S n c) y) (J:(xs.length+y.length)*g<=140737488355328) (K:xs.length+y.length<=maxLen) (L:B<=w.heap.size)
  (h:∀V W,A1 e size cs W B V (xs++y)->w.grownBy W v.ownBlock->Below B w W->(V.ownBlock=v.ownBlock\/V.ownBlock=some w.heap.size)->wpList prog O Q rest (a.put o.dst V) W):wpList prog O Q (o::rest) a w:=by
 obtain⟨a',a0,M,C⟩:=I;injection M with N P R;subst N P R;cases S with
 |none=>
  have h0:y=[]:=by
   rcases GX y.length with h|h
   ·exact EI.1 h
   obtain⟨b,h,_⟩:=C h;cases h
  subst h0;obtain⟨T,U,_⟩:=GC l;exact nU p s x t q B e T size c m U v xs.length _ r d A (by rw[BU]at h;exact h v w d ⟨rfl,rfl,rfl,AF _,fun _ _ _=>rfl⟩ (AG _ _) (Or.inl rfl))
 |some X=>
  refine N8 k E l F G m p s x q B v xs y X y.length c rfl r d A (fun j u D=>?_) J K L h;have H:=(CB.1 D).1;rw[Kj k]at H;have Y:0<y.length:=by
   rcases GX y.length with h0|h0
   ·rw[h0]at H;simp at H
   exact h0
  obtain⟨b,f,_,Z⟩:=C Y;have f:=CU f;subst f;rw[Er,Z j H];exact D
def oM(w:World)(r R:Option Go.Addr)(n c a b:Nat)(d:Bs)(m:Bool):Gk (w.alloc (.cells #[.slice r n c,d,m,.slice R a b] 44)) w.heap.size (.slice (some ⟨w.heap.size,0,none⟩) 1 1) [((r,n,c),d,m,(R,a,b))]:=⟨rfl,Or.inr ⟨w.heap.size,1,#[.slice r n c,d,m,.slice R a b],rfl,AF _,IY w _,AF _,ae,rfl,rfl⟩⟩
def oN(w:A7)(n:Nat):Dv [64,98] (Fe w) n=(w::w.parts).any (I9 (64::98::itoa n)):=by
 show(Fe w).any (fun s=>contains s (64::98::itoa n))=_;unfold Fe;rw[List.any_flatMap];generalize(64::98::itoa (n:Int):Bs)=t;have h:(fun p:A7=>(p.body::p.head.map (·.2)).any fun s=>contains s t)=I9 t:=by
  funext p;rw[GB,List.any_map];rfl
 rw[h]
def dt(H:k<h.length)(n:A2 (h[k]).1≠A2 C2)(a:D9 h s=h.take k++D9 (h.drop k) s):D9 h s=h.take (k+1)++D9 (h.drop (k+1)) s:=by
 rw[a,AH H];conv=>lhs;rw[D9,AL n]
 rw[AZ H,AP];rfl
def dw(H:k<h.length)(n:A2 (h[k]).1=A2 C2)(a:D9 h s=h.take k++D9 (h.drop k) s):D9 h s=h.set k ((h[k]).1,Jy (h[k]).2 s):=by
 rw[a,AH H];conv=>lhs;rw[D9,AN n]
 rw[FG,AN H]
def dz(H:D9 h s=h.take h.length++D9 (h.drop h.length) s):D9 h s=h:=by
 rw[H,CY,AS];simp[D9]
def A1.below{cs:α->List Value}{xs:List α}(h:A1 e size cs w B v xs)(b:Below M w w')(l:∀g,v.ownBlock=some g->g<M):A1 e size cs w' B v xs:=by
 rcases h with⟨c,H⟩;refine⟨c,?_⟩;rcases H with H|⟨g,C,d,a,f,i,r⟩
 ·exact Or.inl H
 exact Or.inr ⟨g,C,d,a,f,(b.block g (l g yd)).trans i,r⟩
def A1.one{cs:α->List Value}(H:0<size)(s:∀x,(cs x).length=size){xs:List α}{y:α}(h:A1 e size cs w B v (xs++[y])):∃a c,v=.slice a (xs.length+1) c/\F9 size cs w (.slice a (xs.length+1) c) (xs++[y]):=by
 obtain⟨a,c,b,d⟩:=A1.rd H s h;have E:(xs++[y]).length=xs.length+1:=ah
 exact⟨a,c,by rw[b,E],a,c,by rw[E],d⟩
def Tl.get{n:Int}{r:Option Bs}{e:Ending}(h:Tl n r e w'):∃E,e=.returned (.tuple #[r.getD [],E]):=by
 rcases h with⟨o,rfl,rfl⟩|⟨E,rfl,rfl,_⟩
 ·exact⟨_,rfl⟩
 exact⟨_,rfl⟩
def fc(Z:Nat)(E:Option Go.Addr)(F:Nat)(h:List A4)(x1 x2 x3:Value)(s:Bs)(B:Nat)(w:World)(hk:A0 w Z #[.slice E h.length F,x1,x2,x3] 44)(d8:Bt w B (.slice E h.length F) h)
  (g3:3<B) (b9:∀g,E=some ⟨g,0,none⟩->g≠Z) (hn:Dw 100000 h) (hs:s.length<=100000) (hg:Gr w):
  Calls prog 46 #[.pointer (some ⟨Z,0,none⟩),s] w fun e w'=>e=.returned (.tuple #[])/\Bt w' B (.slice E h.length F) (D9 h s)/\(Below w.heap.size w w'\/∃g,E=some ⟨g,0,none⟩/\A5 g w.heap.size w w'):=by
 have kc:=hk.cell;have g4:=hn.1;have c0:=AE (ah:D9 h s=h.take 0++D9 (h.drop 0) s);have HN:=AE hn;have g5:=AE b9;clear hn b9;go_enter func46,ntmps46;go_wp2_with fail;go_loopw[17] (fun i wr=>∃k:Nat,i=k/\k<=h.length/\Hid (D9 h s=h.take k++D9 (h.drop k) s)/\Below w.heap.size w wr) (fun i _=>h.length-(intOf i).toNat)
 case atStart=>exact⟨0,rfl,aa,c0,AG _ _⟩
 clear c0;obtain⟨k,rfl,g6,S,M⟩:=hrel;have t:=A1.next d8 M;by_cases v:k<h.length
 ·obtain⟨g,d9⟩:∃g,E=some ⟨g,0,none⟩:=by
   obtain⟨a,c,h,h2⟩:=Cq.open (A1.rd ae Af t);injection h with h _ _;obtain⟨b,h3,_⟩:=h2 k v;exact⟨b,h.trans h3⟩
  subst d9;have C:=A1.cellAt Af t k v 0 ae;have c2:=A1.cellAt Af t k v 1 ae;have g7:=A1.Ha t g rfl;have g8:=A1.Dj t g rfl;have H:=HN.o.2 _ (AQ v);have G:=AE (fun e=>dt (s:=s) v e S.o);have D:=AE (fun e=>dw (s:=s) v e S.o);have a0:=AE (fun(W:World)(o:Bt W B (.slice (some ⟨g,0,none⟩) h.length F) h)(yy:Bs)=>o.X5 k v yy);have a1:=AE (fun(W:World)(o:Bt W B (.slice (some ⟨g,0,none⟩) h.length F) h)=>A1.cellAt Af o k v 1 ae);simp only[Bc,BI,AU,AR]at C c2 a1;generalize h[k]=f at C c2 H G D a0 a1;obtain⟨x,y⟩:=f;simp only at C c2 H G D a0 a1;have A:=(AG wr.heap.size wr).alloc (AF _) (.cells #[x,y] 92);have K:=A0.new wr #[x,y] 92;have a5:=fun W=>Gw x W aa
  have a6:=fun W=>Gw [67,111,110,116,101,110,116,45,84,121,112,101] W ae
  generalize A2 x=lx at a5 G D;generalize c1:A2 [67,111,110,116,101,110,116,45,84,121,112,101]=ly at a6;rw[show A2 C2=ly from c1]at G D;clear c1;have a7:=K.cell;go_upto_region 3 with fail;generalize World.alloc _ _=w2 at A K a7|-;go_wp2_with fail;with_reducible refine(a5 _).mono ?_
  rintro e w3⟨rfl,b3⟩;go_wp2_with fail;with_reducible refine(a6 _).mono ?_
  rintro e w4⟨rfl,c3⟩;have a8:=b3.trans (c3.mono b3.size);have K:=K.next a8 K.lt;have A:=A.trans (a8.mono A.size);have B4:=M.trans (A.mono M.size);have c4:=A1.next t A;have a7:=K.cell;clear a5 a6 b3 c3 a8;by_cases N:lx=ly
  ·have e0:=AE (D.o N);clear D;subst N;have HB:(lx==lx)=true:=KO _;have a9:=hg.next B4;have hK:=Qr y w4 aa a9.g;have V:=AE (ca:Jy y s=(Cl ((Ay y).getD ([],[])).1 ((((Ay y).getD ([],[])).2.filter fun f=>!(f.1==Bw))++[(Bw,Fu s)])).getD []);clear G S;go_wp2_with fail;with_reducible refine hK.mono ?_
   rintro e l⟨hh,T⟩;obtain⟨m,P,kv,g9,rfl,c5,c6,h0,I,_⟩:=hh.get;rw[c6]at V;simp only at V;clear hh hK c6;have I:=I.mono (show y.length<=100000 by omega);have B5:=B4.trans (T.mono B4.size);have c7:=A1.next c4 T;have c8:=a9.next T;have h4:=T.size;have h5:g<l.heap.size:=by have:=A.size;omega
   clear c4 t a9 K a7 T C c2 HB A M;obtain⟨h6,h7,e9,b0⟩:=A1.Dq ae Af c5;subst e9;have b0:=(A1.Dq ae Af c5);have h8:=I.1;obtain⟨wo,rfl⟩:∃x:World,x=wr:=⟨_,rfl⟩;go_wp2_with fail;go_loopw[9,36] (fun pv iv d=>∃(j:Nat)(O:List A4),iv=j/\j<=P.length/\O.length<=j/\Kq d l.heap.size pv O/\Hid (O++(P.drop j).filter (fun f=>!(f.1==Bw))=P.filter fun f=>!(f.1==Bw))/\Below l.heap.size l d) (fun _ iv _=>P.length-(intOf iv).toNat)
   case atStart=>exact⟨0,[],rfl,aa,ah,A1.nil _ _ _ _ _,AE ah,AG _ _⟩
   obtain⟨j,O,rfl,hj,h9,J,a2,n⟩:=hrel;obtain⟨d,rfl⟩:∃x:World,x=wr:=⟨_,rfl⟩;by_cases c9:j<P.length
   ·obtain⟨qb,rfl,_,d0,b1⟩:=b0.at Af j c9;have d1:=(n.cell (p:=⟨qb,j*2+0,none⟩) d0).trans (b1 0 ae);have C:=(n.cell (p:=⟨qb,j*2+1,none⟩) d0).trans (b1 1 ae);have R:=AE (show∀q,P[j]=q->(O++(if !(q.1==Bw)then q::(P.drop (j+1)).filter (fun f=>!(f.1==Bw))else(P.drop (j+1)).filter (fun f=>!(f.1==Bw))))=P.filter fun f=>!(f.1==Bw)from fun q hq=>by
     rw[<-a2.o,AH c9,hq,DB])
    have R:=AE (R.o _ rfl);clear b1 a2;generalize P[j]=q at d1 C R;obtain⟨Q,r⟩:=q;simp only[Bc,BI,AU,AR]at d1 C R;have BB:=(AG d.heap.size d).alloc (AF _) (.cells #[Q,r] 119);have d2:=A0.new d #[Q,r] 119;have e1:=d2.cell;have b2:=A1.next J BB;have a3:=n.trans (BB.mono n.size);have U:=a3.size;by_cases L:Q=Bw
    ·have X:=AE (by rw[<-R.o,L];simp:O++(P.drop (j+1)).filter (fun f=>!(f.1==Bw))=P.filter fun f=>!(f.1==Bw));have e2:(Q==[115,116,97,114,116])=true:=by rw[BL];exact L
     clear R L J;go_wp2;go_roundw
     case rel=>exact⟨j+1,O,aj,aa,aa,b2,X,a3⟩
     simp[intOf];omega
    have X:=AE (show(O++[(Q,r)])++(P.drop (j+1)).filter (fun f=>!(f.1==Bw))=P.filter fun f=>!(f.1==Bw)from by
     rw[<-R.o,(by rw[AI];exact L:(Q==Bw)=false)];simp)
    have e2:(Q==[115,116,97,114,116])=false:=by rw[AI];exact L
    clear R L J;go_upto_region 9 with fail;generalize World.alloc _ _=wa at BB d2 e1 b2 a3 U|-;have e3:=A1.alloc b2 (.cells #[Q,r] 119);go_wp2_with(at_builtin;refine Tz rfl _ _ rfl l.heap.size _ O (Q,r) wa.heap.size 1 rfl e3 rfl (I0 wa (Q,r) _) aa ag ?_;intro v' w9 e4 i0 e5);go_wp2;go_roundw
    case rel=>exact⟨j+1,O++[(Q,r)],aj,aa,ag,e4,X,(a3.alloc U _).trans e5⟩
    simp[intOf];omega
   obtain rfl:j=P.length:=aa
   have HO:=AE (by rw[<-a2.o,AS];simp:P.filter (fun f=>!(f.1==Bw))=O);have Y:Dw 100000 O:=by
    rw[<-HO.o];exact⟨AV (JH _ _) I.1,fun f H=>I.2 f (DP.1 H).1⟩
   have b4:Dw 1000000 (O++[([115,116,97,114,116],60::(s++[62]))]):=by
    refine⟨by have:=Y.1;simp;omega,fun f H=>?_⟩;rcases BY.1 H with H|H
    ·have:=Y.2 f H;omega
    simp only[CS]at H;subst H;simp;omega
   have V:=AE (by rw[V.o,HO.o];rfl:Jy y s=(Cl m (O++[([115,116,97,114,116],60::(s++[62]))])).getD []);have hW:=fun W d3(h1:Cq W d3 (O++[([115,116,97,114,116],60::(s++[62]))]))(h3:Cj W)=>aM m d3 _ W h1 aa b4.1 b4.2 h3
   generalize e6:Cl m _=wk at hW V;clear e6 a2 HO;have BX:=B5.trans (n.mono B5.size);have e7:=A1.next c7 n;have b5:=hk.next BX hk.lt;have d4:=c8.next n;have i1:=b5.cell;have e8:Z<l.heap.size:=by have:=hk.lt;have:=B5.size;omega
   have U:=n.size;have f0:=B5.size;obtain⟨pa,i2,f1,_⟩:=A1.rd ae Af J;subst f1;have Q:=AE (by have:=Y.1;simp;omega:(O.length+[(([115,116,97,114,116]:Bs),(60::(s++[62]):Bs))].length)*32<=140737488355328);have r:=AE (by have:=Y.1;unfold maxLen;simp;omega:O.length+[(([115,116,97,114,116]:Bs),(60::(s++[62]):Bs))].length<=maxLen);have f2:=A1.next (A1.alloc J (.cells #[([115,116,97,114,116]:Bs),(60::(s++[62]):Bs)] 119)) (AG _ _).drew;have f3:∀j u,([(([115,116,97,114,116]:Bs),(60::(s++[62]):Bs))].flatMap Bc)[j]?=some u->(d.alloc (.cells #[([115,116,97,114,116]:Bs),(60::(s++[62]):Bs)] 119)).drew.cell? ((⟨d.heap.size,0,none⟩:Go.Addr).add j)=some u:=I0 d ([115,116,97,114,116],60::(s++[62])) _;have KA:=AE (((AG l.heap.size d).alloc U (.cells #[([115,116,97,114,116]:Bs),(60::(s++[62]):Bs)] 119)).drew);have f4:=AE KA.o.size;have f5:=AE (show l.heap.size<=(d.alloc (.cells #[([115,116,97,114,116]:Bs),(60::(s++[62]):Bs)] 119)).drew.heap.size from AV U f4.o);have d5:=(b5.alloc (.cells #[([115,116,97,114,116]:Bs),(60::(s++[62]):Bs)] 119)).drew;have i3:=d5.cell;have i4:=b5.drew.cell;have s1:¬9223372036854775807<1+s.length:=aa
   have s2:¬9223372036854775807<s.length+1+1:=aa
   have f6:=AE d4;have f7:=AE (show∀b,(Value.slice (some ⟨g,0,none⟩) h.length F).ownBlock=some b->b<l.heap.size from fun b e=>by injection e with e;simp only at e;omega);have i5:(0:Int)<=k:=aa
   have i6:(k:Int)<h.length:=aa
   clear b0 I n d4 c8 J c7 Y b4;go_upto_region 12 with fail;go_region_law((first
    |(refine Lg (α:=A4) (cs:=Bc) (size:=2) (z:=.agg #[.string ByteArray.empty,.string ByteArray.empty]) Af M0 gO rfl ae underlying79 rfl _ _ rfl l.heap.size _ O [([115,116,97,114,116],60::(s++[62]))] ⟨d.heap.size,0,none⟩ 1 1 rfl ae rfl f2 rfl f3 Q.o r.o f5.o ?_;intro v' i7 f8 i8 d6;have a4:=AE (KA.o.trans d6);have b6:=d5.next d6 e8;have i9:=b6.cell;obtain⟨j0,j1,f9,d7⟩:=A1.one Nat.two_pos Af f8;have g0:=AE d7;clear d7;subst f9)
    |(go_simp;with_reducible refine(hW _ _ g0.o (f6.o.below aa a4.o).g).mono ?_;rintro e j2⟨g1,b7⟩;have g2:=AE (a4.o.trans (b7.mono (B':=l.heap.size) (by have:=a4.o.size;omega)));have j3:=(b6.next b7 b6.lt).cell;have b8:=A1.next (A1.below e7 a4.o f7.o) b7;have j4:=A1.free b8;have j5:=a1.o _ b8;obtain⟨ev,rfl⟩:=g1.get)))
   all_goals
    go_wp2_with fail;first|go_end0|(simp only[Exit.inBlock,Exit.then];refine AO (JK rfl _ _ _) rfl ?_)|refine AO (JK rfl _ _ _) rfl ?_
    refine⟨rfl,?_,Or.inr ⟨g,rfl,?_⟩⟩
    ·rw[e0.o,V.o];exact a0.o _ b8 _
    exact(A5.of (BX.trans (g2.o.mono f0))).set _
  have G:=AE (G.o N);have HB:(lx==ly)=false:=by rw[AI];exact N
  clear D S a0 N;go_wp2;go_roundw
  case rel=>exact⟨k+1,aj,aa,G,B4⟩
  simp[intOf];omega
 obtain rfl:k=h.length:=aa
 have X:=AE (dz S.o);clear S;go_wp2_with fail
 go_end0
 exact⟨rfl,by rw[X.o];exact t,Or.inl M⟩
theorem oO{α:Type}{f:α->List Bs}{M:Nat}:∀{l:List α},(∀x∈l,(f x).length<=M)->(l.flatMap f).length<=l.length*M
 |[],_=>ah
 |x::l,h=>by
  have a:=h x ah;have b:=oO (l:=l) fun y H=>h y je
  rw[BV,AJ,AK,DL];omega
def G6.fl(h:G6 n p):Dw 20000 p.head/\p.body.length<=60002:=by
 cases n with
 |zero=>exact h.elim
 |succ n=>exact⟨F1 h.head.1,h.head.2.1⟩
def bU(h:G6 (n+1) p):∀q∈p::p.parts,Dw 20000 q.head/\q.body.length<=60002:=fun q H=>by
 rcases CG.1 H with rfl|H
 ·exact h.fl
 exact(h.part H).fl
def bV(h:G6 (n+1) p):(Fe p).length<=400080003/\Bk (Fe p)<=30000000000000:=by
 have a:=bU h;have b:(Fe p).length<=(p::p.parts).length*20001:=by
  unfold Fe;refine oO fun q m=>?_
  have:=(a q m).1.1;simp only[AK,DQ];omega
 have d:Bk (Fe p)<=(Fe p).length*60002:=by
  refine Ud fun x H=>?_
  unfold Fe at H;obtain⟨q,m,H⟩:=FU.1 H;rcases CG.1 H with rfl|H
  ·exact(a q m).2
  obtain⟨f,c,rfl⟩:=DN.1 H;have:=((a q m).1.2 f c).2;omega
 have e:=h.head.2.2;simp only[AK]at b;refine⟨aa,aa⟩
def ff(h:F9 4 Dk w v raws)(l:raws.length=ps.length):F9 4 R6 w v (raws.zip ps):=by
 obtain⟨a,c,d,f⟩:=h;have e:(raws.zip ps).length=raws.length:=by rw[FK];omega
 have E:(raws.zip ps).flatMap R6=raws.flatMap Dk:=by
  have:(raws.zip ps).flatMap R6=((raws.zip ps).map Prod.fst).flatMap Dk:=by rw[List.flatMap_map];rfl
  rw[this,List.map_fst_zip aa]
 refine⟨a,c,by rw[d,e],fun h0=>?_⟩;rw[e]at h0;obtain⟨b,g,i,k⟩:=f h0;exact⟨b,g,i,fun j H=>by rw[E];exact k j (by rw[e]at H;exact H)⟩
def fg(s:Bs)(h:raws.length=ps.length):((raws.zip ps).any fun x:RP=>I9 s x.2)=ps.any (I9 s):=by
 have:((raws.zip ps).any fun x:RP=>I9 s x.2)=((raws.zip ps).map Prod.snd).any (I9 s):=by rw[List.any_map];rfl
 rw[this,List.map_snd_zip aa]
def fh(r:Au)(p:A7)(w:World)(N:A8 (fun _=>True) 4 w r p)(m:G6 4 p)(hg:Gz w):Calls prog 39 #[C3 r] w fun e w'=>e=.returned (G5 p)/\Below w.heap.size w w':=by
 have b0:=bV m;have b1:=AE (bU m);obtain⟨raws,P,o,a0⟩:=N.parts;have b2:=m.head.2.2;have Z:=AE (show∀x∈(r::raws).zip (p::p.parts),A8 (fun _=>True) 4 w x.1 x.2/\x.2∈p::p.parts from fun x H=>by
  rw[KC]at H;rcases CG.1 H with rfl|H
  ·exact⟨N,ah⟩
  obtain⟨k,hk,rfl⟩:=JM.1 H;rw[FK]at hk;rw[ID];exact⟨(a0 k aa aa).up,CJ _ (AQ _)⟩)
 have Q:=AE (ca:Ja [64,98] (Fe p)=It (fun n=>!Dv [64,98] (Fe p) n) (20*(Bk (Fe p)+(Fe p).length+1)) 0);have a1:=AE (ca:G5 p=64::98::itoa (Ja [64,98] (Fe p)));have a2:=AE (oN p);have a3:=AE (fun s=>fg s (raws:=r::raws) (ps:=p::p.parts) ya);have b3:((r::raws).zip (p::p.parts)).length=raws.length+1:=by rw[FK];simp[o]
 have F:=AE (fun(W:World)(v:Value)(h:F9 4 Dk W v (r::raws))=>ff h (ps:=p::p.parts) ya);generalize(r::raws).zip (p::p.parts)=L at Z a3 b3 F;have c6:raws.length<=20002:=aa
 generalize hT:Fe p=T at b0 Q a1 a2;clear N a0 hT m o b2;obtain⟨⟨t,u,y⟩,A,C,⟨R,c,d⟩⟩:=r;simp only[C3,A9]at P|-;have b:=(AG w.heap.size w).alloc (AF _) (.cells #[.slice t u y,A,C,.slice R c d] 44);have g:=A0.new w #[.slice t u y,A,C,.slice R c d] 44;go_enter func39,ntmps39;go_upto_region 1 with fail;generalize World.alloc _ _=D at b g|-;have S:=b;have a4:=P.rd.next b;have k1:=g.cell;have a5:=oM D t R u y c d A C;have E:=(AG D.heap.size D).alloc (AF _) (.cells #[.slice t u y,A,C,.slice R c d] 44);have a6:=a4.next E;have b5:=(g.next E g.lt).cell;clear b P a4;go_wp2_with(at_builtin;refine bT (α:=Au) (cs:=Dk) (size:=4) (z:=.agg #[.slice none 0 0,.string ByteArray.empty,false,.slice none 0 0]) Dx aN aO rfl ae underlying33 rfl _ _ rfl D.heap.size _ _ raws R c d rfl a5 rfl a6 ag ao ah ?_;intro v3 w3 U b6 a7 b7);obtain⟨sa,sc,a8,_⟩:=A1.rd ae Dx U;rw[JF,AK]at a8;subst a8;have G:=S.trans ((E.trans a7).mono S.size);have b8:=AE (F.o _ _ (A1.rd ae Dx U));have b9:=G.size;have a9:=hg.next G;have c0:=AE (fun x H=>((Z.o x H).1.next G));clear a5 g k1 b5 a6 a7 b6 b7 E S U F;go_wp2_with fail;go_loopw[4] (fun i wr=>∃k f:Nat,i=k/\k+f=20*(Bk T+T.length+1)/\Hid (Ja [64,98] T=It (fun n=>!Dv [64,98] T n) f k)/\Hid (∀j,j<k->Dv [64,98] T j=true)/\Below w3.heap.size w3 wr) (fun i _=>20*(Bk T+T.length+1)-(intOf i).toNat)
 case atStart=>exact⟨0,_,rfl,aa,Q,AE (fun j h=>aa),AG _ _⟩
 clear Q;obtain⟨k,f,rfl,c7,F,J,B⟩:=hrel;have hk:=Tt _ _ k J.o;obtain⟨f,rfl⟩:∃n,f=n+1:=⟨f-1,aa⟩;have hI:=Fj (k:Int) aa aa wr (a9.next B);have c1:=BE (k:Int) aa aa;have V:=AE ((a2.o k).trans (a3.o _).symm);have O:=AE (show Dv [64,98] T k=false->G5 p=64::98::itoa (k:Int)from fun h=>by
  rw[a1.o,F.o,fU iy])
 generalize itoa (k:Int)=I at hI c1 V O;go_wp2_with fail;with_reducible refine hI.mono ?_
 rintro e a⟨rfl,b4⟩;have B4:=B.trans (b4.mono B.size);have K:=A0.new a #[(64::98::I:Bs)] 9;have b:=(AG a.heap.size a).alloc (AF _) (.cells #[(64::98::I:Bs)] 9);have l:=B4.trans (b.mono B4.size);have c2:=a9.next l;have hC:=dq 94 a.heap.size (DU func94 af rfl) (fun x=>I9 (64::98::I) x.2) (.slice sa (raws.length+1) sc) L (a.alloc (.cells #[(64::98::I:Bs)] 9)) (b8.o.next l) aa (fun x H W X=>by
  have h1:=b1.o _ (Z.o x H).2;exact ds 3 x.1 x.2 (64::98::I) a.heap.size W (((c0.o x H).next l).next X) aa (by have:=h1.1.1;omega) (fun f hf=>by have:=(h1.1.2 f hf).2;omega) ((K.next X K.lt).cell 0) ((c2.next X).r))
 rw[<-V.o]at hC;generalize hb:Dv [64,98] T k=q at hC O;have M:=AE hb;have c3:=K.cell;clear hb V hI b4 b;go_wp2_with fail;with_reducible refine hC.mono ?_
 rintro e w6⟨rfl,Y⟩;have c4:=K.next Y K.lt;have B6:=l.trans (Y.mono l.size);have c8:=c4.cell;clear hC Y c3;cases q with
 |true=>
  have HN:=AE (by rw[F.o,fT (by rw[M.o];rfl)]:Ja [64,98] T=It (fun n=>!Dv [64,98] T n) f (k+1));have c5:=AE (show∀j,j<k+1->Dv [64,98] T j=true from fun j h=>by
   rcases CL j k with h'|h'
   ·exact J.o j h'
   obtain rfl:j=k:=aa
   exact M.o)
  clear F J O M;go_wp2;go_roundw
  case rel=>exact⟨k+1,f,aj,aa,HN,c5,B6⟩
  simp[intOf];omega
 |false=>
  have HN:=AE (O.o rfl);clear F J O M;go_wp2;go_ret;exact⟨by rw[HN.o];rfl,G.trans (B6.mono b9)⟩
def bW(i:Int)(e:Bs)(c:Nat)(w:World)(h0:-9223372036854775808<=i)(h:i<=9223372036854775807)(H:w.cell? ⟨c,0,none⟩=some e)(n:e.length<=1000000000000)(g:Gz w):Calls prog 40 #[i,.pointer (some ⟨c,0,none⟩)] w fun r a=>r=.returned (Co e i)/\Below w.heap.size w a:=by
 have d:c<w.heap.size:=BJ w _ H;have hI:=fun W f=>Fj i h0 h W f
 have l:=BE i h0 h;have N:=AE (ca:Co e i=112::97::114::116::(itoa i++e));generalize itoa i=I at hI l N;have j:=g.next ((AG w.heap.size w).drew);have k:=AE (show c<w.drew.heap.size from d);have z:¬9223372036854775807<4+I.length:=aa
 have Z:¬9223372036854775807<I.length+1+1+1+1+e.length:=aa
 have m:w.drew.cell? ⟨c,0,none⟩=some e:=H;go_enter func40,ntmps40;go_upto_region 1 with fail;go_region_law((go_simp;with_reducible refine(hI _ j).mono ?_;rintro r o⟨rfl,b⟩;have K:=AE (Bp b (w0:=w) ((AG w.heap.size w).drew));have q:=(b.cell (p:=⟨c,0,none⟩) k.o).trans m));all_goals
  go_wp2;go_ret;exact⟨Hz N.o.symm,K.o⟩
theorem oP{α:Type}{size:Nat}{cs:α->List Value}(H:∀x,(cs x).length=size)(j:Nat)(u:Value)(y:α)(b:j<size):∀(Y:List α)(i:Nat)(a:i<Y.length),cs y=(cs Y[i]).set j u->(Y.flatMap cs).set (i*size+j) u=(Y.set i y).flatMap cs
 |[],_,a,_=>by simp at a
 |x::Y,0,_,h=>by
  simp only[List.getElem_cons_zero]at h;rw[BV,Nat.zero_mul,EQ,List.set_cons_zero,BV,h,List.set_append_left _ _ (by rw[H];exact b)]
 |x::Y,i+1,a,h=>by
  have ih:=oP H j u y b Y i xu h;rw[KE,BV,BV,<-ih,GE _ _ (by rw[H,DL];omega),H,(by rw[DL];omega:(i+1)*size+j-size=i*size+j)]
def A1.oQ{cs:α->List Value}(s:∀x,(cs x).length=size){Y:List α}(h:A1 e size cs w B (.slice (some ⟨g,0,none⟩) n cap) Y)(i j:Nat)(a:i<Y.length)(b:j<size)(u:Value)(y:α)(c:cs y=(cs Y[i]).set j u):A1 e size cs (w.setCell ⟨g,i*size+j,none⟩ u) B (.slice (some ⟨g,0,none⟩) n cap) (Y.set i y):=by
 obtain⟨_,_,d,_⟩:=h.row;subst d;unfold A1 at h|-;have H:=(GP h (i*size+j) u).1;rw[oP s j u y b Y i a c]at H;rw[FL];exact H
def A1.J1{cs:α->List Value}{xs:List α}(h:A1 e size cs w B v xs)(k:∀g,v.ownBlock=some g->w'.heap[g]?=w.heap[g]?):A1 e size cs w' B v xs:=by
 rcases h with⟨b,H⟩;refine⟨b,?_⟩;rcases H with H|⟨g,c,C,a,d,f,r⟩
 ·exact Or.inl H
 exact Or.inr ⟨g,c,C,a,d,(k g yd).trans f,r⟩
def R7:(prog.info? 9).map (fun i=>(i.zero,i.size,i.bytes))=some (some (.string ByteArray.empty),1,16):=af
def R8(s:Bs):∀u∈Bl s,u.oneCell'=true:=fun u h=>by
 simp[Bl]at h;subst h;rfl
def Il(w:World)(x:Bs)(t:TypeId):∀j u,([x].flatMap Bl)[j]?=some u->(w.alloc (.cells #[x] t)).cell? ((⟨w.heap.size,0,none⟩:Go.Addr).add j)=some u:=fun j u h=>by
 rw[Er,(A0.new w #[x] t).cell]
 match j,h with
 |0,h=>exact h
 |j+1,h=>simp[Bl]at h
def Mt(H:o.guard=none)(s x:Operand)
  (d:o.op=.call {callee:=.builtin .append,args:=#[s,x],argTypes:=#[55,55]}) (B:Nat) (v:Value) (xs:List Bs) (y:Bs) (b c:Nat)
  (e:a.eval s=v) (n:Do w B v xs) (f:a.eval x=.slice (some ⟨b,0,none⟩) 1 c) (g:∀j u,([y].flatMap Bl)[j]?=some u->w.cell? ((⟨b,0,none⟩:Go.Addr).add j)=some u) (k:xs.length+1<=1000000000001) (i:B<=w.heap.size)
  (h:∀V W,Do W B V (xs++[y])->w.grownBy W v.ownBlock->Below B w W->(V.ownBlock=v.ownBlock\/V.ownBlock=some w.heap.size)->wpList prog O Q rest (a.put o.dst V) W):wpList prog O Q (o::rest) a w:=
 N8 (α:=Bs) (cs:=Bl) (size:=1) (z:=.string ByteArray.empty) By R8 R7 rfl ae underlying55 H s x d B v xs [y] ⟨b,0,none⟩ 1 c rfl e n f g ag ao i h
def R9:Code->Code
 | .seq c _=>c
 |c=>c
def Ow:Code->Code
 | .block _ c=>c
 | .loop c=>c
 |c=>c
noncomputable def Up:Code:=Ow (R9 (Eu (Eu (Ow (Ow (Eu (R9 (Eu (Eu (Eu (Eu ((f11.body).getD .skip))))))))))))
noncomputable def Xj:Code:=Eu (Eu (Eu (Eu (Eu Up))))
noncomputable def oR:Code:=Ow (R9 (Eu (Eu (Ow (Ow (Eu (R9 (Eu (Eu (Eu Xj))))))))))
def fj(Q:Exit->Act->World->Prop)(s lb I lc u J kc j B:Nat)(L M:Nat)(X:Bs)(d:Int)(e:Bs)(out:List Bs)(w:World)
  (b3:j<I) (b4:j<J) (c1:w.cell? ⟨lb,j*2+1,none⟩=some d) (e0:w.cell? ⟨u,j*3,none⟩=some L) (e1:w.cell? ⟨u,j*3+1,none⟩=some M) (e2:w.cell? ⟨u,j*3+2,none⟩=some X)
  (b5:s<B) (b6:lb<B) (hB:B<=w.heap.size) (a0:w.cell? ⟨s,0,none⟩=some e) (b7:e.length<=1000) (b8:X.length<=1000000) (a1:-9223372036854775808<=d) (a2:d<=9223372036854775807) (n:Do w B ov out) (b9:out.length<=1000000000) (hg:Gz w)
  (a3:Ho 150 [(6,.func (.func 40) #[] #[.pointer (some ⟨s,0,none⟩)]),(12,.slice (some ⟨lb,0,none⟩) I lc),(14,ov),(82,.slice (some ⟨u,0,none⟩) J kc),(84,j)] ⟨F.toArray,[]⟩)
  (O:∀(x:Exit),x=.normal\/x=.exit 5->∀(v:Value)(P:World)(ac:Act),Kp [(0,14),(20,86),(125,150)] [(14,v)] F ac->Do P B v (out++[F4 e X d])->Below B w P->Q x ac P):
  Code.wp prog oR Q ⟨F.toArray,[]⟩ w:=by
 obtain⟨f,rfl⟩:=a3.Qc;clear a3;simp only[Fp,↓reduceIte,Nat.reduceAdd,Nat.reduceEqDiff]at O|-;have t:=AE O;clear O;have H:=AE (show F4 e X d=if d<0 then X else 99::105::100::58::(Co e d++(match Be X with
  |none=>[]
  |some a=>if a.hasFrag then 35::a.frag else[]))from rfl)
 generalize F4 e X d=V at t H;have b:=(AG w.heap.size w).alloc (AF _) (.cells #[L,M,X] 96);have k:=A0.new w #[L,M,X] 96;have i0:(0:Int)<=j:=aa
 have i1:(j:Int)<I:=aa
 have i2:(j:Int)<J:=aa
 have a4:=(b.cell (p:=⟨lb,j*2+1,none⟩) ai).trans c1;have S:=(b.cell (p:=⟨s,0,none⟩) ai).trans a0;have n:=A1.next n b;have y:=hg.next b;have b1:=b.size;have z:=b.mono hB;delta oR Xj Up f11;dsimp only[Eu,R9,Ow,Option.getD];go_upto_region 22 with fail;generalize World.alloc _ _=A at b k a4 S n y b1 z|-;clear e0 e1 e2 c1 a0 b hg;have a5:=k.cell;have a6:B<=A.heap.size:=aa
 by_cases a7:d<0
 ·have H:=AE (by rw[H.o,AN a7]:V=X);have c:=A1.alloc n (.cells #[X] 9);go_wp2_with(at_builtin;refine Mt rfl _ _ rfl B _ out X A.heap.size 1 rfl c rfl (Il A X _) aa ag ?_;intro v w2 g T i U);go_wp2_with fail;exact t.o _ ah _ _ _ ⟨_,rfl,rfl,af,rfl⟩ we ((z.alloc a6 _).trans i)
 have H:=AE (show V=99::105::100::58::(Co e d++(match Be X with
  |none=>[]
  |some a=>if a.hasFrag then 35::a.frag else[]))from by rw[H.o,AL a7])
 have b2:(Co e d).length<=1100:=by
  have:=BE d a1 a2;unfold Co;simp;omega
 have Y:=bW d e s A a1 a2 S aa y;generalize Co e d=N at H b2 Y;have R:=fun W hW=>Vz X W aa hW
 unfold Tq at R;have a8:=fun a(h:Be X=some a)=>Iv h
 generalize Be X=ra at R H a8;go_wp2_with fail;with_reducible refine Y.mono ?_
 rintro r w2⟨rfl,o⟩;have B2:=z.trans (o.mono a6);have k:=k.next o k.lt;have a5:=k.cell;have n:=A1.next n o;have a9:=y.next o;have c0:=o.size;clear Y a4 S z o y;go_wp2_with fail;with_reducible refine(R _ a9.r.g).mono ?_
 rintro r q⟨rfl,C⟩;have D:=B2.trans (C.mono aa);have n:=A1.next n C;have c2:=C.size;clear R k a5 B2 C a9;cases ra with
 |none=>
  have H:=AE (lu:V=99::105::100::58::N);have b:=(AG q.heap.size q).alloc (AF _) (.cells A3.zero.cells 36);have K:=A0.new q A3.zero.cells 36;have n:=A1.next n b;have l:=D.trans (b.mono aa);have E:=b.size;simp only[A3.zero]at K n l E|-;have Z:=K.cell;clear b D;go_upto_region 26 with fail;generalize World.alloc _ _=m at K n l E Z|-;have c:=A1.alloc n (.cells #[(99::105::100::58::N:Bs)] 9);go_wp2_with(at_builtin;refine Mt rfl _ _ rfl B _ out (99::105::100::58::N) m.heap.size 1 rfl c rfl (Il m (99::105::100::58::N) _) aa ag ?_;intro v w5 g T i U);go_wp2_with fail;exact t.o _ ah _ _ _ ⟨_,rfl,rfl,af,rfl⟩ we ((l.alloc aa _).trans i)
 |some a=>
  have b0:=a8 a rfl;obtain⟨sc,ha,au,pt,hq,qu,G,f⟩:=a;have c3:f.length<=3000000:=by unfold A3.len at b0;simp only at b0;omega
  have H:=AE (show V=99::105::100::58::(N++if G then 35::f else[])from H.o);have b:=(AG q.heap.size q).alloc (AF _) (.cells (A3.cells ⟨sc,ha,au,pt,hq,qu,G,f⟩) 36);have K:=A0.new q (A3.cells ⟨sc,ha,au,pt,hq,qu,G,f⟩) 36;have n:=A1.next n b;have l:=D.trans (b.mono aa);have E:=b.size;have Z:=K.cell;clear b D;go_upto_region 26 with fail;generalize World.alloc _ _=m at K n l E Z|-;cases G with
  |false=>
   have H:=AE (lu:V=99::105::100::58::N);have c:=A1.alloc n (.cells #[(99::105::100::58::N:Bs)] 9);go_wp2_with(at_builtin;refine Mt rfl _ _ rfl B _ out (99::105::100::58::N) m.heap.size 1 rfl c rfl (Il m (99::105::100::58::N) _) aa ag ?_;intro v w5 g T i U);go_wp2_with fail;exact t.o _ ah _ _ _ ⟨_,rfl,rfl,af,rfl⟩ we ((l.alloc aa _).trans i)
  |true=>
   have H:=AE (lu:V=99::105::100::58::(N++35::f));have c:=A1.alloc n (.cells #[(99::105::100::58::(N++35::f):Bs)] 9);go_wp2_with(at_builtin;refine Mt rfl _ _ rfl B _ out (99::105::100::58::(N++35::f)) m.heap.size 1 rfl c rfl (Il m (99::105::100::58::(N++35::f)) _) aa ag ?_;intro v w5 g T i U);go_wp2_with fail;exact t.o _ ah _ _ _ ⟨_,rfl,rfl,af,rfl⟩ we ((l.alloc aa _).trans i)
def fp(f:α×β->γ)(L:List α)(M:List β)(j:Nat)(a:j<L.length)(b:j<M.length)(out:List γ)(h:out++((L.zip M).drop j).map f=(L.zip M).map f):(out++[f (L[j],M[j])])++((L.zip M).drop (j+1)).map f=(L.zip M).map f:=by
 have H:j<(L.zip M).length:=by rw[FK];omega
 rw[<-h,AH H,CD,ID];simp
def Xk(b:Al)(p:A7)(a:A3):Fw b p a=[]\/(Fw b p a).length=(Bf p.body).length:=by
 unfold Fw;split
 ·right;rw[DQ]
 left;rfl
def Su(e:Bs)(x:Av×Ij):Bs:=F4 e x.1.2.2 x.2.2
def oS(e v:Bs)(d:Int)(h:-9223372036854775808<=d)(H:d<=9223372036854775807):(F4 e v d).length<=3*v.length+e.length+30:=by
 unfold F4;split
 ·omega
 have i:=BE d h H;cases r:Be v with
 |none=>
  simp only[Co,AK,AJ,BG];omega
 |some a=>
  have:=Iv r;unfold A3.len at this;simp only[Co,AK,AJ];split
  ·simp only[AK];omega
  simp only[BG];omega
def fq(Q:Exit->Act->World->Prop)(bp g s k cap B:Nat)(b:Al)(q:A7)(R:List Au)(e:Bs)(w:World)
  (b6:Dl (fun _=>True) w bp b) (P:Fx b) (hk:k<b.whole.parts.length) (hq:b.whole.parts[k]=q) (a4:k<R.length) (hbody:(R[k]).2.1=q.body)
  (A:Gk w B (.slice (some ⟨g,0,none⟩) R.length cap) R) (b7:w.cell? ⟨s,0,none⟩=some e) (d5:e.length<=1000) (hg:Gz w) (S:∀a,∀x∈Fw b q a,-9223372036854775808<=x.2/\x.2<=9223372036854775807)
  (b8:Ho 150 [(0,.pointer (some ⟨bp,0,none⟩)),(6,.func (.func 40) #[] #[.pointer (some ⟨s,0,none⟩)]),(7,k),(8,.pointer (some ⟨g,k*4,none⟩))] ⟨F.toArray,[]⟩)
  (C:∀(x:Exit),x=.normal\/x=.exit 1->∀(w':World)(ac:Act),Kp [(0,12),(20,69),(138,150)] [] F ac->Gk w' B (.slice (some ⟨g,0,none⟩) R.length cap) (R.set k ((R[k]).1,Jx e q.body ((Ca b (k:Int)).getD []),(R[k]).2.2))->A5 g w.heap.size w w'->Q x ac w'):
  Code.wp prog Xj Q ⟨F.toArray,[]⟩ w:=by
 obtain⟨fr,rfl⟩:=b8.Qc;clear b8;simp only[Fp,↓reduceIte,Nat.reduceAdd,Nat.reduceEqDiff]at C|-;have N:=AE C;have a5:=P.whole.part (AQ hk);rw[hq]at a5;have d6:k<b.places.length:=by rw[P.places];exact hk
 have HL:=AE (show Ca b (k:Int)=some (Fw b q (b.places[k]))from by
  unfold Ca;rw[AL aa];simp[hk,d6,hq])
 have T:=oA (fun _=>True) bp b (k:Int) w b6 P hg.r aa (by have:=P.whole.head.2.2;omega);rw[HL.o]at T;rw[HL.o]at C;have N:=AE C;have D:=Xk b q (b.places[k]);have S:=S (b.places[k]);generalize Fw b q (b.places[k])=c at T N D S;simp only[DA]at N;have f9:=A1.Ha A g rfl;have d7:=A1.Dj A g rfl;have g0:=A1.free A;have E:=A1.cellAt Dx A k a4 1 ae;have b9:=fun(W:World)(o:Gk W B (.slice (some ⟨g,0,none⟩) R.length cap) R)(y:Bs)=>A1.oQ Dx o k 1 a4 ae y ((R[k]).1,y,(R[k]).2.2) rfl
 have d8:=AE b9;have c0:=AE (show R.set k ((R[k]).1,q.body,(R[k]).2.2)=R from by
  rw[<-hbody];exact JG a4)
 simp only[Dk,AU,AR]at E;rw[hbody]at E;have d9:=a5.fl.2;have U:=fun W hW=>Xa q.body W hW aa
 have c2:=(I3 q.body).2;have a6:=AE (O5 q.body);have H:=AE (ca:Jx e q.body c=if c=[]then q.body else(I7 q.body (((Bf q.body).zip c).map (Su e))).getD []);generalize Bf q.body=L at U c2 a6 H D;generalize Jx e q.body c=V at N H;generalize q.body=G at E d9 U c2 a6 H c0;clear C HL b6 hq a5 b9 hbody;have g1:(0:Int)<=k:=aa
 delta Xj Up f11;dsimp only[Eu,R9,Ow,Option.getD];go_wp2_with fail;with_reducible refine T.mono ?_
 rintro r w1⟨X,i⟩;obtain⟨v1,rfl,a7⟩:∃v,r=.returned (.tuple #[v,.nilIface])/\bI w1 w.heap.size v c:=by
  rcases X with⟨l,v,I,h2,h3⟩|⟨I,_⟩
  ·injection I with I;subst I;exact⟨v,h2,h3⟩
  cases I
 clear X T;have J:=A1.Dq ae Lk a7;obtain⟨la,lc,rfl,_⟩:=J.rd;have a8:=hg.next i;have e3:=i.size;have a9:=A1.next A i;have b0:=(i.cell (p:=⟨s,0,none⟩) (BJ w _ b7)).trans b7;have c3:=(i.cell (p:=⟨g,k*4+1,none⟩) d7).trans E;by_cases u:c=[]
 ·have Y:=AE (by rw[H.o,AN u]:V=G);have e4:((c.length:Int)==0)=true:=by rw[u];rfl
  have e5:=AE (by rw[Y.o,c0.o];exact a9:Gk w1 B (.slice (some ⟨g,0,none⟩) R.length cap) (R.set k ((R[k]).1,V,(R[k]).2.2)));clear a7 J D;go_wp2_with fail;exact N.o _ ah _ _ ⟨_,rfl,rfl,af,rfl⟩ e5.o (A5.of i)
 have e6:c.length=L.length:=by
  rcases D with h|h
  ·exact absurd h u
  exact h
 have e4:((c.length:Int)==0)=false:=by
  rw[AI];have:=BK.2 u;omega
 have g2:c.length<=L.length:=aa
 have g3:L.length<=c.length:=aa
 clear e6;have e7:0<c.length:=BK.2 u;have H:=AE (by rw[H.o,AL u]:V=(I7 G ((L.zip c).map (Su e))).getD []);clear D a7;obtain⟨lb,rfl,_,g4,_⟩:=J.at Lk 0 e7;go_wp2_with fail;with_reducible refine(U _ a8.r).mono ?_
 rintro r m⟨v2,rfl,c4,n⟩;have b1:=A1.Dq ae G3 c4;obtain⟨ka,kc,rfl,_⟩:=b1.rd;obtain⟨Z,rfl,_,b2,_⟩:=b1.at G3 0 aa;have c5:=a8.next n;have g5:=n.size;have e8:=A1.next a9 n;have c6:=(n.cell (p:=⟨s,0,none⟩) (BJ w1 _ b0)).trans b0;have e9:=(n.cell (p:=⟨g,k*4+1,none⟩) ai).trans c3;have f0:=J.next n;have B2:=i.trans (n.mono e3);have c7:s<m.heap.size:=BJ m _ c6;clear U J c4 n i b0 c3 a9 a8 E;go_wp2_with fail;go_loopw[14,84] (fun ov iv wr=>∃(j:Nat)(O:List Bs),iv=j/\j<=L.length/\O.length<=j/\Do wr m.heap.size ov O/\Hid (O++((L.zip c).drop j).map (Su e)=(L.zip c).map (Su e))/\Hid (∀x∈O,x.length<=1000000)/\Below m.heap.size m wr) (fun _ iv _=>L.length-(intOf iv).toNat)
 case atStart=>exact⟨0,[],rfl,aa,ah,A1.nil _ _ _ _ _,AE ah,AE (fun x h=>ee),AG _ _⟩
 obtain⟨j,O,rfl,hj,g6,c8,a0,HO,f⟩:=hrel;by_cases a1:j<L.length
 ·have b3:j<c.length:=by omega
  obtain⟨g7,K,_,_,c9⟩:=f0.at Lk j b3;obtain⟨g8,M,_,_,a2⟩:=b1.at G3 j a1;injection K with K;injection K with K;injection M with M;injection M with M;subst K M;have c1:=(f.cell (p:=⟨lb,j*2+1,none⟩) ai).trans (c9 1 ae);have e0:=(f.cell (p:=⟨Z,j*3+0,none⟩) b2).trans (a2 0 ae);have e1:=(f.cell (p:=⟨Z,j*3+1,none⟩) b2).trans (a2 1 ae);have e2:=(f.cell (p:=⟨Z,j*3+2,none⟩) b2).trans (a2 2 ae);have d0:=a6.o _ (AQ a1);have z:=S _ (AQ b3);have a3:=AE (fp (Su e) L c j a1 b3 O a0.o);clear c9 a2 a0;generalize L[j]=x at e0 e1 e2 d0 a3;generalize c[j]=y at c1 z a3;obtain⟨x1,x2,x3⟩:=x;obtain⟨y1,d⟩:=y;simp only[Ji,I4,BI,AU,AR]at c1 e0 e1 e2 d0 z a3;have f1:=(f.cell (p:=⟨s,0,none⟩) c7).trans c6;have g9:=oS e x3 d z.1 z.2;have f2:=c5.next f;have f3:=AE (show∀x∈O++[F4 e x3 d],x.length<=1000000 from fun x t=>by
   rcases BY.1 t with t|t
   ·exact HO.o x t
   rw[CS.1 t];omega)
  have f4:=f.size;have f5:lb<m.heap.size:=aa
  go_upto_block 5 with fail;refine wp_block (fj _ s lb c.length lc Z L.length kc j m.heap.size x1 x2 x3 d e O wr aa a1 c1 e0 e1 e2 c7 f5 f4 f1 d5 aa z.1 z.2 c8 aa f2 ⟨_,rfl,rfl,rfl⟩ ?_);intro x t v' wz ac d1 ho hb;obtain⟨gr,rfl⟩:=d1.op;clear d1;simp only[List.foldl,List.set,Kk,↓reduceIte,Nat.reduceAdd,Nat.reduceLeDiff,Nat.reduceEqDiff];rcases t with rfl|rfl
  all_goals
   simp only[Exit.inBlock,Exit.then,DK];go_wp2;go_roundw
   case rel=>exact⟨j+1,O++[F4 e x3 d],aj,aa,ag,ho,AE a3.o,f3,f.trans hb⟩
   simp[intOf];omega
 obtain rfl:j=L.length:=aa
 have HF:=AE (show O=(L.zip c).map (Su e)from by
  have:=a0.o;rw[JC (by rw[FK];omega),List.map_nil,BU]at this;exact this)
 have Y:=AE (by rw[H.o,HF.o]:V=(I7 G O).getD []);have d2:=A1.rd ae By c8;have b4:=XZ G O _ wr (c5.next f).r aa d2 aa HO.o;obtain⟨ta,tc,f6,_⟩:=d2;subst f6;generalize f7:I7 G O=wk at b4 Y;have d3:=(f.cell (p:=⟨g,k*4+1,none⟩) ai).trans e9;clear f7 HF a0;go_wp2_with fail;with_reducible refine b4.mono ?_
 rintro r w3⟨X,b5⟩;obtain⟨ev,rfl⟩:=X.get;have d4:=A1.next (A1.next e8 f) b5;have h0:=A1.free d4;have f8:=f.size;have h1:=(b5.cell (p:=⟨g,k*4+1,none⟩) ai).trans d3;have B3:=B2.trans ((f.trans (b5.mono f8)).mono (aa:w.heap.size<=m.heap.size));clear b4 d3;go_wp2_with fail;exact N.o _ ah _ _ ⟨_,rfl,rfl,af,rfl⟩ (by rw[Y.o];exact d8.o _ d4 _) ((A5.of B3).set _)
def Ei(base:A3)(s:Bs):Bool->Nat->List A3->List Bs->Nat->List A7->Except Int (Nat×List A3×List Bs)
 |_,r,p,i,_,[]=>.ok (r,p,i)
 |L,r,p,i,k,q::l=>
  if q.many then .error 13
  else if L&&(s !=[]&&s==Fu (G4 q.head))then Ei base s false k (p++[E3 base q.head]) (i++[G4 q.head]) (k+1) l
  else Ei base s L r (p++[E3 base q.head]) (i++[G4 q.head]) (k+1) l
theorem Uq(base:A3)(s:Bs):∀(l:List A7)(L:Bool)(r:Nat)(p:List A3)(i:List Bs)(k:Nat),Ei base s L r p i k l=if l.any A7.many then .error 13
   else .ok ((if L=true/\s≠[]then Ot s (l.map fun q:A7=>G4 q.head) k else none).getD r,p++l.map (fun q:A7=>E3 base q.head),i++l.map (fun q:A7=>G4 q.head))
 |[],L,r,p,i,k=>by simp[Ei,Ot]
 |q::l,L,r,p,i,k=>by
  unfold Ei;cases h:q.many with
  |true=>simp[h]
  |false=>
   rw[Uq base s l,Uq base s l];cases H:l.any A7.many with
   |true=>simp[h,H]
   |false=>
    cases L with
    |false=>simp[h,H]
    |true=>
     by_cases a:s=[]
     ·simp[h,H,a]
     by_cases e:s=Fu (G4 q.head)
     ·have b:(s !=[]&&s==Fu (G4 q.head))=true:=by simp[<-e,a]
      simp only[b,GB,h,H,CD];simp[Ot,<-e,a]
     have b:(s==Fu (G4 q.head))=false:=by simpa using e
     simp[b,h,H,Ot,e,a]
def oT(p:A7)(H:(Mm p.head).1=Li)(a:p.parts≠[]):Iz p=(Ei (E3 A3.zero p.head) ((Cc (Mm p.head).2 Bw).getD []) (Cc (Mm p.head).2 Bw).isSome 0 [] [] 0 p.parts).map fun x=>⟨p,x.1,x.2.1,x.2.2⟩:=by
 unfold Iz;rw[Uq,AL el,AL a];cases b:p.parts.any A7.many with
 |true=>simp[Except.map]
 |false=>
  cases Cc (Mm p.head).2 Bw with
  |none=>simp[Except.map]
  |some s=>
   by_cases h:s=[]
   ·simp[Except.map,h]
   simp[Except.map,h]
def Sv{base:A3}(h:Dw n l):(E3 base l).len<=2*base.len+6*n+4:=by
 unfold E3;cases g:Aj l O2 with
 |none=>simp only;omega
 |some v=>
  have b:=Mc h g;cases H:Be v with
  |none=>simp only[H];omega
  |some a=>
   have c:=Iv H;have d:=Nw base a;have e:=zU (Ar base a);simp only[H];omega
def bX(h:Dw n l):(G4 l).length<=n:=AV (YZ _) (Ui h)
theorem Sw{b:Al}(h:C4 s=.ok b):Fx b:=by
 unfold C4 at h;cases r:Ef s with
 |error e=>rw[r]at h;cases h
 |ok p=>
  rw[r]at h;have f:=Xd r;simp only[Iz]at h;split at h
  ·cases h
  split at h
  ·cases h
  split at h
  ·cases h
  cases h;obtain⟨P,l,m,k⟩:=p;have w:=F1 f.1;have h0:A3.zero.len=0:=rfl;have n:=Sv (base:=A3.zero) w;have H:∀q∈k,Dw 20000 q.head:=fun q H=>by
   have:=f.2.2.2 q H;obtain⟨a,c,d,e⟩:=q;exact F1 this.1
  refine⟨f,by simp[A7.parts],by simp[A7.parts],fun a i=>?_,fun x j=>?_⟩
  ·simp only[A7.parts,DN]at i;obtain⟨q,g,rfl⟩:=i;have:=Sv (base:=E3 A3.zero P) (H q g);simp only[A7.head]at*;omega
  simp only[A7.parts,DN]at j;obtain⟨q,g,rfl⟩:=j;have:=bX (H q g);omega
end Go.Proofs.YtignjjnflcpiiaaGreatDoor
