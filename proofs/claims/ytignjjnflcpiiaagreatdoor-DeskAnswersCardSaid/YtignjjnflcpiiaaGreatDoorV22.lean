/- part.given; slices.IndexFunc with it; slices.Clone of fie -/
import Derived.Test.YtignjjnflcpiiaaGreatDoorV20
set_option maxHeartbeats 16000000
set_option maxRecDepth 100000 set_option linter.all false
namespace Go.Proofs.YtignjjnflcpiiaaGreatDoor
open Go Go.RowKit Proofs.Tryz Lib
def Ie(f:A4):Bool:=A2 f.1==A2 Bn
def lV(x y:Bs)(w:World)(r:x.length<=1000000000000)(g:Gr w):Calls prog 195 #[.agg #[x,y]] w fun e l=>e=.returned (.bool (Ie (x,y)))/\Below w.heap.size w l:=by
 have C:w.cell? ⟨2,1,none⟩=some (.string ⟨#[67,111,110,116,101,110,116,45,84,114,97,110,115,102,101,114,45,69,110,99,111,100,105,110,103]⟩):=g.ours 1 ae;have s:=g.size;have h:=A0.new w #[x,y] 92;have b:=(AG w.heap.size w).alloc (AF _) (.cells #[x,y] 92);have c:=(b.cell (p:=⟨2,1,none⟩) ai).trans C;have f:=fun W=>Gw x W aa
 have i:=fun W=>Gw [67,111,110,116,101,110,116,45,84,114,97,110,115,102,101,114,45,69,110,99,111,100,105,110,103] W ae
 have H:=AE (ca:Ie (x,y)=(A2 x==A2 [67,111,110,116,101,110,116,45,84,114,97,110,115,102,101,114,45,69,110,99,111,100,105,110,103]));generalize A2 x=L at f H;generalize A2 [67,111,110,116,101,110,116,45,84,114,97,110,115,102,101,114,45,69,110,99,111,100,105,110,103]=t at i H;have z:(w.alloc (.cells #[x,y] 92)).heap.size=w.heap.size+1:=ah
 have j:2<(w.alloc (.cells #[x,y] 92)).heap.size:=by rw[z];omega
 clear C;go_enter func195,ntmps195;go_upto_region 1 with fail;generalize World.alloc _ _=a at h b c z j⊢;have m:=(A0.drew h).cell;have n:a.drew.cell? ⟨2,1,none⟩=some (.string ⟨#[67,111,110,116,101,110,116,45,84,114,97,110,115,102,101,114,45,69,110,99,111,100,105,110,103]⟩):=c;have o:=(AG a.heap.size a).drew;go_region_held3(fun W=>(∀k,W.cell? ⟨w.heap.size,k,none⟩=(#[.string ⟨x.toArray⟩,.string ⟨y.toArray⟩])[k]?)∧W.cell? ⟨2,1,none⟩=some (.string ⟨#[67,111,110,116,101,110,116,45,84,114,97,110,115,102,101,114,45,69,110,99,111,100,105,110,103]⟩)∧Below a.heap.size a W)
  (first
   |with_reducible exact⟨m,n,o⟩
   |with_reducible exact⟨(h.next K h.lt).cell,(K.cell (p:=⟨2,1,none⟩) j).trans c,K⟩)
  ((
   first
   |(go_at_call 42;go_split_ands;with_reducible refine(f _).mono ?_;rintro e q⟨rfl,d⟩;have K:=Bp d (w0:=a) ax)
   |(go_at_call 42;go_split_ands;with_reducible refine(i _).mono ?_;rintro e q⟨rfl,d⟩;have K:=Bp d (w0:=a) ax)))
 all_goals go_split_ands
 all_goals go_wp2_with fail
 all_goals
  go_ret;exact⟨Bm ix,b.trans (IJ (B:=a.heap.size) ax b.size)⟩
def Lh(p:A4->Bool):List A4->Nat->Int
 |[],_=>-1
 |f::l,k=>if p f then k else Lh p l (k+1)
def WD(v:Value)(l:List A4)(w:World)(r:Cq w v l)(c:Nk l)(z:Gr w):Calls prog 180 #[v,.func (.func 195) #[] #[]] w fun e W=>e=.returned (.int .i64 (Lh Ie l 0))/\Below w.heap.size w W:=by
 have F:=c.1;have A:=AE c.2;clear c;obtain⟨a,I,rfl,j⟩:=r.open;have D:=AE j;clear j r;go_enter func180,ntmps180;go_wp2_with fail;go_loopw[8] (fun i wr=>∃k:Nat,i=k/\k<=l.length/\Lh Ie l 0=Lh Ie (l.drop k) k/\Below w.heap.size w wr) (fun i _=>l.length-(intOf i).toNat)
 case atStart=>exact⟨0,rfl,aa,ah,AG _ _⟩
 obtain⟨k,rfl,J,m,B⟩:=hrel;have d:=AE m;clear m;by_cases t:k<l.length
 ·obtain⟨b,rfl,n,o,q⟩:=D.o k t;have g:=A.o l[k] (AQ _);have H:=AE (ir:Lh Ie (l.drop k) k=if Ie l[k]then(k:Int)else Lh Ie (l.drop (k+1)) (k+1));have C:=(B.cell (p:=⟨b,k*2,none⟩) n).trans o;have s:=(B.cell (p:=⟨b,k*2+1,none⟩) n).trans q;clear o q;generalize l[k]=f at g H C s;obtain⟨x,y⟩:=f;simp only at g H C s;have G:=lV x y wr g.1 (z.next B);generalize Ie (x,y)=E at G H;go_wp2_with fail;with_reducible refine G.mono ?_
  rintro e K⟨rfl,u⟩;have B:=B.trans (u.mono B.size);clear u G;cases E with
  |true=>
   have h:=AE (ve:Lh Ie l 0=(k:Int));go_wp2;go_ret;exact⟨Fg (by rw[h.o]),B⟩
  |false=>
   have h:=AE (ve:Lh Ie l 0=Lh Ie (l.drop (k+1)) (k+1));go_wp2;go_roundw
   case rel=>exact⟨k+1,aj,aa,h.o,B⟩
   simp[intOf];omega
 obtain rfl:k=l.length:=aa
 have h:=AE (oq:Lh Ie l 0=-1);go_wp2;go_ret;exact⟨Fg (by rw[h.o]),B⟩
def WE(a:Go.Addr)(j:Nat):(a.add j).block=a.block:=by unfold Go.Addr.add;split<;>rfl
def lW(w:World):Bt (w.alloc (.cells #[] 92)) w.heap.size (.slice (some ⟨w.heap.size,0,none⟩) 0 0) []:=⟨rfl,Or.inr ⟨w.heap.size,0,#[],rfl,AF _,IY w _,AF _,ae,rfl,rfl⟩⟩
def lX(v:Value)(l:List A4)(w:World)(r:Cq w v l)(y:l.length<=1000000000000):Calls prog 194 #[v] w fun e f=>∃V,e=.returned V/\Bt f w.heap.size V l/\Below w.heap.size w f:=by
 obtain⟨a,C,rfl,d⟩:=r;have E:=fun W n c N i=>run_eql_slice_nil W 42 92 a n c N i underlying42
 cases a with
 |none=>
  have h0:l=[]:=by
   rcases GX l.length with h|h
   ·exact EI.1 h
   obtain⟨b,h,_⟩:=d h;cases h
  subst h0;simp only[Option.isNone]at E;go_enter func194,ntmps194;go_wp2;go_ret;exact⟨_,rfl,A1.nil _ _ _ _ _,AG _ _⟩
 |some A=>
  simp only[Option.isNone]at E;have g:0<l.length->A.block<w.heap.size/\∀j u,(l.flatMap Bc)[j]?=some u->w.cell? (A.add j)=some u:=fun h=>by
   obtain⟨b,e,t,k⟩:=d h;injection e with e;subst e;refine⟨t,fun j u H=>?_⟩;rw[Er,k j ?_]
   ·exact H
   have:=(CB.1 H).1;rw[Kj Af]at this;exact this
  have s:∀j u,(l.flatMap Bc)[j]?=some u->(w.alloc (.cells #[] 92)).cell? (A.add j)=some u:=fun j u H=>by
   have h0:0<l.length:=by
    have:=(CB.1 H).1;rw[Kj Af]at this;omega
   obtain⟨m,o⟩:=g h0;rw[CK _ _ (A.add j) (by rw[WE];exact m)];exact o j u H
  have p:=AE s;clear s g d;go_enter func194,ntmps194;go_wp2_with(at_builtin;refine N8 (α:=A4) (cs:=Bc) (size:=2) (z:=.agg #[.string ByteArray.empty,.string ByteArray.empty]) Af M0 My rfl ae underlying42 rfl _ _ rfl w.heap.size _ [] l A _ C rfl rfl (lW w) rfl p.o ag ao ah ?_;intro V B q D x F);go_wp2;go_ret;exact⟨_,rfl,q,((AG _ _).alloc (AF _) _).trans x⟩
variable {B g n cap e size k N:Nat}{w w':World}{α:Type}{Y ps l:List A4}{s b o m:Bs}
def A1.row{cs:α->List Value}{xs:List α}(h:A1 e size cs w B (.slice (some ⟨g,0,none⟩) n cap) xs):∃c,w.heap[g]?=some (.cells c e (0,0))/\n=xs.length/\B<=g/\n<=cap/\cap<=maxLen/\c.size=cap*size/\c.toList.take (n*size)=xs.flatMap cs:=by
 rcases h.2 with⟨v,_⟩|⟨G,C,c,v,a,b,d,p,z,f⟩
 ·cases v
 injection v with H i j;injection H with H;injection H with H;subst H i j;exact⟨c,b,rfl,a,d,p,z,f⟩
def A1.mk{cs:α->List Value}(h:∀x,(cs x).length=size){xs:List α}{c:Array Value}(H:w.heap[g]?=some (.cells c e (0,0)))(a:n=xs.length)(b:B<=g)(d:n<=cap)(f:cap<=maxLen)(i:c.size=cap*size)(j:c.toList.take (n*size)=xs.flatMap cs):A1 e size cs w B (.slice (some ⟨g,0,none⟩) n cap) xs:=by
 subst a;exact⟨Kj h xs,Or.inr ⟨g,cap,c,rfl,b,H,d,f,i,j⟩⟩
def A1.free{cs:α->List Value}{xs:List α}(h:A1 e size cs w B (.slice (some ⟨g,0,none⟩) n cap) xs)(j:Nat):w.frozen? ⟨g,j,none⟩=false:=by
 obtain⟨c,H,_⟩:=h.row;simp[World.frozen?,H]
def A1.cellAt{cs:α->List Value}(s:∀x,(cs x).length=size){xs:List α}(h:A1 e size cs w B (.slice (some ⟨g,0,none⟩) n cap) xs)(k:Nat)(H:k<xs.length)(i:Nat)(b:i<size):w.cell? ⟨g,k*size+i,none⟩=(cs xs[k])[i]?:=by
 obtain⟨c,d,f,_,_,_,_,j⟩:=h.row;subst f;have l:(k+1)*size<=xs.length*size:=CV _ H;rw[DL]at l;have a:(c.toList.take (xs.length*size))[k*size+i]?=(xs.flatMap cs)[k*size+i]?:=by rw[j]
 rw[EF,AN aa,L8 s xs k H i b]at a;simp[World.cell?,d];simpa using a
theorem lY:∀(Y:List A4)(i:Nat)(x y:Bs),i<Y.length->((Y.flatMap Bc).set (i*2) x).set (i*2+1) y=(Y.set i (x,y)).flatMap Bc
 |[],i,_,_,h=>en
 |f::Y,0,x,y,_=>rfl
 |f::Y,i+1,x,y,h=>by
  have ih:=lY Y i x y ek;rw[KE,BV,BV,<-ih,GE _ _ (by show 2<=_;omega),GE _ _ (by show 2<=_;omega)];have e:(i+1)*2-(Bc f).length=i*2:=by show(i+1)*2-2=_;omega
  have E:(i+1)*2+1-(Bc f).length=i*2+1:=by show(i+1)*2+1-2=_;omega
  rw[e,E]
def Bt.setAt(h:Bt w B (.slice (some ⟨g,0,none⟩) n cap) Y)(i:Nat)(a:i<Y.length)(x y:Bs):Bt ((w.setCell ⟨g,i*2,none⟩ x).setCell ⟨g,i*2+1,none⟩ y) B (.slice (some ⟨g,0,none⟩) n cap) (Y.set i (x,y)):=by
 obtain⟨_,_,b,_⟩:=h.row;subst b;unfold Bt A1 at h|-;have c:=(GP h (i*2) x).1;have H:=(GP c (i*2+1) y).1;rw[lY Y i x y a]at H;rw[FL];exact H
def WG(w:World)(T:TypeId)(g o m c:Nat)(C:Array Value)(d:0<m)(b:w.heap[g]?=some (.cells C 92 (0,0)))(e:o+m*2<=C.size):∃z:List Value,z.length=m*2/\(Builtin.clear_ #[42] T #[.slice (some ⟨g,o,none⟩) m c]).run prog w=.ok (.tuple #[]) (w.setRow g (C.toList.take o++z++C.toList.drop (o+m*2)).toArray):=by
 have H:(Builtin.zeroCells #[Value.string ⟨#[]⟩,Value.string ⟨#[]⟩] m).toList.length=m*2:=by simp[Builtin.zeroCells]
 refine⟨(Builtin.zeroCells #[Value.string ⟨#[]⟩,Value.string ⟨#[]⟩] m).toList,H,?_⟩;have t:=run_storeCells_at (P:=prog) g o 92 (Builtin.zeroCells #[Value.string ⟨#[]⟩,Value.string ⟨#[]⟩] m).toList 0 C w b (by rw[H];omega) (fun v a=>by
  simp only[Builtin.zeroCells,Array.toList_map,DN]at a;obtain⟨i,_,rfl⟩:=a;have:i%2=0\/i%2=1:=aa
  rcases this with h|h
  ·simp[h];rfl
  simp[h];rfl)
 rw[H]at t;simp only[BI]at t;obtain⟨m,rfl⟩:∃k,m=k+1:=⟨m-1,aa⟩;simp[Builtin.clear_,FI underlying42,Value.cells,t,Result.andThen]
def WH{Q:Exit->Act->World->Prop}{O:Array Oper}{rest:List Oper}{o:Oper}{a:Act}(d:o.guard=none)(x:Operand)
  (b:o.op=.call {callee:=.builtin .clear,args:=#[x],argTypes:=#[42]}) (B g n cap i m c:Nat) (y:List A4) (D:i<n) (f:m=n-i)
  (j:Bt w B (.slice (some ⟨g,0,none⟩) n cap) y) (l:a.eval x=.slice (some ⟨g,i*2,none⟩) m c)
  (h:∀W,Bt W B (.slice (some ⟨g,0,none⟩) i cap) (y.take i)->A5 g w.heap.size w W->wpList prog O Q rest (a.put o.dst (.tuple #[])) W):wpList prog O Q (o::rest) a w:=by
 obtain⟨C,H,E,p,F,q,z,r⟩:=j.row;obtain⟨Z,s,t⟩:=WG w o.type g (i*2) m c C aa H (by rw[z,f];omega);refine JJ d fun K u=>?_
 unfold Oper.wp;simp[execOp,b,resolve,invoke,builtin,l,t,Result.andThen];refine u _ _ (h _ ?_ ?_)
 ·refine A1.mk Af (setRow_heap w g C _ _ _ H) uy p aa q ?_ ?_
  ·simp[s];omega
  have h0:(C.toList.take (n*2)).take (i*2)=(y.flatMap Bc).take (i*2):=by rw[r]
  rw[IS,EX aa]at h0;have v:(y.flatMap Bc).take (i*2)=(y.take i).flatMap Bc:=by
   conv=>lhs;rw[<-CE i y,CZ]
   rw[FW (by rw[Kj Af,CH];omega),CM (by rw[Kj Af,CH];omega)]
  rw[<-v,<-h0];have G:(C.toList.take (i*2)).length=i*2:=by rw[CH,Array.length_toList,z];omega
  show List.take (i*2) (List.take (i*2) C.toList++(Z++List.drop (i*2+m*2) C.toList))=List.take (i*2) C.toList;rw[FW aa,CM aa]
 exact⟨rfl,rfl,rfl,by simp[World.setRow],fun k _ A=>by simp[World.setRow,GG];intro e;exact absurd e.symm A⟩
theorem lZ(l:List A4):C8 l=l.filter fun f=>!(Ie f):=rfl
theorem mA(p:A4->Bool):∀(l:List A4)(k:Nat),(Lh p l k=-1/\(l.filter fun f=>!(p f))=l)\/∃j,j<l.length/\Lh p l k=((k+j:Nat):Int)/\(l.filter fun f=>!(p f))=l.take j++((l.drop (j+1)).filter fun f=>!(p f))
 |[],k=>Or.inl ⟨rfl,rfl⟩
 |f::l,k=>by
  unfold Lh;cases h:p f with
  |true=>
   refine Or.inr ⟨0,ah,ah,?_⟩;simp[h]
  |false=>
   rcases mA p l (k+1)with⟨a,H⟩|⟨j,a,H,b⟩
   ·refine Or.inl ⟨xu,?_⟩;simp only[DB,h,EN,DK,H]
   refine Or.inr ⟨j+1,ag,?_,?_⟩
   ·simp only[CC,DM,H];omega
   simp only[DB,h,EN,DK,b];rfl
def WI(v:Value)(l:List A4)(B:Nat)(w:World)(h:Bt w B v l)(p:Nk l)(F:Gr w)(b1:3<B):Calls prog 193 #[v,.func (.func 195) #[] #[]] w fun e t=>∃V,e=.returned V/\Bt t B V (C8 l)/\(Below w.heap.size w t\/∃g,B<=g/\A5 g w.heap.size w t):=by
 have hI:=WD v l w (A1.rd ae Af h) p F;have b2:=p.1;have Z:=AE p.2;clear p;rcases mA Ie l 0 with⟨k,m⟩|⟨n,b3,k,m⟩
 ·rw[k]at hI;have N:=AE (show C8 l=l from m);clear k m;go_enter func193,ntmps193;go_wp2_with fail;with_reducible refine hI.mono ?_
  rintro e w1⟨rfl,a⟩;go_wp2;go_ret;exact⟨_,rfl,by rw[N.o];exact A1.next h a,Or.inl a⟩
 rw[k,EQ]at hI;have H:=AE (show C8 l=l.take n++C8 (l.drop (n+1))from m);clear k m;obtain⟨g,c,q⟩:∃g c,v=.slice (some ⟨g,0,none⟩) l.length c:=by
  rcases h.2 with⟨q,h0⟩|⟨g,c,b4,q,_⟩
  ·omega
  exact⟨g,c,q⟩
 subst q;obtain⟨_,_,_,a0,b5,_,_,_⟩:=h.row;go_enter func193,ntmps193;go_wp2_with fail;with_reducible refine hI.mono ?_
 rintro e w1⟨rfl,a⟩;have h:=A1.next h a;have b6:((n:Int)==-1)=false:=di
 clear hI;go_wp2_with fail;go_loopw[5,6] (fun iv u wr=>∃(i j:Nat)(Y:List A4),iv=i/\u=j/\i<j/\j<=l.length/\Y.length=l.length/\Bt wr B (.slice (some ⟨g,0,none⟩) l.length c) Y/\Hid (C8 l=Y.take i++C8 (l.drop j))/\Hid (Y.drop j=l.drop j)/\Gr wr/\A5 g w.heap.size w wr) (fun _ u _=>l.length-(intOf u).toNat)
 case atStart=>exact⟨n,n+1,l,rfl,aj,aa,aa,rfl,h,H,AE rfl,F.next a,A5.of a⟩
 clear h H;obtain⟨i,j,Y,rfl,rfl,b7,hj,I,h,H,r,a1,O⟩:=hrel;by_cases L:j<l.length
 ·have M:Y[j]' aa=l[j]:=by
   have d:=CI (fun z:List A4=>z[0]?) r.o;simp only[IT,BI]at d;rw[BC L,BC aa]at d;exact CU d
  have D:=Z.o l[j] (AQ _);have C:=A1.cellAt Af h j aa 0 ae;have s:=A1.cellAt Af h j aa 1 ae;have P:=A1.cellAt Af h i aa 0 ae;have Q:=A1.cellAt Af h i aa 1 ae;rw[M]at C s;have J:=AE (show C8 (l.drop j)=if Ie l[j]then C8 (l.drop (j+1))else l[j]::C8 (l.drop (j+1))from by
   rw[AH L,lZ,lZ,DB];cases Ie l[j]<;>rfl)
  have E:=AE (show Y.drop (j+1)=l.drop (j+1)from by
   have d:=CI (List.drop 1) r.o;rw[ET,ET]at d;exact d)
  clear M;generalize l[j]=f at D C s J;obtain⟨x,y⟩:=f;simp only[Bc,BI,AU,AR]at D C s P Q;have K:=A0.new wr #[x,y] 92;have A:=(AG wr.heap.size wr).alloc (AF _) (.cells #[x,y] 92);have G:=fun W hW=>lV x y W D.1 hW
  generalize a2:Ie (x,y)=bg at G J;have R:=O.next A O.size;have S:=a1.next A;have h:=A1.next h A;have i0:(0:Int)<=i:=aa
  have i1:(i:Int)<l.length:=aa
  have i2:(0:Int)<=j:=aa
  have i3:(j:Int)<l.length:=aa
  clear a2;have T:=K.cell;go_wp2_with fail;with_reducible refine(G _ S).mono ?_
  rintro e w3⟨rfl,o⟩;have K:=K.next o K.lt;have h:=A1.next h o;have U:=R.next o R.size;have X:=S.next o;clear G o A T;cases bg with
  |true=>
   have N:=AE (by rw[H.o,J.o];rfl:C8 l=Y.take i++C8 (l.drop (j+1)));clear H J;go_wp2;go_roundw
   case rel=>exact⟨i,j+1,Y,rfl,aj,aa,aa,I,h,N,E,X,U⟩
   simp[intOf];omega
  |false=>
   have a3:=A1.cellAt Af h i aa 0 ae;have a4:=A1.cellAt Af h i aa 1 ae;simp only[Bc,BI,AU,AR]at a3 a4;have b8:=A1.free h;have T:=K.cell;have a5:=Bt.setAt h i aa x y;have N:=AE (show C8 l=(Y.set i (x,y)).take (i+1)++C8 (l.drop (j+1))from by
    rw[H.o,J.o,AZ (by rw[FL];omega),JI,List.take_set_of_le (AF i)];simp)
   have a6:=AE (by rw[<-E.o,List.drop_set_of_lt aa]:(Y.set i (x,y)).drop (j+1)=l.drop (j+1));have a7:Gr ((w3.setCell ⟨g,i*2,none⟩ x).setCell ⟨g,i*2+1,none⟩ y):=X.keep fun b hb=>(D3 _ _ _ b ai).trans (D3 _ _ _ b ai)
   have a8:=(U.set (j:=i*2) x).set (j:=i*2+1) y;clear H J C s P Q r E h;go_wp2;go_roundw
   case rel=>exact⟨i+1,j+1,Y.set i (x,y),aj,aj,aa,aa,by rw[FL];exact I,a5,N,a6,a7,a8⟩
   simp[intOf];omega
 obtain rfl:j=l.length:=aa
 have N:=AE (by rw[H.o,AS];simp[C8]:C8 l=Y.take i);have i1:(i:Int)<l.length:=aa
 have i2:(i:Int)<=c:=aa
 have i3:¬(c=i):=aa
 have i4:(0:Int)<=i:=aa
 clear H r;go_wp2_with(refine WH ca _ ca B g l.length c i (l.length-i) (c-i) Y aa rfl h ca ?_;intro w4 a9 b0);go_wp2;go_ret;exact⟨_,rfl,by rw[N.o];exact a9,Or.inr ⟨g,a0,O.trans (b0.mono O.size)⟩⟩
def Jw(r:Nat):Bool:=r !=9&&(decide (r<32)||decide (126<r))
def WJ(r:Nat)(h:128<=r):Jw r=true:=by
 unfold Jw;rw[BH (show 126<r by omega)];have:(r !=9)=true:=gi
 rw[this];simp
def WK:((List.range 256).all fun n=>Nq n.toUInt8==!(Jw n.toUInt8.toNat))=true:=af
def WL(c:UInt8):Nq c=!(Jw c.toNat):=by
 have:=AW.1 WK c.toNat (BT.2 c.toNat_lt);rw[Rl]at this;exact BL.1 this
def WM(s:Bs):Js s=!((replaceAll s [13,10] []).any fun c=>Jw c.toNat):=by
 unfold Js;rw[List.not_any_eq_all_not];congr 1;funext c;exact WL c
def WN(r:Nat)(b:r<=1114111)(w:World):Calls prog 305 #[.int .i32 (r:Int)] w fun e W=>e=.returned (.bool (Jw r))/\w=W:=by
 by_cases h0:r=9
 ·subst h0;go_enter func305,ntmps305;go_wp2;go_ret;exact⟨Bm rfl,rfl⟩
 have h:(r !=9)=true:=by rw[DD];exact h0
 have E:((r:Int)!=9)=true:=gi
 by_cases H:r<32
 ·have B:=AE (by unfold Jw;rw[BH H,h];rfl:Jw r=true);have H:(r:Int)<32:=by omega
  clear h0 h;go_enter func305,ntmps305;go_wp2;go_ret;exact⟨Bm B.o.symm,rfl⟩
 by_cases a:126<r
 ·have B:=AE (by unfold Jw;rw[BH a,h];simp:Jw r=true);have H:¬(r:Int)<32:=by omega
  have a:(126:Int)<r:=aa
  clear h0 h;go_enter func305,ntmps305;go_wp2;go_ret;exact⟨Bm B.o.symm,rfl⟩
 have B:=AE (by unfold Jw;rw[AY a,AY H,h];rfl:Jw r=false);have H:¬(r:Int)<32:=aa
 have a:¬(126:Int)<r:=aa
 clear h0 h;go_enter func305,ntmps305;go_wp2;go_ret;exact⟨Bm B.o.symm,rfl⟩
def WO(w:World):PredGrows prog 305 #[] Jw w:=fun W x h _=>
 (WN x h W).mono fun _ _⟨H,a⟩=>⟨H,a▸AG _ _⟩
def WP(s:Bs)(w:World)(f:s.length<=4000000000)(g:Gr w):Calls prog 267 #[s] w fun e a=>e=.returned (.bool (Js s))/\Below w.heap.size w a:=by
 obtain⟨m,b⟩:=g.g.maxLen;have h:=Tryz.strings_ReplaceAll ⟨s.toArray⟩ ⟨#[13,10]⟩ ⟨#[]⟩ m w (by show s.length<_;omega) b ae (by show s.length+_*0<=_;omega);have H:=AE (WM s);have h:Calls prog 304 #[s,.string ⟨#[13,10]⟩,.string ⟨#[]⟩] w fun e a=>e=.returned (replaceAll s [13,10] [])/\Below w.heap.size w a:=h
 generalize replaceAll s [13,10] []=t at h H;have hC:=fun W=>Yr 305 (DU func305 af rfl) Jw WJ t #[] W (WO W)
 generalize(t.any fun c=>Jw c.toNat)=q at hC H;clear b g;go_enter func267,ntmps267;go_wp2_with fail;with_reducible refine h.mono ?_
 rintro e i⟨rfl,B⟩;go_wp2_with fail;with_reducible refine(hC _).mono ?_
 rintro e j⟨rfl,d⟩;go_wp2;go_ret;exact⟨Bm ix,B.trans (d.mono B.size)⟩
def mB(h:Js s=true):Cv s=(Kl,s):=by unfold Cv;rw[AN h]
def mC(h:Js s=false)(H:(E5 s).length<=(Dn s).length):Cv s=(I2,E5 s):=by unfold Cv;rw[AL ko,AN H]
def mD(h:Js s=false)(H:¬(E5 s).length<=(Dn s).length):Cv s=(Jq,Dn s):=by unfold Cv;rw[AL ko,AL H]
def mE(s:Bs):(Cv s).1.length<=16/\(Cv s).2.length<=6*s.length:=by
 unfold Cv;have h:=Q4 s;have H:=Y7 s;split
 ·exact⟨show Kl.length<=16 by decide,ai⟩
 split
 ·exact⟨show I2.length<=16 by decide,h⟩
 exact⟨show Jq.length<=16 by decide,H⟩
def WQ(s:Bs)(w:World)(j:s.length<=4000000000)(l:Gr w):Calls prog 196 #[s] w fun e m=>e=.returned (.tuple #[.string ⟨(Cv s).1.toArray⟩,.string ⟨(Cv s).2.toArray⟩])/\Below w.heap.size w m:=by
 have P:=WP s w j l;have c:=AE (fun h=>mB (s:=s) h);have H:=AE (fun h d=>mC (s:=s) h d);have a:=AE (fun h d=>mD (s:=s) h d);have Q:=fun W=>dR s W aa
 have K:=fun W=>eP s W aa
 have n:=Q4 s;have o:=Y7 s;generalize Js s=b at P c H a;generalize Cv s=z at c H a|-;generalize E5 s=q at Q n H a;generalize Dn s=k at K o H a;go_enter func196,ntmps196;go_wp2_with fail;with_reducible refine P.mono ?_
 rintro e x⟨rfl,B⟩;cases b with
 |true=>
  have N:=AE (c.o rfl);go_wp2;go_ret2;exact⟨ay,B⟩
 |false=>
  have p:=AE (H.o rfl);have r:=AE (a.o rfl);clear c H a;go_wp2_with fail;with_reducible refine(Q _).mono ?_
  rintro e y⟨rfl,t⟩;have f:=B.trans (t.mono B.size);go_wp2_with fail;with_reducible refine(K _).mono ?_
  rintro e A⟨rfl,u⟩;have g:=f.trans (u.mono f.size);by_cases i:q.length<=k.length
  ·have N:=AE (p.o i);have v:(q.length:Int)<=k.length:=by omega
   go_wp2;go_ret2;exact⟨ay,g⟩
  have N:=AE (r.o i);have v:¬(q.length:Int)<=k.length:=aa
  go_wp2;go_ret2;exact⟨ay,g⟩
def E0{α:Type}(p:α->Bool):List α->Nat->Int
 |[],_=>-1
 |f::l,k=>if p f then k else E0 p l (k+1)
theorem X4{α:Type}(p:α->Bool):∀(l:List α)(k:Nat),decide (0<=E0 p l k)=l.any p
 |[],_=>rfl
 |f::l,k=>by
  unfold E0;cases h:p f with
  |true=>simp[h]
  |false=>
   have:=X4 p l (k+1);simp only[CC,DM,GB,h,JX];exact this
def WR(g C:Nat)(E:∀A w,(callFunc g A).run prog w=.ok (.enter g A) w)(p:Bs->Bool)(v:Value)(l:List Bs)(w:World)(r:F9 1 Bl w v l)(y:l.length<=1000000000000)
  (f:∀x∈l,∀W,Below w.heap.size w W->Calls prog g #[.string ⟨x.toArray⟩,.pointer (some ⟨C,0,none⟩)] W fun e c=>e=.returned (.bool (p x))/\Below W.heap.size W c):
  Calls prog 306 #[v,.func (.func g) #[] #[.pointer (some ⟨C,0,none⟩)]] w fun e c=>e=.returned (.int .i64 (E0 p l 0))/\Below w.heap.size w c:=by
 obtain⟨a,z,rfl,j⟩:=r.opens By;have o:=AE j;have P:=AE f;clear j r f;go_enter func306,ntmps306;go_wp2_with fail;go_loopw[8] (fun i wr=>∃k:Nat,i=k/\k<=l.length/\Hid (E0 p l 0=E0 p (l.drop k) k)/\Below w.heap.size w wr) (fun i _=>l.length-(intOf i).toNat)
 case atStart=>exact⟨0,rfl,aa,AE ah,AG _ _⟩
 obtain⟨k,rfl,D,d,B⟩:=hrel;by_cases t:k<l.length
 ·obtain⟨b,rfl,q,m⟩:=o.o k t;have h:=AE (ir:E0 p (l.drop k) k=if p l[k]then(k:Int)else E0 p (l.drop (k+1)) (k+1));have s:wr.cell? ⟨b,k,none⟩=some (l[k]):=by
   have:=(B.cell (p:=⟨b,k*1+0,none⟩) q).trans (m 0 ae);simpa[Bl]using this
  have G:=P.o _ (AQ t) wr B;clear m;generalize l[k]=x at h s G;generalize p x=u at G h;go_wp2_with fail;with_reducible refine G.mono ?_
  rintro e F⟨rfl,n⟩;have B:=B.trans (n.mono B.size);clear n G;cases u with
  |true=>
   have H:=AE (by rw[d.o,h.o];rfl:E0 p l 0=(k:Int));go_wp2;go_ret;exact⟨Fg ix,B⟩
  |false=>
   have H:=AE (by rw[d.o,h.o];rfl:E0 p l 0=E0 p (l.drop (k+1)) (k+1));go_wp2;go_roundw
   case rel=>exact⟨k+1,aj,aa,H,B⟩
   simp[intOf];omega
 obtain rfl:k=l.length:=aa
 have H:=AE (oq:E0 p l 0=-1);go_wp2;go_ret;exact⟨Fg ix,B⟩
def WS(g c:Nat)(E:∀A w,(callFunc g A).run prog w=.ok (.enter g A) w)(p:Bs->Bool)(v:Value)(l:List Bs)(w:World)(h:F9 1 Bl w v l)(n:l.length<=1000000000000)
  (H:∀x∈l,∀W,Below w.heap.size w W->Calls prog g #[.string ⟨x.toArray⟩,.pointer (some ⟨c,0,none⟩)] W fun e a=>e=.returned (.bool (p x))/\Below W.heap.size W a):
  Calls prog 270 #[v,.func (.func g) #[] #[.pointer (some ⟨c,0,none⟩)]] w fun e a=>e=.returned (.bool (l.any p))/\Below w.heap.size w a:=by
 have hI:=WR g c E p v l w h n H;have N:=AE (X4 p l 0);generalize E0 p l 0=k at hI N;clear H E h;go_enter func270,ntmps270;go_wp2_with fail;with_reducible refine hI.mono ?_
 rintro e d⟨rfl,b⟩;go_wp2;go_ret;exact⟨Bm (by rw[<-N.o]),b⟩
def WT(x b:Bs)(c:Nat)(w:World)(h:x.length<4294967281)(a:b.length<=1000000)(d:w.cell? ⟨c,0,none⟩=some b)(H:Gr w):Calls prog 271 #[x,.pointer (some ⟨c,0,none⟩)] w fun e W=>e=.returned (.bool (contains x (45::45::b)))/\Below w.heap.size w W:=by
 have hC:=Qq x (45::45::b) w h H.g;generalize contains x (45::45::b)=q at hC;go_enter func271,ntmps271;go_wp2_with fail;with_reducible refine hC.mono ?_
 rintro e f⟨rfl,rfl⟩;go_wp2;go_ret;exact⟨rfl,AG _ _⟩
theorem Ud{n:Nat}:∀{l:List Bs},(∀x∈l,x.length<=n)->Bk l<=l.length*n
 |[],_=>uh
 |x::l,h=>by
  have a:=h x ah;have b:=Ud (l:=l) fun y H=>h y je
  have e:Bk (x::l)=x.length+Bk l:=uh
  rw[e,AK,DL];omega
def WU(v:Value)(l:List Bs)(w:World)(r:F9 1 Bl w v l)(E:l.length<=1000000)(H:∀x∈l,x.length<=4000000000)(m:Gz w):Calls prog 197 #[v] w fun e G=>e=.returned (Cu l)/\Below w.heap.size w G:=by
 have o:=Ud H;have U:Bk l<=4000000000000000:=AV o (by have:=CV 4000000000 E;omega);have X:=AE H;have R:=AE r;have T:=AE (ca:Ja [45,45,98] l=It (fun n=>!Dv [45,45,98] l n) (20*(Bk l+l.length+1)) 0);have J:=AE (ca:Cu l=98::itoa (Ja [45,45,98] l));clear H r o;go_enter func197,ntmps197;go_wp2_with fail;go_loopw[3] (fun i wr=>∃k f:Nat,i=k/\k+f=20*(Bk l+l.length+1)/\Hid (Ja [45,45,98] l=It (fun n=>!Dv [45,45,98] l n) f k)/\Hid (∀j,j<k->Dv [45,45,98] l j=true)/\Below w.heap.size w wr) (fun i _=>20*(Bk l+l.length+1)-(intOf i).toNat)
 case atStart=>exact⟨0,_,rfl,aa,T,AE (fun j h=>aa),AG _ _⟩
 clear T;obtain⟨k,f,rfl,V,F,A,B⟩:=hrel;have Y:=Tt _ _ k A.o;obtain⟨f,rfl⟩:∃n,f=n+1:=⟨f-1,aa⟩;have hI:=Fj (k:Int) aa aa wr (m.next B);have L:=BE (k:Int) aa aa;have d:=AE (ca:Dv [45,45,98] l k=l.any (fun s=>contains s (45::45::(98::itoa (k:Int)))));have O:=AE (show Dv [45,45,98] l k=false->Cu l=98::itoa (k:Int)from fun h=>by
  rw[J.o,F.o,fU iy])
 generalize itoa (k:Int)=I at hI L d O;go_wp2_with fail;with_reducible refine hI.mono ?_
 rintro e a⟨rfl,p⟩;have t:=B.trans (p.mono B.size);have K:=A0.new a #[(98::I:Bs)] 9;have u:=(AG a.heap.size a).alloc (AF _) (.cells #[(98::I:Bs)] 9);have b:=t.trans (u.mono t.size);have M:=m.next b;have hC:=WS 271 a.heap.size (DU func271 af rfl) (fun s=>contains s (45::45::(98::I))) v l (a.alloc (.cells #[(98::I:Bs)] 9)) (R.o.next b) aa (fun x H W y=>WT x (98::I) a.heap.size W (by have:=X.o x H;omega) ag ((K.next y K.lt).cell 0) (M.next y).r);rw[<-d.o]at hC;generalize z:Dv [45,45,98] l k=q at hC O;have c:=AE z;have P:=K.cell;clear z d hI p u;go_wp2_with fail;with_reducible refine hC.mono ?_
 rintro e Z⟨rfl,g⟩;have Q:=K.next g K.lt;have C:=b.trans (g.mono b.size);have a0:=Q.cell;clear hC g P;cases q with
 |true=>
  have N:=AE (by rw[F.o,fT (by rw[c.o];rfl)]:Ja [45,45,98] l=It (fun n=>!Dv [45,45,98] l n) f (k+1));have S:=AE (show∀j,j<k+1->Dv [45,45,98] l j=true from fun j h=>by
   rcases CL j k with D|D
   ·exact A.o j D
   obtain rfl:j=k:=aa
   exact c.o)
  clear F A O c;go_wp2;go_roundw
  case rel=>exact⟨k+1,f,aj,aa,N,S,C⟩
  simp[intOf];omega
 |false=>
  have N:=AE (O.o rfl);clear F A O c;go_wp2;go_ret;exact⟨ay,C⟩
def Zm.get{e:Ending}(h:Zm B (Ay s) e w'):∃m p k E,e=.returned (.tuple #[.string ⟨m.toArray⟩,k,E])/\Kq w' B k p/\(Ay s).getD ([],[])=(m,p)/\m.length<=s.length/\Dw s.length p/\(Ay s=none/\E=.iface 30 (.int .i64 3)\/Ay s=some (m,p)/\E=.nilIface):=by
 rcases h with⟨m,l,v,H,a,b⟩|⟨H,a⟩
 ·have n:=Ql H;exact⟨m,l,v,_,a,b,uq,n.1,n.2,Or.inr ⟨H,rfl⟩⟩
 exact⟨[],[],_,_,a,A1.nil _ _ _ _ _,uq,ah,⟨ah,fun f c=>by cases c⟩,Or.inl ⟨H,rfl⟩⟩
theorem mF:∀(Y:List A4)(i:Nat)(y:Bs)(h:i<Y.length),(Y.flatMap Bc).set (i*2+1) y=(Y.set i ((Y[i]).1,y)).flatMap Bc
 |[],i,_,h=>en
 |f::Y,0,y,_=>rfl
 |f::Y,i+1,y,h=>by
  have ih:=mF Y i y ek;rw[KE,BV,BV,List.getElem_cons_succ,<-ih,GE _ _ (by show 2<=_;omega)];have e:(i+1)*2+1-(Bc f).length=i*2+1:=by show(i+1)*2+1-2=_;omega
  rw[e]
def A1.X5{e:TypeId}(h:A1 e 2 Bc w B (.slice (some ⟨g,0,none⟩) n cap) Y)(i:Nat)(a:i<Y.length)(y:Bs):A1 e 2 Bc (w.setCell ⟨g,i*2+1,none⟩ y) B (.slice (some ⟨g,0,none⟩) n cap) (Y.set i ((Y[i]).1,y)):=by
 obtain⟨_,_,b,_⟩:=h.row;subst b;unfold A1 at h|-;have H:=(GP h (i*2+1) y).1;rw[mF Y i y a]at H;rw[FL];exact H
def mG{n:Bs}(H:k<ps.length)(h:ps[k].1≠n)(s:Cs ps n b=ps.take k++Cs (ps.drop k) n b):Cs ps n b=ps.take (k+1)++Cs (ps.drop (k+1)) n b:=by
 rw[s,AH H];conv=>lhs;rw[Cs,AL h]
 rw[AZ H,AP];rfl
def mH{n:Bs}(H:k<ps.length)(h:ps[k].1=n)(s:Cs ps n b=ps.take k++Cs (ps.drop k) n b):Cs ps n b=ps.set k ((ps[k]).1,b):=by
 rw[s,AH H];conv=>lhs;rw[Cs,AN h]
 rw[FG,AN H]
theorem aW(n b:Bs):∀p:List A4,(Cs p n b).length=p.length
 |[]=>rfl
 |f::p=>by unfold Cs;split<;>simp[aW n b p]
def aX{n:Bs}(c:b.length<=N):∀{p:List A4},Dw N p->Dw N (Cs p n b):=fun{p}h=>by
 refine⟨by rw[aW];exact h.1,?_⟩;have a:=h.2;clear h;induction p with
 |nil=>intro f H;cases H
 |cons g p ih=>
  intro f H;unfold Cs at H;split at H
  ·rcases CG.1 H with rfl|H
   ·exact⟨(a g ah).1,c⟩
   exact a f je
  rcases CG.1 H with rfl|H
  ·exact a _ ah
  exact ih (fun f H=>a f je) f H
def WV(v b:Bs)(w:World)(Y:v.length<=1000000)(Z:b.length<=1000000)(E:Gr w):Calls prog 198 #[v,b] w fun e w'=>e=.returned (Fa v b)/\Below w.heap.size w w':=by
 have R:=Qr v w aa E.g;have N:=AE (ca:Fa v b=(Cl ((Ay v).getD ([],[])).1 (Cs ((Ay v).getD ([],[])).2 Ch b)).getD []);go_enter func198,ntmps198;go_wp2_with fail;refine R.mono ?_;rintro e w1⟨l,F⟩;obtain⟨m,P,kv,a6,rfl,H,I,a7,s,_⟩:=l.get;clear l R;rw[I]at N;have T:=E.next F;have s:=s.mono Y;have A:=fun W U(J:List A4)(h1:Cq W U J)(C:Dw 1000000 J)(K:Cj W)=>aM m U J W h1 aa C.1 C.2 K
 have V:=AE (ah:Cs P Ch b=P.take 0++Cs (P.drop 0) Ch b);clear I;obtain⟨X,kn,a0,rfl⟩:∃a n c,kv=.slice a n c:=by
  obtain⟨a,c,h,_⟩:=A1.rd ae Af H;exact⟨a,_,c,h⟩
 have a1:kn=P.length:=by
  obtain⟨a,c,h,_⟩:=A1.rd ae Af H;injection h
 subst a1;have a8:=s.1;go_wp2_with fail;go_loopw[19] (fun i wr=>∃k:Nat,i=k/\k<=P.length/\Kq wr w.heap.size (.slice X P.length a0) P/\Hid (Cs P Ch b=P.take k++Cs (P.drop k) Ch b)/\Gr wr/\Below w.heap.size w wr) (fun i _=>P.length-(intOf i).toNat)
 case atStart=>exact⟨0,rfl,aa,H,V,T,F⟩
 clear H V T F;obtain⟨k,rfl,I,H,S,L,B⟩:=hrel;by_cases t:k<P.length
 ·obtain⟨g,a2⟩:∃g,X=some ⟨g,0,none⟩:=by
   obtain⟨a,c,h,C⟩:=Cq.open (A1.rd ae Af H);injection h with h _ _;obtain⟨b,K,_⟩:=C k t;exact⟨b,h.trans K⟩
  subst a2;have M:=A1.cellAt Af H k t 0 ae;have O:=A1.cellAt Af H k t 1 ae;have a9:=A1.free H;have a3:=A1.Ha H g rfl;have u:=H.X5 k t b;have G:=AE (fun h=>mG (n:=Ch) (b:=b) t h S.o);have j:=AE (fun h=>mH (n:=Ch) (b:=b) t h S.o);simp only[Bc,BI,AU,AR]at M O;generalize P[k]=f at M O u G j;obtain⟨x,y⟩:=f;simp only at M O u G j;by_cases q:x=Ch
  ·have j:=AE (j.o q);have a4:(x==[98,111,117,110,100,97,114,121])=true:=by rw[BL];exact q
   have a5:Gr (wr.setCell ⟨g,k*2+1,none⟩ b):=L.keep fun c hc=>D3 _ _ _ c (by have:=E.size;simp only;omega)
   have D:=B.setCell (p:=⟨g,k*2+1,none⟩) a3 b;have r:=A1.rd ae Af u;rw[<-j.o]at r;have Q:=A _ _ _ r (aX Z s) a5.g;clear G j S q A u H r;go_wp2_with fail;with_reducible refine Q.mono ?_
   rintro e w3⟨l,z⟩;rcases l with⟨o,d,rfl⟩|⟨ev,d,rfl,_⟩
   ·have N:=AE (by rw[N.o,d];rfl:Fa v b=o);clear d;go_wp2;go_ret;exact⟨Hz N.o.symm,D.trans (z.mono D.size)⟩
   have N:=AE (by rw[N.o,d];rfl:Fa v b=[]);clear d;go_wp2;go_ret;exact⟨Hz N.o.symm,D.trans (z.mono D.size)⟩
  have G:=AE (G.o q);have a4:(x==[98,111,117,110,100,97,114,121])=false:=by rw[AI];exact q
  clear j q S u;go_wp2;go_roundw
  case rel=>exact⟨k+1,aj,aa,H,G,L,B⟩
  simp[intOf];omega
 obtain rfl:k=P.length:=aa
 have j:=AE (by rw[S.o,CY,AS];simp[Cs]:Cs P Ch b=P);have r:=A1.rd ae Af H;have Q:=A _ _ _ r s L.g;rw[j.o]at N;clear j S A H r;go_wp2_with fail;with_reducible refine Q.mono ?_
 rintro e w3⟨l,z⟩;rcases l with⟨o,d,rfl⟩|⟨ev,d,rfl,_⟩
 ·have N:=AE (by rw[N.o,d];rfl:Fa v b=o);clear d;go_wp2;go_ret;exact⟨Hz N.o.symm,B.trans (z.mono B.size)⟩
 have N:=AE (by rw[N.o,d];rfl:Fa v b=[]);clear d;go_wp2;go_ret;exact⟨Hz N.o.symm,B.trans (z.mono B.size)⟩
theorem Ue:∀(b:Bs)(n:Nat),(Dm b n).length<=2*b.length+6
 |[],_=>by simp[Dm]
 |[a],_=>by simp[Dm,Gt]
 |[a,b],_=>by simp[Dm,Gt]
 |a::b::c::l,n=>by
  unfold Dm;split
  ·have:=Ue l 0;simp[Gt];omega
  have:=Ue l (n+4);simp[Gt];omega
theorem mI(s:Bs):(Cv s).2.length<=2*s.length+6:=by
 unfold Cv;have H:=Ue s 0;have a:Dn s=Dm s 0:=rfl;split
 ·simp only;omega
 split
 ·rename_i h;rw[a]at h;exact AV h H
 rw[a];exact H
theorem mJ:∀(l:List A4)(o:Bs),G0 l=some o->o.length<=7*Az l
 |[],o,h=>by cases h;simp
 |f::l,o,h=>by
  unfold G0 at h;split at h
  ·cases H:G0 l with
   |none=>rw[H]at h;cases h
   |some O=>
    rw[H]at h;simp only[JD,GZ]at h;subst h;have a:=eH (f.1++58::32::Gf f) (f.2.drop (Gf f).length);have b:=mJ l O H;have c:(Gf f).length<=f.2.length:=by have:=Oc f.2 [32];unfold Gf;omega
    rw[AJ,Hp];simp at a;omega
  cases h
def Sr(h:D7 l=some o):o.length<=7*Az l+2:=by
 unfold D7 at h;simp only[BM]at h;obtain⟨O,H,rfl⟩:=h;have:=mJ _ _ H;simp;omega
theorem X6(p:A4->Bool):∀l:List A4,Az (l.filter p)<=Az l
 |[]=>AF _
 |f::l=>by
  have:=X6 p l;rw[DB,Hp];split
  ·rw[Hp];omega
  omega
theorem mK:∀(k:Nat)(rest:Bs)(l:List A4),Ia k rest=some l->Az l<=rest.length
 |0,_,_,h=>ee
 |k+1,rest,l,h=>by
  unfold Ia at h;cases H:Hk rest with
  |none=>rw[H]at h;cases h
  |some x=>
   obtain⟨f,r⟩:=x;rw[H]at h;have e:=Ym H;cases r with
   |nil=>simp only at h;cases h;rw[Hp];simp[Az];omega
   |cons c R=>
    simp only at h;split at h
    ·simp only[BM]at h;obtain⟨L,a,rfl⟩:=h;have:=mK k R L a;rw[Hp];simp at e;omega
    cases h
def mL(h:Ay s=some (m,l)):Az l<=s.length:=by
 unfold Ay at h;simp only at h;split at h
 ·simp only[BM]at h;obtain⟨L,H,a⟩:=h;cases a;split at H
  ·have:=mK _ _ _ H;have:=Oc s [59];omega
  cases H;simp[Az]
 cases h
def mM(s:Bs):((Ay s).getD ([],[])).1.length<=s.length/\Az ((Ay s).getD ([],[])).2<=s.length:=by
 cases h:Ay s with
 |none=>simp[Az]
 |some x=>
  obtain⟨m,l⟩:=x;exact⟨(Ql h).1,mL h⟩
def WW(v:Bs):(v.flatMap E8).length<=2*v.length:=by
 induction v with
 |nil=>simp
 |cons c v ih=>
  have:(E8 c).length<=2:=by unfold E8;split<;>(try split)<;>simp
  rw[BV,AJ,AK];omega
def mN(v:Bs):(Dc v).length<=2*v.length+2:=by
 have:=WW v;unfold Dc;split
 ·omega
 rw[AK,AJ];show _+1+1<=_;omega
theorem mO:∀(l:List A4)(o:Bs),Ee l=some o->o.length<=5*Az l
 |[],o,h=>by cases h;simp
 |p::l,o,h=>by
  unfold Ee at h;cases H:Hm p with
  |none=>rw[H]at h;cases h
  |some x=>
   rw[H]at h;simp only[BM]at h;obtain⟨O,a,rfl⟩:=h;have b:=mO l _ a;have c:x.length<=5*(p.1.length+p.2.length+1):=by
    unfold Hm at H;split at H
    ·cases H;have:=mN p.2;simp;omega
    cases H
   rw[AJ,Hp];omega
def mP(h:Cl m l=some o):o.length<=m.length+5*Az l:=by
 unfold Cl at h;simp only at h;split at h
 ·simp only[BM]at h;obtain⟨O,H,rfl⟩:=h;have:=mO _ _ H;simp;omega
 cases h
theorem mQ(n b:Bs):∀l:List A4,Az (Cs l n b)<=Az l+b.length
 |[]=>by simp[Cs,Az]
 |f::l=>by
  unfold Cs;have:=mQ n b l;split<;>(simp only[Hp];omega)
def WX(v b:Bs):(Fa v b).length<=6*v.length+5*b.length:=by
 unfold Fa;have H:=mM v;have a:=mQ Ch b ((Ay v).getD ([],[])).2;simp only;cases h:Cl ((Ay v).getD ([],[])).1 (Cs ((Ay v).getD ([],[])).2 Ch b)with
 |none=>simp
 |some o=>have:=mP h;simp only[DA];omega
theorem aY(b:Bs):∀l:List A4,Az (Eg l b)<=6*Az l+5*b.length
 |[]=>by simp[Eg,Az]
 |f::l=>by
  unfold Eg;have h:=WX f.2 b;have H:=aY b l;split
  ·simp only[Hp];omega
  simp only[Hp];omega
def X7(l:List A4):Az (C8 l)<=Az l:=X6 _ l
def He:Nat->A7->Prop
 |0,_=>False
 |n+1,.mk h b _ P=>Az h<=120000/\b.length<=40000000/\P.length<=1000000/\∀p∈P,He n p
def aZ(l:List Bs)(H:l.length<=1000000)(h:∀x∈l,x.length<=4000000000):(Cu l).length<=22:=by
 have a:=fW [45,45,98] l;have b:=Ud h;have c:l.length*4000000000<=4000000000000000:=aa
 have:=BE (Ja [45,45,98] l:Nat) aa aa;unfold Cu;simp;omega
theorem Uf(b:Bs):∀l:List Bs,(Eo b l).length=Bk l+l.length*(b.length+6)
 |[]=>by simp[Eo,Bk]
 |s::l=>by
  have ih:=Uf b l;have e:Bk (s::l)=s.length+Bk l:=uh
  have E:Eo b (s::l)=(45::45::(b++13::10::(s++[13,10])))++Eo b l:=rfl;rw[e,E,AJ,ih,show(s::l).length*(b.length+6)=l.length*(b.length+6)+(b.length+6)from DL _ _];simp;omega
def X8(w l:Nat)(r:Except Int (Bs×Nat))(e:Ending)(w':World):Prop:=(∃s n,r=.ok (s,n)/\n<l/\s.length<=(l-n)*100000000/\e=.returned (.tuple #[.string ⟨s.toArray⟩,.nilIface])/\A0 w' w #[.int .i64 n] 172)\/(∃c s v,r=.error c/\e=.returned (.tuple #[.string s,v])/\Qv w' v c)
def mR(v:Value)(l:List A4)(B:Nat)(w:World)(n:Bt w B v l)(k:Nk l)(H:Gr w)(b:3<B)(a:B<=w.heap.size):Calls prog 193 #[v,.func (.func 195) #[] #[]] w fun e W=>∃V,e=.returned V/\Bt W B V (C8 l)/\Below B w W:=(WI v l B w n k H b).mono fun _ _⟨V,c,d,f⟩=>⟨V,c,d,by
  rcases f with h|⟨g,H,h⟩
  ·exact h.mono a
  exact(h.mono a).shut H⟩
def mS(a p:Option Go.Addr)(n c P b:Nat)(body:Bs)(m:Bool)(W:Nat)(d l:Int)(w:World)(H:A0 w W #[l] 172)(g:0<=l/\l<=40)(i:1<=d/\d<=5)(h:d=5\/l=0):Calls prog 106 #[.pointer (some ⟨W,0,none⟩),.agg #[.slice a n c,body,m,.slice p P b],d] w fun e f=>e=.returned (.tuple #[.string ⟨#[]⟩,.iface 30 (.int .i64 4)])/\A5 W w.heap.size w f:=by
 have k:=H.cell 0;have K:=H.free 0;have s:(w.setCell ⟨W,0,none⟩ (.int .i64 (l-1))).cell? ⟨W,0,none⟩=some (.int .i64 (l-1)):=(H.set 0 _).cell 0;have j:=H.lt;have o:w.heap.size≠W:=aa
 have B:A5 W w.heap.size w (w.setCell ⟨W,0,none⟩ (.int .i64 (l-1))):=(A5.refl _ _ _).set _;by_cases h0:l-1<0
 ·go_enter func106,ntmps106;go_wp2;go_ret2;exact⟨rfl,B.trans (A5.of ((AG _ _).alloc ah _))⟩
 have q:d>4:=aa
 clear h;go_enter func106,ntmps106;go_wp2;go_ret2;exact⟨rfl,B.trans (A5.of ((AG _ _).alloc ah _))⟩
def mT(d l:Nat)(h:List A4)(body:Bs)(ps:List A7):Bh (d+1) (l+1) (.mk h body false ps)=if Ck h=false then .error 1 else match Bo h with
  |none=>.error 1
  |some o=>if o.isSome then .error 1 else if ps≠[]then .error 1 else match Qk h body with
   |none=>.error 1
   |some s=>.ok (s,l):=by
 conv=>lhs;unfold Bh
 split
 ·rfl
 cases Bo h with
 |none=>rfl
 |some o=>cases o<;>cases ps<;>rfl
theorem WY(d l:Nat)(u C:Option Go.Addr)(x D:Nat)(h:List A4)(body:Bs)(ps:List A7)(W:Nat)(E L:Int)(w:World)(a6:Hid (E=5-((d+1:Nat):Int)))(c1:d+1<=4)(a2:Hid (L=((l+1:Nat):Int)))(hl:l+1<=40)(hg:Gz w)(a7:8<W)(q:A0 w W #[L] 172)
  (B:Ba 2 Bc (fun b=>b≠W) w (.slice u h.length x) h) (a8:Az h<=120000) (c2:body.length<=40000000):
  Calls prog 106 #[.pointer (some ⟨W,0,none⟩),.agg #[.slice u h.length x,body,false,.slice C ps.length D],E] w fun e w'=>X8 W (l+1) (Bh (d+1) (l+1) (.mk h body false ps)) e w'/\A5 W w.heap.size w w':=by
 have P:=AE (mT d l h body ps);have c3:1<=L/\L<=40:=uv
 have c4:1<=E/\E<=4:=by have:=a6.o;omega
 have a9:=AE (uv:L-1=(l:Int));have kc:=q.cell 0;have kf:=q.free 0;have b0:(w.setCell ⟨W,0,none⟩ (.int .i64 (L-1))).cell? ⟨W,0,none⟩=some (.int .i64 (L-1)):=(q.set 0 _).cell 0;have c5:=q.lt;have c6:w.heap.size≠W:=aa
 have BO:A5 W w.heap.size w (w.setCell ⟨W,0,none⟩ (.int .i64 (L-1))):=(A5.refl _ _ _).set _;have h0:¬L-1<0:=aa
 have F:=(AG (w.setCell ⟨W,0,none⟩ (.int .i64 (L-1))).heap.size (w.setCell ⟨W,0,none⟩ (.int .i64 (L-1)))).alloc (AF _) (.cells #[.slice u h.length x,body,false,.slice C ps.length D] 44);have H:A0 (w.setCell ⟨W,0,none⟩ (.int .i64 (L-1))) W #[.int .i64 (L-1)] 172:=q.set 0 _;have H:=H.next F H.lt;have p:=A0.new (w.setCell ⟨W,0,none⟩ (.int .i64 (L-1))) #[.slice u h.length x,body,false,.slice C ps.length D] 44;rw[ER]at p;have y:=BO.next F ah;have B:=(B.set (a:=⟨W,0,none⟩) (.int .i64 (L-1)) (fun h=>h rfl)).next F;have S:=hg.Ai y a7;have b1:((w.setCell ⟨W,0,none⟩ (.int .i64 (L-1))).alloc (.cells #[.slice u h.length x,body,false,.slice C ps.length D] 44)).heap.size=w.heap.size+1:=ah
 have G:=(F1 a8).mono (m:=1000000) ae;have R:=Yj _ h _ B.rd (G.ok ae);generalize b2:Ck h=rf at R P;clear b2 BO F hg q;go_enter func106,ntmps106;go_wp2_with fail;generalize World.alloc _ _=W1 at H p y B S b1 R|-;clear kc kf b0 h0;have K:=p.cell;with_reducible refine R.mono ?_
 rintro e w2⟨rfl,f⟩;have H:=H.next f H.lt;have p:=p.next f p.lt;have B:=B.next f;have T:=S.next f;have I:=y.next f y.size;have c7:=f.size;clear R f S y K;cases rf with
 |false=>
  have N:=AE (show Bh (d+1) (l+1) (.mk h body false ps)=.error 1 from P.o);clear P;go_wp2;go_ret2;exact⟨Or.inr ⟨1,_,_,N.o,rfl,Or.inl rfl⟩,I⟩
 |true=>
 have P:=AE (show Bh (d+1) (l+1) (.mk h body false ps)=match Bo h with
  |none=>.error 1
  |some ob=>if ob.isSome then .error 1 else if ps≠[]then .error 1 else match Qk h body with
   |none=>.error 1
   |some s=>.ok (s,l)from P.o)
 have U:=aU _ h w2 B.rd G T.r;generalize Bo h=rb at U P;have K:=p.cell;go_wp2_with fail;with_reducible refine U.mono ?_
 rintro e V⟨X,g⟩;have H:=H.next g H.lt;have p:=p.next g p.lt;have B:=B.next g;have J:=T.next g;have A:=I.next g I.size;have c8:=g.size;have K:=p.cell;clear U g T I;rcases X with⟨b,rfl,rfl⟩|⟨rfl,rfl⟩|⟨rfl,rfl⟩
 case inl=>
  have N:=AE (show Bh (d+1) (l+1) (.mk h body false ps)=.error 1 from P.o);clear P;go_wp2;go_ret2;exact⟨Or.inr ⟨1,_,_,N.o,rfl,Or.inl rfl⟩,A⟩
 case inr.inr=>
  have N:=AE (show Bh (d+1) (l+1) (.mk h body false ps)=.error 1 from P.o);clear P;go_wp2;go_ret2;exact⟨Or.inr ⟨1,_,_,N.o,rfl,Or.inl rfl⟩,A⟩
 by_cases h0:ps=[]
 case neg=>
  have N:=AE (by rw[P.o];simp[h0]:Bh (d+1) (l+1) (.mk h body false ps)=.error 1);have h1:0<ps.length:=BK.2 h0;have h2:(0:Int)<ps.length:=aa
  clear P h0;go_wp2;go_ret2;exact⟨Or.inr ⟨1,_,_,N.o,rfl,Or.inl rfl⟩,A⟩
 subst h0;have P:=AE (show Bh (d+1) (l+1) (.mk h body false [])=match Qk h body with
  |none=>.error 1
  |some s=>.ok (s,l)from by rw[P.o];simp)
 have a3:=lX _ h V B.rd (by have:=G.1;omega);go_wp2_with fail;with_reducible refine a3.mono ?_
 rintro e w4⟨v4,rfl,n,i⟩;have H:=H.next i H.lt;have p:=p.next i p.lt;have Y:=J.next i;have B4:=A.next i A.size;have hD:=mR v4 h V.heap.size w4 n (G.ok ae) Y.r ri i.size;have c9:=p.lt;have d0:=i.size;clear a3 i n;go_wp2_with fail;with_reducible refine hD.mono ?_
 rintro e Z⟨v5,rfl,n,r⟩;have H:=H.next r aa;have p:=p.next r aa;have a0:Gz Z:=Y.keep fun b b3=>r.block b ri
 have B5:A5 W w.heap.size w Z:=B4.trans (A5.of (r.mono aa));have d1:=r.size;have M:=WQ body Z aa a0.r;have j:=AE (ca:Qk h body=(D7 (C8 h++[(Bn,(Cv body).1)])).map (·++(Cv body).2));have b4:=(mE body).1;have b5:=mI body;generalize(Cv body).1=c at M j b4;generalize(Cv body).2=bt at M j b5;have K:=p.cell;clear hD r Y B4;go_wp2_with fail;with_reducible refine M.mono ?_
 rintro e k⟨rfl,t⟩;have H:=H.next t H.lt;have n:=A1.next n t;have a1:=a0.next t;have B6:=B5.next t B5.size;have c0:k.cell? ⟨2,1,none⟩=some (.string ⟨#[67,111,110,116,101,110,116,45,84,114,97,110,115,102,101,114,45,69,110,99,111,100,105,110,103]⟩):=a1.r.ours 1 ae;have d2:=X7 h;have d3:(C8 h).length<=120000:=by have:=S4 (C8 h);omega
 have d4:=t.size;clear M t B5 a0 K;go_wp2_with(at_builtin;refine N8 (α:=A4) (cs:=Bc) (size:=2) (z:=.agg #[.string ByteArray.empty,.string ByteArray.empty]) Af M0 My rfl ae underlying42 rfl _ _ rfl V.heap.size _ (C8 h) [(Bn,c)] ⟨k.heap.size,0,none⟩ 1 1 rfl rfl (A1.alloc n _) rfl (I0 k (Bn,c) _) ag ao ag ?_;intro v7 w7 b6 a4 O b7);have H:=(H.alloc (.cells #[Bn,c] 92)).next O aa;have a4:Gz w7:=(a1.next ((AG k.heap.size k).alloc (AF _) (.cells #[Bn,c] 92))).keep fun b b3=>O.block b ri
 have B7:A5 W w.heap.size w w7:=(B6.next ((AG k.heap.size k).alloc (AF _) (.cells #[Bn,c] 92)) B6.size).trans (A5.of (O.mono aa));have b9:Az (C8 h++[(Bn,c)])<=130000:=by
  rw[Qm,Hp];have:(Bn,c).1.length=25:=rfl;rw[this,(ca:Az []=0)];simp only;omega
 have a5:=(F1 b9).mono (m:=1000000) ae;have hW:=eI v7 _ w7 (A1.rd ae Af b6) a5.1 a5.2 a4.r.g;have Q:=fun o(h:D7 (C8 h++[(Bn,c)])=some o)=>Sr h
 clear a1 B6 c0 b7 O n;generalize D7 (C8 h++[(Bn,c)])=ro at hW j Q;go_wp2_with fail;with_reducible refine hW.mono ?_
 rintro e w8⟨X,b8⟩;have H:=H.next b8 H.lt;have B8:=B7.next b8 B7.size;clear hW b8 B7;rcases X with⟨o,rfl,rfl⟩|⟨v,rfl,rfl,hv⟩
 ·have d5:=Q o rfl;have N:=AE (by rw[P.o,j.o];rfl:Bh (d+1) (l+1) (.mk h body false [])=.ok (o++bt,l));have i1:¬(9223372036854775807:Int)<(o.length:Int)+bt.length:=by omega
  clear P j Q;go_wp2;go_ret2;refine⟨Or.inl ⟨_,_,N.o,aa,?_,rfl,?_⟩,B8⟩
  ·rw[AJ];omega
  rw[a9.o]at H;exact H
 have N:=AE (by rw[P.o,j.o];rfl:Bh (d+1) (l+1) (.mk h body false [])=.error 1);clear P j Q;go_wp2;go_ret2;exact⟨Or.inr ⟨1,_,_,N.o,rfl,hv.n ae⟩,B8⟩
end Go.Proofs.YtignjjnflcpiiaaGreatDoor
