/- How much a part that was read can have. No program, no co -/
import Derived.Test.YtignjjnflcpiiaaGreatDoorS26
import Derived.Test.YtignjjnflcpiiaaGreatDoorS31
set_option linter.all false
set_option maxHeartbeats 16000000
set_option maxRecDepth 100000
namespace Go.Proofs.YtignjjnflcpiiaaGreatDoor
open Go Go.RowKit Proofs.Tryz Lib
variable {out ps:List Bs}{i n B:Nat}{p:A8}{v:Bs}{w w':World}{P:Program}{Q:Exit → Act → World → Prop}{o:Oper}{rest:List Oper}{O:Array Oper}
theorem TV{s:Bs}{op:Option Nat}(h:∀x∈out,x.length≤s.length):(Je s i op out).length≤out.length+1∧∀x∈Je s i op out,x.length≤s.length:=by
 unfold Je;cases op with
 |none=>exact⟨by simp,h⟩
 |some o=>
  refine⟨by simp,fun x H=>?_⟩;rcases BP.1 H with H|H
  ·exact h x H
  simp at H;rw[H];unfold Ic;simp;omega
theorem Tv{s b:Bs}:∀(k i:Nat)(op:Option Nat)(o p:List Bs),Et s b k i op o=some p→(∀x∈o,x.length≤s.length)→p.length≤o.length+k∧∀x∈p,x.length≤s.length
 |0,_,_,_,_,h,_=>by cases h
 |k+1,i,op,o,p,h,H=>by
  have c:=TV (i:=i) (op:=op) H;rcases CN s.length i with a|a
  ·rw[eE a]at h;cases h
  rw[eF a]at h;cases m:Hx (cut (s.drop i) [13,10]).1 b with
  |none=>
   rw[m]at h;have:=Tv k _ _ _ _ h H;exact⟨by omega,this.2⟩
  |some t=>
   rw[m]at h;simp only at h;split at h
   ·cases h;exact⟨by omega,c.2⟩
   split at h
   ·have:=Tv k _ _ _ _ h c.2;exact⟨by omega,this.2⟩
   have:=Tv k _ _ _ _ h H;exact⟨by omega,this.2⟩
theorem TW{s b:Bs}(h:Dm s b=some ps):ps.length≤s.length+2∧∀x∈ps,x.length≤s.length:=by
 have:=Tv _ _ _ _ _ h (by simp);simpa using this
theorem gY{α β:Type}{f:Nat→α→Except Int (β×Nat)}:∀{l:List α}{n m:Nat}{Y:List β},By f n l=.ok (Y,m)→Y.length=l.length∧∀y∈Y,∃x∈l,∃a b,f a x=.ok (y,b)
 |[],n,m,Y,h=>by
  simp[By]at h;rw[h.1];simp
 |x::l,n,m,Y,h=>by
  unfold By at h;cases H:f n x with
  |error e=>rw[H]at h;cases h
  |ok r=>
   obtain⟨y,N⟩:=r;rw[H]at h;simp only at h;cases c:By f N l with
   |error e=>rw[c]at h;cases h
   |ok r=>
    obtain⟨z,k⟩:=r;rw[c]at h;simp only[FG,EC]at h;obtain⟨rfl,rfl⟩:=h;have ih:=gY c;refine⟨by simp[ih.1],fun g d=>?_⟩;rcases CF.1 d with rfl|d
    ·exact⟨x,by simp,n,N,H⟩
    obtain⟨X,i,j⟩:=ih.2 g d;exact⟨X,by simp[i],j⟩
def Fe:Nat→A8→Prop
 |0,_=>False
 |n+1,.mk h b _ P=>Av h≤20000∧b.length≤60002∧P.length≤20002∧∀p∈P,Fe n p
theorem gZ:∀(d L:Nat)(s:Bs)(p:A8)(n:Nat),Az d L s=.ok (p,n)→s.length≤20000→Fe d p
 |0,_,_,_,_,h,_=>by cases h
 |d+1,0,_,_,_,h,_=>by cases h
 |d+1,L+1,s,p,n,h,y=>by
  unfold Az at h;cases f:Dj s with
  |none=>rw[f]at h;cases h
  |some x=>
   obtain⟨o,B⟩:=x;rw[f]at h;simp only at h;have z:=Vq f;cases g:Cq o with
   |none=>rw[g]at h;cases h
   |some l=>
    rw[g]at h;simp only at h;have A:=Sj g;cases k:Bg l with
    |none=>rw[k]at h;cases h
    |some O=>
     rw[k]at h;cases O with
     |none=>
      simp only at h;cases i:Dg l B with
      |error e=>rw[i]at h;cases h
      |ok b=>
       rw[i]at h;simp only[FG,EC]at h;obtain⟨rfl,_⟩:=h;have:=rC i;exact⟨by omega,by omega,by simp,by simp⟩
     |some b=>
      simp only at h;cases H:Dm B b with
      |none=>rw[H]at h;cases h
      |some P=>
       rw[H]at h;simp only at h;have t:=TW H;cases j:By (Az d) L P with
       |error e=>rw[j]at h;cases h
       |ok r=>
        obtain⟨Q,m⟩:=r;rw[j]at h;simp only[FG,EC]at h;obtain⟨rfl,_⟩:=h;have u:=gY j;refine⟨by omega,by simp,by omega,fun q H=>?_⟩;obtain⟨x,v,a,c,w⟩:=u.2 q H;exact gZ d a x q c w (by have:=t.2 x v;omega)
theorem Xa{s:Bs}(h:E8 s=.ok p):Fe 4 p:=by
 unfold E8 at h;split at h
 ·cases h
 cases H:Az 4 40 s with
 |error e=>rw[H]at h;cases h
 |ok x=>
  obtain⟨q,n⟩:=x;rw[H]at h;cases h;exact gZ 4 40 s _ n H (by omega)
theorem Tw(h:¬(2<v.length∧v.getD 0 0=60∧v.getD (v.length-1) 0=62)):M0 v=[]:=by unfold M0;rw[AI h]
theorem hJ(h:2<v.length∧v.getD 0 0=60∧v.getD (v.length-1) 0=62):M0 v=(v.drop 1).take (v.length-1-1):=by unfold M0;rw[AM h]
theorem TX(v:Bs):(M0 v).length≤v.length:=by unfold M0;split<;>simp;omega
theorem Re{s:Bs}{l:List A4}(h:Dh n l):((Ai l s).getD []).length≤n:=by
 cases H:Ai l s with
 |none=>simp
 |some v=>exact Jw h H
theorem TY(v:Value)(l:List A4)(w:World)(r:C7 w v l)(k:Dh 1000000 l):Calls prog 37 #[v] w fun e W=>e=.returned (.string ⟨(Fa l).toArray⟩)∧Below w.heap.size w W:=by
 have G:=Oq v l C3 w r (k.ok (by decide)) (by decide);have N:=AB (by rfl:Fa l=M0 ((Ai l C3).getD []));have d:=Re (s:=C3) k;unfold C3 at G N d;generalize(Ai l _).getD []=x at G N d;generalize(Ai l _).isSome=ok at G;go_enter func37,ntmps37;go_wp2_with fail;with_reducible refine G.mono ?_
 rintro e m⟨rfl,B⟩;clear G;by_cases f:2<x.length
 case neg=>
  have H:=AB (Tw (v:=x) (fun h=>f h.1));have i:¬(2:Int)<x.length:=by omega
  go_wp2_with fail;go_ret;exact⟨Gx (by rw[N.o,H.o]),B⟩
 have i:(2:Int)<x.length:=by omega
 have E:x.getD 0 0=x[0]'(by omega):=by rw[AK];simp[show 0<x.length by omega]
 have c:x.getD (x.length-1) 0=x[x.length-1]'(by omega):=by rw[AK];simp[show x.length-1<x.length by omega]
 have z:(0:Int)≤(x.length:Int)-1:=by omega
 have Z:(x.length:Int)-1<x.length:=by omega
 have n:((x.length:Int)-1).toNat=x.length-1:=by omega
 have p:0<x.length:=by omega
 by_cases a:x.getD 0 0=60
 case neg=>
  have H:=AB (Tw (v:=x) (fun h=>a h.2.1));have g:((x[0].toNat:Int)==60)=false:=by
   rw[AG];intro h;apply a;rw[E];apply BJ.1;show x[0].toNat=60;omega
  clear a E c;go_wp2_with fail;go_ret;exact⟨Gx (by rw[N.o,H.o]),B⟩
 have g:((x[0].toNat:Int)==60)=true:=by
  rw[BG,←E,a];rfl
 by_cases b:x.getD (x.length-1) 0=62
 case neg=>
  have H:=AB (Tw (v:=x) (fun h=>b h.2.2));have j:((x[x.length-1].toNat:Int)==62)=false:=by
   rw[AG];intro h;apply b;rw[c];apply BJ.1;show x[x.length-1].toNat=62;omega
  have o:=AB g;clear a b E c;go_wp2_with fail;go_ret;exact⟨Gx (by rw[N.o,H.o]),B⟩
 have H:=AB (hJ (v:=x) ⟨f,a,b⟩);have j:((x[x.length-1].toNat:Int)==62)=true:=by
  rw[BG,←c,b];rfl
 clear a b E c;go_wp2_with fail;go_ret;exact⟨Gx (by rw[N.o,H.o,List.drop_one]),B⟩
theorem hO(base:A3)(v:Value)(l:List A4)(w:World)(Q:base.len≤1000000)(E:C7 w v l)(F:Dh 1000000 l)(I:Gr w):Calls prog 35 #[base.val,v] w fun e S=>e=.returned (Dp base l).val∧Below w.heap.size w S:=by
 have G:=fun W m=>Oq v l Li W m (F.ok (by decide)) (by decide)
 have N:=AB (show Dp base l=match Ai l Li with
  |none=>base
  |some v=>match Cl v with
   |none=>base
   |some a=>Cd (Be base a)from rfl)
 have g:=fun x(h:Ai l Li=some x)=>Jw (n:=1000000) F h
 unfold Li at G N g;generalize Ai l _=r at G N g;have d:=((AD w.heap.size w).alloc (AC _) (.cells base.cells 36)).alloc (by simp) (.cells Bb 36);have b:=(A1.new w base.cells 36).alloc (.cells Bb 36);have H:=A1.new (w.alloc (.cells base.cells 36)) Bb 36;rw[AV]at H;have o:=I.next d;have p:=E.next d;have T:((w.alloc (.cells base.cells 36)).alloc (.cells Bb 36)).heap.size=w.heap.size+1+1:=by simp
 clear E I;go_enter func35,ntmps35;go_wp2_with fail;generalize World.alloc _ _=W1 at d b H o p T⊢;with_reducible refine(G _ p).mono ?_
 rintro e U⟨rfl,B⟩;have b:=b.next B b.lt;have H:=H.next B H.lt;have q:=d.trans (B.mono (by omega));have s:=o.next B;have a0:=B.size;clear G B d o p;cases r with
 |none=>
  have N:=AB (show Dp base l=base from N.o);simp only[EP,FE];have K:=b.cell;have k:=H.cell;have J:=H.free;go_wp2_with fail;refine AL (v:=base.val) (by simp[results,results35,go_sem,k]) rfl ⟨by rw[N.o],?_⟩;go_grown
 |some x=>
  have hx:=g x rfl;have R:=W7 x U (by omega) s.g;unfold Sw at R;have N:=AB (show Dp base l=match Cl x with
   |none=>base
   |some a=>Cd (Be base a)from N.o)
  have i:=fun a(h:Cl x=some a)=>My h
  clear g;generalize Cl x=V at R N i;simp only[CT,EK];go_wp2_with fail;with_reducible refine R.mono ?_
  rintro e t⟨rfl,c⟩;have b:=b.next c b.lt;have H:=H.next c H.lt;have f:=q.trans (c.mono q.size);have L:=s.next c;have a1:=c.size;clear R c s q;cases V with
  |none=>
   have N:=AB (show Dp base l=base from N.o);have b:=b.alloc (.cells A3.zero.cells 36);have H:=H.alloc (.cells A3.zero.cells 36);have j:=f.alloc f.size (.cells A3.zero.cells 36);simp only[A3.zero]at b H j⊢;have K:=b.cell;have k:=H.cell;have J:=H.free;go_wp2_with fail;refine AL (v:=base.val) (by simp[results,results35,go_sem,k]) rfl ⟨by rw[N.o],?_⟩;go_grown
  |some a=>
   have i:=i a rfl;have N:=AB (show Dp base l=Cd (Be base a)from N.o);have X:=Qx base a;have u:=fun W m=>cQ base a W (by unfold A3.len at Q;omega) (by unfold A3.len at i;omega) m
   generalize Be base a=y at u N X;have M:y.len≤10000000:=by omega
   have A:=fun W=>Zv y W (by unfold A3.len at M;omega) (by unfold A3.len at M;omega)
   generalize Cd y=z at A N;have O:=A1.new t a.cells 36;have b:=b.alloc (.cells a.cells 36);have H:=H.alloc (.cells a.cells 36);have j:=f.alloc f.size (.cells a.cells 36);have Y:=L.next ((AD t.heap.size t).alloc (AC _) (.cells a.cells 36));have K:=b.cell;have Z:=O.cell;clear L f;go_wp2_with fail;with_reducible refine(u _ Y.g).mono ?_
   rintro e w5⟨rfl,C⟩;have H:=H.next C H.lt;have P:=j.trans (C.mono j.size);clear u C K Z b O;go_wp2_with fail;with_reducible refine(A _).mono ?_
   rintro e w6⟨rfl,D⟩;have H:=H.next D H.lt;have B6:=P.trans (D.mono P.size);have k:=H.cell;have J:=H.free;clear A D;go_wp2_with fail;refine AL (v:=z.val) (by simp[results,results35,go_sem,k]) rfl ⟨by rw[N.o],?_⟩;go_grown
theorem TZ(n:Nat)(R:Ao)(p:A8)(w:World)(q:A7 (fun _=>True) n w R p)(k:Dh 1000000 p.head)(s:Gr w):Calls prog 49 #[Bm R] w fun e E=>e=.returned (.bool (I4 p))∧Below w.heap.size w E:=by
 cases n with
 |zero=>exact q.elim
 |succ n=>
 obtain⟨h,b,m,P⟩:=p;obtain⟨⟨g,i,c⟩,y,M,⟨t,u,z⟩⟩:=R;obtain⟨rfl,rfl,j,_⟩:=q;simp only[Bm,A9,A8.head]at j k⊢;have G:=fun W F=>Oq (.slice g i c) h Bu W F (k.ok (by decide)) (by decide)
 have H:=AB (show I4 (.mk h y M P)=match Ai h Bu with
  |none=>false
  |some v=>match Ay v with
   |none=>false
   |some (m,_)=>m==Nw from rfl)
 have l:=fun x(h:Ai _ Bu=some x)=>Jw (n:=1000000) k h
 unfold Bu at G H l;generalize Ai h _=r at G H l;have A:=(AD w.heap.size w).alloc (AC _) (.cells #[.slice g i c,.string ⟨y.toArray⟩,.bool M,.slice t u z] 44);have I:=A1.new w #[.slice g i c,.string ⟨y.toArray⟩,.bool M,.slice t u z] 44;have C:=s.next A;have D:=j.rd.next A;have O:=I.cell;have G:=G _ D;clear j D s;cases r with
 |none=>
  have H:=AB (show I4 (.mk h y M P)=false from H.o);simp only[EP,FE]at G;go_enter func49,ntmps49;go_wp2_with fail;with_reducible refine G.mono ?_
  rintro e o⟨rfl,B⟩;have K:=P0 [] o (by decide) (C.next B).g;go_wp2_with fail;with_reducible refine K.mono ?_
  rintro e J⟨a,f⟩;obtain⟨m,P,L,N,rfl,_⟩:=a.get;clear a;go_wp2_with fail;go_ret;exact⟨Ba H.o.symm,A.trans ((B.trans (f.mono B.size)).mono (by simp))⟩
 |some x=>
  have Q:=l x rfl;have H:=AB (show I4 (.mk h y M P)=match Ay x with
   |none=>false
   |some (m,_)=>m==Nw from H.o)
  simp only[CT,EK]at G;clear l;go_enter func49,ntmps49;go_wp2_with fail;with_reducible refine G.mono ?_
  rintro e o⟨rfl,B⟩;have K:=P0 x o (by omega) (C.next B).g;go_wp2_with fail;with_reducible refine K.mono ?_
  rintro e J⟨a,f⟩;obtain⟨m,P,L,N,rfl,_,_,_,_,c⟩:=a.get;clear a K G;rcases c with⟨d,rfl⟩|⟨d,rfl⟩
  ·have H:=AB (by rw[H.o,d]:I4 _=false);clear d;go_wp2_with fail;go_ret;exact⟨Ba H.o.symm,A.trans ((B.trans (f.mono B.size)).mono (by simp))⟩
  have H:=AB (by rw[H.o,d]:I4 _=(m==Nw));clear d;go_wp2_with fail;go_ret;exact⟨Ba (by rw[H.o];rfl),A.trans ((B.trans (f.mono B.size)).mono (by simp))⟩
theorem UA(base:Nat)(t T e:TypeId)(i:TypeInfo)(size c:Nat)(h:P.underlying t=some (.slice e))(H:P.info? e=some i)
  (v:Value) (n:Nat) (xs:List Value) (a:w.ownsRow base e size v n xs):
  (Builtin.append_ #[t,t] T #[v,.slice none 0 c]).run P w=.ok v w:=by
 rcases a.2 with⟨rfl,rfl⟩|⟨g,C,r,rfl,_,_,b,_⟩
 ·simp[Builtin.append_,run_underlying h,sizeOf,typeInfo,H,Builtin.lenOf,Builtin.firstCells]
 simp[Builtin.append_,run_underlying h,sizeOf,typeInfo,H,Builtin.lenOf,Builtin.firstCells,b,storeCells]
theorem hY{a:Act}(H:o.guard=none)(s x:Operand)(t:TypeId)
  (b:o.op=.call {callee:=.builtin .append,args:=#[s,x],argTypes:=#[t,t]})
  (base:Nat) (e:TypeId) (i:TypeInfo) (size c:Nat) (d:P.underlying t=some (.slice e)) (f:P.info? e=some i)
  (v:Value) (n:Nat) (xs:List Value) (g:a.eval s=v) (j:w.ownsRow base e size v n xs) (k:a.eval x=.slice none 0 c)
  (h:wpList P O Q rest (a.put o.dst v) w):wpList P O Q (o::rest) a w:=by
 refine wpList_plain H fun K l=>?_
 have m:=UA (P:=P) (w:=w) base t o.type e i size c d f v n xs j;unfold Oper.wp;simp[execOp,b,resolve,invoke,builtin,g,k,m,Result.andThen];exact l _ _ h
theorem UB{a:Act}(d:o.guard=none)(s x:Operand)
  (c:o.op=.call {callee:=.builtin .append,args:=#[s,x],argTypes:=#[42,42]}) (B:Nat) (v:Value) (S:Option Go.Addr) (n cap:Nat) (l:List A4)
  (f:a.eval s=v) (H:Bk w B v []) (g:a.eval x=.slice S n cap) (r:C7 w (.slice S n cap) l) (G:l.length≤1000000000000) (m:B≤w.heap.size)
  (h:∀V W,Bk W B V l→w.grownBy W v.ownBlock→Below B w W→(V.ownBlock=v.ownBlock∨V.ownBlock=some w.heap.size)→wpList prog O Q rest (a.put o.dst V) W):wpList prog O Q (o::rest) a w:=by
 obtain⟨J,K,p,i⟩:=r;injection p with E q y;subst E q y;cases S with
 |none=>
  have A:l=[]:=by
   rcases GA l.length with h|h
   ·exact DI.1 h
   obtain⟨b,h,_⟩:=i h;cases h
  subst A;obtain⟨I,C,_⟩:=FQ Kj;refine hY d s x 42 c B 92 I 2 cap underlying42 C v 0 [] f H g (h v w H ⟨rfl,rfl,rfl,AC _,fun _ _ _=>rfl⟩ (AD _ _) (Or.inl rfl))
 |some D=>
  refine Kt (α:=A4) (cs:=Au) (size:=2) (z:=.agg #[.string ByteArray.empty,.string ByteArray.empty]) Ah Ju Kj rfl (by decide) underlying42 d s x c B v [] l D l.length cap rfl f H g (fun j u k=>?_) (by simp;omega) (by unfold maxLen;simp;omega) m h;have t:=(CM.1 k).1;rw[Ix Ah]at t;obtain⟨b,e,_,F⟩:=i (by omega);injection e with e;subst e;rw[Dz,F j t];exact k
def Tx(B n:Nat)(w:World)(r:Ao)(p:A8):Prop:=r.2.1=p.body∧r.2.2.1=p.many∧Bk w B (A9 r.1) p.head∧∃R:List Ao,F3 w B (A9 r.2.2.2) R∧R.length=p.parts.length∧(∀g,(A9 r.1).ownBlock=some g→(A9 r.2.2.2).ownBlock≠some g)∧∀k(h:k<R.length)(H:k<p.parts.length),A7 (fun b=>B≤b∧(A9 r.1).ownBlock≠some b∧(A9 r.2.2.2).ownBlock≠some b) n w R[k] p.parts[k]
theorem Tx.rd{r:Ao}(h:Tx B n w r p):A7 (fun b=>B≤b) (n+1) w r p:=by
 obtain⟨i,b,m,P⟩:=p;obtain⟨H,a,c,R,d,e,_,f⟩:=h;exact⟨H,a,(A0.Dn (by decide) Ah c).Ad fun b h _=>h.1,R,(A0.Dn (by decide) Db d).Ad fun b h _=>h.1,e,fun k K g=>A7.Ad (fun b h _=>h.1) (f k K g)⟩
theorem iA(n:Nat):∀(R:Ao)(p:A8)(w:World),A7 (fun _=>True) (n+1) w R p→Ft (n+1) p→Calls prog 38 #[Bm R] w fun e I=>(∃l,e=.returned (Bm l)∧Tx w.heap.size n I l p)∧Below w.heap.size w I:=by
 have c7:∀(m:Nat)(R:Ao)(p:A8)(w:World),A7 (fun _=>True) (m+1) w R p→Ft (m+1) p→(∀(R:Ao)(p:A8)(w:World),A7 (fun _=>True) m w R p→Ft m p→Calls prog 38 #[Bm R] w fun e I=>(∃l,e=.returned (Bm l)∧A7 (fun b=>w.heap.size≤b) m I l p)∧Below w.heap.size w I)→Calls prog 38 #[Bm R] w fun e I=>(∃l,e=.returned (Bm l)∧Tx w.heap.size m I l p)∧Below w.heap.size w I:=by
  intro m R p w x K ih;obtain⟨h,b,mn,P⟩:=p;obtain⟨⟨V,X,Y⟩,y,M,⟨N,pn,O⟩⟩:=R;obtain⟨rfl,rfl,c8,d8,b1,d9,c9⟩:=x;obtain⟨f2,f3,f4,d0⟩:=K;simp only[Bm,A9]at c8 b1⊢;have f5:=Qo h;have e0:pn=P.length:=by
   obtain⟨a,c,e,_⟩:=b1;injection e with _ e _;exact e.trans d9
  subst e0;have e1:=AB c9;have e2:=AB d0;clear c9 d0;have Z:=(((AD w.heap.size w).alloc (AC _) (.cells #[.slice V X Y,.string ⟨y.toArray⟩,.bool M,.slice N P.length O] 44)).alloc (by simp) (.cells #[.slice none 0 0,.string ⟨#[]⟩,.bool false,.slice none 0 0] 44));have H:=((A1.new w #[.slice V X Y,.string ⟨y.toArray⟩,.bool M,.slice N P.length O] 44).alloc (.cells #[.slice none 0 0,.string ⟨#[]⟩,.bool false,.slice none 0 0] 44));have d:=A1.new (w.alloc (.cells #[.slice V X Y,.string ⟨y.toArray⟩,.bool M,.slice N P.length O] 44)) #[.slice none 0 0,.string ⟨#[]⟩,.bool false,.slice none 0 0] 44;rw[AV]at d;have d1:((w.alloc (.cells #[.slice V X Y,.string ⟨y.toArray⟩,.bool M,.slice N P.length O] 44)).alloc (.cells #[.slice none 0 0,.string ⟨#[]⟩,.bool false,.slice none 0 0] 44)).heap.size=w.heap.size+1+1:=by simp
  go_enter func38,ntmps38;go_upto_region 1 with fail;generalize World.alloc _ _=z at Z H d d1⊢;have f6:w.heap.size+1<z.heap.size:=by omega
  clear d1;have A:=(AD z.heap.size z).alloc (AC _) (.cells #[] 92);have d2:=(c8.rd.next Z).next A;have H:=H.next A H.lt;have d:=d.next A d.lt;have d3:=eT z;have f7:(z.alloc (.cells #[] 92)).heap.size=z.heap.size+1:=by simp
  have B3:=Z.trans (A.mono Z.size);have T:=H.cell;have f1:=H.free;clear A Z;go_wp2_with(at_builtin;refine UB rfl _ _ rfl z.heap.size _ V X Y h rfl d3 rfl d2 (by omega) (by simp) ?_;intro v4 w4 L e3 a0 a3;obtain⟨o,C,e4,_⟩:=A0.rd (by decide) Ah L;subst e4;have H:=H.next a0 (by omega);have T:=H.cell;have f1:=H.free);have H:A1 (w4.setCell ⟨w.heap.size,0,none⟩ (.slice o h.length C)) w.heap.size #[.slice o h.length C,.string ⟨y.toArray⟩,.bool M,.slice N P.length O] 44:=H.set 0 _;have d:=(d.next a0 (by omega)).A6 (a:=⟨w.heap.size,0,none⟩) (by simp only;omega) (.slice o h.length C);have L:=L.A6 (a:=⟨w.heap.size,0,none⟩) (by simp only;omega) (.slice o h.length C);have B5:=(B3.trans (a0.mono (by omega))).setCell (p:=⟨w.heap.size,0,none⟩) (AC _) (.slice o h.length C);have a4:=A0.Do L;have e5:z.heap.size+1≤(w4.setCell ⟨w.heap.size,0,none⟩ (.slice o h.length C)).heap.size:=by have:=a0.size;simp[World.setCell]at*;omega
  generalize e6:w4.setCell ⟨w.heap.size,0,none⟩ (.slice o h.length C)=D at H d L B5 a4 e5;have T:=H.cell;clear e3 a0 a3 d2 d3 B3;clear e6;go_loopw[3,14] (fun vp iv wr=>∃(k:Nat)(s:List Ao)(sl:H7),iv=.int .i64 k∧vp=A9 sl∧k≤P.length∧s.length=k∧F3 wr D.heap.size (A9 sl) s∧Bk wr z.heap.size (.slice o h.length C) h∧Hid (∀j(f:j<s.length)(i:j<P.length),A7 (fun b=>D.heap.size≤b∧(A9 sl).ownBlock≠some b) m wr s[j] P[j])∧A1 wr w.heap.size #[.slice o h.length C,.string ⟨y.toArray⟩,.bool M,.slice N P.length O] 44∧A1 wr (w.heap.size+1) #[.slice none 0 0,.string ⟨#[]⟩,.bool false,.slice none 0 0] 44∧Below w.heap.size w wr∧D.heap.size≤wr.heap.size) (fun _ iv _=>P.length-(intOf iv).toNat)
  case atStart=>exact⟨0,[],(none,0,0),rfl,rfl,by omega,rfl,A0.nil _ _ _ _ _,L,AB (fun j f=>by simp at f),H,d,B5,AC _⟩
  clear H d L B5 T;obtain⟨k,s,sl,rfl,rfl,hk,e7,t,E,u,H,d,B,f8⟩:=hrel;obtain⟨S,F,G⟩:=sl;simp only[A9]at t u⊢;by_cases b2:k<P.length
  ·obtain⟨pb,rfl,_,f9,a1⟩:=(b1.next B).at Db k (by omega);have a5:=(e1.o k (by omega) b2).next B;have b3:=e2.o _ (AN b2);have c0:=a1 0 (by decide);have c1:=a1 1 (by decide);have c2:=a1 2 (by decide);have c3:=a1 3 (by decide);have b4:=AB (show∀(W:World)(r:Ao),A7 (fun b=>D.heap.size≤b∧(Value.slice S F G).ownBlock≠some b) m W r P[k]→(∀j(f:j<s.length)(i:j<P.length),A7 (fun b=>D.heap.size≤b∧(Value.slice S F G).ownBlock≠some b) m W s[j] P[j])→∀j(f:j<(s++[r]).length)(i:j<P.length),A7 (fun b=>D.heap.size≤b∧(Value.slice S F G).ownBlock≠some b) m W (s++[r])[j] P[j]from fun W r f i j T k2=>by
    by_cases hj:j<s.length
    ·rw[DU hj];exact i j hj k2
    obtain rfl:j=k:=by simp at T;omega
    rw[FO (by omega)];simp only[List.getElem_singleton];exact f)
   clear a1;generalize P[k]=q at a5 b3 b4;generalize d8[k]'(by omega)=R at a5 c0 c1 c2 c3;have U:=fun W h=>ih R q W h b3
   obtain⟨⟨ra,rn,b5⟩,rb,rm,⟨b6,b7,b8⟩⟩:=R;simp only[Bm,A9,D5,BI,AR,AT]at c0 c1 c2 c3 U;have kt:=A1.new wr #[.slice ra rn b5,.string ⟨rb.toArray⟩,.bool rm,.slice b6 b7 b8] 44;have A:=(AD wr.heap.size wr).alloc (AC _) (.cells #[.slice ra rn b5,.string ⟨rb.toArray⟩,.bool rm,.slice b6 b7 b8] 44);have H:=H.next A H.lt;have d:=d.next A d.lt;have E:=A0.next E A;have t:=A0.next t A;have B1:=B.trans (A.mono B.size);have U:=U _ (a5.next A);have u:=AB (fun j f i=>(u.o j f i).next A);have e8:(wr.alloc (.cells #[.slice ra rn b5,.string ⟨rb.toArray⟩,.bool rm,.slice b6 b7 b8] 44)).heap.size=wr.heap.size+1:=by simp
   have d4:=kt.cell;clear A B a5 b3;go_wp2_with fail;generalize World.alloc _ _=W1 at H d E t B1 U u e8 d4 kt⊢;with_reducible refine U.mono ?_
   rintro e w8⟨⟨l,rfl,d5⟩,J⟩;have H:=H.next J H.lt;have d:=d.next J d.lt;have E:=A0.next E J;have d6:=A0.Do t;have t:=A0.next t J;have B8:=B1.trans (J.mono B1.size);have u:=AB (b4.o w8 l (A7.Ad (fun b h _=>⟨by omega,fun e=>by have:=d6 b e;omega⟩) d5) (fun j f i=>(u.o j f i).next J));have a6:=A0.Fp t;have g0:=J.size;clear U c0 c1 c2 c3 B1 kt d4 J b4 d5 d6;obtain⟨⟨qa,qn,a7⟩,qb,qm,⟨a8,a9,b0⟩⟩:=l;go_wp2_with(at_builtin;refine Td rfl _ _ rfl D.heap.size _ s ((qa,qn,a7),qb,qm,(a8,a9,b0)) w8.heap.size 1 rfl (A0.alloc t _) rfl (Tc _ ((qa,qn,a7),qb,qm,(a8,a9,b0)) _ _ rfl) (by omega) (by simp;omega) ?_;intro v' w9 d7 b9 a2 a3;obtain⟨c4,c5,c6,rfl⟩:=d7.shape);have A:=(AD w8.heap.size w8).alloc (AC _) (.cells #[.slice qa qn a7,.string ⟨qb.toArray⟩,.bool qm,.slice a8 a9 b0] 44);have H:=(H.next A H.lt).next a2 (by omega);have d:=(d.next A d.lt).next a2 (by omega);have E:=(A0.next E A).grown b9 (fun g hg e=>by have f:=a4 g hg;have i:=a6 g e;omega);have B9:=(B8.trans (A.mono B8.size)).trans (a2.mono (by omega));have e9:=a2.size;rw[AV]at e9;have u:=AB (fun j f i=>A7.Ad (Q:=fun b=>D.heap.size≤b∧(Value.slice c4 c5 c6).ownBlock≠some b) (fun b h _=>⟨h.1.1,h.2⟩) ((A7.Ad (Q:=fun b=>(D.heap.size≤b∧(Value.slice S F G).ownBlock≠some b)∧(Value.slice c4 c5 c6).ownBlock≠some b) (fun b h b2=>⟨h,fun e=>by
    rcases a3 with ho|ho
    ·exact h.2 (ho▸e)
    rw[ho]at e;injection e with e;omega⟩) ((u.o j f i).next A)).grown b9 (fun b h e=>h.1.2 e.symm)))
   clear A a6 b9 a2 a3 t B8;go_wp2_with fail;go_roundw
   case rel=>exact⟨k+1,s++[((qa,qn,a7),qb,qm,(a8,a9,b0))],(c4,c5,c6),by go_num,rfl,by omega,by simp;omega,d7,E,u,H,d,B9,by omega⟩
   simp[intOf];omega
  obtain rfl:k=P.length:=by omega
  have a6:=A0.Fp t;have f0:A1 (wr.setCell ⟨w.heap.size,3,none⟩ (.slice S F G)) w.heap.size #[.slice o h.length C,.string ⟨y.toArray⟩,.bool M,.slice S F G] 44:=H.set 3 _;have T:=H.cell;have f1:=H.free;have ks:=f0.cell;have d:=d.A6 (a:=⟨w.heap.size,3,none⟩) (by simp only;omega) (.slice S F G);have k2:=d.cell;have g1:=d.free;go_wp2_with fail;refine AL (v:=.agg #[.slice o h.length C,.string ⟨y.toArray⟩,.bool M,.slice S F G]) (by simp[results,results38,go_sem,k2]) rfl ⟨⟨((o,h.length,C),y,M,(S,F,G)),rfl,rfl,rfl,?_,s,?_,e7,?_,fun j f i=>?_⟩,?_⟩
  ·exact A0.mono (((((E.A6 (by simp only;omega) _).A6 (by simp only;omega) _).A6 (by simp only;omega) _).A6 (by simp only;omega) _).A6 (by simp only;omega) _) (by omega)
  ·exact A0.mono (((((t.A6 (by simp only;omega) _).A6 (by simp only;omega) _).A6 (by simp only;omega) _).A6 (by simp only;omega) _).A6 (by simp only;omega) _) (by omega)
  ·intro g hg e;have f:=a4 g hg;have i:=a6 g e;omega
  ·exact A7.Ad (fun b h _=>⟨by omega,fun e=>by have:=a4 b e;omega,h.2⟩) ((((((u.o j f i).set _ (fun h=>by have:=h.1;simp only at this;omega)).set _ (fun h=>by have:=h.1;simp only at this;omega)).set _ (fun h=>by have:=h.1;simp only at this;omega)).set _ (fun h=>by have:=h.1;simp only at this;omega)).set _ (fun h=>by have:=h.1;simp only at this;omega))
  go_grown
 induction n with
 |zero=>exact fun R p w x K=>c7 0 R p w x K (fun R p w x _=>x.elim)
 |succ n ih=>exact fun R p w x K=>c7 (n+1) R p w x K (fun R p w x K=>(ih R p w x K).mono fun _ _⟨⟨l,f,i⟩,h3⟩=>⟨⟨l,f,i.rd⟩,h3⟩)
def Fv(a:A3):List Value:=a.cells.toList
theorem Jo(a:A3):(Fv a).length=8:=rfl
theorem Rf(a:A3):∀u∈Fv a,u.oneCell'=true:=fun u h=>by
 simp[Fv]at h;rcases h with rfl|rfl|rfl|rfl|rfl|rfl|rfl|rfl<;>rfl
theorem Rg:(prog.info? 36).map (fun i=>(i.zero,i.size,i.bytes))=some (some (.agg #[.string ByteArray.empty,.bool false,.string ByteArray.empty,.string ByteArray.empty,.bool false,.string ByteArray.empty,.bool false,.string ByteArray.empty]),8,104):=by kernel_rfl
abbrev Pm(w:World)(B:Nat)(v:Value)(l:List A3):Prop:=A0 36 8 Fv w B v l
def Gi(r:Ao)(R:Nat)(s S:H7):Array Value:=#[A9 r.1,.string ⟨r.2.1.toArray⟩,.bool r.2.2.1,A9 r.2.2.2,.int .i64 (R:Int),A9 s,A9 S]
def Er(P:Nat→Prop)(w:World)(B:Nat)(b:Aw):Prop:=∃(r:Ao)(s S:H7),P B∧A1 w B (Gi r b.root s S) 83∧A7 P 4 w r b.whole∧Aq 8 Fv P w (A9 s) b.places∧Aq 1 Bi P w (A9 S) b.ids
theorem Er.keep{P:Nat→Prop}{w w':World}{B:Nat}{b:Aw}(h:Er P w B b)(s:w.heap.size≤w'.heap.size)(H:∀b,P b→b<w.heap.size→w'.heap[b]?=w.heap[b]?):Er P w' B b:=by
 obtain⟨r,S,i,a,c,d,e,f⟩:=h;exact⟨r,S,i,a,(H B a c.lt).trans c,A7.keep s H d,e.keep s H,f.keep s H⟩
theorem Er.next{P:Nat→Prop}{b:Aw}(h:Er P w B b)(H:Below w.heap.size w w'):Er P w' B b:=h.keep H.size fun b _ t=>H.block b t
theorem Er.Ad{P Q:Nat→Prop}{w:World}{B:Nat}{b:Aw}(H:∀b,P b→b<w.heap.size→Q b)(h:Er P w B b):Er Q w B b:=by
 obtain⟨r,s,S,c,a,d,e,f⟩:=h;exact⟨r,s,S,H B c a.lt,a,A7.Ad H d,e.Ad H,f.Ad H⟩
structure Iq(b:Aw):Prop where
 whole:Fe 4 b.whole
 places:b.places.length=b.whole.parts.length
 ids:b.ids.length=b.whole.parts.length
 placeL:∀a∈b.places,a.len≤1000000
 idL:∀s∈b.ids,s.length≤1000000
theorem Fe.in:∀{n:Nat}{p:A8},Fe n p→Ft n p
 |0,_,h=>h.elim
 |_+1,.mk _ _ _ _,⟨b,c,d,H⟩=>⟨by omega,by omega,by omega,fun p a=>(H p a).in⟩
theorem UC(P:Nat→Prop)(B:Nat)(b:Aw)(w:World)(h:Er P w B b):Calls prog 13 #[.pointer (some ⟨B,0,none⟩)] w fun e W=>e=.returned (.int .i64 (b.root:Int))∧w=W:=by
 obtain⟨r,s,S,a,H,_⟩:=h;have k:=H.cell;unfold Gi at k;go_enter func13,ntmps13;go_wp2_with fail;go_ret;exact⟨rfl,rfl⟩
theorem UD(V a b v:Value)(w:World):(Instr.field 44 (.agg #[V,a,b,v]) 3).run prog w=.ok v w:=by kernel_rfl
theorem UE(P:Nat→Prop)(B:Nat)(b:Aw)(w:World)(h:Er P w B b)(n:Fe 4 b.whole):Calls prog 14 #[.pointer (some ⟨B,0,none⟩)] w fun e W=>(∃v r,e=.returned v∧F3 W w.heap.size v r∧r.length=b.whole.parts.length∧∀k(d:k<r.length)(H:k<b.whole.parts.length),A7 (fun b=>w.heap.size≤b) 3 W r[k] b.whole.parts[k])∧Below w.heap.size w W:=by
 obtain⟨R,s,S,d,H,a,_⟩:=h;have C:=iA 3 R b.whole w (A7.Ad (fun _ _ _=>trivial) a) n.in;have K:=H.cell;obtain⟨⟨p,q,t⟩,u,x,⟨y,z,A⟩⟩:=R;unfold Gi at K;simp only[Bm,A9]at K C;clear a;go_enter func14,ntmps14;go_wp2_with fail;with_reducible refine C.mono ?_
 rintro e D⟨⟨f,rfl,l⟩,g⟩;obtain⟨⟨Q,E,F⟩,G,I,⟨J,L,M⟩⟩:=f;obtain⟨_,_,_,r,c,i,_,j⟩:=l;simp only[A9]at c;have N:=UD;go_wp2_with fail;go_ret;exact⟨⟨_,r,rfl,c,i,fun k m o=>A7.Ad (fun b h _=>h.1) (j k m o)⟩,g⟩
def iB:Option A3→Value
 |none=>.tuple #[A3.zero.val,.iface 30 (.int .i64 2)]
 |some a=>.tuple #[a.val,.nilIface]
theorem UF(P:Nat→Prop)(B:Nat)(b:Aw)(i:Int)(w:World)(h:Er P w B b)(y:-9223372036854775808≤i)(z:i≤9223372036854775807):Calls prog 15 #[.pointer (some ⟨B,0,none⟩),.int .i64 i] w fun e W=>e=.returned (iB (M8 b i))∧Below w.heap.size w W:=by
 obtain⟨R,s,A,D,m,_,d,_⟩:=h;obtain⟨E,S,F⟩:=s;have n:S=b.places.length:=by
  obtain⟨a,c,e,_⟩:=d;injection e
 subst n;have g:=A1.new w Bb 36;have K:=g.cell;have G:=g.free;have j:=(m.alloc (.cells Bb 36)).cell;unfold Gi at j;simp only[A9]at j d;have d:=d.next ((AD w.heap.size w).alloc (AC _) (.cells Bb 36));by_cases f:i<0
 ·have N:=AB (by unfold M8;rw[AM f]:M8 b i=none);go_enter func15,ntmps15;go_wp2_with fail;refine AL (v:=.tuple #[A3.zero.val,.iface 30 (.int .i64 2)]) (by simp[results,results15,go_sem,A3.zero,K]) rfl ⟨by rw[N.o];rfl,?_⟩;go_grown
 by_cases I:i<b.places.length
 case neg=>
  have N:=AB (by unfold M8;rw[AI f];exact CW (by omega):M8 b i=none);have J:(b.places.length:Int)≤i:=by omega
  go_enter func15,ntmps15;go_wp2_with fail;refine AL (v:=.tuple #[A3.zero.val,.iface 30 (.int .i64 2)]) (by simp[results,results15,go_sem,A3.zero,K]) rfl ⟨by rw[N.o];rfl,?_⟩;go_grown
 obtain⟨k,rfl⟩:∃k:Nat,i=k:=⟨i.toNat,by omega⟩;have l:k<b.places.length:=by omega
 have N:=AB (by unfold M8;rw[AI f];simp[l]:M8 b (k:Int)=some b.places[k]);obtain⟨L,rfl,_,M,H⟩:=d.at Jo k l;generalize b.places[k]=a at N H;have C:=H 0 (by decide);have o:=H 1 (by decide);have p:=H 2 (by decide);have q:=H 3 (by decide);have r:=H 4 (by decide);have t:=H 5 (by decide);have u:=H 6 (by decide);have x:=H 7 (by decide);simp only[Fv,BI,AR,AT]at C o p q r t u x;have O:(0:Int)≤k:=by omega
 clear H d f;go_enter func15,ntmps15;go_wp2_with fail;refine AL (v:=.tuple #[a.val,.nilIface]) (by simp[results,results15,go_sem]) rfl ⟨by rw[N.o];rfl,?_⟩;go_grown
theorem UG(v:Value)(l:List Bs)(x:Bs)(w:World)(r:E7 1 Bi w v l)(n:l.length≤1000000000000):Calls prog 63 #[v,.string ⟨x.toArray⟩] w fun e W=>e=.returned (.int .i64 (Bj x l 0))∧W=w:=by
 obtain⟨a,p,rfl,d⟩:=r.opens Cw;have C:=AB d;clear d r;go_enter func63,ntmps63;go_wp2_with fail;go_loop[8] (fun i=>∃k:Nat,i=.int .i64 k∧k≤l.length∧Hid (Bj x l 0=Bj x (l.drop k) k)) (fun i=>l.length-(intOf i).toNat)
 case atStart=>exact⟨0,rfl,by omega,AB (by simp)⟩
 obtain⟨k,rfl,j,H⟩:=hrel;by_cases t:k<l.length
 ·obtain⟨b,rfl,m,f⟩:=C.o k t;have h:=AB (by rw[AE t];rfl:Bj x (l.drop k) k=if l[k]=x then(k:Int)else Bj x (l.drop (k+1)) (k+1));have g:w.cell? ⟨b,k,none⟩=some (.string ⟨(l[k]).toArray⟩):=by
   have:=f 0 (by decide);simpa[Bi]using this
  clear f;generalize l[k]=y at h g;by_cases c:y=x
  ·have G:=AB (by rw[H.o,h.o,AM c]:Bj x l 0=(k:Int));subst c;clear h H;go_wp2_with fail;go_ret;exact⟨Es (by rw[G.o]),rfl⟩
  have G:=AB (by rw[H.o,h.o,AI c]:Bj x l 0=Bj x (l.drop (k+1)) (k+1));have q:(x==y)=false:=by rw[AG];exact fun e=>c e.symm
  clear h H c;go_wp2_with fail
  go_round
  case rel=>exact⟨k+1,by go_num,by omega,G⟩
  simp[intOf];omega
 obtain rfl:k=l.length:=by omega
 have G:=AB (by rw[H.o,AQ];rfl:Bj x l 0=-1);go_wp2_with fail;go_ret;exact⟨Es (by rw[G.o]),rfl⟩
theorem UH(v:Value)(l:List A3)(x:A3)(w:World)(r:E7 8 Fv w v l)(R:l.length≤1000000000000):Calls prog 64 #[v,x.val] w fun e K=>e=.returned (.int .i64 (Bj x l 0))∧Below w.heap.size w K:=by
 obtain⟨a,S,rfl,h⟩:=r.opens Jo;have L:=AB h;have H:=A1.new w x.cells 36;have g:=(AD w.heap.size w).alloc (AC _) (.cells x.cells 36);have T:=Qw;clear h r;go_enter func64,ntmps64;go_wp2_with fail;go_loopw[8] (fun i wr=>∃k:Nat,i=.int .i64 k∧k≤l.length∧Hid (Bj x l 0=Bj x (l.drop k) k)∧A1 wr w.heap.size x.cells 36∧Below w.heap.size w wr) (fun i _=>l.length-(intOf i).toNat)
 case atStart=>exact⟨0,rfl,by omega,AB (by simp),H,g⟩
 clear H g;obtain⟨k,rfl,U,d,H,B⟩:=hrel;by_cases j:k<l.length
 ·obtain⟨b,rfl,M,m⟩:=L.o k j;have D:=AB (by rw[AE j];rfl:Bj x (l.drop k) k=if l[k]=x then(k:Int)else Bj x (l.drop (k+1)) (k+1));have h:=fun i N=>(B.cell (p:=⟨b,k*8+i,none⟩) M).trans (m i N)
  generalize l[k]=y at D h;have C:=h 0 (by decide);have n:=h 1 (by decide);have o:=h 2 (by decide);have q:=h 3 (by decide);have s:=h 4 (by decide);have u:=h 5 (by decide);have A:=h 6 (by decide);have E:=h 7 (by decide);simp only[Fv,BI,AR,AT]at C n o q s u A E;have V:(0:Int)≤k:=by omega
  have X:(k:Int)<l.length:=by omega
  have O:=H.cell;clear m h;go_upto_region 4 with fail;go_cut[16] (fun t W=>t=.bool (decide (x=y))∧W.heap=wr.heap∧Below w.heap.size wr W)
  case first=>
   go_quiet(fail);go_wp2_with fail;go_meet;exact⟨rfl,rfl,S0 _ _ _⟩
  case rest=>
  obtain⟨rfl,F,I⟩:=hcut;obtain⟨P,rfl⟩:∃z:World,z=wc:=⟨_,rfl⟩;have Q:A1 P w.heap.size x.cells 36:=by unfold A1;rw[F];exact H
  have J:=B.trans I;clear F I C n o q s u A E O H B;by_cases c:y=x
  ·have G:=AB (by rw[d.o,D.o,AM c]:Bj x l 0=(k:Int));have f:decide (x=y)=true:=by rw[EF];exact c.symm
   rw[f];clear D d c f;go_wp2_with fail;go_ret;exact⟨Es (by rw[G.o]),J⟩
  have G:=AB (by rw[d.o,D.o,AI c]:Bj x l 0=Bj x (l.drop (k+1)) (k+1));have f:decide (x=y)=false:=by rw[EB];exact fun e=>c e.symm
  rw[f];clear D d c f;go_wp2_with fail;go_roundw
  case rel=>exact⟨k+1,by go_num,by omega,G,Q,J⟩
  simp[intOf];omega
 obtain rfl:k=l.length:=by omega
 have G:=AB (by rw[d.o,AQ];rfl:Bj x l 0=-1);go_wp2_with fail;go_ret;exact⟨Es (by rw[G.o]),B⟩
def I6(z:A3):Bool:=(z.scheme==[99,105,100])&&(!z.hasAuth&&(!z.hasQuery&&!z.path.isEmpty))
theorem Xb(b:Aw)(a:A3):Ec b a=if I6 (Cd a)&&decide (0≤Bj (Cd a).path b.ids 0)then Bj (Cd a).path b.ids 0 else if Cd a=A3.zero then-1 else Bj (Cd a) b.places 0:=by
 unfold Ec;simp only;have H:(Cd a).scheme=[99,105,100]∧(Cd a).hasAuth=false∧(Cd a).hasQuery=false∧(Cd a).path≠[]↔I6 (Cd a)=true:=by
  unfold I6;simp
 by_cases h:I6 (Cd a)=true
 ·rw[AM (H.2 h),h];simp only[FB,EF]
 rw[AI (fun c=>h (H.1 c)),AP.2 h];simp
theorem UI(z:A3)(w:World):(binOp .eql 36 (.agg z.cells) (.agg Bb)).run prog w=.ok (.bool (decide (z=A3.zero))) w:=bR z A3.zero w
theorem Xc(P:Nat→Prop)(p:Nat)(b:Aw)(a:A3)(w:World)(h:Er P w p b)(V:a.len≤100000000)(a7:b.places.length≤1000000)(a8:b.ids.length≤1000000):Calls prog 21 #[.pointer (some ⟨p,0,none⟩),a.val] w fun e w'=>e=.returned (.int .i64 (Ec b a))∧Below w.heap.size w w':=by
 have H:=AB (Xb b a);have A:=fun W=>Zv a W (by unfold A3.len at V;omega) (by unfold A3.len at V;omega)
 have u:=Er.Ad (Q:=fun _=>True) (fun _ _ _=>trivial) h;have f:=A1.new w a.cells 36;have m:=(AD w.heap.size w).alloc (AC _) (.cells a.cells 36);have a9:p<w.heap.size:=by obtain⟨r,X,Y,h1,h2,_⟩:=h;exact h2.lt
 generalize Cd a=z at A H;clear h;go_enter func21,ntmps21;go_upto_region 1 with fail;generalize World.alloc _ _=W1 at f m⊢;go_cut[7] (fun _ i=>A1 i w.heap.size z.cells 36∧Below w.heap.size w i)
 case first=>
  have k1:=f.cell;go_wp2_with fail;with_reducible refine(A _).mono ?_
  rintro e g⟨rfl,D⟩;have E:=f.next D f.lt;have j:=m.trans (D.mono m.size);have k2:=E.cell;have f2:=E.free;clear D m;go_wp2_with fail;go_meet;exact⟨(((((((E.set 0 _).set 1 _).set 2 _).set 3 _).set 4 _).set 5 _).set 6 _).set 7 _,by go_grown⟩
 case rest=>
 obtain⟨f,j⟩:=hcut;obtain⟨g,rfl⟩:∃x:World,x=wc:=⟨_,rfl⟩;have a2:=u.next j;have b0:=j.size;clear A m u;obtain⟨r,X,Y,_,F,_,G,I⟩:=a2;have Z:=f.cell;go_upto_region 2 with fail;go_cut[25] (fun t i=>t=.bool (I6 z)∧i=g)
 case first=>
  have C:=AB (by rfl:I6 z=((z.scheme==[99,105,100])&&(!z.hasAuth&&(!z.hasQuery&&!z.path.isEmpty))));obtain⟨z1,z2,z3,z4,z5,z6,z7,z8⟩:=z;simp only at Z C;generalize b1:(z1==[99,105,100])=q1 at C;cases q1 with
  |false=>
   go_wp2_with fail;go_meet;exact⟨by rw[C.o];rfl,rfl⟩
  |true=>
   cases z2 with
   |true=>
    go_wp2_with fail;go_meet;exact⟨by rw[C.o];rfl,rfl⟩
   |false=>
    cases z5 with
    |true=>
     go_wp2_with fail;go_meet;exact⟨by rw[C.o];rfl,rfl⟩
    |false=>
     generalize b2:z4.isEmpty=q4 at C;cases q4 with
     |true=>
      go_wp2_with fail;go_meet;exact⟨by rw[C.o];rfl,rfl⟩
     |false=>
      go_wp2_with fail;go_meet;exact⟨by rw[C.o];rfl,rfl⟩
 case rest=>
 obtain⟨rfl,a3⟩:=hcut;obtain rfl:=a3.symm;have J:=F.cell;unfold Gi at J;obtain⟨S,L,M⟩:=Y;obtain⟨N,O,R⟩:=X;simp only[A9]at J I G;generalize a0:I6 z=cb at H;have b3:=AB a0;clear a0;go_upto_if 25 with fail;go_cut[5] (fun _ i=>Ec b a=(if z=A3.zero then-1 else Bj z b.places 0)∧i.heap=g.heap∧Below w.heap.size w i)
 case first=>
  cases cb with
  |false=>
   have H:=AB (show Ec b a=(if z=A3.zero then-1 else Bj z b.places 0)from H.o);go_wp2_with fail;go_meet;exact⟨H.o,rfl,j⟩
  |true=>
   have hI:=fun n=>UG (.slice S L M) b.ids z.path (g.drewN n) (I.rd.next (S0 _ _ _)) (by omega)
   have H:=AB (show Ec b a=if decide (0≤Bj z.path b.ids 0)then Bj z.path b.ids 0 else if z=A3.zero then-1 else Bj z b.places 0 from H.o);generalize Bj z.path b.ids 0=k at hI H;go_upto_region 3 with fail;go_quiet((go_at_call 63;exact FZ (hI _)));have T:Below w.heap.size w (g.drewN nq):=j.trans (S0 _ _ _);have a1:(g.drewN nq).heap=g.heap:=rfl;generalize g.drewN nq=d at T a1⊢;by_cases h0:0≤k
   ·have H:=AB (by rw[H.o,BD h0];rfl:Ec b a=k);go_wp2_with fail;go_ret;exact⟨Es H.o.symm,T⟩
   have H:=AB (by rw[H.o,AX h0];rfl:Ec b a=(if z=A3.zero then-1 else Bj z b.places 0));go_wp2_with fail;go_meet;exact⟨H.o,a1,T⟩
 case rest=>
 obtain⟨HF,o,U⟩:=hcut;obtain⟨d,rfl⟩:∃x:World,x=wc:=⟨_,rfl⟩;have v:=AB HF;clear HF;have y:A1 d w.heap.size z.cells 36:=by unfold A1;rw[o];exact f
 have q:A1 d p (Gi r b.root (N,O,R) (S,L,M)) 83:=by unfold A1;rw[o];exact F
 have a4:=(G.keep (w':=d) (by rw[o];exact AC _) (fun c _ _=>by rw[o])).rd;have hA:=fun W(hW:Below d.heap.size d W)=>UH (.slice N O R) b.places z W (a4.next hW) (by omega)
 unfold Gi at q;have b4:=y.cell;have b5:=q.cell;have hz:=UI z;have b6:=Qw;clear o G I F J Z f j;by_cases l:z=A3.zero
 ·have H:=AB (by rw[v.o,AM l]:Ec b a=-1);have s:decide (z=A3.zero)=true:=by rw[EF];exact l
  rw[s]at hz;clear l s v;go_wp2_with fail;go_ret;exact⟨Es H.o.symm,U⟩
 have H:=AB (by rw[v.o,AI l]:Ec b a=Bj z b.places 0);have s:decide (z=A3.zero)=false:=by rw[EB];exact l
 rw[s]at hz;clear l s v;generalize Bj z b.places 0=k at H hA;go_upto_region 8 with fail;have a5:=(A1.drew y).cell;have a6:=(A1.drew q).cell;have K0:=(AD d.heap.size d).drew;go_region_held3(fun W=>(∀k,W.cell? ⟨p,k,none⟩=(#[A9 r.1,.string ⟨r.2.1.toArray⟩,.bool r.2.2.1,A9 r.2.2.2,.int .i64 (b.root:Int),A9 (N,O,R),A9 (S,L,M)])[k]?)∧(∀k,W.cell? ⟨w.heap.size,k,none⟩=z.cells[k]?)∧Below d.heap.size d W)
  (first
   |with_reducible exact⟨a6,a5,K0⟩
   |with_reducible exact⟨(q.next K q.lt).cell,(y.next K y.lt).cell,K⟩)
  ((first|(go_at_call 64;go_split_ands;refine(hA _ (by assumption)).mono ?_;rintro e b7⟨rfl,u⟩;have K:=C4 u (w0:=d) (by assumption))))
 all_goals go_split_ands
 all_goals
  go_wp2_with fail;go_ret;exact⟨Es H.o.symm,U.trans (GY (B:=d.heap.size) (by assumption) U.size)⟩
end Go.Proofs.YtignjjnflcpiiaaGreatDoor
