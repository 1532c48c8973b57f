/- How much a part that was read can have. No program, no co -/
import Derived.Test.YtignjjnflcpiiaaGreatDoorV24
import Derived.Test.YtignjjnflcpiiaaGreatDoorV27
set_option maxHeartbeats 16000000
set_option maxRecDepth 100000 set_option linter.all false
namespace Go.Proofs.YtignjjnflcpiiaaGreatDoor
open Go Go.RowKit Proofs.Tryz Lib
variable {out ps:List Bs}{i n B:Nat}{p q:A7}{v:Bs}{w w' w0:World}{P:Program}{Q:Exit → Act → World → Prop}{o:Oper}{rest:List Oper}{O:Array Oper}{t:TypeId}
def YX{s:Bs}{op:Option Nat}(h:∀x∈out,x.length<=s.length):(Lc s i op out).length<=out.length+1/\∀x∈Lc s i op out,x.length<=s.length:=by
 unfold Lc;cases op with
 |none=>exact⟨ah,h⟩
 |some o=>
  refine⟨ah,fun x H=>?_⟩;rcases BY.1 H with H|H
  ·exact h x H
  simp at H;rw[H];unfold Jr;simp;omega
theorem Xc{s b:Bs}:∀(k i:Nat)(op:Option Nat)(o p:List Bs),Fi s b k i op o=some p->(∀x∈o,x.length<=s.length)->p.length<=o.length+k/\∀x∈p,x.length<=s.length
 |0,_,_,_,_,h,_=>ee
 |k+1,i,op,o,p,h,H=>by
  have c:=YX (i:=i) (op:=op) H;rcases CL s.length i with a|a
  ·rw[lL a]at h;cases h
  rw[lM a]at h;cases m:J9 (cut (s.drop i) [13,10]).1 b with
  |none=>
   rw[m]at h;have:=Xc k _ _ _ _ h H;exact⟨aa,this.2⟩
  |some t=>
   rw[m]at h;simp only at h;split at h
   ·cases h;exact⟨aa,c.2⟩
   split at h
   ·have:=Xc k _ _ _ _ h c.2;exact⟨aa,this.2⟩
   have:=Xc k _ _ _ _ h H;exact⟨aa,this.2⟩
def YY{s b:Bs}(h:Eb s b=some ps):ps.length<=s.length+2/\∀x∈ps,x.length<=s.length:=by
 have:=Xc _ _ _ _ _ h ah;simpa using this
theorem nQ{α β:Type}{f:Nat->α->Except Int (β×Nat)}:∀{l:List α}{n m:Nat}{Y:List β},Bz f n l=.ok (Y,m)->Y.length=l.length/\∀y∈Y,∃x∈l,∃a b,f a x=.ok (y,b)
 |[],n,m,Y,h=>by
  simp[Bz]at h;rw[h.1];simp
 |x::l,n,m,Y,h=>by
  unfold Bz at h;cases H:f n x with
  |error e=>rw[H]at h;cases h
  |ok r=>
   obtain⟨y,N⟩:=r;rw[H]at h;simp only at h;cases c:Bz f N l with
   |error e=>rw[c]at h;cases h
   |ok r=>
    obtain⟨z,k⟩:=r;rw[c]at h;simp only[GA,EB]at h;obtain⟨rfl,rfl⟩:=h;have ih:=nQ c;refine⟨by simp[ih.1],fun g d=>?_⟩;rcases CG.1 d with rfl|d
    ·exact⟨x,ah,n,N,H⟩
    obtain⟨X,i,j⟩:=ih.2 g d;exact⟨X,by simp[i],j⟩
def G6:Nat->A7->Prop
 |0,_=>False
 |n+1,.mk h b _ P=>Az h<=20000/\b.length<=60002/\P.length<=20002/\∀p∈P,G6 n p
theorem nR:∀(d L:Nat)(s:Bs)(p:A7)(n:Nat),Bd d L s=.ok (p,n)->s.length<=20000->G6 d p
 |0,_,_,_,_,h,_=>ee
 |d+1,0,_,_,_,h,_=>ee
 |d+1,L+1,s,p,n,h,y=>by
  unfold Bd at h;cases f:E7 s with
  |none=>rw[f]at h;cases h
  |some x=>
   obtain⟨o,B⟩:=x;rw[f]at h;simp only at h;have z:=Zb f;cases g:Cz o with
   |none=>rw[g]at h;cases h
   |some l=>
    rw[g]at h;simp only at h;have A:=W8 g;cases k:Bo l with
    |none=>rw[k]at h;cases h
    |some O=>
     rw[k]at h;cases O with
     |none=>
      simp only at h;cases i:Dd l B with
      |error e=>rw[i]at h;cases h
      |ok b=>
       rw[i]at h;simp only[GA,EB]at h;obtain⟨rfl,_⟩:=h;have:=gD i;exact⟨aa,aa,ah,ah⟩
     |some b=>
      simp only at h;cases H:Eb B b with
      |none=>rw[H]at h;cases h
      |some P=>
       rw[H]at h;simp only at h;have t:=YY H;cases j:Bz (Bd d) L P with
       |error e=>rw[j]at h;cases h
       |ok r=>
        obtain⟨Q,m⟩:=r;rw[j]at h;simp only[GA,EB]at h;obtain⟨rfl,_⟩:=h;have u:=nQ j;refine⟨aa,ah,aa,fun q H=>?_⟩;obtain⟨x,v,a,c,w⟩:=u.2 q H;exact nR d a x q c w (by have:=t.2 x v;omega)
def Xd{s:Bs}(h:Ef s=.ok p):G6 4 p:=by
 unfold Ef at h;split at h
 ·cases h
 cases H:Bd 4 40 s with
 |error e=>rw[H]at h;cases h
 |ok x=>
  obtain⟨q,n⟩:=x;rw[H]at h;cases h;exact nR 4 40 s _ n H aa
def Xe(h:¬(2<v.length/\v.getD 0 0=60/\v.getD (v.length-1) 0=62)):Oq v=[]:=by unfold Oq;rw[AL h]
def nS(h:2<v.length/\v.getD 0 0=60/\v.getD (v.length-1) 0=62):Oq v=(v.drop 1).take (v.length-1-1):=by unfold Oq;rw[AN h]
def YZ(v:Bs):(Oq v).length<=v.length:=by unfold Oq;split<;>simp;omega
def Ui{s:Bs}{l:List A4}(h:Dw n l):((Aj l s).getD []).length<=n:=by
 cases H:Aj l s with
 |none=>simp
 |some v=>exact Mc h H
def ZA(v:Value)(l:List A4)(w:World)(r:Cq w v l)(k:Dw 1000000 l):Calls prog 37 #[v] w fun e W=>e=.returned (G4 l)/\Below w.heap.size w W:=by
 have G:=Rp v l C9 w r (k.ok ae) ae;have N:=AE (ca:G4 l=Oq ((Aj l C9).getD []));have d:=Ui (s:=C9) k;unfold C9 at G N d;generalize(Aj l _).getD []=x at G N d;generalize(Aj l _).isSome=ok at G;go_enter func37,ntmps37;go_wp2_with fail;with_reducible refine G.mono ?_
 rintro e m⟨rfl,B⟩;clear G;by_cases f:2<x.length
 case neg=>
  have H:=AE (Xe (v:=x) (fun h=>f h.1));have i:¬(2:Int)<x.length:=aa
  go_wp2;go_ret;exact⟨Hz (by rw[N.o,H.o]),B⟩
 have i:(2:Int)<x.length:=aa
 have E:x.getD 0 0=x[0]' aa:=by rw[AM];simp[show 0<x.length by omega]
 have c:x.getD (x.length-1) 0=x[x.length-1]' aa:=og
 have z:(0:Int)<=(x.length:Int)-1:=aa
 have Z:(x.length:Int)-1<x.length:=aa
 have n:((x.length:Int)-1).toNat=x.length-1:=aa
 have p:0<x.length:=aa
 by_cases a:x.getD 0 0=60
 case neg=>
  have H:=AE (Xe (v:=x) (fun h=>a h.2.1));have g:((x[0].toNat:Int)==60)=false:=by
   rw[AI];intro h;apply a;rw[E];apply BQ.1;show x[0].toNat=60;omega
  clear a E c;go_wp2;go_ret;exact⟨Hz (by rw[N.o,H.o]),B⟩
 have g:((x[0].toNat:Int)==60)=true:=by
  rw[BL,<-E,a];rfl
 by_cases b:x.getD (x.length-1) 0=62
 case neg=>
  have H:=AE (Xe (v:=x) (fun h=>b h.2.2));have j:((x[x.length-1].toNat:Int)==62)=false:=by
   rw[AI];intro h;apply b;rw[c];apply BQ.1;show x[x.length-1].toNat=62;omega
  have o:=AE g;clear a b E c;go_wp2;go_ret;exact⟨Hz (by rw[N.o,H.o]),B⟩
 have H:=AE (nS (v:=x) ⟨f,a,b⟩);have j:((x[x.length-1].toNat:Int)==62)=true:=by
  rw[BL,<-c,b];rfl
 clear a b E c;go_wp2;go_ret;exact⟨Hz (by rw[N.o,H.o,List.drop_one]),B⟩
def nT(base:A3)(v:Value)(l:List A4)(w:World)(Q:base.len<=1000000)(E:Cq w v l)(F:Dw 1000000 l)(I:Gr w):Calls prog 35 #[base.val,v] w fun e S=>e=.returned (E3 base l).val/\Below w.heap.size w S:=by
 have G:=fun W m=>Rp v l O2 W m (F.ok ae) ae
 have N:=AE (show E3 base l=match Aj l O2 with
  |none=>base
  |some v=>match Be v with
   |none=>base
   |some a=>Cn (Ar base a)from rfl)
 have g:=fun x(h:Aj l O2=some x)=>Mc (n:=1000000) F h
 unfold O2 at G N g;generalize Aj l _=r at G N g;have d:=((AG w.heap.size w).alloc (AF _) (.cells base.cells 36)).alloc ah (.cells Bg 36);have b:=(A0.new w base.cells 36).alloc (.cells Bg 36);have H:=A0.new (w.alloc (.cells base.cells 36)) Bg 36;rw[AX]at H;have o:=I.next d;have p:=E.next d;have T:((w.alloc (.cells base.cells 36)).alloc (.cells Bg 36)).heap.size=w.heap.size+1+1:=ah
 clear E I;go_enter func35,ntmps35;go_wp2_with fail;generalize World.alloc _ _=W1 at d b H o p T|-;with_reducible refine(G _ p).mono ?_
 rintro e U⟨rfl,B⟩;have b:=b.next B b.lt;have H:=H.next B H.lt;have q:=d.trans (B.mono aa);have s:=o.next B;have a0:=B.size;clear G B d o p;cases r with
 |none=>
  have N:=AE (show E3 base l=base from N.o);simp only[EH,FB];have K:=b.cell;have k:=H.cell;have J:=H.free;go_wp2_with fail;refine AO (v:=base.val) my rfl ⟨fo,?_⟩;go_grown
 |some x=>
  have hx:=g x rfl;have R:=Vz x U aa s.g;unfold Tq at R;have N:=AE (show E3 base l=match Be x with
   |none=>base
   |some a=>Cn (Ar base a)from N.o)
  have i:=fun a(h:Be x=some a)=>Iv h
  clear g;generalize Be x=V at R N i;simp only[DA,EE];go_wp2_with fail;with_reducible refine R.mono ?_
  rintro e t⟨rfl,c⟩;have b:=b.next c b.lt;have H:=H.next c H.lt;have f:=q.trans (c.mono q.size);have L:=s.next c;have a1:=c.size;clear R c s q;cases V with
  |none=>
   have N:=AE (show E3 base l=base from N.o);have b:=b.alloc (.cells A3.zero.cells 36);have H:=H.alloc (.cells A3.zero.cells 36);have j:=f.alloc f.size (.cells A3.zero.cells 36);simp only[A3.zero]at b H j|-;have K:=b.cell;have k:=H.cell;have J:=H.free;go_wp2_with fail;refine AO (v:=base.val) my rfl ⟨fo,?_⟩;go_grown
  |some a=>
   have i:=i a rfl;have N:=AE (show E3 base l=Cn (Ar base a)from N.o);have X:=Nw base a;have u:=fun W m=>Zv base a W (by unfold A3.len at Q;omega) (by unfold A3.len at i;omega) m
   generalize Ar base a=y at u N X;have M:y.len<=10000000:=aa
   have A:=fun W=>hY y W me me
   generalize Cn y=z at A N;have O:=A0.new t a.cells 36;have b:=b.alloc (.cells a.cells 36);have H:=H.alloc (.cells a.cells 36);have j:=f.alloc f.size (.cells a.cells 36);have Y:=L.next ((AG t.heap.size t).alloc (AF _) (.cells a.cells 36));have K:=b.cell;have Z:=O.cell;clear L f;go_wp2_with fail;with_reducible refine(u _ Y.g).mono ?_
   rintro e w5⟨rfl,C⟩;have H:=H.next C H.lt;have P:=j.trans (C.mono j.size);clear u C K Z b O;go_wp2_with fail;with_reducible refine(A _).mono ?_
   rintro e w6⟨rfl,D⟩;have H:=H.next D H.lt;have B6:=P.trans (D.mono P.size);have k:=H.cell;have J:=H.free;clear A D;go_wp2_with fail;refine AO (v:=z.val) my rfl ⟨fo,?_⟩;go_grown
def ZB(n:Nat)(R:Au)(p:A7)(w:World)(q:A8 (fun _=>True) n w R p)(k:Dw 1000000 p.head)(s:Gr w):Calls prog 49 #[C3 R] w fun e E=>e=.returned (.bool (Jf p))/\Below w.heap.size w E:=by
 cases n with
 |zero=>exact q.elim
 |succ n=>
 obtain⟨h,b,m,P⟩:=p;obtain⟨⟨g,i,c⟩,y,M,⟨t,u,z⟩⟩:=R;obtain⟨rfl,rfl,j,_⟩:=q;simp only[C3,A9,A7.head]at j k|-;have G:=fun W F=>Rp (.slice g i c) h C2 W F (k.ok ae) ae
 have H:=AE (show Jf (.mk h y M P)=match Aj h C2 with
  |none=>false
  |some v=>match Ay v with
   |none=>false
   |some (m,_)=>m==Qz from rfl)
 have l:=fun x(h:Aj _ C2=some x)=>Mc (n:=1000000) k h
 unfold C2 at G H l;generalize Aj h _=r at G H l;have A:=(AG w.heap.size w).alloc (AF _) (.cells #[.slice g i c,y,M,.slice t u z] 44);have I:=A0.new w #[.slice g i c,y,M,.slice t u z] 44;have C:=s.next A;have D:=j.rd.next A;have O:=I.cell;have G:=G _ D;clear j D s;cases r with
 |none=>
  have H:=AE (show Jf (.mk h y M P)=false from H.o);simp only[EH,FB]at G;go_enter func49,ntmps49;go_wp2_with fail;with_reducible refine G.mono ?_
  rintro e o⟨rfl,B⟩;have K:=Qr [] o ae (C.next B).g;go_wp2_with fail;with_reducible refine K.mono ?_
  rintro e J⟨a,f⟩;obtain⟨m,P,L,N,rfl,_⟩:=a.get;clear a;go_wp2;go_ret;exact⟨Bm H.o.symm,A.trans ((B.trans (f.mono B.size)).mono ah)⟩
 |some x=>
  have Q:=l x rfl;have H:=AE (show Jf (.mk h y M P)=match Ay x with
   |none=>false
   |some (m,_)=>m==Qz from H.o)
  simp only[DA,EE]at G;clear l;go_enter func49,ntmps49;go_wp2_with fail;with_reducible refine G.mono ?_
  rintro e o⟨rfl,B⟩;have K:=Qr x o aa (C.next B).g;go_wp2_with fail;with_reducible refine K.mono ?_
  rintro e J⟨a,f⟩;obtain⟨m,P,L,N,rfl,_,_,_,_,c⟩:=a.get;clear a K G;rcases c with⟨d,rfl⟩|⟨d,rfl⟩
  ·have H:=AE (by rw[H.o,d]:Jf _=false);clear d;go_wp2;go_ret;exact⟨Bm H.o.symm,A.trans ((B.trans (f.mono B.size)).mono ah)⟩
  have H:=AE (by rw[H.o,d]:Jf _=(m==Qz));clear d;go_wp2;go_ret;exact⟨Bm bu,A.trans ((B.trans (f.mono B.size)).mono ah)⟩
def ZC(base:Nat)(t T e:TypeId)(i:TypeInfo)(size c:Nat)(h:P.underlying t=some (.slice e))(H:P.info? e=some i)
  (v:Value) (n:Nat) (xs:List Value) (a:w.ownsRow base e size v n xs):
  (Builtin.append_ #[t,t] T #[v,.slice none 0 c]).run P w=.ok v w:=by
 rcases a.2 with⟨rfl,rfl⟩|⟨g,C,r,rfl,_,_,b,_⟩
 ·simp[Builtin.append_,FI h,sizeOf,typeInfo,H,Builtin.lenOf,Builtin.firstCells]
 simp[Builtin.append_,FI h,sizeOf,typeInfo,H,Builtin.lenOf,Builtin.firstCells,b,storeCells]
def nU{a:Act}(H:o.guard=none)(s x:Operand)(t:TypeId)
  (b:o.op=.call {callee:=.builtin .append,args:=#[s,x],argTypes:=#[t,t]})
  (base:Nat) (e:TypeId) (i:TypeInfo) (size c:Nat) (d:P.underlying t=some (.slice e)) (f:P.info? e=some i)
  (v:Value) (n:Nat) (xs:List Value) (g:a.eval s=v) (j:w.ownsRow base e size v n xs) (k:a.eval x=.slice none 0 c)
  (h:wpList P O Q rest (a.put o.dst v) w):wpList P O Q (o::rest) a w:=by
 refine JJ H fun K l=>?_
 have m:=ZC (P:=P) (w:=w) base t o.type e i size c d f v n xs j;unfold Oper.wp;simp[execOp,b,resolve,invoke,builtin,g,k,m,Result.andThen];exact l _ _ h
def ZD{a:Act}(d:o.guard=none)(s x:Operand)
  (c:o.op=.call {callee:=.builtin .append,args:=#[s,x],argTypes:=#[42,42]}) (B:Nat) (v:Value) (S:Option Go.Addr) (n cap:Nat) (l:List A4)
  (f:a.eval s=v) (H:Bt w B v []) (g:a.eval x=.slice S n cap) (r:Cq w (.slice S n cap) l) (F:l.length<=1000000000000) (m:B<=w.heap.size)
  (h:∀V W,Bt W B V l->w.grownBy W v.ownBlock->Below B w W->(V.ownBlock=v.ownBlock\/V.ownBlock=some w.heap.size)->wpList prog O Q rest (a.put o.dst V) W):wpList prog O Q (o::rest) a w:=by
 obtain⟨G,J,p,i⟩:=r;injection p with E q y;subst E q y;cases S with
 |none=>
  have h0:l=[]:=by
   rcases GX l.length with h|h
   ·exact EI.1 h
   obtain⟨b,h,_⟩:=i h;cases h
  subst h0;obtain⟨I,A,_⟩:=GC My;refine nU d s x 42 c B 92 I 2 cap underlying42 A v 0 [] f H g (h v w H ⟨rfl,rfl,rfl,AF _,fun _ _ _=>rfl⟩ (AG _ _) (Or.inl rfl))
 |some C=>
  refine N8 (α:=A4) (cs:=Bc) (size:=2) (z:=.agg #[.string ByteArray.empty,.string ByteArray.empty]) Af M0 My rfl ae underlying42 d s x c B v [] l C l.length cap rfl f H g (fun j u k=>?_) ag ao m h;have t:=(CB.1 k).1;rw[Kj Af]at t;obtain⟨b,e,_,D⟩:=i aa;injection e with e;subst e;rw[Er,D j t];exact k
def Xf(B n:Nat)(w:World)(r:Au)(p:A7):Prop:=r.2.1=p.body/\r.2.2.1=p.many/\Bt w B (A9 r.1) p.head/\∃R:List Au,Gk w B (A9 r.2.2.2) R/\R.length=p.parts.length/\(∀g,(A9 r.1).ownBlock=some g->(A9 r.2.2.2).ownBlock≠some g)/\∀k(h:k<R.length)(H:k<p.parts.length),A8 (fun b=>B<=b/\(A9 r.1).ownBlock≠some b/\(A9 r.2.2.2).ownBlock≠some b) n w R[k] p.parts[k]
def Xf.rd{r:Au}(h:Xf B n w r p):A8 (fun b=>B<=b) (n+1) w r p:=by
 obtain⟨i,b,m,P⟩:=p;obtain⟨H,a,c,R,d,e,_,f⟩:=h;exact⟨H,a,(A1.Dq ae Af c).Ac fun b h _=>h.1,R,(A1.Dq ae Dx d).Ac fun b h _=>h.1,e,fun k K g=>A8.Ac (fun b h _=>h.1) (f k K g)⟩
def nV(n:Nat):∀(R:Au)(p:A7)(w:World),A8 (fun _=>True) (n+1) w R p->He (n+1) p->Calls prog 38 #[C3 R] w fun e I=>(∃l,e=.returned (C3 l)/\Xf w.heap.size n I l p)/\Below w.heap.size w I:=by
 have c6:∀(m:Nat)(R:Au)(p:A7)(w:World),A8 (fun _=>True) (m+1) w R p->He (m+1) p->(∀(R:Au)(p:A7)(w:World),A8 (fun _=>True) m w R p->He m p->Calls prog 38 #[C3 R] w fun e I=>(∃l,e=.returned (C3 l)/\A8 (fun b=>w.heap.size<=b) m I l p)/\Below w.heap.size w I)->Calls prog 38 #[C3 R] w fun e I=>(∃l,e=.returned (C3 l)/\Xf w.heap.size m I l p)/\Below w.heap.size w I:=by
  intro m R p w x K ih;obtain⟨h,b,mn,P⟩:=p;obtain⟨⟨U,V,X⟩,y,M,⟨N,pn,O⟩⟩:=R;obtain⟨rfl,rfl,c7,d7,b0,d8,c8⟩:=x;obtain⟨f0,f2,f3,c9⟩:=K;simp only[C3,A9]at c7 b0|-;have f4:=S4 h;have d9:pn=P.length:=by
   obtain⟨a,c,e,_⟩:=b0;injection e with _ e _;exact e.trans d8
  subst d9;have e0:=AE c8;have e1:=AE c9;clear c8 c9;have Y:=(((AG w.heap.size w).alloc (AF _) (.cells #[.slice U V X,y,M,.slice N P.length O] 44)).alloc ah (.cells #[.slice none 0 0,.string ⟨#[]⟩,false,.slice none 0 0] 44));have H:=((A0.new w #[.slice U V X,y,M,.slice N P.length O] 44).alloc (.cells #[.slice none 0 0,.string ⟨#[]⟩,false,.slice none 0 0] 44));have d:=A0.new (w.alloc (.cells #[.slice U V X,y,M,.slice N P.length O] 44)) #[.slice none 0 0,.string ⟨#[]⟩,false,.slice none 0 0] 44;rw[AX]at d;have d0:((w.alloc (.cells #[.slice U V X,y,M,.slice N P.length O] 44)).alloc (.cells #[.slice none 0 0,.string ⟨#[]⟩,false,.slice none 0 0] 44)).heap.size=w.heap.size+1+1:=ah
  go_enter func38,ntmps38;go_upto_region 1 with fail;generalize World.alloc _ _=z at Y H d d0|-;have f5:w.heap.size+1<z.heap.size:=aa
  clear d0;have A:=(AG z.heap.size z).alloc (AF _) (.cells #[] 92);have d1:=(c7.rd.next Y).next A;have H:=H.next A H.lt;have d:=d.next A d.lt;have d2:=lW z;have f6:(z.alloc (.cells #[] 92)).heap.size=z.heap.size+1:=ah
  have B3:=Y.trans (A.mono Y.size);have T:=H.cell;have f1:=H.free;clear A Y;go_wp2_with(at_builtin;refine ZD rfl _ _ rfl z.heap.size _ U V X h rfl d2 rfl d1 aa ah ?_;intro v4 w4 L e2 Z a2;obtain⟨o,C,e3,_⟩:=A1.rd ae Af L;subst e3;have H:=H.next Z aa;have T:=H.cell;have f1:=H.free);have H:A0 (w4.setCell ⟨w.heap.size,0,none⟩ (.slice o h.length C)) w.heap.size #[.slice o h.length C,y,M,.slice N P.length O] 44:=H.set 0 _;have d:=(d.next Z aa).A6 (a:=⟨w.heap.size,0,none⟩) ai (.slice o h.length C);have L:=L.A6 (a:=⟨w.heap.size,0,none⟩) ai (.slice o h.length C);have B5:=(B3.trans (Z.mono aa)).setCell (p:=⟨w.heap.size,0,none⟩) (AF _) (.slice o h.length C);have a3:=A1.Dj L;have e4:z.heap.size+1<=(w4.setCell ⟨w.heap.size,0,none⟩ (.slice o h.length C)).heap.size:=by have:=Z.size;simp[World.setCell]at*;omega
  generalize e5:w4.setCell ⟨w.heap.size,0,none⟩ (.slice o h.length C)=D at H d L B5 a3 e4;have T:=H.cell;clear e2 Z a2 d1 d2 B3;clear e5;go_loopw[3,14] (fun vp iv wr=>∃(k:Nat)(s:List Au)(sl:Je),iv=k/\vp=A9 sl/\k<=P.length/\s.length=k/\Gk wr D.heap.size (A9 sl) s/\Bt wr z.heap.size (.slice o h.length C) h/\Hid (∀j(f:j<s.length)(i:j<P.length),A8 (fun b=>D.heap.size<=b/\(A9 sl).ownBlock≠some b) m wr s[j] P[j])/\A0 wr w.heap.size #[.slice o h.length C,y,M,.slice N P.length O] 44/\A0 wr (w.heap.size+1) #[.slice none 0 0,.string ⟨#[]⟩,false,.slice none 0 0] 44/\Below w.heap.size w wr/\D.heap.size<=wr.heap.size) (fun _ iv _=>P.length-(intOf iv).toNat)
  case atStart=>exact⟨0,[],(none,0,0),rfl,rfl,aa,rfl,A1.nil _ _ _ _ _,L,AE (fun j f=>by simp at f),H,d,B5,AF _⟩
  clear H d L B5 T;obtain⟨k,s,sl,rfl,rfl,hk,e6,t,E,u,H,d,B,f7⟩:=hrel;obtain⟨S,F,G⟩:=sl;simp only[A9]at t u|-;by_cases b1:k<P.length
  ·obtain⟨pb,rfl,_,f8,a0⟩:=(b0.next B).at Dx k aa;have a4:=(e0.o k aa b1).next B;have b2:=e1.o _ (AQ b1);have c0:=a0 0 ae;have c1:=a0 1 ae;have c2:=a0 2 ae;have c3:=a0 3 ae;have b3:=AE (show∀(W:World)(r:Au),A8 (fun b=>D.heap.size<=b/\(Value.slice S F G).ownBlock≠some b) m W r P[k]->(∀j(f:j<s.length)(i:j<P.length),A8 (fun b=>D.heap.size<=b/\(Value.slice S F G).ownBlock≠some b) m W s[j] P[j])->∀j(f:j<(s++[r]).length)(i:j<P.length),A8 (fun b=>D.heap.size<=b/\(Value.slice S F G).ownBlock≠some b) m W (s++[r])[j] P[j]from fun W r f i j T k2=>by
    by_cases hj:j<s.length
    ·rw[EC hj];exact i j hj k2
    obtain rfl:j=k:=by simp at T;omega
    rw[GN aa];simp only[List.getElem_singleton];exact f)
   clear a0;generalize P[k]=q at a4 b2 b3;generalize d7[k]' aa=R at a4 c0 c1 c2 c3;have hI:=fun W h=>ih R q W h b2
   obtain⟨⟨ra,rn,b4⟩,rb,rm,⟨b5,b6,b7⟩⟩:=R;simp only[C3,A9,Dk,BI,AU,AR]at c0 c1 c2 c3 hI;have kt:=A0.new wr #[.slice ra rn b4,rb,rm,.slice b5 b6 b7] 44;have A:=(AG wr.heap.size wr).alloc (AF _) (.cells #[.slice ra rn b4,rb,rm,.slice b5 b6 b7] 44);have H:=H.next A H.lt;have d:=d.next A d.lt;have E:=A1.next E A;have t:=A1.next t A;have B1:=B.trans (A.mono B.size);have hI:=hI _ (a4.next A);have u:=AE (fun j f i=>(u.o j f i).next A);have e7:(wr.alloc (.cells #[.slice ra rn b4,rb,rm,.slice b5 b6 b7] 44)).heap.size=wr.heap.size+1:=ah
   have d3:=kt.cell;clear A B a4 b2;go_wp2_with fail;generalize World.alloc _ _=W1 at H d E t B1 hI u e7 d3 kt|-;with_reducible refine hI.mono ?_
   rintro e w8⟨⟨l,rfl,d4⟩,J⟩;have H:=H.next J H.lt;have d:=d.next J d.lt;have E:=A1.next E J;have d5:=A1.Dj t;have t:=A1.next t J;have B8:=B1.trans (J.mono B1.size);have u:=AE (b3.o w8 l (A8.Ac (fun b h _=>⟨aa,fun e=>by have:=d5 b e;omega⟩) d4) (fun j f i=>(u.o j f i).next J));have a5:=A1.Ha t;have f9:=J.size;clear hI c0 c1 c2 c3 B1 kt d3 J b3 d4 d5;obtain⟨⟨qa,qn,a6⟩,qb,qm,⟨a7,a8,a9⟩⟩:=l;go_wp2_with(at_builtin;refine Wy rfl _ _ rfl D.heap.size _ s ((qa,qn,a6),qb,qm,(a7,a8,a9)) w8.heap.size 1 rfl (A1.alloc t _) rfl (Wx _ ((qa,qn,a6),qb,qm,(a7,a8,a9)) _ _ rfl) aa ag ?_;intro v' w9 d6 b8 a1 a2;obtain⟨b9,c4,c5,rfl⟩:=d6.shape);have A:=(AG w8.heap.size w8).alloc (AF _) (.cells #[.slice qa qn a6,qb,qm,.slice a7 a8 a9] 44);have H:=(H.next A H.lt).next a1 aa;have d:=(d.next A d.lt).next a1 aa;have E:=(A1.next E A).grown b8 (fun g hg e=>by have f:=a3 g hg;have i:=a5 g e;omega);have B9:=(B8.trans (A.mono B8.size)).trans (a1.mono aa);have e8:=a1.size;rw[AX]at e8;have u:=AE (fun j f i=>A8.Ac (Q:=fun b=>D.heap.size<=b/\(Value.slice b9 c4 c5).ownBlock≠some b) (fun b h _=>⟨h.1.1,h.2⟩) ((A8.Ac (Q:=fun b=>(D.heap.size<=b/\(Value.slice S F G).ownBlock≠some b)/\(Value.slice b9 c4 c5).ownBlock≠some b) (fun b h b1=>⟨h,fun e=>by
    rcases a2 with ho|ho
    ·exact h.2 (ho▸e)
    rw[ho]at e;injection e with e;omega⟩) ((u.o j f i).next A)).grown b8 (fun b h e=>h.1.2 e.symm)))
   clear A a5 b8 a1 a2 t B8;go_wp2;go_roundw
   case rel=>exact⟨k+1,s++[((qa,qn,a6),qb,qm,(a7,a8,a9))],(b9,c4,c5),aj,rfl,aa,ag,d6,E,u,H,d,B9,aa⟩
   simp[intOf];omega
  obtain rfl:k=P.length:=aa
  have a5:=A1.Ha t;have e9:A0 (wr.setCell ⟨w.heap.size,3,none⟩ (.slice S F G)) w.heap.size #[.slice o h.length C,y,M,.slice S F G] 44:=H.set 3 _;have T:=H.cell;have f1:=H.free;have ks:=e9.cell;have d:=d.A6 (a:=⟨w.heap.size,3,none⟩) ai (.slice S F G);have k2:=d.cell;have g0:=d.free;go_wp2_with fail;refine AO (v:=.agg #[.slice o h.length C,y,M,.slice S F G]) (by simp[results,results38,go_sem,k2]) rfl ⟨⟨((o,h.length,C),y,M,(S,F,G)),rfl,rfl,rfl,?_,s,?_,e6,?_,fun j f i=>?_⟩,?_⟩
  ·exact A1.mono (((((E.A6 ai _).A6 ai _).A6 ai _).A6 ai _).A6 ai _) aa
  ·exact A1.mono (((((t.A6 ai _).A6 ai _).A6 ai _).A6 ai _).A6 ai _) aa
  ·intro g hg e;have f:=a3 g hg;have i:=a5 g e;omega
  ·exact A8.Ac (fun b h _=>⟨aa,fun e=>by have:=a3 b e;omega,h.2⟩) ((((((u.o j f i).set _ (fun h=>av)).set _ (fun h=>av)).set _ (fun h=>av)).set _ (fun h=>av)).set _ (fun h=>av))
  go_grown
 induction n with
 |zero=>exact fun R p w x K=>c6 0 R p w x K (fun R p w x _=>x.elim)
 |succ n ih=>exact fun R p w x K=>c6 (n+1) R p w x K (fun R p w x K=>(ih R p w x K).mono fun _ _⟨⟨l,f,i⟩,h3⟩=>⟨⟨l,f,i.rd⟩,h3⟩)
def Gm(a:A3):List Value:=a.cells.toList
theorem Lj(a:A3):(Gm a).length=8:=rfl
def Uj(a:A3):∀u∈Gm a,u.oneCell'=true:=fun u h=>by
 simp[Gm]at h;rcases h with rfl|rfl|rfl|rfl|rfl|rfl|rfl|rfl<;>rfl
def Uk:(prog.info? 36).map (fun i=>(i.zero,i.size,i.bytes))=some (some (.agg #[.string ByteArray.empty,false,.string ByteArray.empty,.string ByteArray.empty,false,.string ByteArray.empty,false,.string ByteArray.empty]),8,104):=af
abbrev bF(w:World)(B:Nat)(v:Value)(l:List A3):Prop:=A1 36 8 Gm w B v l
def Ii(r:Au)(R:Nat)(s S:Je):Array Value:=#[A9 r.1,r.2.1,.bool r.2.2.1,A9 r.2.2.2,R,A9 s,A9 S]
def Dl(P:Nat->Prop)(w:World)(B:Nat)(b:Al):Prop:=∃(r:Au)(s S:Je),P B/\A0 w B (Ii r b.root s S) 83/\A8 P 4 w r b.whole/\Ba 8 Gm P w (A9 s) b.places/\Ba 1 Bl P w (A9 S) b.ids
def Dl.keep{P:Nat->Prop}{w w':World}{B:Nat}{b:Al}(h:Dl P w B b)(s:w.heap.size<=w'.heap.size)(H:∀b,P b->b<w.heap.size->w'.heap[b]?=w.heap[b]?):Dl P w' B b:=by
 obtain⟨r,S,i,a,c,d,e,f⟩:=h;exact⟨r,S,i,a,(H B a c.lt).trans c,A8.keep s H d,e.keep s H,f.keep s H⟩
def Dl.next{P:Nat->Prop}{b:Al}(h:Dl P w B b)(H:Below w.heap.size w w'):Dl P w' B b:=h.keep H.size fun b _ t=>H.block b t
def Dl.Ac{P Q:Nat->Prop}{w:World}{B:Nat}{b:Al}(H:∀b,P b->b<w.heap.size->Q b)(h:Dl P w B b):Dl Q w B b:=by
 obtain⟨r,s,S,c,a,d,e,f⟩:=h;exact⟨r,s,S,H B c a.lt,a,A8.Ac H d,e.Ac H,f.Ac H⟩
structure Fx(b:Al):Prop where
 whole:G6 4 b.whole
 places:b.places.length=b.whole.parts.length
 ids:b.ids.length=b.whole.parts.length
 placeL:∀a∈b.places,a.len<=1000000
 idL:∀s∈b.ids,s.length<=1000000
def G6.in:∀{n:Nat}{p:A7},G6 n p->He n p
 |0,_,h=>h.elim
 |_+1,.mk _ _ _ _,⟨b,c,d,H⟩=>⟨aa,aa,aa,fun p a=>(H p a).in⟩
def ZE(P:Nat->Prop)(B:Nat)(b:Al)(w:World)(h:Dl P w B b):Calls prog 13 #[.pointer (some ⟨B,0,none⟩)] w fun e W=>e=.returned (.int .i64 (b.root:Int))/\w=W:=by
 obtain⟨r,s,S,a,H,_⟩:=h;have k:=H.cell;unfold Ii at k;go_enter func13,ntmps13;go_wp2;go_ret;exact⟨rfl,rfl⟩
def ZF(V a b v:Value)(w:World):(Instr.field 44 (.agg #[V,a,b,v]) 3).run prog w=.ok v w:=af
def nW(P:Nat->Prop)(B:Nat)(b:Al)(w:World)(h:Dl P w B b)(n:G6 4 b.whole):Calls prog 14 #[.pointer (some ⟨B,0,none⟩)] w fun e W=>(∃v r,e=.returned v/\Gk W w.heap.size v r/\r.length=b.whole.parts.length/\∀k(d:k<r.length)(H:k<b.whole.parts.length),A8 (fun b=>w.heap.size<=b) 3 W r[k] b.whole.parts[k])/\Below w.heap.size w W:=by
 obtain⟨R,s,S,d,H,a,_⟩:=h;have hC:=nV 3 R b.whole w (A8.Ac (fun _ _ _=>trivial) a) n.in;have K:=H.cell;obtain⟨⟨p,q,t⟩,u,x,⟨y,z,A⟩⟩:=R;unfold Ii at K;simp only[C3,A9]at K hC;clear a;go_enter func14,ntmps14;go_wp2_with fail;with_reducible refine hC.mono ?_
 rintro e C⟨⟨f,rfl,l⟩,g⟩;obtain⟨⟨Q,D,E⟩,F,G,⟨I,J,L⟩⟩:=f;obtain⟨_,_,_,r,c,i,_,j⟩:=l;simp only[A9]at c;have M:=ZF;go_wp2;go_ret;exact⟨⟨_,r,rfl,c,i,fun k m o=>A8.Ac (fun b h _=>h.1) (j k m o)⟩,g⟩
def nX:Option A3->Value
 |none=>.tuple #[A3.zero.val,.iface 30 (.int .i64 2)]
 |some a=>.tuple #[a.val,.nilIface]
def ZG(P:Nat->Prop)(B:Nat)(b:Al)(i:Int)(w:World)(h:Dl P w B b)(x:-9223372036854775808<=i)(y:i<=9223372036854775807):Calls prog 15 #[.pointer (some ⟨B,0,none⟩),i] w fun e W=>e=.returned (nX (Hw b i))/\Below w.heap.size w W:=by
 obtain⟨R,s,z,A,l,_,d,_⟩:=h;obtain⟨D,S,E⟩:=s;have n:S=b.places.length:=by
  obtain⟨a,c,e,_⟩:=d;injection e
 subst n;have f:=A0.new w Bg 36;have K:=f.cell;have F:=f.free;have g:=(l.alloc (.cells Bg 36)).cell;unfold Ii at g;simp only[A9]at g d;have d:=d.next ((AG w.heap.size w).alloc (AF _) (.cells Bg 36));by_cases h0:i<0
 ·have N:=AE (by unfold Hw;rw[AN h0]:Hw b i=none);go_enter func15,ntmps15;go_wp2_with fail;refine AO (v:=.tuple #[A3.zero.val,.iface 30 (.int .i64 2)]) (by simp[results,results15,go_sem,A3.zero,K]) rfl ⟨ay,?_⟩;go_grown
 by_cases G:i<b.places.length
 case neg=>
  have N:=AE (by unfold Hw;rw[AL h0];exact DC aa:Hw b i=none);have I:(b.places.length:Int)<=i:=aa
  go_enter func15,ntmps15;go_wp2_with fail;refine AO (v:=.tuple #[A3.zero.val,.iface 30 (.int .i64 2)]) (by simp[results,results15,go_sem,A3.zero,K]) rfl ⟨ay,?_⟩;go_grown
 obtain⟨k,rfl⟩:∃k:Nat,i=k:=⟨i.toNat,aa⟩;have j:k<b.places.length:=aa
 have N:=AE (by unfold Hw;rw[AL h0];simp[j]:Hw b (k:Int)=some b.places[k]);obtain⟨J,rfl,_,L,H⟩:=d.at Lj k j;generalize b.places[k]=a at N H;have C:=H 0 ae;have m:=H 1 ae;have o:=H 2 ae;have p:=H 3 ae;have q:=H 4 ae;have r:=H 5 ae;have t:=H 6 ae;have u:=H 7 ae;simp only[Gm,BI,AU,AR]at C m o p q r t u;have M:(0:Int)<=k:=aa
 clear H d h0;go_enter func15,ntmps15;go_wp2_with fail;refine AO (v:=.tuple #[a.val,.nilIface]) (by simp[results,results15,go_sem]) rfl ⟨ay,?_⟩;go_grown
def ZH(v:Value)(l:List Bs)(x:Bs)(w:World)(r:F9 1 Bl w v l)(n:l.length<=1000000000000):Calls prog 63 #[v,x] w fun e W=>e=.returned (.int .i64 (Br x l 0))/\W=w:=by
 obtain⟨a,p,rfl,d⟩:=r.opens By;have C:=AE d;clear d r;go_enter func63,ntmps63;go_wp2_with fail;go_loop[8] (fun i=>∃k:Nat,i=k/\k<=l.length/\Hid (Br x l 0=Br x (l.drop k) k)) (fun i=>l.length-(intOf i).toNat)
 case atStart=>exact⟨0,rfl,aa,AE ah⟩
 obtain⟨k,rfl,j,H⟩:=hrel;by_cases t:k<l.length
 ·obtain⟨b,rfl,m,f⟩:=C.o k t;have h:=AE (ir:Br x (l.drop k) k=if l[k]=x then(k:Int)else Br x (l.drop (k+1)) (k+1));have g:w.cell? ⟨b,k,none⟩=some (l[k]):=by
   have:=f 0 ae;simpa[Bl]using this
  clear f;generalize l[k]=y at h g;by_cases c:y=x
  ·have G:=AE (by rw[H.o,h.o,AN c]:Br x l 0=(k:Int));subst c;clear h H;go_wp2;go_ret;exact⟨Fg vo,rfl⟩
  have G:=AE (by rw[H.o,h.o,AL c]:Br x l 0=Br x (l.drop (k+1)) (k+1));have q:(x==y)=false:=by rw[AI];exact fun e=>c e.symm
  clear h H c;go_wp2_with fail
  go_round
  case rel=>exact⟨k+1,aj,aa,G⟩
  simp[intOf];omega
 obtain rfl:k=l.length:=aa
 have G:=AE (by rw[H.o,AS];rfl:Br x l 0=-1);go_wp2;go_ret;exact⟨Fg vo,rfl⟩
def ZI(v:Value)(l:List A3)(x:A3)(w:World)(r:F9 8 Gm w v l)(R:l.length<=1000000000000):Calls prog 64 #[v,x.val] w fun e K=>e=.returned (.int .i64 (Br x l 0))/\Below w.heap.size w K:=by
 obtain⟨a,S,rfl,h⟩:=r.opens Lj;have L:=AE h;have H:=A0.new w x.cells 36;have g:=(AG w.heap.size w).alloc (AF _) (.cells x.cells 36);have T:=Yz;clear h r;go_enter func64,ntmps64;go_wp2_with fail;go_loopw[8] (fun i wr=>∃k:Nat,i=k/\k<=l.length/\Hid (Br x l 0=Br x (l.drop k) k)/\A0 wr w.heap.size x.cells 36/\Below w.heap.size w wr) (fun i _=>l.length-(intOf i).toNat)
 case atStart=>exact⟨0,rfl,aa,AE ah,H,g⟩
 clear H g;obtain⟨k,rfl,U,d,H,B⟩:=hrel;by_cases j:k<l.length
 ·obtain⟨b,rfl,M,m⟩:=L.o k j;have D:=AE (by rw[AH j];rfl:Br x (l.drop k) k=if l[k]=x then(k:Int)else Br x (l.drop (k+1)) (k+1));have h:=fun i N=>(B.cell (p:=⟨b,k*8+i,none⟩) M).trans (m i N)
  generalize l[k]=y at D h;have C:=h 0 ae;have n:=h 1 ae;have o:=h 2 ae;have q:=h 3 ae;have s:=h 4 ae;have u:=h 5 ae;have A:=h 6 ae;have E:=h 7 ae;simp only[Gm,BI,AU,AR]at C n o q s u A E;have V:(0:Int)<=k:=aa
  have X:(k:Int)<l.length:=aa
  have O:=H.cell;clear m h;go_upto_region 4 with fail;go_cut[16] (fun t W=>t=.bool (decide (x=y))/\W.heap=wr.heap/\Below w.heap.size wr W)
  case first=>
   go_quiet(fail);go_wp2;go_meet;exact⟨rfl,rfl,Vf _ _ _⟩
  case rest=>
  obtain⟨rfl,F,I⟩:=hcut;obtain⟨P,rfl⟩:∃z:World,z=wc:=⟨_,rfl⟩;have Q:A0 P w.heap.size x.cells 36:=by unfold A0;rw[F];exact H
  have J:=B.trans I;clear F I C n o q s u A E O H B;by_cases c:y=x
  ·have G:=AE (by rw[d.o,D.o,AN c]:Br x l 0=(k:Int));have f:decide (x=y)=true:=by rw[EL];exact c.symm
   rw[f];clear D d c f;go_wp2;go_ret;exact⟨Fg vo,J⟩
  have G:=AE (by rw[d.o,D.o,AL c]:Br x l 0=Br x (l.drop (k+1)) (k+1));have f:decide (x=y)=false:=by rw[EG];exact fun e=>c e.symm
  rw[f];clear D d c f;go_wp2;go_roundw
  case rel=>exact⟨k+1,aj,aa,G,Q,J⟩
  simp[intOf];omega
 obtain rfl:k=l.length:=aa
 have G:=AE (oq:Br x l 0=-1);go_wp2;go_ret;exact⟨Fg vo,B⟩
def Jh(z:A3):Bool:=(z.scheme==[99,105,100])&&(!z.hasAuth&&(!z.hasQuery&&!z.path.isEmpty))
def bG(b:Al)(a:A3):D8 b a=if Jh (Cn a)&&decide (0<=Br (Cn a).path b.ids 0)then Br (Cn a).path b.ids 0 else if Cn a=A3.zero then-1 else Br (Cn a) b.places 0:=by
 unfold D8;simp only;have H:(Cn a).scheme=[99,105,100]/\(Cn a).hasAuth=false/\(Cn a).hasQuery=false/\(Cn a).path≠[]↔Jh (Cn a)=true:=by
  unfold Jh;simp
 by_cases h:Jh (Cn a)=true
 ·rw[AN (H.2 h),h];simp only[FR,EL]
 rw[AL (fun c=>h (H.1 c)),AT.2 h];simp
def ZJ(z:A3)(w:World):(binOp .eql 36 (.agg z.cells) (.agg Bg)).run prog w=.ok (.bool (decide (z=A3.zero))) w:=fB z A3.zero w
theorem nY(P:Nat->Prop)(p:Nat)(b:Al)(a:A3)(w:World)(h:Dl P w p b)(V:a.len<=100000000)(a7:b.places.length<=1000000)(a8:b.ids.length<=1000000):Calls prog 21 #[.pointer (some ⟨p,0,none⟩),a.val] w fun e w'=>e=.returned (.int .i64 (D8 b a))/\Below w.heap.size w w':=by
 have H:=AE (bG b a);have A:=fun W=>hY a W (by unfold A3.len at V;omega) (by unfold A3.len at V;omega)
 have u:=Dl.Ac (Q:=fun _=>True) (fun _ _ _=>trivial) h;have f:=A0.new w a.cells 36;have m:=(AG w.heap.size w).alloc (AF _) (.cells a.cells 36);have a9:p<w.heap.size:=by obtain⟨r,X,Y,h1,h2,_⟩:=h;exact h2.lt
 generalize Cn a=z at A H;clear h;go_enter func21,ntmps21;go_upto_region 1 with fail;generalize World.alloc _ _=W1 at f m|-;go_cut[7] (fun _ i=>A0 i w.heap.size z.cells 36/\Below w.heap.size w i)
 case first=>
  have k1:=f.cell;go_wp2_with fail;with_reducible refine(A _).mono ?_
  rintro e g⟨rfl,D⟩;have E:=f.next D f.lt;have j:=m.trans (D.mono m.size);have k2:=E.cell;have f2:=E.free;clear D m;go_wp2;go_meet;exact⟨(((((((E.set 0 _).set 1 _).set 2 _).set 3 _).set 4 _).set 5 _).set 6 _).set 7 _,cu⟩
 case rest=>
 obtain⟨f,j⟩:=hcut;obtain⟨g,rfl⟩:∃x:World,x=wc:=⟨_,rfl⟩;have a2:=u.next j;have b0:=j.size;clear A m u;obtain⟨r,X,Y,_,F,_,G,I⟩:=a2;have Z:=f.cell;go_upto_region 2 with fail;go_cut[25] (fun t i=>t=.bool (Jh z)/\i=g)
 case first=>
  have C:=AE (ca:Jh z=((z.scheme==[99,105,100])&&(!z.hasAuth&&(!z.hasQuery&&!z.path.isEmpty))));obtain⟨z1,z2,z3,z4,z5,z6,z7,z8⟩:=z;simp only at Z C;generalize b1:(z1==[99,105,100])=q1 at C;cases q1 with
  |false=>
   go_wp2;go_meet;exact⟨ic,rfl⟩
  |true=>
   cases z2 with
   |true=>
    go_wp2;go_meet;exact⟨ic,rfl⟩
   |false=>
    cases z5 with
    |true=>
     go_wp2;go_meet;exact⟨ic,rfl⟩
    |false=>
     generalize b2:z4.isEmpty=q4 at C;cases q4 with
     |true=>
      go_wp2;go_meet;exact⟨ic,rfl⟩
     |false=>
      go_wp2;go_meet;exact⟨ic,rfl⟩
 case rest=>
 obtain⟨rfl,a3⟩:=hcut;obtain rfl:=a3.symm;have J:=F.cell;unfold Ii at J;obtain⟨S,L,M⟩:=Y;obtain⟨N,O,R⟩:=X;simp only[A9]at J I G;generalize a0:Jh z=cb at H;have b3:=AE a0;clear a0;go_upto_if 25 with fail;go_cut[5] (fun _ i=>D8 b a=(if z=A3.zero then-1 else Br z b.places 0)/\i.heap=g.heap/\Below w.heap.size w i)
 case first=>
  cases cb with
  |false=>
   have H:=AE (show D8 b a=(if z=A3.zero then-1 else Br z b.places 0)from H.o);go_wp2;go_meet;exact⟨H.o,rfl,j⟩
  |true=>
   have hI:=fun n=>ZH (.slice S L M) b.ids z.path (g.drewN n) (I.rd.next (Vf _ _ _)) aa
   have H:=AE (show D8 b a=if decide (0<=Br z.path b.ids 0)then Br z.path b.ids 0 else if z=A3.zero then-1 else Br z b.places 0 from H.o);generalize Br z.path b.ids 0=k at hI H;go_upto_region 3 with fail;go_quiet((go_at_call 63;exact GW (hI _)));have T:Below w.heap.size w (g.drewN nq):=j.trans (Vf _ _ _);have a1:(g.drewN nq).heap=g.heap:=rfl;generalize g.drewN nq=d at T a1|-;by_cases h0:0<=k
   ·have H:=AE (by rw[H.o,BH h0];rfl:D8 b a=k);go_wp2;go_ret;exact⟨Fg H.o.symm,T⟩
   have H:=AE (by rw[H.o,AY h0];rfl:D8 b a=(if z=A3.zero then-1 else Br z b.places 0));go_wp2;go_meet;exact⟨H.o,a1,T⟩
 case rest=>
 obtain⟨HF,o,U⟩:=hcut;obtain⟨d,rfl⟩:∃x:World,x=wc:=⟨_,rfl⟩;have v:=AE HF;clear HF;have y:A0 d w.heap.size z.cells 36:=by unfold A0;rw[o];exact f
 have q:A0 d p (Ii r b.root (N,O,R) (S,L,M)) 83:=by unfold A0;rw[o];exact F
 have a4:=(G.keep (w':=d) (by rw[o];exact AF _) (fun c _ _=>by rw[o])).rd;have hA:=fun W(hW:Below d.heap.size d W)=>ZI (.slice N O R) b.places z W (a4.next hW) aa
 unfold Ii at q;have b4:=y.cell;have b5:=q.cell;have hz:=ZJ z;have b6:=Yz;clear o G I F J Z f j;by_cases l:z=A3.zero
 ·have H:=AE (by rw[v.o,AN l]:D8 b a=-1);have s:decide (z=A3.zero)=true:=by rw[EL];exact l
  rw[s]at hz;clear l s v;go_wp2;go_ret;exact⟨Fg H.o.symm,U⟩
 have H:=AE (by rw[v.o,AL l]:D8 b a=Br z b.places 0);have s:decide (z=A3.zero)=false:=by rw[EG];exact l
 rw[s]at hz;clear l s v;generalize Br z b.places 0=k at H hA;go_upto_region 8 with fail;have a5:=(A0.drew y).cell;have a6:=(A0.drew q).cell;have K0:=(AG d.heap.size d).drew;go_region_held3(fun W=>(∀k,W.cell? ⟨p,k,none⟩=(#[A9 r.1,r.2.1,.bool r.2.2.1,A9 r.2.2.2,.int .i64 (b.root:Int),A9 (N,O,R),A9 (S,L,M)])[k]?)/\(∀k,W.cell? ⟨w.heap.size,k,none⟩=z.cells[k]?)/\Below d.heap.size d W)
  (first
   |with_reducible exact⟨a6,a5,K0⟩
   |with_reducible exact⟨(q.next K q.lt).cell,(y.next K y.lt).cell,K⟩)
  ((first|(go_at_call 64;go_split_ands;refine(hA _ ax).mono ?_;rintro e b7⟨rfl,u⟩;have K:=Bp u (w0:=d) ax)))
 all_goals go_split_ands
 all_goals
  go_wp2;go_ret;exact⟨Fg H.o.symm,U.trans (IJ (B:=d.heap.size) ax U.size)⟩
abbrev Ij:=Bs×Int
def Ji(x:Ij):List Value:=[x.1,.int .i64 x.2]
theorem Lk(x:Ij):(Ji x).length=2:=rfl
def bH(x:Ij):∀u∈Ji x,u.oneCell'=true:=fun u h=>by
 simp[Ji]at h;rcases h with rfl|rfl<;>rfl
def nZ:(prog.info? 46).map (fun i=>(i.zero,i.size,i.bytes))=some (some (.agg #[.string ByteArray.empty,.int .i64 0]),2,24):=af
abbrev bI(w:World)(B:Nat)(v:Value)(l:List Ij):Prop:=A1 46 2 Ji w B v l
def Xg(w:World)(x:Ij)(t:TypeId)(b:Nat)(H:b=w.heap.size):∀j u,([x].flatMap Ji)[j]?=some u->(w.alloc (.cells #[x.1,.int .i64 x.2] t)).cell? ((⟨b,0,none⟩:Go.Addr).add j)=some u:=fun j u h=>by
 subst H;rw[Er,(A0.new w #[x.1,.int .i64 x.2] t).cell]
 match j,h with
 |0,h=>exact h
 |1,h=>exact h
 |j+2,h=>simp[Ji]at h
def ZK(B:Nat)(r:Option (List Ij))(e:Ending)(w':World):Prop:=(∃l v,r=some l/\e=.returned (.tuple #[v,.nilIface])/\bI w' B v l)\/(r=none/\e=.returned (.tuple #[.slice none 0 0,.iface 30 (.int .i64 2)]))
def G6.part(h:G6 (n+1) p)(H:q∈p.parts):G6 n q:=by
 obtain⟨a,b,c,d⟩:=p;exact h.2.2.2 q H
def G6.head:∀{n:Nat}{p:A7},G6 n p->Az p.head<=20000/\p.body.length<=60002/\p.parts.length<=20002
 |0,_,h=>h.elim
 |_+1,.mk _ _ _ _,⟨H,a,b,_⟩=>⟨H,a,b⟩
def A8.parts{P:Nat->Prop}{n:Nat}{w:World}{r:Au}{p:A7}(h:A8 P (n+1) w r p):∃R:List Au,Ba 4 Dk P w (A9 r.2.2.2) R/\R.length=p.parts.length/\∀k(g:k<R.length)(i:k<p.parts.length),A8 P n w R[k] p.parts[k]:=by
 obtain⟨a,b,c,d⟩:=p;obtain⟨_,_,_,R,H,e,f⟩:=h;exact⟨R,H,e,f⟩
def A8.body{P:Nat->Prop}{n:Nat}{w:World}{r:Au}{p:A7}(h:A8 P (n+1) w r p):r.2.1=p.body:=by
 obtain⟨a,b,c,d⟩:=p;exact h.1
def A0.bJ{b:Nat}{x X i j k l m n:Value}(h:A0 w b #[x,X,i,j,k,l,m,n] t)(y Y a c d e f g:Value):A0 ((((((((w.setCell ⟨b,0,none⟩ y).setCell ⟨b,1,none⟩ Y).setCell ⟨b,2,none⟩ a).setCell ⟨b,3,none⟩ c).setCell ⟨b,4,none⟩ d).setCell ⟨b,5,none⟩ e).setCell ⟨b,6,none⟩ f).setCell ⟨b,7,none⟩ g) b #[y,Y,a,c,d,e,f,g] t:=by
 have H:=(((((((h.set 0 y).set 1 Y).set 2 a).set 3 c).set 4 d).set 5 e).set 6 f).set 7 g;simpa using H
def bK{b:Nat}(h:Below B w0 w)(H:B<=b)(y Y a c d e f g:Value):Below B w0 ((((((((w.setCell ⟨b,0,none⟩ y).setCell ⟨b,1,none⟩ Y).setCell ⟨b,2,none⟩ a).setCell ⟨b,3,none⟩ c).setCell ⟨b,4,none⟩ d).setCell ⟨b,5,none⟩ e).setCell ⟨b,6,none⟩ f).setCell ⟨b,7,none⟩ g):=(((((((h.setCell H y).setCell H Y).setCell H a).setCell H c).setCell H d).setCell H e).setCell H f).setCell H g
def A0.Xh{b:Nat}{x X a c d e f g:Value}(h:A0 w b #[x,X,a,c,d,e,f,g] t)(y:A3):A0 ((((((((w.setCell ⟨b,0,none⟩ y.scheme).setCell ⟨b,1,none⟩ (.bool y.hasAuth)).setCell ⟨b,2,none⟩ y.auth).setCell ⟨b,3,none⟩ y.path).setCell ⟨b,4,none⟩ (.bool y.hasQuery)).setCell ⟨b,5,none⟩ y.query).setCell ⟨b,6,none⟩ (.bool y.hasFrag)).setCell ⟨b,7,none⟩ y.frag) b #[y.scheme,(.bool y.hasAuth),y.auth,y.path,(.bool y.hasQuery),y.query,(.bool y.hasFrag),y.frag] t:=A0.bJ h y.scheme (.bool y.hasAuth) y.auth y.path (.bool y.hasQuery) y.query (.bool y.hasFrag) y.frag
def Xi{b:Nat}(h:Below B w0 w)(H:B<=b)(y:A3):Below B w0 ((((((((w.setCell ⟨b,0,none⟩ y.scheme).setCell ⟨b,1,none⟩ (.bool y.hasAuth)).setCell ⟨b,2,none⟩ y.auth).setCell ⟨b,3,none⟩ y.path).setCell ⟨b,4,none⟩ (.bool y.hasQuery)).setCell ⟨b,5,none⟩ y.query).setCell ⟨b,6,none⟩ (.bool y.hasFrag)).setCell ⟨b,7,none⟩ y.frag):=bK h H y.scheme (.bool y.hasAuth) y.auth y.path (.bool y.hasQuery) y.query (.bool y.hasFrag) y.frag
def oA(P:Nat->Prop)(bp:Nat)(b:Al)(i:Int)(w:World)(h:Dl P w bp b)(a0:Fx b)(hg:Gr w)(i1:-9223372036854775808<=i)(i2:i<=9223372036854775807):Calls prog 16 #[.pointer (some ⟨bp,0,none⟩),i] w fun e w'=>ZK w.heap.size (Ca b i) e w'/\Below w.heap.size w w':=by
 have hb:=Dl.Ac (Q:=fun _=>True) (fun _ _ _=>trivial) h;have HB:=AE hb;obtain⟨b1,sa,si,_,g,c7,a1,_⟩:=hb;obtain⟨s0,sn,sc⟩:=sa;have e7:sn=b.places.length:=by
  obtain⟨a,c,e,_⟩:=a1;injection e
 subst e7;have e8:=a0.places;have c8:=a0.whole;have i3:=c8.head.2.2;obtain⟨e9,a2,a3,c9⟩:=c7.parts;obtain⟨⟨ra,rn,rc⟩,rb,rm,⟨i4,f0,i5⟩⟩:=b1;have f1:f0=b.whole.parts.length:=by
  obtain⟨a,c,e,_⟩:=a2;injection e with _ e _;exact e.trans a3
 subst f1;unfold Ii at g;simp only[A9]at g a1 a2;have kb:=g.cell;clear h c7;by_cases h0:i<0
 ·have H:=AE (by unfold Ca;rw[AN h0]:Ca b i=none);go_enter func16,ntmps16;go_wp2;go_ret2;exact⟨Or.inr ⟨H.o,rfl⟩,AG _ _⟩
 by_cases i6:i<b.places.length
 case neg=>
  have H:=AE (by unfold Ca;rw[AL h0,DC aa]:Ca b i=none);have i7:(b.places.length:Int)<=i:=aa
  go_enter func16,ntmps16;go_wp2;go_ret2;exact⟨Or.inr ⟨H.o,rfl⟩,AG _ _⟩
 obtain⟨k,rfl⟩:∃k:Nat,i=k:=⟨i.toNat,aa⟩;have hk:k<b.places.length:=aa
 have b2:k<b.whole.parts.length:=aa
 have H:=AE (show Ca b (k:Int)=some (Fw b b.whole.parts[k] b.places[k])from by
  unfold Ca;rw[AL h0];simp[hk,b2])
 obtain⟨pb,rfl,_,f2,l⟩:=a2.at Dx k aa;obtain⟨ab,rfl,_,f3,b3⟩:=a1.at Lj k hk;have M:=c9 k aa b2;have a4:=c8.part (AQ b2);have d0:=a0.placeL _ (AQ hk);have D:=l 0 ae;have C:=l 1 ae;have E:=l 2 ae;have G:=l 3 ae;clear l c9;generalize b.whole.parts[k]=p at H M a4;generalize b.places[k]=A at H d0 b3;generalize e9[k]' aa=b1 at M D C E G;have d1:=M.body;obtain⟨⟨qa,qn,qc⟩,qb,qm,⟨f4,f5,f6⟩⟩:=b1;simp only at d1;subst d1;simp only[Dk,A9,BI,AU,AR]at D C E G;have a5:=ZB 3 ((qa,qn,qc),p.body,qm,(f4,f5,f6)) p w M ((F1 a4.head.1).mono ae) hg;simp only[C3,A9]at a5;have N:=AE (ca:Fw b p A=if Jf p then(Bf p.body).map fun x=>Fv b A x.2.2 else[]);have b4:=fun W q=>Xa p.body W q (by have:=a4.head.2.1;omega)
 have b5:=O5 p.body;have f7:=(I3 p.body).2;have i8:=a4.head.2.1;generalize Bf p.body=L at N b4 b5 f7;generalize Jf p=ht at a5 N;have i9:(0:Int)<=k:=aa
 have dk:decide ((k:Int)<0)=false:=by rw[EG];omega
 have j0:(k:Int)<b.places.length:=aa
 have j1:(k:Int)<b.whole.parts.length:=aa
 clear M h0 a2 a1;go_enter func16,ntmps16;go_wp2_with fail;with_reducible refine a5.mono ?_
 rintro e w1⟨rfl,s⟩;cases ht with
 |false=>
  have H:=AE (by rw[H.o,N.o];rfl:Ca b (k:Int)=some []);go_wp2;go_ret2;exact⟨Or.inl ⟨[],_,H.o,rfl,A1.nil _ _ _ _ _⟩,s⟩
 |true=>
 have H:=AE (by rw[H.o,N.o];rfl:Ca b (k:Int)=some (L.map fun x=>Fv b A x.2.2));have f8:=(g.next s g.lt).cell;have f9:=(s.cell (p:=⟨pb,k*4+1,none⟩) f2).trans C;have b6:=hg.next s;have d2:=s.size;clear a5 N D C E G kb;go_wp2_with fail;with_reducible refine(b4 _ b6).mono ?_
 rintro e I⟨v2,rfl,d3,b7⟩;have d4:=A1.Dq ae G3 d3;obtain⟨la,lc,g0,_⟩:=d4.rd;subst g0;have O:=s.trans (b7.mono d2);have g1:=b6.next b7;have b8:=O.size;have g2:=AE b5;clear b4 b7 f8 f9 b6 d3 b5 s;have g3:=AE b3;have j2:=AE e8;have g4:b.places.length<=1000000:=aa
 have g5:b.ids.length<=1000000:=by have:=a0.ids;omega
 have g6:=AE (HB.o.next O);have d5:=g.next O g.lt;clear b3 g HB d2;go_wp2_with fail;go_loopw[6,44] (fun ov iv wr=>∃(j:Nat)(o:List Ij),iv=j/\j<=L.length/\o.length=j/\bI wr I.heap.size ov o/\Hid (o++(L.drop j).map (fun x=>Fv b A x.2.2)=L.map fun x=>Fv b A x.2.2)/\Below I.heap.size I wr) (fun _ iv _=>L.length-(intOf iv).toNat)
 case atStart=>exact⟨0,[],rfl,aa,rfl,A1.nil _ _ _ _ _,AE ah,AG _ _⟩
 obtain⟨j,o,rfl,hj,j3,n,a6,B⟩:=hrel;by_cases b9:j<L.length
 ·obtain⟨lb,rfl,_,c0,l⟩:=d4.at G3 j b9;have d6:=g2.o _ (AQ b9);have S:=AE (show∀y,Fv b A (L[j]).2.2=y->(o++[y])++(L.drop (j+1)).map (fun x=>Fv b A x.2.2)=L.map fun x=>Fv b A x.2.2 from fun y hy=>by
   rw[<-a6.o,AH b9,CD,hy];simp)
  have e0:=(B.cell (p:=⟨lb,j*3+0,none⟩) c0).trans (l 0 ae);have e1:=(B.cell (p:=⟨lb,j*3+1,none⟩) c0).trans (l 1 ae);have e2:=(B.cell (p:=⟨lb,j*3+2,none⟩) c0).trans (l 2 ae);clear l a6;generalize L[j]=x at d6 S e0 e1 e2;obtain⟨x1,x2,X⟩:=x;simp only[I4,BI,AU,AR]at d6 S e0 e1 e2;have K:=A0.new wr #[x1,x2,X] 96;have d:=(AG wr.heap.size wr).alloc (AF _) (.cells #[x1,x2,X] 96);have n:=A1.next n d;have R:=B.trans (d.mono B.size);have a7:=g1.next R;have hR:=fun W q=>Vz X W aa q
  unfold Tq at hR;have U:=AE (show Fv b A X=match Be X with
   |none=>(X,-1)
   |some a=>(Ea (Ar A a),D8 b (Ar A a))from rfl)
  have a3:=fun a(h:Be X=some a)=>Iv h
  generalize Be X=ra at hR U a3;have c1:=K.cell;have g7:(wr.alloc (.cells #[x1,x2,X] 96)).heap.size=wr.heap.size+1:=ah
  have j4:=B.size;clear d B;go_wp2_with fail;generalize World.alloc _ _=W1 at K n R a7 c1 g7|-;with_reducible refine(hR _ a7.g).mono ?_
  rintro e t⟨rfl,J⟩;have K:=K.next J K.lt;have n:=A1.next n J;have u:=R.trans (J.mono R.size);have c2:=a7.next J;have j5:=J.size;clear hR J a7 R e0 e1 e2 c1;cases ra with
  |none=>
   have T:=AE (S.o (X,-1) U.o);have d:=(AG t.heap.size t).alloc (AF _) (.cells A3.zero.cells 36);have K:=K.next d K.lt;have n:=A1.next n d;have m:=u.trans (d.mono u.size);have g8:=d.size;simp only[A3.zero]at K n m g8|-;have c1:=K.cell;clear d c2 u S U;go_wp2_with(at_builtin;refine N8 (α:=Ij) (cs:=Ji) (size:=2) (z:=.agg #[.string ByteArray.empty,.int .i64 0]) Lk bH nZ rfl ae underlying39 rfl _ _ rfl I.heap.size _ o [(X,-1)] ⟨_,0,none⟩ 1 1 rfl rfl (A1.alloc n _) rfl (Xg _ (X,-1) _ _ ah) ag ao (by have:=m.size;simp at*;omega) ?_;intro v' w6 g9 j6 a8 j7);go_wp2;go_roundw
   case rel=>exact⟨j+1,o++[(X,-1)],aj,aa,ag,g9,T,(m.alloc m.size _).trans a8⟩
   simp[intOf];omega
  |some a=>
   have h1:=a3 a rfl;have j8:=Nw A a;have d7:=AE (show Fv b A X=(Ea (Ar A a),D8 b (Ar A a))from U.o);have T:=AE (S.o _ d7.o);have d:=(AG t.heap.size t).alloc (AF _) (.cells a.cells 36);have k9:=A0.new t a.cells 36;have c3:=fun W q=>Zv A a W (by unfold A3.len at d0;omega) (by unfold A3.len at h1;omega) q
   clear S U d7;go_upto_region 12 with fail;generalize World.alloc _ _=V at k9 d|-;have m:=u.trans (d.mono u.size);have kd:=A0.drew (d5.next m d5.lt);have Y:=A0.drew k9;have d8:Cj V.drew:=(c2.next d.drew).g;have f:=fun i hi=>((O.trans (m.mono b8)).drew.cell (p:=⟨ab,k*8+i,none⟩) f3).trans (g3.o i hi)
   have D:=f 0 ae;have C:=f 1 ae;have E:=f 2 ae;have G:=f 3 ae;have d9:=f 4 ae;have e3:=f 5 ae;have e4:=f 6 ae;have e5:=f 7 ae;simp only[Gm,BI,AU,AR]at D C E G d9 e3 e4 e5;clear f;have a9:=fun W=>Zq (Ar A a) W aa
   have b0:=fun W q=>nY (fun _=>True) bp b (Ar A a) W q aa g4 g5
   generalize Ar A a=r at c3 T a9 b0;go_cut[70] (fun _ wx=>A0 wx t.heap.size r.cells 36/\Below t.heap.size V wx)
   case first=>
    have j9:=kd.cell;have k0:=Y.cell;have k1:=Y.free;have h2:=d.size;clear a9 b0;go_region_law((go_simp;with_reducible refine(c3 _ d8).mono ?_;rintro e w6⟨rfl,a8⟩;have c4:=Y.next a8 Y.lt;have k2:=c4.cell;have k3:=c4.free;have K6:=Bp a8 (w0:=V) ((AG V.heap.size V).drew)));all_goals
     go_wp2;go_meet;exact⟨A0.bJ c4 _ _ _ _ _ _ _ _,bK (K6.mono h2) (AF _) _ _ _ _ _ _ _ _⟩
   case rest=>
   obtain⟨h3,K7⟩:=hcut;obtain⟨Z,rfl⟩:∃x:World,x=wc:=⟨_,rfl⟩;have c5:=d.trans K7;have n:=A1.next n c5;have B7:=u.trans (c5.mono u.size);have h4:=AE (g6.o.next B7);have c6:=A0.drew h3;have k4:=c6.cell;have k5:=B7.size;clear c3 K7 d c5 m kd k9 Y d8 D C E G d9 e3 e4 e5 c2;generalize D8 b r=F at b0 T;generalize Ea r=v at a9 T;have q1:=AE (ag:(o.length+[(v,F)].length)*24<=140737488355328);have q2:=AE (ao:o.length+[(v,F)].length<=maxLen);go_upto_region 13 with fail;go_region_law((first
    |(refine Lg (α:=Ij) (cs:=Ji) (size:=2) (z:=.agg #[.string ByteArray.empty,.int .i64 0]) Lk bH nZ rfl ae underlying39 rfl _ _ rfl I.heap.size _ o [(v,F)] ⟨w9.heap.size,0,none⟩ 1 1 rfl ae rfl h5 rfl h6 q1.o q2.o h7.o ?_;intro v' k6 h8 k7 h9)
    |(go_simp;with_reducible refine(b0 _ (h4.o.next K8.o)).mono ?_;rintro e w9⟨rfl,i0⟩;have K9:=AE (Bp i0 (w0:=Z) K8.o);have h5:=A1.alloc (A1.next (w:=Z) n K9.o) (.cells #[v,F] 46);have h6:=Xg w9 (v,F) 46 _ rfl;have h7:=AE (by have:=K9.o.size;simp at this|-;omega:I.heap.size<=(w9.alloc (.cells #[v,F] 46)).heap.size))
    |(go_simp;with_reducible refine(a9 _).mono ?_;rintro e w8⟨rfl,e6⟩;have k8:=(c6.next e6 c6.lt).cell;have K8:=AE (Bp e6 (w0:=Z) ((AG Z.heap.size Z).drew)))))
   all_goals
    go_wp2;go_roundw
    case rel=>exact⟨j+1,o++[(v,F)],aj,aa,ag,h8,T,((B7.trans (K9.o.mono B7.size)).alloc (AV B7.size K9.o.size) _).trans h9⟩
    simp[intOf];omega
 obtain rfl:j=L.length:=aa
 have HD:=AE (by rw[H.o,<-a6.o,AS];simp:Ca b (k:Int)=some o);clear a6 H;go_wp2;go_ret2;exact⟨Or.inl ⟨o,_,HD.o,rfl,A1.mono n b8⟩,O.trans (B.mono b8)⟩
end Go.Proofs.YtignjjnflcpiiaaGreatDoor
namespace Go.Proofs.YtignjjnflcpiiaaGreatDoor
open Go Go.RowKit Proofs.Tryz Lib
def R0(x:Av×Bs)(t:Bs):Bs:=t.take x.1.1++(Kw (Na t x.1) x.2++t.drop (x.1.1+x.1.2.1))
def Ll(s:Bs)(z:List (Av×Bs)):Bs:=z.foldr R0 s
theorem bL{s:Bs}:∀(z:List (Av×Bs))(i:Nat),Cg i (O6 z) s.length->i<=s.length->(∀x∈z,1<=x.1.1)->(Ll s z).drop i=I6 s z i/\(Ll s z).take i=s.take i/\i<=(Ll s z).length
 |[],i,_,H,_=>⟨rfl,rfl,H⟩
 |x::l,i,h,H,p=>by
  have e:i<=x.1.1:=h.1;have a:Cg (x.1.1+x.1.2.1) (O6 l) s.length:=h.2;have f:=a.le;have o:=p x (CN ..);obtain⟨I,b,j⟩:=bL l (x.1.1+x.1.2.1) a f (fun y c=>p y (CJ _ c));show(R0 x (Ll s l)).drop i=_/\(R0 x (Ll s l)).take i=_/\i<=(R0 x (Ll s l)).length;generalize Ll s l=t at I b j|-;unfold R0;have d:t.take x.1.1=s.take x.1.1:=by
   have E:(t.take (x.1.1+x.1.2.1)).take x.1.1=t.take x.1.1:=by rw[IS,EX aa]
   have k:(s.take (x.1.1+x.1.2.1)).take x.1.1=s.take x.1.1:=by rw[IS,EX aa]
   rw[<-E,b,k]
  have m:Na t x.1=Na s x.1:=by
   unfold Na;have g:∀y:Bs,x.1.1<=y.length->y.getD (x.1.1-1) 0=(y.take x.1.1).getD (x.1.1-1) 0:=by
    intro y c;rw[AM,AM,EF,AN aa]
   rw[g t aa,g s aa,d]
  have q:(t.take x.1.1).length=x.1.1:=uy
  rw[m,I,d];have n:(s.take x.1.1).length=x.1.1:=uy
  refine⟨?_,?_,?_⟩
  ·rw[KU aa,List.drop_take];rfl
  ·rw[FW aa,IS,EX e]
  rw[AJ,n];omega
def ZL(s:Bs)(v:List Bs)(h:(Bf s).length=v.length):I7 s v=some (Ll s ((Bf s).zip v)):=by
 have H:O6 ((Bf s).zip v)=Bf s:=nE aa;have p:∀x∈(Bf s).zip v,1<=x.1.1:=fun x a=>by
  have:x.1∈O6 ((Bf s).zip v):=List.mem_map_of_mem a;rw[H]at this;exact Xb s _ this
 have:=(bL ((Bf s).zip v) 0 (by rw[H];exact(I3 s).1) (DE _) p).1;unfold I7;rw[AN h,<-this];rfl
end Go.Proofs.YtignjjnflcpiiaaGreatDoor
