/- desk's bind, parts. Condition: what the variables hold; s -/
import Derived.RangeFuncBound
import Derived.RangeFuncNested
import Derived.Test.YtignjjnflcpiiaaGreatDoorV39
set_option maxHeartbeats 16000000
set_option maxRecDepth 100000 set_option linter.all false
namespace Go.Proofs.YtignjjnflcpiiaaGreatDoor
open Go Go.RowKit Proofs.Tryz Lib
abbrev EJ:=@Go.World.putObj_heap_other
def nh(X:Nat->Prop)(d:Nat)(D:Ap)(v:Value)(l:List Bs)(w:World)(i:Da X w d D)(h:Fm w v l)(g:Gz w):Calls prog 223 #[.pointer (some ⟨d,0,none⟩),v] w fun e x=>Im (G8 D l) e/\Below w.heap.size w x:=by
 obtain⟨k,o,c,rfl,_⟩:=h;by_cases h0:l.length=0
 case neg=>
  have H:=AE (by unfold G8;rw[AN h0]:G8 D l=.error 3);have f:=Oy (some ⟨k,o,none⟩) l.length c 0 di w g.r;unfold D5 at f;clear h0;go_enter func223,ntmps223;go_wp2_with fail;with_reducible refine f.mono ?_
  rintro e m⟨rfl,j⟩;go_wp2_with fail;exact⟨rfl,bu,j⟩
 have F:=AE (show G8 D l=match D.bundle with
  |none=>.error 7
  |some b=>match Jz b with
   | .error e=>.error e
   | .ok s=>.ok (C1 s)from by unfold G8;rw[AL aa];rfl)
 have f:=fun W=>Ox (some ⟨k,o,none⟩) l.length c 0 (by rw[h0];rfl) W
 clear h0;go_enter func223,ntmps223;go_wp2_with fail;with_reducible refine(f _).mono ?_
 rintro e K⟨rfl,rfl⟩;cases a:D.bundle with
 |none=>
  have H:=AE (by rw[F.o,a]:G8 D l=.error 7);have hI:=V3 d w (i.no a) g.r;unfold D5 at hI;clear a;go_wp2_with fail;with_reducible refine hI.mono ?_
  rintro e m⟨rfl,j⟩;go_wp2_with fail;exact⟨rfl,bu,j⟩
 |some b=>
  obtain⟨p,y,q,t,z⟩:=i.yes a;have F:=AE (show G8 D l=match Jz b with
   | .error e=>.error e
   | .ok s=>.ok (C1 s)from by rw[F.o,a])
  have hI:=V0 d p w y;have u:=gq (fun _=>True) p b w q t z g;generalize Jz b=R at u F;clear a q t i;go_wp2_with fail;with_reducible refine hI.mono ?_
  rintro e m⟨rfl,rfl⟩;go_wp2_with fail;with_reducible refine u.mono ?_
  rintro e A⟨C,B⟩;have E:=g.next B;rcases C with⟨s,rfl,L,rfl⟩|⟨n,rfl,rfl⟩
  ·have H:=AE (show G8 D l=.ok (C1 s)from F.o);have S:=fun W=>Ps s W aa
   generalize C1 s=r at S H;go_wp2_with fail;with_reducible refine(Pt _).mono ?_
   rintro e G⟨rfl,rfl⟩;go_wp2_with fail;with_reducible refine(S _).mono ?_
   rintro e N⟨rfl,I⟩;go_wp2;go_ret;exact⟨bu,B.trans (I.mono B.size)⟩
  have H:=AE (show G8 D l=.error n from F.o);have M:=Lu (.iface 30 n) n A (Or.inl rfl) E.r;unfold D5 at M;go_wp2_with fail;with_reducible refine M.mono ?_
  rintro e G⟨rfl,J⟩;go_wp2_with fail;exact⟨rfl,bu,B.trans (J.mono B.size)⟩
def nj(X:Nat->Prop)(d:Nat)(D:Ap)(v:Value)(l:List Bs)(w:World)(hD:Da X w d D)(h:Fm w v l)(hg:Gz w):Calls prog 232 #[.pointer (some ⟨d,0,none⟩),v] w fun e w'=>Im (Hi D l) e/\Below w.heap.size w w':=by
 obtain⟨bk,o,c,rfl,_⟩:=h;by_cases h0:l.length=0
 case neg=>
  have H:=AE (by unfold Hi;rw[AN h0]:Hi D l=.error 3);have j:=Oy (some ⟨bk,o,none⟩) l.length c 0 di w hg.r;unfold D5 at j;clear h0;go_enter func232,ntmps232;go_wp2_with fail;with_reducible refine j.mono ?_
  rintro e w1⟨rfl,b1⟩;go_wp2_with fail;exact⟨rfl,bu,b1⟩
 have F:=AE (show Hi D l=match D.bundle with
  |none=>.error 7
  |some b=>.ok (112::97::114::116::115::32::D4 (b.whole.parts.map Gp))from by unfold Hi;rw[AL aa];rfl)
 have j:=fun W=>Ox (some ⟨bk,o,none⟩) l.length c 0 (by rw[h0];rfl) W
 clear h0;go_enter func232,ntmps232;go_wp2_with fail;with_reducible refine(j _).mono ?_
 rintro e w0⟨rfl,rfl⟩;cases m:D.bundle with
 |none=>
  have H:=AE (by rw[F.o,m]:Hi D l=.error 7);have hI:=V3 d w (hD.no m) hg.r;unfold D5 at hI;clear m;go_wp2_with fail;with_reducible refine hI.mono ?_
  rintro e w1⟨rfl,b1⟩;go_wp2_with fail;exact⟨rfl,bu,b1⟩
 |some b=>
  obtain⟨bp,c3,a9,C,_⟩:=hD.yes m;have H:=AE (by rw[F.o,m]:Hi D l=.ok (112::97::114::116::115::32::D4 (b.whole.parts.map Gp)));have hI:=V0 d bp w c3;have hP:=nW (fun _=>True) bp b w a9 C.whole;have b0:=AE (fun q(g:q∈b.whole.parts)=>(C.whole.part g).fl);have c4:=C.whole.head.2.2;generalize b.whole.parts=P at hP H b0 c4;clear m a9 C hD F;go_wp2_with fail;with_reducible refine hI.mono ?_
  rintro e w1⟨rfl,rfl⟩;go_wp2_with fail;with_reducible refine hP.mono ?_
  rintro e t⟨⟨v2,r,rfl,b3,a1,b4⟩,b2⟩;have c5:=hg.next b2;have c6:=b2.size;have b5:=A1.Dq ae Dx b3;obtain⟨la,lc,c7,_⟩:=b5.rd;subst c7;have c8:=AE b4;have g1:r.length<=P.length:=FX a1;have g2:P.length<=r.length:=FX a1.symm;clear b4 b3 a1 hP hI;go_wp2_with fail;go_loopw[5,14] (fun ov iv wr=>∃(k:Nat)(O:List Bs),iv=k/\k<=r.length/\O.length<=k/\Do wr t.heap.size ov O/\Hid (O++(P.drop k).map Gp=P.map Gp)/\Hid (∀x∈O,x.length<=200000)/\Below t.heap.size t wr) (fun _ iv _=>r.length-(intOf iv).toNat)
  case atStart=>exact⟨0,[],rfl,aa,ah,A1.nil _ _ _ _ _,AE ah,AE (fun x h=>ee),AG _ _⟩
  obtain⟨k,O,rfl,hk,g3,n,E,HO,B⟩:=hrel;have c9:=B.size;by_cases b6:k<r.length
  ·obtain⟨L,rfl,_,G,u⟩:=b5.at Dx k b6;have a2:k<P.length:=by omega
   have e0:=(B.cell (p:=⟨L,k*4+0,none⟩) G).trans (u 0 ae);have e1:=(B.cell (p:=⟨L,k*4+1,none⟩) G).trans (u 1 ae);have e2:=(B.cell (p:=⟨L,k*4+2,none⟩) G).trans (u 2 ae);have e3:=(B.cell (p:=⟨L,k*4+3,none⟩) G).trans (u 3 ae);have g:=c8.o k b6 a2;have I:=b0.o _ (AQ a2);have S:=AE (show∀y,P[k]=y->(O++[Gp y])++(P.drop (k+1)).map Gp=P.map Gp from fun y hy=>by
    rw[<-E.o,AH a2,CD,hy];simp)
   have S:=AE (S.o _ rfl);clear u E;generalize P[k]=q at g I S;generalize r[k]=d0 at g e0 e1 e2 e3;have b7:=g.body;have a3:=g.hd.rd;obtain⟨⟨J,qn,M⟩,Q,N,⟨R,U,V⟩⟩:=d0;simp only[A9]at b7 a3;have d1:qn=q.head.length:=by
    obtain⟨a,c,e,_⟩:=a3;injection e
   subst b7 d1;simp only[Dk,A9,BI,AU,AR]at e0 e1 e2 e3;have T:=AE (ca:Gp q=itoa q.head.length++32::C1 q.body);have d2:=I.1.1;have d3:=I.2;have a4:=fun W j=>Fj (q.head.length:Int) aa aa W j
   have d4:=BE (q.head.length:Int) aa aa;have a5:=fun W=>Ps q.body W aa
   have b8:=L2 q.body;clear g a3 I;generalize Gp q=lt at S T;generalize itoa (q.head.length:Int)=i at a4 d4 T;generalize C1 q.body=s at a5 b8 T;generalize q.head.length=Y at e0 d2 a4|-;generalize q.body=Q at e1 d3 a5 b8|-;have d5:=AE (fun e=>FO _ (A1.Dj n wr.heap.size e));have BA:=(AG wr.heap.size wr).alloc (AF _) (.cells #[.slice J Y M,Q,N,.slice R U V] 44);have K:=A0.new wr #[.slice J Y M,Q,N,.slice R U V] 44;have n:=A1.next n BA;have B1:=B.trans (BA.mono c9);have a6:=c5.next B1;go_upto_region 6 with fail;generalize World.alloc _ _=f at BA K n B1 a6|-;have d6:=K.drew.cell;have d7:=AE (show Gz f.drew from a6.next (AG f.heap.size f).drew);have d8:=AE (show A0 f.drew wr.heap.size #[.slice J Y M,Q,N,.slice R U V] 44 from K.drew);have d9:=AE (show wr.heap.size<f.drew.heap.size from K.lt);have e4:=AE n;have Z:=AE B1;have z1:¬9223372036854775807<i.length+1:=aa
   have z2:¬9223372036854775807<i.length+1+s.length:=aa
   have q1:=AE (ag:(O.length+[(i++32::s:Bs)].length)*16<=140737488355328);have q2:=AE (ao:O.length+[(i++32::s:Bs)].length<=maxLen);have e5:=AE (show∀x∈O++[lt],x.length<=200000 from fun x A=>by
    rcases BY.1 A with A|A
    ·exact HO.o x A
    rw[CS.1 A,T.o];simp only[AJ,AK];omega)
   clear a6 K n
   go_region_held_law (fun W=>∀k,W.cell? ⟨wr.heap.size,k,none⟩=(#[.slice J Y M,.string ⟨Q.toArray⟩,.bool N,.slice R U V])[k]?)
    (first
     |with_reducible exact d6
     |with_reducible exact e6
     |with_reducible exact e7
     |with_reducible exact e8
     |with_reducible exact e9)
    ((
     first
     |(refine Lg (α:=Bs) (cs:=Bl) (size:=1) (z:=.string ByteArray.empty) By R8 R7 rfl ae underlying55 rfl _ _ rfl t.heap.size _ O [(i++32::s:Bs)] ⟨a7.heap.size,0,none⟩ 1 1 rfl ae rfl f0.o rfl f1 q1.o q2.o f2.o ?_;intro v' g4 f3 f4 f5;have e9:=(Lv b9.o f4 (fun e=>d5.o e.symm)).cell)
     |(go_simp;with_reducible refine(a4 _ d7.o).mono ?_;rintro e g5⟨rfl,c0⟩;have f6:=AE (Bp c0 (w0:=f) ((AG f.heap.size f).drew));have a8:=AE (A0.next d8.o c0 d9.o);have e6:=a8.o.cell)
     |(go_simp;with_reducible refine(a5 _).mono ?_;rintro e a7⟨rfl,c1⟩;have a0:=AE (Bp c1 (w0:=f) f6.o);have c2:=AE (A0.next a8.o c1 (A0.lt a8.o));have e7:=c2.o.cell;have f0:=AE (A1.alloc (A1.next (w:=f) e4.o a0.o) (.cells #[(i++32::s:Bs)] 9));have f1:=Il a7 (i++32::s) 9;have b9:=AE (c2.o.alloc (.cells #[(i++32::s:Bs)] 9));have e8:=b9.o.cell;have f2:=AE (by have h1:=a0.o.size;have h2:=Z.o.size;simp at h1 h2|-;omega:t.heap.size<=(a7.alloc (.cells #[(i++32::s:Bs)] 9)).heap.size))))
   all_goals
    go_wp2;go_roundw
    case rel=>exact⟨k+1,O++[lt],aj,aa,ag,by rw[T.o];exact f3,S,e5,((Z.o.trans (a0.o.mono Z.o.size)).alloc (AV Z.o.size a0.o.size) _).trans f5⟩
    simp[intOf];omega
  have F:=AE (show P.map Gp=O from by
   rw[<-E.o,JC aa];simp)
  obtain rfl:k=r.length:=aa
  have f7:=T2 HO.o;have f8:(D4 O).length<=3000102000000:=by
   have:=CV (200000+2) (show O.length<=60002 by omega);omega
  have hJ:=T3 _ _ O wr n aa aa;have H:=AE (by rw[H.o,F.o]:Hi D l=.ok (112::97::114::116::115::32::D4 O));generalize D4 O=ct at hJ H f8;obtain⟨oa,oc,f9,_⟩:=A1.rd ae By n;subst f9;clear f7 E F;go_wp2_with fail;with_reducible refine hJ.mono ?_
  rintro e w6⟨rfl,g0⟩;go_wp2;go_ret;exact⟨bu,(b2.trans (B.mono c6)).trans (g0.mono aa)⟩
def Xv:(prog.info? 128).map (·.size)=some 2:=af
variable {w w':World}{a:Act}{Q:Exit → Act → World → Prop}{P X C:Nat → Prop}{v t T u y z A E F G e s:Value}{D:Ap}{α:Type}{c gf:Nat}
def qC{O:Array Oper}{rest:List Oper}{o:Oper}(t:o.guard=none)(s x:Operand)
  (u:o.op=.call {callee:=.builtin .append,args:=#[s,x],argTypes:=#[126,9]}) (B:Nat) (v:Value) (l y:Bs)
  (z:a.eval s=v) (A:Bq w B v l) (D:a.eval x=y) (q:l.length+y.length<=140737488355328) (E:B<=w.heap.size)
  (h:∀V W,Bq W B V (l++y)->w.grownBy W v.ownBlock->(V.ownBlock=v.ownBlock\/∀g,V.ownBlock=some g->w.heap.size<=g)->wpList prog O Q rest (a.put o.dst V) W):wpList prog O Q (o::rest) a w:=by
 obtain⟨i,e,j,f,k⟩:=GC Te;have F:byteCells l++strCells ⟨y.toArray⟩=byteCells (l++y):=ub
 have d:w.ownsRow B 5 1 v l.length (l.flatMap fun c:UInt8=>[Value.int .u8 (c.toNat:Int)]):=A;refine JJ t fun K G=>?_
 obtain⟨V,W,r,I,J,_⟩:=run_append_own_string (P:=prog) w B 126 9 o.type 5 i underlying126 underlying9 e j f k v l.length _ d ⟨y.toArray⟩ (show l.length+y.length<=maxLen by unfold maxLen;omega) (show l.length+y.length<=140737488355328 from q) E;have L:V.ownBlock=v.ownBlock\/∀g,V.ownBlock=some g->w.heap.size<=g:=by
  rcases d.2 with⟨m,h0⟩|⟨g,C,M,m,X,b,Y,Z,a0,a1⟩
  ·right;have N:w.ownsRow w.heap.size 5 1 v l.length (l.flatMap fun c:UInt8=>[Value.int .u8 (c.toNat:Int)]):=⟨d.1,Or.inl ⟨m,h0⟩⟩;obtain⟨v2,w2,H,R,_⟩:=run_append_own_string (P:=prog) w w.heap.size 126 9 o.type 5 i underlying126 underlying9 e j f k v l.length _ N ⟨y.toArray⟩ (show l.length+y.length<=maxLen by unfold maxLen;omega) (show l.length+y.length<=140737488355328 from q) (AF _);rw[r]at H;injection H with H _;subst H;intro g b;rcases R.2 with⟨n,_⟩|⟨S,_,_,n,T,_⟩
   ·rw[n]at b;cases b
   rw[n]at b;injection b with b;subst b;exact T
  subst m;by_cases U:l.length+(⟨y.toArray⟩:ByteArray).size<=C
  ·have H:=run_append_room_string (P:=prog) w 126 9 o.type 5 i underlying126 underlying9 e f g l.length C M b ⟨y.toArray⟩ U aa;rw[r]at H;injection H with H _;left;rw[H];rfl
  have H:=run_append_grow_string (P:=prog) w 126 9 o.type 5 i (.int .u8 0) underlying126 underlying9 e j ⟨g,0,none⟩ l.length C (l.flatMap fun c:UInt8=>[Value.int .u8 (c.toNat:Int)]) (by rw[f];exact d.1) (d.cells (g:=g) rfl) ⟨y.toArray⟩ aa (by show((l.length+y.length:Nat):Int)<=_;omega) (by rw[k];exact growslice_fits aa (by show(l.length+y.length)*1<=_;omega));rw[r]at H;injection H with H _;right;rw[H];intro S p;injection p with p;simp only at p;omega
 unfold Oper.wp execOp;simp only[u,resolve,invoke,builtin,KV,Sem.run_pure,Result.andThen_ok,List.map_toArray,CD,List.map_nil,z,D,r];refine G _ _ (h V W ?_ J L);unfold Bq A1;rw[P8,<-F,AJ,<-P8 l];exact I
def nk:liesAt prog prog.depth 130 (3/prog.cellsOf 130) 1 128 1=true:=af
def nl(d:Nat)(w:World)(h0:w.cell? ⟨d,1,none⟩=some (.pointer (some ⟨d,1,none⟩))):Calls prog 130 #[.pointer (some ⟨d,1,none⟩)] w fun e W=>e=.returned (.tuple #[])/\w=W:=by
 obtain⟨j,h,_⟩:=BM.1 Xv;go_enter func130,ntmps130;go_wp2_with fail;rw[run_neq_ptr_same w _ underlying125 h];go_wp2_with fail
 go_end0
 exact⟨rfl,rfl⟩
def nn(d:Nat)(w:World)(h0:w.cell? ⟨d,1,none⟩=some (.pointer none))(h:w.shape? d=some (130,3))(z:w.frozen? ⟨d,1,none⟩=false):Calls prog 130 #[.pointer (some ⟨d,1,none⟩)] w fun e W=>e=.returned (.tuple #[])/\w.setCell ⟨d,1,none⟩ (.pointer (some ⟨d,1,none⟩))=W:=by
 obtain⟨j,H,s⟩:=BM.1 Xv;go_enter func130,ntmps130;go_wp2_with fail;rw[run_to_unsafe w ⟨d,1,none⟩ underlying125 underlying174 H (by rw[s];decide) h (by show(1:Nat)<3;decide)];simp only[Result.andThen];rw[FQ];go_wp2_with fail;rw[CF func220 af af af (e:=Extern.AbiNoEscape.same) af];rw[run_noEscape];simp only[Result.andThen];rw[FQ];go_wp2_with fail;rw[run_from_unsafe w ⟨d,1,none⟩ underlying174 underlying125 H h nk];simp only[Result.andThen];rw[FQ];go_wp2_with fail
 go_end0
 exact⟨rfl,rfl⟩
def np(d:Nat)(b s v:Value)(w:World)(h:A0 w d #[b,s,v] 130)(H:s=.pointer none\/s=.pointer (some ⟨d,1,none⟩)):Calls prog 130 #[.pointer (some ⟨d,1,none⟩)] w fun e W=>e=.returned (.tuple #[])/\A0 W d #[b,.pointer (some ⟨d,1,none⟩),v] 130/\Bi (fun k=>k≠d) w W:=by
 rcases H with rfl|rfl
 ·refine(nn d w (h.cell 1) ow (h.free 1)).mono ?_;rintro e W⟨rfl,rfl⟩;refine⟨rfl,?_,rfl,rfl,rfl,ec,fun k h=>D3 _ _ _ k ek⟩;have:=h.set 1 (.pointer (some ⟨d,1,none⟩));simpa using this
 refine(nl d w (h.cell 1)).mono ?_;rintro e W⟨rfl,rfl⟩;exact⟨rfl,h,rfl,rfl,rfl,AF _,fun k _=>rfl⟩
def ns(d:Nat)(B f v:Value)(S s:Bs)(w:World)(a:A0 w d #[B,f,v] 130)(n:f=.pointer none\/f=.pointer (some ⟨d,1,none⟩))(o:Bq w 0 v S)(c:v.ownBlock≠some d)(t:S.length+s.length<=140737488355328):Calls prog 78 #[.pointer (some ⟨d,1,none⟩),s] w fun e W=>e=.returned (.tuple #[.int .i64 (s.length:Int),.nilIface])/\∃V,A0 W d #[B,.pointer (some ⟨d,1,none⟩),V] 130/\Bq W 0 V (S++s)/\(V.ownBlock=v.ownBlock\/∀g,V.ownBlock=some g->w.heap.size<=g)/\V.ownBlock≠some d/\Bi (fun k=>k<w.heap.size/\k≠d/\v.ownBlock≠some k) w W:=by
 have hC:=np d B f v w a n;have z:=a.lt;clear a n;go_enter func78,ntmps78;go_wp2_with fail;with_reducible refine hC.mono ?_
 rintro e u⟨rfl,i,K⟩;have x:Bq u 0 v S:=A1.J1 o (fun g H=>K.block g (fun e=>c (e▸H)));have A:=i.cell;have C:=i.lt;clear hC o;go_wp2_with(at_builtin;refine qC rfl _ _ rfl 0 v S s rfl x rfl t (DE _) ?_;intro V D p b q;have j:=Lv i b (fun e=>c e.symm);have E:=j.cell;have F:=j.free;obtain⟨l,m,y,_⟩:=Bq.shape p;subst y);go_ret2;have r:∀g,(Value.slice l (S++s).length m).ownBlock=some g->g≠d:=fun g H e=>by
  subst e;rcases q with h|h
  ·exact c (h▸H)
  have:=h g H;omega
 refine⟨rfl,.slice l (S++s).length m,?_,?_,?_,fun e=>r d e rfl,?_⟩
 ·have:=j.set 2 (.slice l (S++s).length m);simpa using this
 ·refine A1.J1 p (fun g H=>D3 _ _ _ g (r g H))
 ·rcases q with h|h
  ·exact Or.inl h
  exact Or.inr (fun g H=>AV K.size (h g H))
 refine⟨b.os.trans K.os,b.tape.trans K.tape,b.output.trans K.output,by have G:=K.size;have I:=b.size;simp[World.setCell];omega,fun k a=>?_⟩;refine(D3 _ _ _ k (by simpa using a.2.1)).trans ((b.block k ry (fun e=>a.2.2 e.symm)).trans (K.block k a.2.1))
def nt:liesAt prog prog.depth 128 (2/prog.cellsOf 128) 0 128 1=true:=af
def nx(d:Nat)(w:World)(h0:w.cell? ⟨d,0,none⟩=some (.pointer (some ⟨d,0,none⟩))):Calls prog 130 #[.pointer (some ⟨d,0,none⟩)] w fun e W=>e=.returned (.tuple #[])/\w=W:=by
 obtain⟨j,h,_⟩:=BM.1 Xv;go_enter func130,ntmps130;go_wp2_with fail;rw[run_neq_ptr_same w _ underlying125 h];go_wp2_with fail
 go_end0
 exact⟨rfl,rfl⟩
def nz(d:Nat)(w:World)(h0:w.cell? ⟨d,0,none⟩=some (.pointer none))(h:w.shape? d=some (128,2))(z:w.frozen? ⟨d,0,none⟩=false):Calls prog 130 #[.pointer (some ⟨d,0,none⟩)] w fun e W=>e=.returned (.tuple #[])/\w.setCell ⟨d,0,none⟩ (.pointer (some ⟨d,0,none⟩))=W:=by
 obtain⟨j,H,s⟩:=BM.1 Xv;go_enter func130,ntmps130;go_wp2_with fail;rw[run_to_unsafe w ⟨d,0,none⟩ underlying125 underlying174 H (by rw[s];decide) h (by show(0:Nat)<2;decide)];simp only[Result.andThen];rw[FQ];go_wp2_with fail;rw[CF func220 af af af (e:=Extern.AbiNoEscape.same) af];rw[run_noEscape];simp only[Result.andThen];rw[FQ];go_wp2_with fail;rw[run_from_unsafe w ⟨d,0,none⟩ underlying174 underlying125 H h nt];simp only[Result.andThen];rw[FQ];go_wp2_with fail
 go_end0
 exact⟨rfl,rfl⟩
def pf(d:Nat)(s v:Value)(w:World)(h:A0 w d #[s,v] 128)(H:s=.pointer none\/s=.pointer (some ⟨d,0,none⟩)):Calls prog 130 #[.pointer (some ⟨d,0,none⟩)] w fun e W=>e=.returned (.tuple #[])/\A0 W d #[.pointer (some ⟨d,0,none⟩),v] 128/\Bi (fun k=>k≠d) w W:=by
 rcases H with rfl|rfl
 ·refine(nz d w (h.cell 0) ow (h.free 0)).mono ?_;rintro e W⟨rfl,rfl⟩;refine⟨rfl,?_,rfl,rfl,rfl,ec,fun k h=>D3 _ _ _ k ek⟩;have:=h.set 0 (.pointer (some ⟨d,0,none⟩));simpa using this
 refine(nx d w (h.cell 0)).mono ?_;rintro e W⟨rfl,rfl⟩;exact⟨rfl,h,rfl,rfl,rfl,AF _,fun k _=>rfl⟩
def pg(d:Nat)(f v:Value)(S s:Bs)(w:World)(a:A0 w d #[f,v] 128)(n:f=.pointer none\/f=.pointer (some ⟨d,0,none⟩))(o:Bq w 0 v S)(c:v.ownBlock≠some d)(t:S.length+s.length<=140737488355328):Calls prog 78 #[.pointer (some ⟨d,0,none⟩),s] w fun e W=>e=.returned (.tuple #[.int .i64 (s.length:Int),.nilIface])/\∃V,A0 W d #[.pointer (some ⟨d,0,none⟩),V] 128/\Bq W 0 V (S++s)/\(V.ownBlock=v.ownBlock\/∀g,V.ownBlock=some g->w.heap.size<=g)/\V.ownBlock≠some d/\Bi (fun k=>k<w.heap.size/\k≠d/\v.ownBlock≠some k) w W:=by
 have hC:=pf d f v w a n;have z:=a.lt;clear a n;go_enter func78,ntmps78;go_wp2_with fail;with_reducible refine hC.mono ?_
 rintro e u⟨rfl,i,K⟩;have x:Bq u 0 v S:=A1.J1 o (fun g H=>K.block g (fun e=>c (e▸H)));have A:=i.cell;have B:=i.lt;clear hC o;go_wp2_with(at_builtin;refine qC rfl _ _ rfl 0 v S s rfl x rfl t (DE _) ?_;intro V C p b q;have j:=Lv i b (fun e=>c e.symm);have D:=j.cell;have E:=j.free;obtain⟨l,m,y,_⟩:=Bq.shape p;subst y);go_ret2;have r:∀g,(Value.slice l (S++s).length m).ownBlock=some g->g≠d:=fun g H e=>by
  subst e;rcases q with h|h
  ·exact c (h▸H)
  have:=h g H;omega
 refine⟨rfl,.slice l (S++s).length m,?_,?_,?_,fun e=>r d e rfl,?_⟩
 ·have:=j.set 1 (.slice l (S++s).length m);simpa using this
 ·refine A1.J1 p (fun g H=>D3 _ _ _ g (r g H))
 ·rcases q with h|h
  ·exact Or.inl h
  exact Or.inr (fun g H=>AV K.size (h g H))
 refine⟨b.os.trans K.os,b.tape.trans K.tape,b.output.trans K.output,by have F:=K.size;have G:=b.size;simp[World.setCell];omega,fun k a=>?_⟩;refine(D3 _ _ _ k (by simpa using a.2.1)).trans ((b.block k ry (fun e=>a.2.2 e.symm)).trans (K.block k a.2.1))
def Dl.to{Q:Nat->Prop}{B:Nat}{b:Al}(h:Dl P w B b)(s:w.heap.size<=w'.heap.size)(k:∀c,P c->c<w.heap.size->Q c/\w'.heap[c]?=w.heap[c]?):Dl Q w' B b:=by
 have a:=Dl.Ac (Q:=fun c=>P c/\c<w.heap.size) (fun c H l=>⟨H,l⟩) h;exact Dl.Ac (fun c H _=>(k c H.1 H.2).1) (a.keep s (fun c H _=>(k c H.1 H.2).2))
def Gz.Pz(h:Gz w)(H:∀k,k<=8->X k)(a:Bi X w w'):Gz w':=h.keep fun b c=>a.block b (H b c)
def ph(X:Nat->Prop)(d:Nat)(D:Ap)(v:Value)(l:List Bs)(w:World)(a:∀k,X k->k<w.heap.size)(N:Da X w d D)(h:Fm w v l)(s:(Ax l).length<=1000000)(O:l.length<=1000000)(hs:D.said.length<=1000000):Calls prog 221 #[.pointer (some ⟨d,0,none⟩),v] w fun e f=>Im (bP D l).2 e/\Da X f d (bP D l).1/\Bi X w f:=by
 have z:=(AG w.heap.size w).drew;have J:=Py v l w.drew (h.next z) s O;show Calls _ _ _ _ fun e f=>e=.returned (.string ⟨#[97,100,100]⟩)/\Da X f d ⟨D.bundle,D.said++(Ax l++[13,10])⟩/\Bi X w f
 generalize Ax l=j at J s|-;obtain⟨A,S,V,m,n,C,E,H,F⟩:=N;have G:=m.lt;have t:=fun(W:World)(B:Below w.heap.size w W)=>ns d A S V D.said (j++[13,10]) W (m.next B G) C (A1.next E B) (fun e=>(H d e).2 rfl) ag
 have Q:=fun(W:World)(B:Below w.heap.size w W)=>(m.next B G).cell
 have HK:=AE m;have R:=AE F;have T:=AE (And.intro a (And.intro n H));clear m F a n H E C;obtain⟨bk,o,c,rfl,_⟩:=h;go_enter func221,ntmps221;go_upto_region 1 with fail;refine U3 6 (fun _=>True) af ?_;refine Aa.tu 0 trivial ?_;refine Aa.tu 1 trivial ?_;refine Aa.tu 2 trivial ?_;refine Aa.tu 3 trivial ?_;refine Aa.one (j:=4) af rfl ae (fun K p=>?_);go_simp;with_reducible refine J.mono ?_
 rintro e U⟨rfl,Y⟩;have B:=z.trans Y;have t:=t U B;clear Q J;refine p.o _ _ trivial ?_;clear p K
 (try simp only[Act.put])
 refine Aa.iF (i:=5) (v:=?_) rfl af af af ae (fun _ _ _ h=>h) (Or.inl ⟨ca,?_⟩) trivial ?_;rotate_left
 ·(intro W;go_simp;rw[AL aa])
 (try simp only[Act.put])
 refine Aa.stop af rfl (fun K p=>?_);go_simp;with_reducible refine t.mono ?_
 rintro e Z⟨rfl,v',a0,a1,I,a2,KX⟩;refine p.o _ _ ?_;clear p K;refine GY af ?_ _;have K:=KX;go_wp2;go_ret;obtain⟨a,n,H⟩:=T.o;have a3:=B.size;have L:∀k,k<w.heap.size->k≠d->V.ownBlock≠some k->Z.heap[k]?=w.heap[k]?:=fun k q r u=>(K.block k ⟨aa,r,u⟩).trans (B.block k q)
 refine⟨rfl,⟨A,_,v',a0,n,Or.inr rfl,a1,fun g y=>⟨fun x=>?_,fun e=>a2 (e▸y)⟩,?_⟩,?_⟩
 ·rcases I with h|h
  ·exact(H g (h▸y)).1 x
  have:=h g y;have:=a g x;omega
 ·rcases R.o with⟨q,r⟩|⟨b,bp,q,r,u,h4,h5⟩
  ·exact Or.inl ⟨q,r⟩
  refine Or.inr ⟨b,bp,q,r,u.to ry (fun k⟨p1,P,M⟩s=>⟨⟨p1,P,fun e=>?_⟩,L k s P M⟩),h4,h5⟩;rcases I with h|h
  ·exact M (h▸e)
  have:=h k e;omega
 exact⟨K.os.trans B.os,K.tape.trans B.tape,K.output.trans B.output,ry,fun k x=>L k (a k x) (fun e=>n (e▸x)) (fun e=>(H k e).1 x)⟩
theorem pj(d:Nat)(b s:Value)(w:World)(h:A0 w d #[b,s,.slice none 0 0] 130):Calls prog 80 #[.pointer (some ⟨d,1,none⟩)] w fun e a=>e=.returned (.string ⟨#[]⟩)/\A0 a d #[b,s,.slice none 0 0] 130/\Bi (fun k=>k<w.heap.size/\(.slice none 0 0:Value).ownBlock≠some k) w a:=by
 have m:prog.follows Departure.mixedOrders=true:=af
 have H:=fun(W:World)(q:Option Go.Addr)=>DO (P:=prog) W 206 3 9 q
 have c:w.drew.cell? ⟨d,2,none⟩=some (.slice none 0 0):=h.cell 2;have D:(Builtin.unsafeSliceData_ #[126] 206 #[.slice none 0 0]).run prog w.drew=.ok (.pointer none) w.drew:=rfl;go_enter func80,ntmps80
 go_wp2
 go_region_o
 all_goals(go_wp2;go_ret;exact⟨rfl,h,rfl,rfl,rfl,AF _,fun k _=>rfl⟩)
def pw(d:Nat)(b s:Value)(g cap:Nat)(w:World)(h:cap≠0)(H:A0 w d #[b,s,.slice (some ⟨g,0,none⟩) 0 cap] 130):Calls prog 80 #[.pointer (some ⟨d,1,none⟩)] w fun e a=>e=.returned (.string ⟨#[]⟩)/\A0 a d #[b,s,.slice (some ⟨g,0,none⟩) 0 cap] 130/\Bi (fun k=>k<w.heap.size/\(.slice (some ⟨g,0,none⟩) 0 cap:Value).ownBlock≠some k) w a:=by
 have m:prog.follows Departure.mixedOrders=true:=af
 have S:=fun(W:World)(q:Option Go.Addr)=>DO (P:=prog) W 206 3 9 q
 have c:w.drew.cell? ⟨d,2,none⟩=some (.slice (some ⟨g,0,none⟩) 0 cap):=H.cell 2;have D:(Builtin.unsafeSliceData_ #[126] 206 #[.slice (some ⟨g,0,none⟩) 0 cap]).run prog w.drew=.ok (.pointer (some ⟨g,0,none⟩)) w.drew:=GJ _ _ _ _ _ _ h;clear h;go_enter func80,ntmps80
 go_wp2
 go_region_o
 all_goals(go_wp2;go_ret;exact⟨rfl,H,rfl,rfl,rfl,AF _,fun k _=>rfl⟩)
def px(d:Nat)(b s:Value)(g:Nat)(c:Array Value)(w:World)(f:w.heap[g]?=some (.cells c 5 (0,0)))(h:A0 w d #[b,s,.slice (some ⟨g,0,none⟩) 0 0] 130):Calls prog 80 #[.pointer (some ⟨d,1,none⟩)] w fun e a=>e=.returned (.string ⟨#[]⟩)/\A0 a d #[b,s,.slice (some ⟨g,0,none⟩) 0 0] 130/\Bi (fun k=>k<w.heap.size/\(.slice (some ⟨g,0,none⟩) 0 0:Value).ownBlock≠some k) w a:=by
 have m:prog.follows Departure.mixedOrders=true:=af
 have S:=fun(W:World)(q:Option Go.Addr)=>DO (P:=prog) W 206 3 9 q
 have t:=h.lt;have C:w.drew.cell? ⟨d,2,none⟩=some (.slice (some ⟨g,0,none⟩) 0 0):=h.cell 2;have D:(Builtin.unsafeSliceData_ #[126] 206 #[.slice (some ⟨g,0,none⟩) 0 0]).run prog w.drew=.ok (.pointer (some ⟨w.drew.heap.size,0,none⟩)) (w.drew.alloc (.view ⟨g,0,none⟩ 5)):=run_unsafeSliceData_zero w.drew _ _ 5 underlying206 ⟨g,0,none⟩ 0 (5,c.size) (by have i:w.drew.heap[g]?=some (.cells c 5 (0,0)):=f;simp[World.shape?,i]);have H:A0 (w.drew.alloc (.view ⟨g,0,none⟩ 5)) d #[b,s,.slice (some ⟨g,0,none⟩) 0 0] 130:=(alloc_old w.drew _ d t).trans h;have j:(w.drew.alloc (.view ⟨g,0,none⟩ 5)).cell? ⟨d,2,none⟩=some (.slice (some ⟨g,0,none⟩) 0 0):=H.cell 2;have l:(w.alloc (.view ⟨g,0,none⟩ 5)).drew.cell? ⟨d,2,none⟩=some (.slice (some ⟨g,0,none⟩) 0 0):=j;have n:w.cell? ⟨d,2,none⟩=some (.slice (some ⟨g,0,none⟩) 0 0):=C;go_enter func80,ntmps80
 go_wp2
 go_region_o
 all_goals(go_wp2;go_ret;exact⟨rfl,H,Bi.of (fun k h=>h.1) ((AG w.heap.size w).drew.alloc (AF _) _)⟩)
def pz(d:Nat)(b S:Value)(g cap:Nat)(c:Array Value)(s:Bs)(w:World)(h0:s≠[])(n:Bq w 0 (.slice (some ⟨g,0,none⟩) s.length cap) s)(m:w.heap[g]?=some (.cells c 5 (0,0)))(A:c.size=cap*1)(B:s.length<=cap)(o:cap<=maxLen)(p:g≠d)(h:A0 w d #[b,S,.slice (some ⟨g,0,none⟩) s.length cap] 130):Calls prog 80 #[.pointer (some ⟨d,1,none⟩)] w fun e f=>e=.returned s/\A0 f d #[b,S,.slice (some ⟨g,0,none⟩) s.length cap] 130/\Bi (fun k=>k<w.heap.size/\(.slice (some ⟨g,0,none⟩) s.length cap:Value).ownBlock≠some k) w f:=by
 have M:prog.follows Departure.mixedOrders=true:=af
 have r:=fun(W:World)(q:Option Go.Addr)=>DO (P:=prog) W 206 3 9 q
 have a:s.length≠0:=ou
 have C:w.drew.cell? ⟨d,2,none⟩=some (.slice (some ⟨g,0,none⟩) s.length cap):=h.cell 2;have D:(Builtin.unsafeSliceData_ #[126] 206 #[.slice (some ⟨g,0,none⟩) s.length cap]).run prog w.drew=.ok (.pointer (some ⟨g,0,none⟩)) w.drew:=GJ _ _ _ _ _ _ aa;have r:(Builtin.unsafeString_ #[206,3] 9 #[.pointer (some ⟨g,0,none⟩),.int .i64 s.length]).run prog w.drew=.ok s (w.drew.freeze ⟨g,0,none⟩ s.length):=by
  refine run_unsafeString_row w.drew 206 3 9 5 underlying206 af g c.size (by have t:w.drew.heap[g]?=some (.cells c 5 (0,0)):=m;simp[World.shape?,t]) s h0 aa (by unfold maxLen at o;omega) ?_;intro j x u;obtain⟨F,G,E,v⟩:=Bq.shape n;obtain⟨y,rfl⟩:=CB.1 u;obtain⟨I,H,i⟩:=v j y;injection E with E;subst E;injection H with H;injection H with H;subst H;by_cases l:j=0
  ·subst l;simpa[Go.Addr.add]using i
  simpa[Go.Addr.add,l]using i
 have R:∀k,k≠g->(w.drew.freeze ⟨g,0,none⟩ s.length).heap[k]?=w.heap[k]?:=fun k h=>by
  unfold World.freeze;rw[AL a];simp only[GG];rw[AL (fun e=>h e.symm)];rfl
 have z:w.heap.size<=(w.drew.freeze ⟨g,0,none⟩ s.length).heap.size:=by
  unfold World.freeze;rw[AL a];show w.heap.size<=(w.drew.heap.modify _ _).size;rw[Array.size_modify];exact AF _
 have O:(w.drew.freeze ⟨g,0,none⟩ s.length).os=w.os/\(w.drew.freeze ⟨g,0,none⟩ s.length).tape=w.tape/\(w.drew.freeze ⟨g,0,none⟩ s.length).output=w.output:=by
  unfold World.freeze;rw[AL a];exact⟨rfl,rfl,rfl⟩
 go_enter func80,ntmps80
 go_wp2
 go_region_o
 all_goals(go_wp2;go_ret;exact⟨rfl,(R d (fun e=>p e.symm)).trans h,O.1,O.2.1,O.2.2,z,fun k h=>R k (fun e=>h.2 xi)⟩)
def qd(d:Nat)(b s v:Value)(w:World)(h:A0 w d #[b,s,v] 130):Calls prog 282 #[.pointer (some ⟨d,1,none⟩)] w fun e W=>e=.returned (.tuple #[])/\A0 W d #[b,.pointer none,.slice none 0 0] 130/\Bi (fun k=>k≠d) w W:=by
 have K:=h.cell;have f:=h.free;go_enter func282,ntmps282;go_wp2_with fail
 go_end0
 refine⟨rfl,?_,rfl,rfl,rfl,ec,fun k h=>?_⟩
 ·have:=(h.set 1 (.pointer none)).set 2 (.slice none 0 0);simpa using this
 exact(D3 _ _ _ k ek).trans (D3 _ _ _ k ek)
def qf(d:Nat)(b S v:Value)(s:Bs)(w:World)(h:A0 w d #[b,S,v] 130)(H:Bq w 0 v s)(i:v.ownBlock≠some d):Calls prog 80 #[.pointer (some ⟨d,1,none⟩)] w fun e W=>e=.returned s/\A0 W d #[b,S,v] 130/\Bi (fun k=>k<w.heap.size/\v.ownBlock≠some k) w W:=by
 rcases H.2 with⟨rfl,h0⟩|⟨g,c,C,rfl,_,a,j,m,l,_⟩
 ·obtain rfl:=ES h0;exact pj d b S w h
 by_cases h0:s=[]
 ·subst h0;by_cases f:c=0
  ·subst f;exact px d b S g C w a h
  exact pw d b S g c w f h
 exact pz d b S g c C s w h0 H a l j m (fun e=>i xi) h
def Da.qg{a W:World}{d:Nat}{B:Value}(i:A0 W d #[B,.pointer none,.slice none 0 0] 130)(j:¬X d)
  (n:(D.bundle=none/\B=.pointer none)\/∃b p,D.bundle=some b/\B=.pointer (some ⟨p,0,none⟩)/\Dl (fun c=>¬X c/\c≠d/\v.ownBlock≠some c) w p b/\Fx b/\b.root<=1000000)
  (K:Bi (fun k=>k<w.heap.size/\v.ownBlock≠some k) w a) (f:Bi (fun k=>k≠d) a W):Da X W d ⟨D.bundle,[]⟩:=by
 refine⟨B,_,_,i,j,Or.inl rfl,A1.nil _ _ _ _ _,(fun g l=>by cases l),?_⟩;rcases n with⟨h,H⟩|⟨b,p,h,H,m,o,q⟩
 ·exact Or.inl ⟨h,H⟩
 exact Or.inr ⟨b,p,h,H,m.to (AV K.size f.size) (fun c⟨r,P,s⟩t=>⟨⟨r,P,(fun e=>by cases e)⟩,(f.block c P).trans (K.block c ⟨t,s⟩)⟩),o,q⟩
def qh(X:Nat->Prop)(d:Nat)(D:Ap)(v:Value)(l:List Bs)(w:World)(x:∀k,X k->k<w.heap.size)(a0:∀k,k<=8->X k)(hD:Da X w d D)(h:Fm w v l)(m:Gz w)(hs:D.said.length<=1000000):Calls prog 230 #[.pointer (some ⟨d,0,none⟩),v] w fun e w'=>Im (Gn D l).2 e/\Da X w' d (Gn D l).1/\Bi X w w':=by
 obtain⟨bk,o,c,rfl,_⟩:=h;by_cases h0:l.length=0
 case neg=>
  have N:=AE (by unfold Gn;rw[AN h0]:Gn D l=(D,.error 3));have n:=Oy (some ⟨bk,o,none⟩) l.length c 0 di w m.r;unfold D5 at n;clear h0;go_enter func230,ntmps230;go_wp2_with fail;with_reducible refine n.mono ?_
  rintro e w1⟨rfl,b1⟩;go_wp2_with fail;refine⟨rfl,?_⟩;rw[N.o];exact⟨rfl,hD.next b1,Bi.of x b1⟩
 have F:=AE (show Gn D l=match C4 D.said with
  | .error e=>(⟨D.bundle,[]⟩,.error e)
  | .ok b=>(⟨some b,[]⟩,.ok (itoa b.whole.parts.length++32::itoa b.root))from by unfold Gn;rw[AL aa];rfl)
 have n:=fun W=>Ox (some ⟨bk,o,none⟩) l.length c 0 (by rw[h0];rfl) W
 clear h0;obtain⟨a1,a2,va,q,y,c2,a3,L,a4⟩:=hD;have d4:=q.lt;have a5:=qf d a1 a2 va D.said w q a3 (fun e=>(L d e).2 rfl);have O:=fun(W:World)(G:Gr W)=>jz D.said W aa G
 have z:=fun b(h:C4 D.said=.ok b)=>Sw h
 have A:=fun b(h:C4 D.said=.ok b)=>Xn h
 generalize C4 D.said=ro at O F z A;clear q a3 c2;have HB:=AE a4;have HV:=AE L;clear a4 L;go_enter func230,ntmps230;go_wp2_with fail;with_reducible refine(n _).mono ?_
 rintro e w0⟨rfl,rfl⟩;go_wp2_with fail;with_reducible refine a5.mono ?_
 rintro e w1⟨rfl,a6,K⟩;have hR:=qd d a1 a2 va w1 a6;clear a5 n;go_wp2_with fail;with_reducible refine hR.mono ?_
 rintro e P⟨rfl,C,f⟩;have a7:=Da.qg C y HB.o K f;have E:Bi X w P:=⟨f.os.trans K.os,f.tape.trans K.tape,f.output.trans K.output,AV K.size f.size,fun k H=>(f.block k (fun e=>y (e▸H))).trans (K.block k ⟨x k H,fun e=>(HV.o k e).1 H⟩)⟩;have R:=m.Pz a0 E;have c3:=E.size;have I:∀k,X k->k<P.heap.size:=fun k H=>BN (x k H) c3
 have a8:=O P R.r;clear O hR a6;go_wp2_with fail;with_reducible refine a8.mono ?_
 rintro e a⟨hh,i⟩;have a9:=R.next i;have c4:=i.size;have r:=C.next i C.lt;have b0:=a7.next i;clear a8 C a7;rcases hh with⟨b,p,rfl,rfl,b2⟩|⟨S,rfl,rfl⟩
 ·have N:=AE (show Gn D l=(⟨some b,[]⟩,.ok (itoa b.whole.parts.length++32::itoa b.root))from F.o);have T:=z b rfl;have c5:=A b rfl;have M:=Pt a;have kc:=r.cell;have kf:=r.free;clear z A F;go_wp2_with fail;with_reducible refine M.mono ?_
  rintro e j⟨rfl,rfl⟩;go_upto_region 7 with fail;have b3:A0 (a.setCell ⟨d,0,none⟩ (.pointer (some ⟨p,0,none⟩))) d #[.pointer (some ⟨p,0,none⟩),.pointer none,.slice none 0 0] 130:=by
   have:=r.set 0 (.pointer (some ⟨p,0,none⟩));simpa using this
  have U:∀k,k≠d->(a.setCell ⟨d,0,none⟩ (.pointer (some ⟨p,0,none⟩))).heap[k]?=a.heap[k]?:=fun k q=>D3 _ _ _ k q
  have b4:(a.setCell ⟨d,0,none⟩ (.pointer (some ⟨p,0,none⟩))).heap.size=a.heap.size:=ec
  have s:=Dl.to (Q:=fun c=>¬X c/\c≠d/\(Value.slice none 0 0).ownBlock≠some c) b2 (FX b4.symm) (fun c hc _=>⟨⟨fun H=>by have:=I c H;omega,by have:=r.lt;omega,(fun e=>by cases e)⟩,U c aa⟩);have V:Da X (a.setCell ⟨d,0,none⟩ (.pointer (some ⟨p,0,none⟩))) d ⟨some b,[]⟩:=⟨_,_,_,b3,y,Or.inl rfl,A1.nil _ _ _ _ _,(fun g m=>by cases m),Or.inr ⟨b,p,rfl,rfl,s,T,aa⟩⟩;have t:Bi X w (a.setCell ⟨d,0,none⟩ (.pointer (some ⟨p,0,none⟩))):=by
   have u:=E.trans (Bi.of I i);exact⟨u.os,u.tape,u.output,by have:=u.size;omega,fun k H=>(U k (fun e=>y (e▸H))).trans (u.block k H)⟩
  generalize a.setCell ⟨d,0,none⟩ (.pointer (some ⟨p,0,none⟩))=j at V t s|-;clear b3 U b4 r b0 a9 b2 kc kf M HB HV K f R;have b5:=m.Pz a0 t;have c6:∀k,X k->k<j.heap.size:=fun k H=>BN (x k H) t.size
  have hP:=nW _ p b j s T.whole;have d5:=T.whole.head.2.2;have b6:=fun W(B:Below j.heap.size j W)=>ZE _ p b W (s.next B)
  have b7:=fun(W:World)(G:Gz W)=>Fj b.whole.parts.length aa aa W G
  have Y:=fun(W:World)(G:Gz W)=>Fj b.root aa aa W G
  have c7:=AE V;have c8:=AE t;clear V t s;have c9:=BE (b.whole.parts.length:Int) aa aa;have d0:=BE (b.root:Int) aa aa;generalize itoa b.whole.parts.length=i1 at b7 N c9;generalize itoa b.root=i2 at Y N d0;generalize b.root=rt at b6 Y c5;go_wp2_with fail;with_reducible refine hP.mono ?_
  rintro e w5⟨⟨v5,d6,rfl,b8,b9,_⟩,Z⟩;obtain⟨la,lc,c0,_⟩:=(A1.Dq ae Dx b8).rd;rw[b9]at c0;subst c0;clear b8 b9 hP;have hI:=b7 w5 (b5.next Z);go_wp2_with fail;with_reducible refine hI.mono ?_
  rintro e w6⟨rfl,d1⟩;have J:=Z.trans (d1.mono Z.size);have d2:=b6 w6 J;clear hI;go_wp2_with fail;with_reducible refine d2.mono ?_
  rintro e w7⟨rfl,rfl⟩;have hI:=Y w6 (b5.next J);go_wp2_with fail;with_reducible refine hI.mono ?_
  rintro e w8⟨rfl,d3⟩;have B8:=J.trans (d3.mono J.size);go_wp2;go_ret;rw[N.o];exact⟨rfl,c7.o.next B8,c8.o.trans (Bi.of c6 B8)⟩
 have N:=AE (show Gn D l=(⟨D.bundle,[]⟩,.error S)from F.o);have M:=Lu (.iface 30 S) S a (Or.inl rfl) a9.r;unfold D5 at M;clear z A F;go_wp2_with fail;with_reducible refine M.mono ?_
 rintro e j⟨rfl,c1⟩;go_wp2_with fail;refine⟨rfl,?_⟩;rw[N.o];exact⟨rfl,b0.next c1,(E.trans (Bi.of I i)).trans (Bi.of (fun k H=>BN (I k H) c4) c1)⟩
def qj(q:Go.Addr)(w:World):CallsD prog 131 #[.pointer (some q)] .returning w fun e u W=>e=.returned (.tuple #[])/\u=.returning/\W=w:=by
 refine callsD_of_wpS func131 rfl fun c C h=>?_
 apply wpS_seq;apply wpS_region;simp[wpOpsS,go_sem,recoverD,h,ntmps131,Exit.thenS];apply wpS_seq;apply wpS_region;simp[wpOpsS,go_sem,Exit.thenS];refine wpS_cond (t:=false) (by simp[Act.eval,Array.replicate]) ?_;simp only[CC,DM];refine wpS_of_wp (wp_skip ?_);cases c;simp_all[bodyPostS,results,results131]
def qk(b:Nat)(c:Int)(o:Value)(w:World)(h:A0 w b #[o] 9)(g:Gz w)(n:0<=c)(p:c<=1000):CallsD prog 131 #[.pointer (some ⟨b,0,none⟩)] (.panicking [{v:=.iface 199 (.agg #[c]),recovered:=false}]) w fun e u f=>e=.returned (.tuple #[])/\u=.panicking [{v:=.iface 199 (.agg #[c]),recovered:=true}]/\A0 f b #[Nf c] 9/\Bi (fun k=>k<w.heap.size/\k≠b) w f:=by
 have H:=fun(W:World)(G:Gz W)=>Fj c aa aa W G
 have i:∀(w:World),(Instr.typeAssert (.iface 199 (.agg #[c])) 20 199 true).run prog w=.ok (.tuple #[.agg #[c],true]) w:=fun _=>af
 have K:=h.free;have l:=BE c aa aa;have E:=AE (ca:Nf c=101::114::114::111::114::32::itoa c);generalize Nf c=q at E|-;generalize itoa c=I at H l E;refine callsD_of_wpS func131 rfl fun C s j=>?_
 apply wpS_seq;apply wpS_region;simp[wpOpsS,go_sem,recoverD,j,ntmps131,Exit.thenS];refine wpS_of_wp ?_;change Code.wp _ _ _ {tmps:=#[.pointer (some ⟨b,0,none⟩),.iface 199 (.agg #[c]),undef,undef,.iface 199 (.agg #[c]),undef,undef,undef,undef,undef,undef,undef,undef,undef,undef,undef,undef,undef,undef],defers:=[]} w;have t:=h.lt;go_wp2_with fail;have a:=(AG w.heap.size w).alloc (AF _) (Obj.cells #[c] 199);with_reducible refine(H _ (g.next a)).mono ?_
 rintro e r⟨rfl,m⟩;have B:=a.trans (m.mono a.size);have d:=h.next B t;have x:=d.free;have y:=d.cell;clear H i K;go_wp2_with fail;refine⟨rfl,_,rfl,.tuple #[],by simp[results,results131],rfl,rfl,?_,?_⟩
 ·have:=d.set 0 (101::114::114::111::114::32::I:Bs);rw[E.o];simpa using this
 exact⟨B.os,B.tape,B.output,by have:=B.size;simpa[World.setCell]using this,fun k h=>(D3 _ _ _ k (by simpa using h.2)).trans (B.block k h.1)⟩
def ql{b:Al}{n:Int}{a:A3}(H:Fx b)(h:Hw b n=some a):a.len<=1000000:=by
 unfold Hw at h;split at h
 ·cases h
 exact H.placeL a (CP h)
structure Rg(wd W:World)(dk:Ap)(x:Bs)(bk o:Nat)(sl:Value)(d:Nat)(ad:A3)(ev:Value)(b0 b1 b2 b3 b4 b5 b6 b7 b8 b9 b10 b11 b12:Bool)(t10 t11 t12 t13 t14 t15 t16 t9 t17 t18 t5 t6:Value):Prop where
 h0:b0=true->t10=.pointer (some ⟨d,0,none⟩)
 h1:b1=true->∃b bp,dk.bundle=some b/\t11=.pointer (some ⟨bp,0,none⟩)/\Dl (fun _=>True) wd bp b/\Fx b
 h2:b2=true->t12=sl
 h3:b3=true->t13=.pointer (some ⟨bk,o,none⟩)
 h4:b4=true->t14=x
 h5:b5=true->∃n,E4 x=some n/\t15=.int .i64 n
 h6:b6=true->t16=.tuple #[.agg ad.cells,ev]/\ad.len<=1000000/\Hid ((ev=.nilIface/\G7 dk [x]=.ok (Kb (Ea ad)))\/(ev=.iface 30 (.int .i64 2)/\G7 dk [x]=.error 2))
 h7:b7=true->t9=.tuple #[.agg ad.cells,ev]
 h8:b8=true->t17=.agg ad.cells
 h9:b9=true->t18=ev
 ha:b10=true->∃k x0 x1 x2 x3 x4 x5 x6 x7,t5=.pointer (some ⟨k,0,none⟩)/\wd.heap.size<=k/\A0 W k #[x0,x1,x2,x3,x4,x5,x6,x7] 36/\(b11=true->#[x0,x1,x2,x3,x4,x5,x6,x7]=ad.cells)
 sa:b11=true->b10=true
 h12:b12=true->t6=ev
 B:Below wd.heap.size wd W
def Rg.store{W:World}{x:Bs}{B o:Nat}{d:Nat}{a:A3}{c f g i j l m n p q r:Bool}{C:Value}{b:World}{k:Nat}{H:Bool}(h:Rg w W D x B o s d a e c f g i j l m n p q true H r t T u v y z A C E F (.pointer (some ⟨k,0,none⟩)) G)(I:w.heap.size<=k)(J:A0 b k a.cells 36)(K:Below w.heap.size w b):Rg w b D x B o s d a e c f g i j l m n p q true true r t T u v y z A C E F (.pointer (some ⟨k,0,none⟩)) G:=⟨h.h0,h.h1,h.h2,h.h3,h.h4,h.h5,h.h6,h.h7,h.h8,h.h9,fun _=>⟨k,_,_,_,_,_,_,_,_,rfl,I,J,fun _=>rfl⟩,fun _=>rfl,h.h12,K⟩
def Rg.next{w W:World}{D:Ap}{x:Bs}{b o:Nat}{s:Value}{d:Nat}{a:A3}{E:Value}{B c f g i j l m n p q r t:Bool}{T u v y z A C F G H I J:Value}{K:World}(h:Rg w W D x b o s d a E B c f g i j l m n p q r t T u v y z A C F G H I J)(L:Below W.heap.size W K):Rg w K D x b o s d a E B c f g i j l m n p q r t T u v y z A C F G H I J:=⟨h.h0,h.h1,h.h2,h.h3,h.h4,h.h5,h.h6,h.h7,h.h8,h.h9,fun e=>by
  obtain⟨k,X,N,O,P,Q,R,S,U,V,Y,M,Z⟩:=h.ha e;exact⟨k,X,N,O,P,Q,R,S,U,V,Y,M.next L M.lt,Z⟩,h.sa,h.h12,h.B.trans (L.mono h.B.size)⟩
def qq(X:Nat->Prop)(d:Nat)(D:Ap)(v:Value)(l:List Bs)(w:World)(hD:Da X w d D)(h:Fm w v l)(hx:∀x∈l,x.length<=1000000)(Q:Gz w)(hn:l.length<=1000000):Calls prog 222 #[.pointer (some ⟨d,0,none⟩),v] w fun e w'=>Im (G7 D l) e/\Below w.heap.size w w':=by
 obtain⟨B,o,c,rfl,c5,_,b3⟩:=h;by_cases h0:l.length=1
 case neg=>
  have N:=AE (by unfold G7;rw[AN h0]:G7 D l=.error 3);have j:=Oy (some ⟨B,o,none⟩) l.length c 1 di w Q.r;unfold D5 at j;clear h0;go_enter func222,ntmps222;go_wp2_with fail;with_reducible refine j.mono ?_
  rintro e w1⟨rfl,y⟩;go_wp2_with fail;exact⟨rfl,ay,y⟩
 obtain⟨x,rfl⟩:=EA.1 h0;have j:=fun W=>Ox (some ⟨B,o,none⟩) 1 c 1 rfl W
 have b4:=b3 0 x rfl;have d1:=hx x ah;have F:=AE (show G7 D [x]=match D.bundle with
  |none=>.error 7
  |some b=>match E4 x with
   |none=>.error 3
   |some n=>match Hw b n with
    |none=>.error 2
    |some a=>.ok (Kb (Ea a))from rfl)
 rw[BI]at b4;clear h0 b3 hx;have hc:w.drew.cell? ⟨B,o,none⟩=some x:=b4;have c6:B<w.drew.heap.size:=c5;have b5:Gz w.drew:=Q.next (AG w.heap.size w).drew;have b6:Da X w.drew d D:=hD.next (AG w.heap.size w).drew;have m:=(AG w.heap.size w).drew;have B0:=AG w.drew.heap.size w.drew;have b7:=fun W j=>oV x W aa j
 go_enter func222,ntmps222;go_wp2_with fail;with_reducible refine(j _).mono ?_
 rintro e w0⟨rfl,rfl⟩;go_upto_region 2 with fail;obtain⟨A,E,c7⟩:∃A E,∀b n,D.bundle=some b->Fx b->E4 x=some n->nX (Hw b n)=.tuple #[.agg A.cells,E]/\A.len<=1000000/\Hid ((E=.nilIface/\G7 D [x]=.ok (Kb (Ea A)))\/(E=.iface 30 (.int .i64 2)/\G7 D [x]=.error 2)):=by
  have F:=F.o;cases g:D.bundle with
  |none=>exact⟨A3.zero,.nilIface,nofun⟩
  |some b=>
   cases r:E4 x with
   |none=>exact⟨A3.zero,.nilIface,fun _ _ _ _ h=>nomatch h⟩
   |some n=>
    rw[g]at F;simp only[r]at F;cases z:Hw b n with
    |none=>
     rw[z]at F;exact⟨A3.zero,_,fun b' n' e _ R=>by cases e;cases R;rw[z];exact⟨rfl,ae,AE (Or.inr ⟨rfl,F⟩)⟩⟩
    |some a=>
     rw[z]at F;exact⟨a,_,fun b' n' e C R=>by cases e;cases R;rw[z];exact⟨rfl,ql C z,AE (Or.inl ⟨rfl,F⟩)⟩⟩
 go_cut[5,6] (fun p q M=>∃S,(A.len<=1000000/\Hid ((E=.nilIface/\G7 D [x]=.ok (Kb (Ea A)))\/(E=.iface 30 (.int .i64 2)/\G7 D [x]=.error 2)))/\p=.pointer (some ⟨S,0,none⟩)/\q=E/\A0 M S A.cells 36/\Below w.heap.size w M)
 case first=>
  unfold D5 at b7;refine jD (fun l a W=>∃(T y U V G I Y Z b8 b9 t a0 a1:Bool)(a2 a3 a4 a5 a6 a7 a8 t9 a9 b0 t5 t6:Value),l=#[T,y,U,V,G,I,Y,Z,b8,b9,t,a0,a1]/\a=⟨#[.pointer (some ⟨d,0,none⟩),.slice (some ⟨B,o,none⟩) 1 c,undef,undef,.string ⟨#[]⟩,t5,t6,.slice (some ⟨B,o,none⟩) 1 c,.tuple #[],t9,a2,a3,a4,a5,a6,a7,a8,a9,b0,undef,undef,undef,undef,undef],[]⟩/\Rg w.drew W D x B o (.slice (some ⟨B,o,none⟩) 1 c) d A E T y U V G I Y Z b8 b9 t a0 a1 a2 a3 a4 a5 a6 a7 a8 t9 a9 b0 t5 t6) [0,1,2,3,4,5,6,7,8,9,10,11,12] af af rfl ?_ ?_
   ⟨⟨_,rfl,?_⟩,⟨_,rfl,?_⟩,⟨_,rfl,?_⟩,⟨_,rfl,?_⟩,⟨_,rfl,?_⟩,⟨_,rfl,?_⟩,⟨_,rfl,?_⟩,⟨_,rfl,?_⟩,⟨_,rfl,?_⟩,⟨_,rfl,?_⟩,⟨_,rfl,?_⟩,⟨_,rfl,?_⟩,⟨_,rfl,?_⟩,trivial⟩
  ·exact⟨_,_,_,_,_,_,_,_,_,_,_,_,_,_,_,_,_,_,_,_,_,_,_,_,_,rfl,rfl,nofun,nofun,nofun,nofun,nofun,nofun,nofun,nofun,nofun,nofun,nofun,nofun,nofun,B0⟩
  all_goals rintro l a W⟨T,y,U,V,G,I,Y,Z,b8,b9,t,a0,a1,a2,a3,a4,a5,a6,a7,a8,t9,a9,b0,t5,t6,rfl,rfl,h⟩hu
  ·have H:=hu;obtain rfl:t=true:=H 10 ah;obtain⟨k,x0,x1,x2,x3,x4,x5,x6,x7,rfl,hk,i,hs⟩:=h.ha rfl;rw[hs (H 11 ah)]at i;have h6:=h.h6 (H 6 ah);obtain rfl:=h.h12 (H 12 ah);go_wp2;go_meet;exact⟨k,h6.2,rfl,rfl,i,m.trans (h.B.mono m.size)⟩
  all_goals intro H K f
  all_goals simp[Region.binds]at H
  ·go_simp;exact f.o _ _ ⟨_,_,_,_,_,_,_,_,_,_,_,_,_,_,_,_,_,_,_,_,_,_,_,_,_,rfl,rfl,{h with h0:=fun _=>rfl}⟩
  ·subst H;obtain rfl:=h.h0 rfl;cases g:D.bundle with
   |none=>
    have c0:=V3 d W ((b6.next h.B).no g) (b5.next h.B).r;unfold D5 at c0;go_simp;refine c0.mono ?_;rintro e W'⟨rfl,u⟩;go_wp2_with fail;exact⟨rfl,by rw[F.o,g];rfl,m.trans ((h.B.trans (u.mono h.B.size)).mono m.size)⟩
   |some b=>
    obtain⟨J,c1,b1,C,_⟩:=b6.yes g;have c8:=BJ _ _ c1;go_simp;refine(V0 d J W ((h.B.cell (p:=⟨d,0,none⟩) c8).trans c1)).mono ?_;rintro e W'⟨rfl,rfl⟩;exact f.o _ _ ⟨_,_,_,_,_,_,_,_,_,_,_,_,_,_,_,_,_,_,_,_,_,_,_,_,_,rfl,rfl,{h with h1:=fun _=>⟨b,J,g,rfl,b1,C⟩}⟩
  ·go_simp;exact f.o _ _ ⟨_,_,_,_,_,_,_,_,_,_,_,_,_,_,_,_,_,_,_,_,_,_,_,_,_,rfl,rfl,{h with h2:=fun _=>rfl}⟩
  ·subst H;obtain rfl:=h.h2 rfl;go_simp;exact f.o _ _ ⟨_,_,_,_,_,_,_,_,_,_,_,_,_,_,_,_,_,_,_,_,_,_,_,_,_,rfl,rfl,{h with h3:=fun _=>rfl}⟩
  ·subst H;obtain rfl:=h.h3 rfl;have c:=(h.B.cell (p:=⟨B,o,none⟩) c6).trans hc;go_simp;exact f.o _ _ ⟨_,_,_,_,_,_,_,_,_,_,_,_,_,_,_,_,_,_,_,_,_,_,_,_,_,rfl,rfl,{h with h4:=fun _=>rfl}⟩
  ·obtain⟨rfl,rfl⟩:=H;obtain rfl:=h.h4 rfl;obtain⟨b,J,g,-⟩:=h.h1 rfl;go_simp;refine(b7 W (b5.next h.B)).mono ?_;rintro e W'⟨O,u⟩;cases r:E4 x with
   |none=>
    rw[r]at O;obtain rfl:=O;go_wp2_with fail;exact⟨rfl,by rw[F.o,g];simp only[r];rfl,m.trans ((h.B.trans (u.mono h.B.size)).mono m.size)⟩
   |some n=>
    rw[r]at O;obtain rfl:=O;go_wp2_with fail;exact f.o _ _ ⟨_,_,_,_,_,_,_,_,_,_,_,_,_,_,_,_,_,_,_,_,_,_,_,_,_,rfl,rfl,{h.next u with h5:=fun _=>⟨n,r,rfl⟩}⟩
  ·obtain⟨b,J,g,rfl,b1,C⟩:=h.h1 je;obtain⟨n,r,rfl⟩:=h.h5 je;have c2:=pZ r;have hv:=c7 b n g C r;have c3:=ZG (fun _=>True) J b n W (b1.next h.B) c2.1 c2.2;rw[hv.1]at c3;have HV:=AE hv;clear hv r g;go_simp;refine c3.mono ?_;rintro e W'⟨rfl,u⟩;exact f.o _ _ ⟨_,_,_,_,_,_,_,_,_,_,_,_,_,_,_,_,_,_,_,_,_,_,_,_,_,rfl,rfl,{h.next u with h6:=fun _=>⟨rfl,HV.o.2⟩}⟩
  ·subst H;obtain⟨rfl,_⟩:=h.h6 rfl;go_simp;exact f.o _ _ ⟨_,_,_,_,_,_,_,_,_,_,_,_,_,_,_,_,_,_,_,_,_,_,_,_,_,rfl,rfl,{h with h7:=fun _=>rfl}⟩
  ·subst H;obtain rfl:=h.h7 rfl;go_simp;exact f.o _ _ ⟨_,_,_,_,_,_,_,_,_,_,_,_,_,_,_,_,_,_,_,_,_,_,_,_,_,rfl,rfl,{h with h8:=fun _=>rfl}⟩
  ·subst H;obtain rfl:=h.h7 rfl;go_simp;exact f.o _ _ ⟨_,_,_,_,_,_,_,_,_,_,_,_,_,_,_,_,_,_,_,_,_,_,_,_,_,rfl,rfl,{h with h9:=fun _=>rfl}⟩
  ·obtain rfl:t=false:=hu;go_simp;exact f.o _ _ ⟨_,_,_,_,_,_,_,_,_,_,_,_,_,_,_,_,_,_,_,_,_,_,_,_,_,rfl,rfl,{h.next ((AG _ _).alloc (AF _) _)with ha:=fun _=>⟨W.heap.size,_,_,_,_,_,_,_,_,rfl,h.B.size,A0.new _ _ _,fun e=>nomatch h.sa e⟩,sa:=fun _=>rfl}⟩
  ·obtain rfl:t=true:=by simp[H]
   obtain rfl:=h.h8 je;obtain⟨k,x0,x1,x2,x3,x4,x5,x6,x7,rfl,hk,i,-⟩:=h.ha rfl;have kc:=i.cell;have kf:=i.free;go_simp;exact f.o _ _ ⟨_,_,_,_,_,_,_,_,_,_,_,_,_,_,_,_,_,_,_,_,_,_,_,_,_,rfl,rfl,h.store hk (A0.Xh i A) (Xi h.B hk A)⟩
  obtain rfl:=h.h9 je;go_simp;exact f.o _ _ ⟨_,_,_,_,_,_,_,_,_,_,_,_,_,_,_,_,_,_,_,_,_,_,_,_,_,rfl,rfl,{h with h12:=fun _=>rfl}⟩
 case rest=>
 obtain⟨S,⟨d2,b2⟩,rfl,rfl,i,BX⟩:=hcut;obtain⟨M,rfl⟩:∃x:World,x=wc:=⟨_,rfl⟩;have c9:=Q.next BX;have P:=BX;rcases b2.o with⟨rfl,L⟩|⟨rfl,L⟩
 ·have N:=AE L;clear L b2;have d3:=i.cell;have c4:=fun W=>Zq A W aa
  have d0:=Pp A;have N:=AE (show∀s,Ea A=s->G7 D [x]=.ok (105::115::32::s)from fun s hs=>by rw[N.o,<-hs];rfl);have N:=AE (N.o _ rfl);generalize Ea A=wa at c4 d0 N;go_wp2_with fail;with_reducible refine(Pt _).mono ?_
  rintro e w4⟨rfl,rfl⟩;go_wp2_with fail;with_reducible refine(c4 _).mono ?_
  rintro e w5⟨rfl,I⟩;go_wp2;go_ret;exact⟨ay,P.trans (I.mono P.size)⟩
 have N:=AE L;clear L b2;have hM:=Lu (.iface 30 (.int .i64 2)) 2 M (Or.inl rfl) c9.r;unfold D5 at hM;go_wp2_with fail;with_reducible refine hM.mono ?_
 rintro e w4⟨rfl,G⟩;go_wp2_with fail;exact⟨rfl,ay,P.trans (G.mono P.size)⟩
abbrev P2(c l:Nat)(A B:World):Prop:=Bi (fun k=>k<A.heap.size/\k≠c/\k≠l) A B
def P2.putObj{c l:Nat}(A:World)(o:Obj):P2 c l A (A.putObj l o):=⟨rfl,rfl,rfl,(grownBy_putObj' A l o).size,fun _ h=>EJ h.2.2⟩
def qt(l:Nat)(enc:α->Value)(xs:List α)(C:Nat->Prop)(m:Nat)(J:List α->World->Prop):Prop:=∀p x W,J p W->(p++[x])<+:xs->YieldAt Fence.wide m prog l #[enc x] W fun e w=>e=.returned true/\J (p++[x]) w/\Bi C W w
def qD(n gf:Nat)(lb:Array Value)(enc:α->Value)(xs:List α)(c:Nat)(C:Nat->Prop)(w:World):Prop:=∀(l:Nat)(J:List α->World->Prop)(W:World),Below w.heap.size w W->w.heap.size<=l->l<W.heap.size->(∀p A B,J p A->P2 c l A B->B.heap[l]?=A.heap[l]?->J p B)->qt l enc xs C (n-1) J->J [] W->CallsIn Fence.wide n prog gf (#[.func (.yield l) #[] #[]]++lb) W fun e a=>(∃v,e=.returned v)/\J xs a
def qv{g:Operand}{p:Tmp}{q body:Code}{n:Nat}{lb:Array Value}(J:a.eval g=.func (.func gf) #[] lb)(L:∀args w,(callFunc gf args).run prog w=.ok (.enter gf args) w)
  {enc:α->Value} {xs:List α} (hC:∀k,C k->k<w.heap.size) (hseq:qD (n-1) gf lb enc xs c C w) (hcw:c<w.heap.size)
  (I:List α->World->Prop) (hI:∀b A B,I b A->P2 c (w.heap.size+1) A B->I b B) (h0:∀W,Below w.heap.size w W->w.heap.size+2<=W.heap.size->I [] W) (s:α->Act)
  (hassign:∀(x:α)(W:World)(K:Act->World->Prop),K (s x) W->q.wpIn (Fence.wide.inRound (w.heap.size+1)) (n-1-1) prog (Exit.then K (fun _ _ _=>False)) {tmps:=(#[p].zip #[enc x]).foldl (fun t(p,v)=>t.setIfInBounds p v) a.tmps,defers:=[]} W)
  (hbody:∀(b:List α)(x:α)(W:World),I b W->(b++[x])<+:xs->body.wpIn (Fence.wide.inRound (w.heap.size+1)) (n-1-1) prog
   (fun e _ u=>e=.normal/\I (b++[x]) u/\Bi (fun k=>k=w.heap.size\/k=w.heap.size+1\/C k) W u) (s x) W)
  (hdone:∀(W:World),I xs W→W.heap[w.heap.size]?=some (.deferred (some []))→Q .normal {a with defers:={target:=.collected w.heap.size,args:=#[]}::a.defers} W):
  (Code.rangeFunc g #[p] q body).wpIn Fence.wide n prog Q a w:=by
 refine wpIn_rangeFunc ?_;intro F M;obtain⟨r,f⟩:∃r:LoopState→Loop,r=fun N=>{state:=N,pending:=none,fn:=F,tmps:=a.tmps,params:=#[p],assign:=q,body,defers:=w.heap.size}:=⟨_,rfl⟩
 obtain⟨d,j⟩:∃d,(w.alloc (.deferred (some []))).alloc (.loop (r .ready))=d:=⟨_,rfl⟩;have z:Below w.heap.size w d:=by rw[←j];exact((AG _ w).alloc (AF _) _).alloc (by simp) _
 have a2:d.heap.size=w.heap.size+2:=by rw[←j,AX,AX]
 have O:d.heap[w.heap.size+1]?=some (.loop (r .ready)):=by
  rw[<-j];have:=World.alloc_heap_new (w.alloc (.deferred (some []))) (.loop (r .ready));rwa[AX]at this
 have R:d.heap[w.heap.size]?=some (.deferred (some [])):=by
  rw[<-j];exact(Below.heap_alloc _ _ _ ah).trans (World.alloc_heap_new w _)
 refine⟨w.heap.size+1,[{target:=.collected w.heap.size,args:=#[]}],d,{target:=.fn (.func gf) lb,args:=#[.func (.yield (w.heap.size+1)) #[] #[]]},d,gf,#[.func (.yield (w.heap.size+1)) #[] #[]]++lb,d,?_,?_,?_,?_,?_,?_⟩
 ·rw[<-j,f];exact run_enterLoop_outer _ _ _ _ _
 ·simp only[resolve,J];simp[go_sem]
 ·intro f' _;trivial
 ·simp[invoke,go_sem,L]
 ·intro h;cases h
 refine(hseq (w.heap.size+1) (fun b W=>I b W/\W.heap[w.heap.size+1]?=some (.loop (r .ready))/\W.heap[w.heap.size]?=some (.deferred (some []))) d z aa aa ?_ ?_ ⟨h0 d z aa,O,R⟩).mono ?_
 ·rintro b A B⟨m,l,H⟩D T;refine⟨hI _ _ _ m D,T.trans l,(D.block _ ⟨?_,aa,aa⟩).trans H⟩;exact(FD.1 H).1
 ·rintro b x W⟨m,l,H⟩U;have V:w.heap.size+1<W.heap.size:=(FD.1 l).1;have y:=run_yield (P:=prog) (args:=#[enc x]) l (by rw[f];rfl);rw[f]at y;refine⟨F,_,q,body,y,roundIn_of_wpIn M (hassign x W _ ?_)⟩;clear y;refine⟨_,run_beginRound l (by rw[f]),?_⟩;have X:(W.putObj (w.heap.size+1) (.loop {r .ready with state:=.busy})).heap[w.heap.size+1]?=some (.loop {r .ready with state:=.busy}):=World.putObj_heap_same V;have Y:(W.putObj (w.heap.size+1) (.loop {r .ready with state:=.busy})).heap[w.heap.size]?=some (.deferred (some [])):=(EJ aa).trans H;have S:P2 c (w.heap.size+1) W (W.putObj (w.heap.size+1) (.loop {r .ready with state:=.busy})):=P2.putObj W _;refine wpIn_mono (hbody b x _ (hI _ _ _ m S) U) ?_;rintro e a3 o⟨rfl,Z,i⟩;have E:o.heap[w.heap.size+1]?=some (.loop {r .ready with state:=.busy}):=(i.block _ (Or.inr (Or.inl rfl))).trans X;have a0:o.heap[w.heap.size]?=some (.deferred (some [])):=(i.block _ (Or.inl rfl)).trans Y;have hr:=run_endRound (P:=prog) none E;have a1:w.heap.size+1<o.heap.size:=(FD.1 E).1;refine⟨_,_,hr,rfl,⟨hI _ _ _ Z (P2.putObj o _),?_,(EJ aa).trans a0⟩,?_⟩
  ·rw[World.putObj_heap_same a1,f];simp
  refine⟨i.os,i.tape,i.output,AV S.size (AV i.size (grownBy_putObj' o _ _).size),fun k H=>?_⟩;have a4:=hC k H;exact(EJ aa).trans ((i.block k (Or.inr (Or.inr H))).trans (EJ aa))
 rintro e W2⟨⟨v,rfl⟩,m,l,H⟩;have G:=run_endLoop (P:=prog) l (by rw[f];simp);rw[f]at G;exact⟨none,_,G,hdone _ (hI _ _ _ m (P2.putObj W2 _)) ((EJ aa).trans H)⟩
end Go.Proofs.YtignjjnflcpiiaaGreatDoor
