/- bundle.Open. Condition: what the variables hold; at most -/
import Derived.Test.YtignjjnflcpiiaaGreatDoorV11
import Derived.Test.YtignjjnflcpiiaaGreatDoorV30
set_option maxHeartbeats 16000000
set_option maxRecDepth 100000 set_option linter.all false
namespace Go.Proofs.YtignjjnflcpiiaaGreatDoor
open Go Go.RowKit Proofs.Tryz Lib
theorem _root_.Go.Shut.o{p:Prop}(h:Shut p):p:=h
def jv(B:Nat)(r:Except Int Al)(e:Ending)(w':World):Prop:=(∃b p,r=.ok b/\e=.returned (.tuple #[.pointer (some ⟨p,0,none⟩),.nilIface])/\Dl (fun k=>B<=k) w' p b)\/(∃c,r=.error c/\e=.returned (.tuple #[.pointer none,.iface 30 (.int .i64 c)]))
variable {w w' f:World}{z V v x X:Value}{b e n B a cap n' l:Nat}{r:Au}{P:Nat → Prop}{I i:List Bs}{p m:List A3}{c C d q:Array Value}{t:TypeId}{j R:Int}
def O8{α:Type}{size:Nat}{cs:α->List Value}{t:Nat}(l:∀x,(cs x).length=size)(n:∀x,∀u∈cs x,u.oneCell'=true)
  (p:(prog.info? e).map (fun i=>(i.zero,i.size,i.bytes))=some (some z,size,b)) (q:z.cells.size=size) (r:0<size) (D:prog.underlying t=some (.slice e))
  {O:Array Oper} {o:Oper} {a:Act} {K:Act->World->Prop} {Q:Exit->Act->World->Prop} {E:Prop} (F:o.guard=none) (s x:Operand)
  (G:o.op=.call {callee:=.builtin .append,args:=#[s,x],argTypes:=#[t,t]}) (B:Nat) (v:Value) (xs Y:List α) (A:Go.Addr) (m c:Nat) (I:m=Y.length) (h0:0<m)
  (J:a.eval s=v) (H:A1 e size cs w B v xs) (L:a.eval x=.slice (some A) m c) (M:∀j u,(Y.flatMap cs)[j]?=some u->w.cell? (A.add j)=some u) (N:(xs.length+Y.length)*b<=140737488355328) (P:xs.length+Y.length<=maxLen) (d:B<=w.heap.size)
  (h:∀g C W,A1 e size cs W B (.slice (some ⟨g,0,none⟩) (xs.length+Y.length) C) (xs++Y)->w.grownBy W v.ownBlock->Below B w W->(v.ownBlock=some g\/g=w.heap.size)->K (a.put o.dst (.slice (some ⟨g,0,none⟩) (xs.length+Y.length) C)) W):if Region.wanted o (yielded O a.tmps)=true then Oper.wp prog o a w K Q else E:=by
 subst I;obtain⟨R,S,T,U,V⟩:=GC p;refine step_append_lies (w:=w) F s x t G B e R z size b D S T U V q r v xs.length _ J H A Y.length c (Y.flatMap cs) L (Kj l Y) M (fun u X=>?_) h0 P N d _ rfl ?_
 ·obtain⟨y,_,Z⟩:=FU.1 X;exact n y u Z
 intro g C W h1 f h3 _;refine h g C W ?_ f ((AG B w).grown f d fun k hk=>A1.Ha H k hk) h3;unfold A1;rw[CZ,AJ];exact h1
def Us:(prog.info? 9).map (fun i=>(i.zero,i.size,i.bytes))=some (some (.string ByteArray.empty),1,16):=af
def Pu(r:Au)(R:Int)(s S:Je):Array Value:=#[A9 r.1,r.2.1,.bool r.2.2.1,A9 r.2.2.2,R,A9 s,A9 S]
def Pv(t:TypeId)(S:Nat)(b:Nat)(r:Au)(R:Int)(p:List A3)(I:List Bs)(w:World):Prop:=∃s i:Je,A0 w b (Pu r R s i) t/\bF w S (A9 s) p/\A1 9 1 Bl w S (A9 i) I/\(∀g,(A9 s).ownBlock=some g->(A9 i).ownBlock≠some g)
def A8.T0{p:A7}(h:A8 P (n+1) w r p):Ba 2 Bc P w (A9 r.1) p.head:=by
 obtain⟨a,b,c,d⟩:=p;exact h.2.2.1
def A8.pK{p:A7}(h:A8 P (n+1) w r p):r.2.2.1=p.many:=by
 obtain⟨a,b,c,d⟩:=p;exact h.2.1
def jw(w:World)(x:A3)(t:TypeId)(b:Nat)(h:b=w.heap.size):∀j u,([x].flatMap Gm)[j]?=some u->(w.alloc (.cells x.cells t)).cell? ((⟨b,0,none⟩:Go.Addr).add j)=some u:=fun j u H=>by
 subst h;rw[Er,(A0.new w x.cells t).cell,<-GF];simpa[Gm]using H
def jx(w:World)(x:Bs)(t:TypeId)(b:Nat)(H:b=w.heap.size):∀j u,([x].flatMap Bl)[j]?=some u->(w.alloc (.cells #[x] t)).cell? ((⟨b,0,none⟩:Go.Addr).add j)=some u:=fun j u h=>by
 subst H;rw[Er,(A0.new w #[x] t).cell]
 match j,h with
 |0,h=>exact h
 |j+1,h=>simp[Bl]at h
structure Gq(tb:TypeId)(S bp b12 b16:Nat)(cb c12 c16:Array Value)(wa:World)(va:Value)(pl:List A3)(vi:Value)(ids:List Bs)(W:World):Prop where
 K:Below S wa W
 kb:A0 W bp cb tb
 k12:A0 W b12 c12 36
 k16:A0 W b16 c16 44
 oa:bF W S va pl
 oi:A1 9 1 Bl W S vi ids
 ne:∀g,va.ownBlock=some g->vi.ownBlock≠some g
 na:∀g,va.ownBlock=some g->g≠b16
 ni:∀g,vi.ownBlock=some g->g≠b16
 hS:S<=wa.heap.size
 hb:bp<S
 h12:b12<S
abbrev Ut(b B a:Nat)(c C:Array Value)(x X:Value)(W:World):Prop:=(∀k,W.cell? ⟨B,k,none⟩=c[k]?)/\(∀k,W.cell? ⟨a,k,none⟩=C[k]?)/\W.cell? ⟨b,5,none⟩=some x/\W.cell? ⟨b,6,none⟩=some X
def Gq.sm{S:Nat}{d e f g i:Value}{W:World}(h:Gq t S b B a #[d,e,f,g,i,x,X] c C w v p V I W):Ut b B a c C x X W:=⟨h.k12.cell,h.k16.cell,h.kb.cell 5,h.kb.cell 6⟩
def Gq.base{S:Nat}{W:World}(h:Gq t S b B a c C d w v p V i W):S<=W.heap.size:=AV h.hS h.K.size
def Gq.next{t:TypeId}{S b B a:Nat}{c C d:Array Value}{w:World}{v:Value}{p:List A3}{V:Value}{i:List Bs}{W e:World}(h:Gq t S b B a c C d w v p V i W)(H:Below W.heap.size W e):Gq t S b B a c C d w v p V i e:=⟨h.K.trans (H.mono h.base),h.kb.next H h.kb.lt,h.k12.next H h.k12.lt,h.k16.next H h.k16.lt,A1.next h.oa H,A1.next h.oi H,h.ne,h.na,h.ni,h.hS,h.hb,h.h12⟩
def Gq.alloc{t:TypeId}{S b B a:Nat}{c C d:Array Value}{w:World}{v:Value}{p:List A3}{V:Value}{i:List Bs}{W:World}(h:Gq t S b B a c C d w v p V i W)(o:Obj):Gq t S b B a c C d w v p V i (W.alloc o):=h.next ((AG W.heap.size W).alloc (AF _) o)
def Gq.drew{t:TypeId}{S b B a:Nat}{c C d:Array Value}{w:World}{v:Value}{p:List A3}{V:Value}{i:List Bs}{W:World}(h:Gq t S b B a c C d w v p V i W):Gq t S b B a c C d w v p V i W.drew:=h.next (AG W.heap.size W).drew
def Lv{r:Option Nat}(h:A0 w b c t)(H:w.grownBy w' r)(n:some b≠r):A0 w' b c t:=(H.block b h.lt n).trans h
def Gq.Uu{S p:Nat}{W:World}(h:Gq t S p a b c C d f v m V i W){g:Nat}{P:List A3}
  (o:bF w S (.slice (some ⟨g,0,none⟩) n cap) P) (j:W.grownBy w v.ownBlock) (B:Below S W w) (l:v.ownBlock=some g\/g=W.heap.size):Gq t S p a b c C d f (.slice (some ⟨g,0,none⟩) n cap) P V i w:=by
 have q:=fun k H=>A1.Ha h.oa k H
 refine⟨h.K.trans B,h.kb.next B h.hb,h.k12.next B h.h12,Lv h.k16 j (fun e=>(h.na b e.symm) rfl),o,A1.grown h.oi j (fun k H e=>h.ne k e H),fun k H e=>?_,fun k H=>?_,h.ni,h.hS,h.hb,h.h12⟩
 ·injection H with H;simp only at H;subst H;rcases l with l|l
  ·exact h.ne _ l e
  have:=A1.Dj h.oi _ e;omega
 injection H with H;simp only at H;subst H;rcases l with l|l
 ·exact h.na _ l
 have:=h.k16.lt;omega
def Gq.Uv{S p:Nat}{P:List A3}{W:World}(h:Gq t S p a b c C d f V P v I W){g:Nat}
  (o:A1 9 1 Bl w S (.slice (some ⟨g,0,none⟩) n cap) i) (j:W.grownBy w v.ownBlock) (B:Below S W w) (l:v.ownBlock=some g\/g=W.heap.size):Gq t S p a b c C d f V P (.slice (some ⟨g,0,none⟩) n cap) i w:=by
 refine⟨h.K.trans B,h.kb.next B h.hb,h.k12.next B h.h12,Lv h.k16 j (fun e=>(h.ni b e.symm) rfl),A1.grown h.oa j (fun k H e=>h.ne k H e),o,fun k H e=>?_,h.na,fun k H=>?_,h.hS,h.hb,h.h12⟩
 ·injection e with e;simp only at e;subst e;rcases l with l|l
  ·exact h.ne _ H l
  have:=A1.Dj h.oa _ H;omega
 injection H with H;simp only at H;subst H;rcases l with l|l
 ·exact h.ni _ l
 have:=h.k16.lt;omega
def Uw{S:Nat}{o:Array Value}{W d:World}{r R a A:Option Go.Addr}{f g i c C:Nat}{k:Bs}{m:Bool}
  (h:Gq t S b B l #[.slice r e f,k,m,.slice R g i,j,x,X] o q w (.slice a n c) p (.slice A n' C) I W) (H:A5 b S d w):
  Pv t S b ((r,e,f),k,m,(R,g,i)) j p I ((W.setCell ⟨b,5,none⟩ (.slice a n c)).setCell ⟨b,6,none⟩ (.slice A n' C))/\A5 b S d ((W.setCell ⟨b,5,none⟩ (.slice a n c)).setCell ⟨b,6,none⟩ (.slice A n' C)):=by
 refine⟨⟨(a,n,c),(A,n',C),?_,A1.A6 (A1.A6 h.oa h.hb _) h.hb _,A1.A6 (A1.A6 h.oi h.hb _) h.hb _,h.ne⟩,((H.trans (A5.of h.K)).set _).set _⟩;have:=(h.kb.set 5 (.slice a n c)).set 6 (.slice A n' C);simpa[Pu,A9]using this
def Pv.root{S:Nat}(h:Pv t S b r R p i w)(H:b<S)(k:Int):Pv t S b r k p i (w.setCell ⟨b,4,Option.none⟩ k):=by
 obtain⟨s,a,c,d,e,f⟩:=h;refine⟨s,a,?_,A1.A6 d H _,A1.A6 e H _,f⟩;have:=c.set 4 k;simpa[Pu]using this
theorem jz(s:Bs)(w:World)(hs:s.length<=1000000000000)(D:Gr w):Calls prog 10 #[s] w fun e w'=>jv w.heap.size (C4 s) e w'/\Below w.heap.size w w':=by
 have hP:=VV s w hs D;have N:=AE (ca:C4 s=match Ef s with| .error e=>.error e| .ok p=>Iz p);have a1:=fun p(h:Ef s=.ok p)=>Xd h
 generalize Ef s=rp at hP N a1;go_enter func10,ntmps10;go_wp2_with fail;with_reducible refine hP.mono ?_
 rintro e w1⟨hh,b1⟩;have f5:=b1.size;rcases hh with⟨p,d1,rfl,rfl,f⟩|⟨c,rfl,rfl⟩
 case inr=>
  have N:=AE (show C4 s=.error c from N.o);have B1:=b1.alloc f5 (.cells Bu 44);unfold Bu at B1|-;clear b1 hP a1;go_wp2;go_ret2;exact⟨Or.inr ⟨c,N.o,rfl⟩,B1⟩
 have N:=AE (show C4 s=Iz p from N.o);have a1:=a1 p rfl;have c1:=F1 a1.head.1;have l6:=a1.head.2.2;have a9:=f.T0;obtain⟨⟨R,y,C⟩,E,F,⟨T,i6,G⟩⟩:=d1;have i7:i6=p.parts.length:=by
  obtain⟨f6,⟨a,c,e,_⟩,hl,_⟩:=f.parts;simp only[A9]at e;injection e with _ e _;omega
 subst i7;simp only[A9]at a9;simp only[C3,A9];have A:=(AG w1.heap.size w1).alloc (AF _) (.cells #[.slice R y C,E,F,.slice T p.parts.length G] 44);have d:=A0.new w1 #[.slice R y C,E,F,.slice T p.parts.length G] 44;have d2:=(D.next b1).next A;have f:=f.next A;have a9:=a9.next A;have B2:=b1.trans (A.mono f5);have i8:w1.heap.size+1<=(w1.alloc (.cells #[.slice R y C,E,F,.slice T p.parts.length G] 44)).heap.size:=ah
 clear A hP;go_upto_region 4 with fail;generalize World.alloc _ _=w2 at d d2 f a9 B2 i8|-;have U:=Rp (.slice R y C) p.head C2 w2 a9.rd (c1.ok ae) ae;have HK:=AE (ca:Mm p.head=(Ay ((Aj p.head C2).getD [])).getD ([],[]));have i9:=Ui (s:=C2) c1;generalize(Aj p.head C2).getD []=kv at U HK i9;generalize(Aj p.head C2).isSome=u at U;have kc:=d.cell;unfold C2 at U;go_wp2_with fail;with_reducible refine U.mono ?_
 rintro e w3⟨rfl,b3⟩;have B3:=B2.trans (b3.mono aa);have d:=d.next b3 d.lt;have d3:=d2.next b3;have f:=f.next b3;have l7:=b3.size;have f7:=Qr kv w3 aa d3.g;clear U b3 B2 d2 kc a9;go_wp2_with fail;with_reducible refine f7.mono ?_
 rintro e l⟨hh,b4⟩;obtain⟨m,ps,v9,l8,rfl,V,a2,_,j0,_⟩:=hh.get;have a2:=AE (HK.o.trans a2);have B4:=B3.trans (b4.mono B3.size);have d:=d.next b4 d.lt;have f8:=d3.next b4;have f:=f.next b4;have l9:=b4.size;have kc:=d.cell;clear f7 b4 B3 d3 hh HK;by_cases X:m=Li
 case neg=>
  have N:=AE (by rw[N.o];unfold Iz;rw[a2.o,AN X]:C4 s=.error 6);have f9:(m==[109,117,108,116,105,112,97,114,116,47,114,101,108,97,116,101,100])=false:=by simpa[Li]using X
  clear X;go_wp2;go_ret2;exact⟨Or.inr ⟨6,N.o,rfl⟩,B4⟩
 subst X;have f9:(Li==[109,117,108,116,105,112,97,114,116,47,114,101,108,97,116,101,100])=true:=rfl;unfold Li at f9;unfold Li;by_cases b2:p.parts.length=0
 ·have N:=AE (by rw[N.o];unfold Iz;rw[a2.o,AL ah,AN (ES b2)]:C4 s=.error 8);have j1:((p.parts.length:Int)==0)=true:=by rw[b2];rfl
  clear b2;go_wp2;go_ret2;exact⟨Or.inr ⟨8,N.o,rfl⟩,B4⟩
 have j1:((p.parts.length:Int)==0)=false:=di
 have N:=AE (show C4 s=(Ei (E3 A3.zero p.head) ((Cc ps Bw).getD []) (Cc ps Bw).isSome 0 [] [] 0 p.parts).map fun x=>⟨p,x.1,x.2.1,x.2.2⟩from by
  rw[N.o,oT p (by rw[a2.o]) (fun h=>b2 iy),a2.o])
 have d4:=fun v W hr D=>nT A3.zero v p.head W ae hr (c1.mono ae) D
 have g0:=Sv (base:=A3.zero) c1;have g1:A3.zero.len=0:=rfl;rw[g1]at g0;clear g1;generalize E3 A3.zero p.head=base at N g0 d4;have b5:=fun v W hr=>gQ v ps Bw W hr (by have:=j0.1;omega)
 unfold Bw at b5 N;generalize(Cc ps _).getD []=t at N b5;generalize(Cc ps _).isSome=Y at N b5;clear b2 a2;go_upto_region 10 with fail;have f:=A8.Ac (Q:=fun b=>w.heap.size<=b/\b<l.heap.size) (fun b h1 h2=>⟨h1,h2⟩) f;have u:=A0.new l #[.slice R y C,E,F,.slice T p.parts.length G,.int .i64 0,.slice none 0 0,.slice none 0 0] 83;have A:=(AG l.heap.size l).alloc (AF _) (.cells #[.slice R y C,E,F,.slice T p.parts.length G,.int .i64 0,.slice none 0 0,.slice none 0 0] 83);go_upto_region 11 with fail;have j2:l.heap.size<(l.alloc (.cells #[.slice R y C,E,F,.slice T p.parts.length G,.int .i64 0,.slice none 0 0,.slice none 0 0] 83)).heap.size:=ah
 generalize World.alloc _ _=w5 at u A j2|-;have B5:=B4.trans (A.mono B4.size);have d:=d.next A d.lt;have d5:=f8.next A;have f:=f.next A;have V:=A1.next V A;have j3:=B5.size;have J:=d4 (.slice R y C) w5 f.T0.rd d5;change Calls _ _ #[.agg #[.string ⟨#[]⟩,false,.string ⟨#[]⟩,.string ⟨#[]⟩,false,.string ⟨#[]⟩,false,.string ⟨#[]⟩],.slice R y C] _ _ at J;have kc:=d.cell;clear A B4 f8 d4;go_wp2_with fail;with_reducible refine J.mono ?_
 rintro e L⟨rfl,Z⟩;have B6:=B5.trans (Z.mono j3);have d:=d.next Z d.lt;have u:=u.next Z u.lt;have g2:=d5.next Z;have f:=f.next Z;have V:=A1.next V Z;have m0:=Z.size;clear J Z B5 d5 kc;have A:=(AG L.heap.size L).alloc (AF _) (.cells base.cells 36);have a3:=A0.new L base.cells 36;go_upto_region 12 with fail;have j4:L.heap.size<(L.alloc (.cells base.cells 36)).heap.size:=ah
 generalize World.alloc _ _=w7 at a3 A j4|-;have B7:=B6.trans (A.mono B6.size);have d:=d.next A d.lt;have u:=u.next A u.lt;have g3:=g2.next A;have f:=f.next A;have V:=A1.next V A;have U:=b5 v9 w7 (A1.rd ae Af V);clear A B6 g2 b5 V;go_wp2_with fail;with_reducible refine U.mono ?_
 rintro e o⟨rfl,b8⟩;have B8:=B7.trans (b8.mono B7.size);have d:=d.next b8 d.lt;have u:=u.next b8 u.lt;have a3:=a3.next b8 a3.lt;have j5:=g3.next b8;have f:=f.next b8;have m1:=b8.size;have kc:=d.cell;have m2:=u.lt;have m3:w1.heap.size≠l.heap.size:=by have:=b1.size;omega
 clear U b8 B7 g3;have g4:=AE f;clear f;go_wp2_with fail;go_loopw[14,15,16,62] (fun lv _ _ i wr=>∃(k:Nat)(Y:Bool)(r:Nat)(P:List A3)(I:List Bs),i=k/\lv=Y/\k<=p.parts.length/\P.length=k/\I.length=k/\r<=k/\Pv 83 o.heap.size l.heap.size ((R,y,C),E,F,(T,p.parts.length,G)) r P I wr/\Hid (C4 s=(Ei base t Y r P I k (p.parts.drop k)).map fun x=>⟨p,x.1,x.2.1,x.2.2⟩)/\A5 l.heap.size o.heap.size o wr) (fun _ _ _ i _=>p.parts.length-(intOf i).toNat)
 case atStart=>exact⟨0,Y,0,[],[],rfl,rfl,aa,rfl,rfl,aa,⟨(none,0,0),(none,0,0),u,A1.nil _ _ _ _ _,A1.nil _ _ _ _ _,fun g h=>ee⟩,N,A5.refl _ _ _⟩
 obtain⟨k,Y,r,P,I,rfl,rfl,hk,m4,j6,m5,g5,b6,B⟩:=hrel;have d6:=B.size;by_cases b0:k<p.parts.length
 ·have c2:=A8.Ai g4.o B aa;obtain⟨f6,d7,m6,g6⟩:=c2.parts;simp only[A9]at d7;obtain⟨pb,rfl,m7,m8,a0⟩:=d7.at Dx k aa;have M:=g6 k aa b0;have g7:=a1.part (AQ b0);have a4:=AE (show∀q,p.parts[k]=q->q.many=true->C4 s=.error 13 from fun q M X=>by
   rw[b6.o,AH b0,M];unfold Ei;rw[AN X];rfl)
  have S:=AE (show∀q,p.parts[k]=q->q.many=false->C4 s=(if Y&&(t !=[]&&t==Fu (G4 q.head))then Ei base t false k (P++[E3 base q.head]) (I++[G4 q.head]) (k+1) (p.parts.drop (k+1))
   else Ei base t Y r (P++[E3 base q.head]) (I++[G4 q.head]) (k+1) (p.parts.drop (k+1))).map (fun x=>(⟨p,x.1,x.2.1,x.2.2⟩:Al))from fun q M X=>by
   rw[b6.o,AH b0,M];rw[Ei.eq_def];simp only[X];rfl)
  have d8:=a0 0 ae;have d9:=a0 1 ae;have c3:=a0 2 ae;have e0:=a0 3 ae;have a4:=AE (a4.o _ rfl);have b7:=AE (S.o _ rfl);clear a0 g6 b6 S d7;generalize p.parts[k]=q at M g7 a4 b7;generalize f6[k]' aa=d1 at M d8 d9 c3 e0;have g8:=M.pK;have e1:=M.T0;obtain⟨⟨qa,qn,qc⟩,qb,qm,⟨c4,c5,c6⟩⟩:=d1;simp only[Dk,A9,BI,AU,AR]at d8 d9 c3 e0 g8 e1;subst g8;have e2:=F1 g7.head.1;clear M;generalize q.many=bm at a4 b7 c3;have c7:w.heap.size<=l.heap.size:=aa
  have a5:w.heap.size<=o.heap.size:=aa
  have B9:=B8.trans ((B.mono a5).shut c7);have e3:=AE B9;cases bm with
  |true=>
   have HE:=AE (a4.o rfl);clear a4 b7;go_wp2;go_ret2;exact⟨Or.inr ⟨13,HE.o,rfl⟩,e3.o.alloc (AV a5 d6) _⟩
  |false=>
  have S:=AE (b7.o rfl);clear a4 b7;have A:=(AG wr.heap.size wr).alloc (AF _) (.cells #[.slice qa qn qc,qb,false,.slice c4 c5 c6] 44);have e4:=A0.new wr #[.slice qa qn qc,qb,false,.slice c4 c5 c6] 44;have m9:w.heap.size<=o.heap.size:=a5;obtain⟨⟨g9,h0,h3⟩,⟨h4,h5,h6⟩,O,e5,a6,h7⟩:=g5;have hM:Gq 83 o.heap.size l.heap.size L.heap.size wr.heap.size _ base.cells _ _ _ P _ I _:=⟨AG o.heap.size _,O.next A O.lt,(a3.Ai B aa).next A (a3.Ai B aa).lt,e4,A1.next e5 A,A1.next a6 A,h7,fun g D=>ED (A1.Dj e5 g D),fun g D=>ED (A1.Dj a6 g D),AV d6 A.size,aa,a3.lt⟩;unfold Pu at hM;simp only[A9]at hM;have n0:=D.size;have e6:=((j5.Ai B aa).next A).next ((AG _ _).drew);have HQ:=AE (fun W(hW:Below o.heap.size _ W)=>(e1.keep (w':=W) (AV A.size hW.size) (fun b hP b0=>(hW.block b (by have:=hP.2;omega)).trans (A.block b b0))).rd);have J:=fun W hr D=>nT base (.slice qa qn qc) q.head W aa hr (e2.mono ae) D
  have e7:=fun W hr=>ZA (.slice qa qn qc) q.head W hr (e2.mono ae)
  have j7:=bX e2;generalize E3 base q.head=n at S J;generalize G4 q.head=i at S e7 j7;have j8:=e4.cell;clear O e5 a6 h7 e1;go_upto_region 18 with fail;clear d8 d9 c3 e0 e4 j8;generalize World.alloc _ _=wa at hM e6 HQ A|-;have h8:=AE (B.next A d6);have Md:=hM.drew;have J:=J _ (HQ.o _ Md.K) e6;clear e6 A;go_cut[94] (fun _ wx=>Pv 83 o.heap.size l.heap.size ((R,y,C),E,F,(some ⟨pb,0,none⟩,p.parts.length,G)) r (P++[n]) (I++[i]) wx/\A5 l.heap.size o.heap.size o wx)
  case first=>
   have n1:=Md.kb.cell;have n2:=Md.k12.cell;have n3:=Md.k16.cell;have q1:=AE (ag:(P.length+[n].length)*104<=140737488355328);have q2:=AE (ao:P.length+[n].length<=maxLen);have q3:=AE (ag:(I.length+[i].length)*16<=140737488355328);have q4:=AE (ao:I.length+[i].length<=maxLen);have n4:L.heap.size≠l.heap.size:=aa
   have n5:wr.heap.size≠l.heap.size:=aa
   have e8:(Ut l.heap.size L.heap.size wr.heap.size base.cells #[.slice qa qn qc,qb,false,.slice c4 c5 c6] (.slice g9 h0 h3) (.slice h4 h5 h6)) wa.drew:=Md.sm;refine U3 23 (Ut l.heap.size L.heap.size wr.heap.size base.cells #[.slice qa qn qc,qb,false,.slice c4 c5 c6] (.slice g9 h0 h3) (.slice h4 h5 h6)) af ?_;refine Aa.tu 1 e8 ?_;refine Nv.go [0,2,3,4,5,6,7,8,12,13,14,15,16,17] ?_;iterate 14
    refine Nv.cons (v:=?_) rfl af af af af ae (fun _ _ _ h=>h) (Or.inl ⟨ca,?_⟩) e8 ?_;rotate_left
    ·(intro W h9;(try dsimp only at h9);obtain⟨e9,f0,f1,f2⟩:=h9;go_simp;try with_reducible rfl)
    simp only[Act.put]
   refine Nv.nil ?_;refine Aa.one (j:=9) af rfl ae (fun K H=>?_);go_simp;with_reducible refine J.mono ?_
   rintro e i0⟨rfl,j9⟩;have M9:=Md.next j9;have n6:=M9.kb.cell;have e9:=M9.sm;refine H.o _ _ e9 ?_;clear H K e8;have b9:=AE (M9.alloc (.cells n.cells 36));have n7:=b9.o.kb.cell;have k0:=AE (jw i0 n 36 _ rfl);refine Aa.one (j:=10) af rfl ae (fun K H=>?_);go_simp;have f0:=b9.o.sm;refine H.o _ _ f0 ?_;clear H K e9;refine Aa.one (j:=11) af rfl ae (fun K H=>?_)
   (refine O8 (α:=A3) (cs:=Gm) (size:=8) (z:=.agg #[.string ByteArray.empty,false,.string ByteArray.empty,.string ByteArray.empty,false,.string ByteArray.empty,false,.string ByteArray.empty]) Lj Uj Uk rfl ae underlying54 rfl _ _ rfl o.heap.size _ P [n] ⟨i0.heap.size,0,none⟩ 1 1 rfl ae rfl b9.o.oa rfl k0.o q1.o q2.o b9.o.base ?_)
   intro gA i1 n8 k1 k2 k3 k4;have c8:=b9.o.Uu k1 k2 k3 k4;have n9:=c8.kb.cell;have f1:=c8.sm;refine H.o _ _ f1 ?_;clear H K f0;simp only[Act.put];refine Aa.one (j:=18) af rfl ae (fun K H=>?_);go_simp;with_reducible refine(e7 _ (HQ.o _ c8.K)).mono ?_
   rintro e i2⟨rfl,k5⟩;have f3:=c8.next k5;have o0:=f3.kb.cell;have f2:=f3.sm;refine H.o _ _ f2 ?_;clear H K f1;have c0:=AE (f3.alloc (.cells #[i] 9));have o1:=c0.o.kb.cell;have k6:=AE (jx i2 i 9 _ rfl);refine Aa.one (j:=19) af rfl ae (fun K H=>?_);go_simp;have i3:=c0.o.sm;refine H.o _ _ i3 ?_;clear H K f2;refine Aa.one (j:=20) af rfl ae (fun K H=>?_)
   (refine O8 (α:=Bs) (cs:=Bl) (size:=1) (z:=.string ByteArray.empty) By Pn Us rfl ae underlying55 rfl _ _ rfl o.heap.size _ I [i] ⟨i2.heap.size,0,none⟩ 1 1 rfl ae rfl c0.o.oi rfl k6.o q3.o q4.o c0.o.base ?_)
   intro gI o2 o3 k7 k8 k9 l0;have a7:=c0.o.Uv k7 k8 k9 l0;have o4:=a7.kb.cell;have o5:=a7.kb.free;have c9:=a7.sm;refine H.o _ _ c9 ?_;clear H K i3;simp only[Act.put];refine Aa.tk 21 c9 ?_;refine Aa.tk 22 c9 ?_;refine Aa.stop af rfl (fun K H=>?_);go_simp;refine H.o _ _ ?_;clear H K c9;refine Nu 24 ?_;refine Nu 25 ?_;have o6:=(a7.kb.set 5 (.slice (some ⟨gA,0,none⟩) (P.length+[n].length) i1)).cell;have o7:=(a7.kb.set 5 (.slice (some ⟨gA,0,none⟩) (P.length+[n].length) i1)).free;refine U2 (j:=26) af rfl (fun K H=>?_);go_simp;refine H.o _ _ ?_;clear H K;refine GY af ?_ _;go_wp2;go_meet;rw[(ag:P.length+[n].length=k+1),(ag:I.length+[i].length=k+1)]at a7;exact Uw a7 h8.o
  case rest=>
  obtain⟨hR,KB⟩:=hcut;obtain⟨w9,rfl⟩:∃x:World,x=wc:=⟨_,rfl⟩;have HR:=AE hR;have d0:=AE KB;obtain⟨⟨o8,o9,p0⟩,⟨p1,l1,p2⟩,O,_,a6,_⟩:=hR;unfold Pu at O;simp only[A9]at O a6;have f4:=A1.Dq ae By a6;have l2:l1=k+1:=by
   obtain⟨a,c,e,_⟩:=f4;injection e with _ e _;rw[e];simp;omega
  subst l2;obtain⟨ib,rfl,_,p3,a0⟩:=f4.at By k ag;have i4:(I++[i])[k]' ag=i:=by subst j6;simp
  have ci:=a0 0 ae;rw[i4]at ci;simp only[Bl,IE,BI,AU]at ci;have p4:=O.cell;have p5:=O.free;have l3:l.heap.size<o.heap.size:=aa
  have r1:(k:Int)<(k:Int)+1:=aa
  clear a0 i4 f4 a6 O hM J e7 HQ Md h8;cases Y with
  |false=>
   have a8:=AE (by rw[S.o];rfl:C4 s=(Ei base t false r (P++[n]) (I++[i]) (k+1) (p.parts.drop (k+1))).map (fun x=>(⟨p,x.1,x.2.1,x.2.2⟩:Al)));clear S;go_wp2;go_roundw
   case rel=>exact⟨k+1,false,r,P++[n],I++[i],aj,rfl,aa,ag,ag,aa,HR.o,a8,d0.o⟩
   simp[intOf];omega
  |true=>
  have S:=AE (show C4 s=(if !(t==[])&&(t==60::(i++[62]))then Ei base t false k (P++[n]) (I++[i]) (k+1) (p.parts.drop (k+1))
   else Ei base t true r (P++[n]) (I++[i]) (k+1) (p.parts.drop (k+1))).map (fun x=>(⟨p,x.1,x.2.1,x.2.2⟩:Al))from S.o)
  generalize p6:(t==[])=be at S;generalize l4:(t==60::(i++[62]))=bq at S;cases be with
  |true=>
   have a8:=AE (show C4 s=(Ei base t true r (P++[n]) (I++[i]) (k+1) (p.parts.drop (k+1))).map (fun x=>(⟨p,x.1,x.2.1,x.2.2⟩:Al))from S.o);clear S l4;go_wp2;go_roundw
   case rel=>exact⟨k+1,true,r,P++[n],I++[i],aj,rfl,aa,ag,ag,aa,HR.o,a8,d0.o⟩
   simp[intOf];omega
  |false=>
  cases bq with
  |false=>
   have a8:=AE (show C4 s=(Ei base t true r (P++[n]) (I++[i]) (k+1) (p.parts.drop (k+1))).map (fun x=>(⟨p,x.1,x.2.1,x.2.2⟩:Al))from S.o);clear S;go_wp2;go_roundw
   case rel=>exact⟨k+1,true,r,P++[n],I++[i],aj,rfl,aa,ag,ag,aa,HR.o,a8,d0.o⟩
   simp[intOf];omega
  |true=>
   have a8:=AE (show C4 s=(Ei base t false k (P++[n]) (I++[i]) (k+1) (p.parts.drop (k+1))).map (fun x=>(⟨p,x.1,x.2.1,x.2.2⟩:Al))from S.o);clear S;go_wp2;go_roundw
   case rel=>exact⟨k+1,false,k,P++[n],I++[i],aj,rfl,aa,ag,ag,aa,HR.o.root l3 k,a8,d0.o.set _⟩
   simp[intOf];omega
 obtain rfl:k=p.parts.length:=aa
 have HD:=AE (by rw[b6.o,AS];rfl:C4 s=.ok ⟨p,r,P,I⟩);have c2:=A8.Ai g4.o B aa;obtain⟨sa,si,h1,h2,i5,_⟩:=g5;have c7:w.heap.size<=l.heap.size:=aa
 have a5:w.heap.size<=o.heap.size:=aa
 have e3:=AE (B8.trans ((B.mono a5).shut c7));have l5:=AE (show Dl (fun k=>w.heap.size<=k) wr l.heap.size ⟨p,r,P,I⟩from⟨((R,y,C),E,F,(T,p.parts.length,G)),sa,si,c7,h1,A8.Ac (fun b hb _=>hb.1) c2,Ba.Ac (A1.Dq ae Lj h2) (fun b hb _=>AV a5 hb.1),Ba.Ac (A1.Dq ae By i5) (fun b hb _=>AV a5 hb.1)⟩);clear b6 c2 h1 h2 i5 B;go_wp2;go_ret2;exact⟨Or.inl ⟨_,_,HD.o,rfl,l5.o⟩,e3.o⟩
end Go.Proofs.YtignjjnflcpiiaaGreatDoor
