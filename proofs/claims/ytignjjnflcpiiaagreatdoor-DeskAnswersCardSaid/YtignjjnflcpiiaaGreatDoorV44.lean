/- desk's resolve. Condition: what the variables hold; so ma -/
import Derived.LoopIn
import Derived.LoopNIn
import Derived.OwnWalkIn
import Derived.TacticsInMore
import Derived.Test.YtignjjnflcpiiaaGreatDoorV40
import Derived.Test.YtignjjnflcpiiaaGreatDoorV41
set_option maxHeartbeats 16000000
set_option maxRecDepth 100000 set_option linter.all false
namespace Go.Proofs.YtignjjnflcpiiaaGreatDoor
open Go Go.RowKit Proofs.Tryz Lib
variable {t:TypeId}{c args:Array Value}{b B f:Nat}{T s u:Value}{R:Ending → World → Prop}
def vm{w:World}{a:Nat}(h:A0 w b c t)(H:b≠a)(y Y d e f g i j:Value):A0 ((((((((w.setCell ⟨a,0,none⟩ y).setCell ⟨a,1,none⟩ Y).setCell ⟨a,2,none⟩ d).setCell ⟨a,3,none⟩ e).setCell ⟨a,4,none⟩ f).setCell ⟨a,5,none⟩ g).setCell ⟨a,6,none⟩ i).setCell ⟨a,7,none⟩ j) b c t:=(((((((h.A6 vy y).A6 vy Y).A6 vy d).A6 vy e).A6 vy f).A6 vy g).A6 vy i).A6 vy j
def qO{w:World}{a:Nat}(h:A0 w b c t)(H:b≠a)(y:A3):A0 ((((((((w.setCell ⟨a,0,none⟩ y.scheme).setCell ⟨a,1,none⟩ (.bool y.hasAuth)).setCell ⟨a,2,none⟩ y.auth).setCell ⟨a,3,none⟩ y.path).setCell ⟨a,4,none⟩ (.bool y.hasQuery)).setCell ⟨a,5,none⟩ y.query).setCell ⟨a,6,none⟩ (.bool y.hasFrag)).setCell ⟨a,7,none⟩ y.frag) b c t:=vm h H y.scheme (.bool y.hasAuth) y.auth y.path (.bool y.hasQuery) y.query (.bool y.hasFrag) y.frag
structure J4(wd W:World)(sl:Value)(bk o:Nat)(x:Bs)(m i ld cl al st:Bool)(tm ti tl tc ta:Value):Prop where
 hm:m=true->tm=sl
 hi:i=true->ti=.pointer (some ⟨bk,o,none⟩)
 hl:ld=true->tl=x
 hc:cl=true->∃a,Be x=some a/\tc=a.val
 sa:st=true->al=true
 ha:al=true->∃k x0 x1 x2 x3 x4 x5 x6 x7,ta=.pointer (some ⟨k,0,none⟩)/\wd.heap.size<=k/\A0 W k #[x0,x1,x2,x3,x4,x5,x6,x7] 36/\(st=true->∃a,Be x=some a/\#[x0,x1,x2,x3,x4,x5,x6,x7]=a.cells)
def J4.begin{w W:World}{o:Nat}{x:Bs}{t l c a:Value}:J4 w W s b o x false false false false false false t T l c a:=⟨nofun,nofun,nofun,nofun,nofun,nofun⟩
def J4.to{w W b:World}{o:Nat}{x:Bs}{m i l C a S:Bool}{d f g t:Value}(h:J4 w W s B o x m i l C a S T d f g t)
  (j:∀k c,t=.pointer (some ⟨k,0,none⟩)->a=true->A0 W k c 36->A0 b k c 36):J4 w b s B o x m i l C a S T d f g t:=
 ⟨h.hm,h.hi,h.hl,h.hc,h.sa,fun e=>by
  obtain⟨k,X,n,p,q,r,u,v,y,H,z,A,D⟩:=h.ha e;exact⟨k,X,n,p,q,r,u,v,y,H,z,j k _ H e A,D⟩⟩
def J4.far{w W:World}{o:Nat}{x:Bs}{m i l c a S:Bool}{d f g t:Value}(h:J4 w W s b o x m i l c a S T d f g t)(e:a=true)(H:.pointer (some ⟨W.heap.size,0,none⟩)=t):False:=by
 obtain⟨k,X,p,q,r,u,v,y,z,j,_,n,_⟩:=h.ha e;rw[j]at H;injection H with H;injection H with H;injection H with H;have:=n.lt;omega
def J4.store{w W b:World}{o k:Nat}{x:Bs}{m i l c A S:Bool}{t d e:Value}{a:A3}(h:J4 w W s B o x m i l c A S t T d e (.pointer (some ⟨k,0,none⟩)))
  (H:w.heap.size<=k) (f:A0 b k a.cells 36) (r:Be x=some a):J4 w b s B o x m i l c true true t T d e (.pointer (some ⟨k,0,none⟩)):=
 ⟨h.hm,h.hi,h.hl,h.hc,fun _=>rfl,fun _=>⟨k,_,_,_,_,_,_,_,_,rfl,H,f,fun _=>⟨a,r,rfl⟩⟩⟩
def J4.next{w W a:World}{s:Value}{b o:Nat}{x:Bs}{m i l c A S:Bool}{t T d e f:Value}(h:J4 w W s b o x m i l c A S t T d e f)
 (H:Below W.heap.size W a):J4 w a s b o x m i l c A S t T d e f:=h.to fun _ _ _ _ h=>h.next H h.lt
def vn(pd v:Value)(l:List Bs)(w:World)(h:Fm w v l)(R:∀x∈l,x.length<=1000000)(S:Gz w)(hn:l.length<=1000000):Calls prog 234 #[pd,v] w fun e w'=>Im (Lq l) e/\Below w.heap.size w w':=by
 obtain⟨j,o,c,rfl,b9,_,U⟩:=h;by_cases h0:l.length=2
 case neg=>
  have N:=AE (by unfold Lq;rw[AN h0]:Lq l=.error 3);have F:=Oy (some ⟨j,o,none⟩) l.length c 2 di w S.r;unfold D5 at F;clear h0;go_enter func234,ntmps234;go_wp2_with fail;with_reducible refine F.mono ?_
  rintro e w1⟨rfl,O⟩;go_wp2_with fail;exact⟨rfl,ay,O⟩
 obtain⟨x,y,rfl⟩:∃x y,l=[x,y]:=by
  match l,h0 with
  |[x,y],_=>exact⟨x,y,rfl⟩
 have F:=fun W=>Ox (some ⟨j,o,none⟩) 2 c 2 rfl W
 have b0:=U 0 x rfl;have c0:=U 1 y rfl;have c1:=R x ah;have c2:=R y ah;have V:=AE (show Lq [x,y]=match Be x with
  |none=>.error 3
  |some a=>match Be y with
   |none=>.error 3
   |some b=>.ok (Kb (Ea (Ar a b)))from rfl)
 rw[BI]at b0;clear h0 U R;have hc:w.drew.cell? ⟨j,o,none⟩=some x:=b0;have c3:w.drew.cell? ⟨j,o+1,none⟩=some y:=c0;have b1:j<w.drew.heap.size:=b9;have b4:Gz w.drew:=S.next (AG w.heap.size w).drew;have G:=(AG w.heap.size w).drew;have B0:=AG w.drew.heap.size w.drew;have Y:=fun s(hs:s.length<=1000000)W F=>oW s W aa F
 go_enter func234,ntmps234;go_wp2_with fail;with_reducible refine(F _).mono ?_
 rintro e w0⟨rfl,rfl⟩;go_upto_region 2 with fail;go_cut[5,6] (fun p q P=>∃A g D E,Be x=some A/\Be y=some g/\p=.pointer (some ⟨D,0,none⟩)/\q=.pointer (some ⟨E,0,none⟩)/\A0 P D A.cells 36/\A0 P E g.cells 36/\Below w.heap.size w P)
 case first=>
  unfold D5 at Y;refine jD (fun l a W=>∃(Z O b2 b3 I D E b7 J L a0 a1:Bool)(t9 a2 a3 a4 a5 a6 a7 a8 T Q:Value),l=#[Z,O,b2,b3,I,D,E,b7,J,L,a0,a1]/\a=⟨#[pd,.slice (some ⟨j,o,none⟩) 2 c,undef,undef,.string ⟨#[]⟩,T,Q,.slice (some ⟨j,o,none⟩) 2 c,.tuple #[],t9,a2,a3,a4,a5,a6,a7,a8,undef,undef,undef,undef,undef],[]⟩/\J4 w.drew W (.slice (some ⟨j,o,none⟩) 2 c) j o x Z O b2 b3 J a0 t9 a2 a3 a4 T/\J4 w.drew W (.slice (some ⟨j,o,none⟩) 2 c) j (o+1) y I D E b7 L a1 a5 a6 a7 a8 Q/\(J=true->L=true->T≠Q)/\Below w.drew.heap.size w.drew W) [0,1,2,3,4,5,6,7,8,9,10,11] af af rfl ?_ ?_
   ⟨⟨_,rfl,?_⟩,⟨_,rfl,?_⟩,⟨_,rfl,?_⟩,⟨_,rfl,?_⟩,⟨_,rfl,?_⟩,⟨_,rfl,?_⟩,⟨_,rfl,?_⟩,⟨_,rfl,?_⟩,⟨_,rfl,?_⟩,⟨_,rfl,?_⟩,⟨_,rfl,?_⟩,⟨_,rfl,?_⟩,trivial⟩
  ·exact⟨_,_,_,_,_,_,_,_,_,_,_,_,_,_,_,_,_,_,_,_,_,_,rfl,rfl,J4.begin,J4.begin,nofun,B0⟩
  all_goals rintro l a W⟨Z,O,b2,b3,I,D,E,b7,J,L,a0,a1,t9,a2,a3,a4,a5,a6,a7,a8,T,Q,rfl,rfl,H,d,n,B⟩hu
  ·have i:=hu;obtain rfl:J=true:=i 8 ah;obtain rfl:L=true:=i 9 ah;obtain⟨k,x0,x1,x2,x3,x4,x5,x6,x7,rfl,M,u,h⟩:=H.ha rfl;obtain⟨k',y0,y1,y2,y3,y4,y5,y6,y7,rfl,c9,b5,h'⟩:=d.ha rfl;obtain⟨A,f,ex⟩:=h (i 10 ah);obtain⟨g,z,ey⟩:=h' (i 11 ah);rw[ex]at u;rw[ey]at b5;go_wp2;go_meet;exact⟨A,g,k,k',f,z,rfl,rfl,u,b5,G.trans (B.mono G.size)⟩
  all_goals intro i K t
  all_goals simp[Region.binds]at i
  ·go_simp;exact t.o _ _ ⟨_,_,_,_,_,_,_,_,_,_,_,_,_,_,_,_,_,_,_,_,_,_,rfl,rfl,{H with hm:=fun _=>rfl},d,n,B⟩
  ·subst i;obtain rfl:=H.hm rfl;go_simp;exact t.o _ _ ⟨_,_,_,_,_,_,_,_,_,_,_,_,_,_,_,_,_,_,_,_,_,_,rfl,rfl,{H with hi:=fun _=>rfl},d,n,B⟩
  ·subst i;obtain rfl:=H.hi rfl;have c:=(B.cell (p:=⟨j,o,none⟩) b1).trans hc;go_simp;exact t.o _ _ ⟨_,_,_,_,_,_,_,_,_,_,_,_,_,_,_,_,_,_,_,_,_,_,rfl,rfl,{H with hl:=fun _=>rfl},d,n,B⟩
  ·subst i;obtain rfl:=H.hl rfl;go_simp;refine(Y x c1 W (b4.next B)).mono ?_;rintro e W'⟨C,m⟩;cases f:Be x with
   |none=>
    rw[f]at C;obtain rfl:=C;go_wp2_with fail;exact⟨rfl,by rw[V.o,f];rfl,G.trans ((B.trans (m.mono B.size)).mono G.size)⟩
   |some A=>
    rw[f]at C;obtain rfl:=C;go_wp2_with fail;exact t.o _ _ ⟨_,_,_,_,_,_,_,_,_,_,_,_,_,_,_,_,_,_,_,_,_,_,rfl,rfl,{H.next m with hc:=fun _=>⟨A,f,rfl⟩},d.next m,n,B.trans (m.mono B.size)⟩
  ·go_simp;exact t.o _ _ ⟨_,_,_,_,_,_,_,_,_,_,_,_,_,_,_,_,_,_,_,_,_,_,rfl,rfl,H,{d with hm:=fun _=>rfl},n,B⟩
  ·subst i;obtain rfl:=d.hm rfl;go_simp;exact t.o _ _ ⟨_,_,_,_,_,_,_,_,_,_,_,_,_,_,_,_,_,_,_,_,_,_,rfl,rfl,H,{d with hi:=fun _=>rfl},n,B⟩
  ·subst i;obtain rfl:=d.hi rfl;have c:=(B.cell (p:=⟨j,o+1,none⟩) b1).trans c3;go_simp;exact t.o _ _ ⟨_,_,_,_,_,_,_,_,_,_,_,_,_,_,_,_,_,_,_,_,_,_,rfl,rfl,H,{d with hl:=fun _=>rfl},n,B⟩
  ·obtain⟨rfl,rfl⟩:=i;obtain rfl:=d.hl rfl;obtain⟨A,f,rfl⟩:=H.hc rfl;go_simp;refine(Y y c2 W (b4.next B)).mono ?_;rintro e W'⟨C,m⟩;cases z:Be y with
   |none=>
    rw[z]at C;obtain rfl:=C;go_wp2_with fail;exact⟨rfl,by rw[V.o,f,z];rfl,G.trans ((B.trans (m.mono B.size)).mono G.size)⟩
   |some g=>
    rw[z]at C;obtain rfl:=C;go_wp2_with fail;exact t.o _ _ ⟨_,_,_,_,_,_,_,_,_,_,_,_,_,_,_,_,_,_,_,_,_,_,rfl,rfl,H.next m,{d.next m with hc:=fun _=>⟨g,z,rfl⟩},n,B.trans (m.mono B.size)⟩
  ·obtain rfl:J=false:=hu;go_simp;exact t.o _ _ ⟨_,_,_,_,_,_,_,_,_,_,_,_,_,_,_,_,_,_,_,_,_,_,rfl,rfl,{H with sa:=fun _=>rfl,ha:=fun _=>⟨W.heap.size,_,_,_,_,_,_,_,_,rfl,B.size,A0.new _ _ _,fun e=>nomatch H.sa e⟩},d.next ((AG _ _).alloc (AF _) _),fun _ e h=>(d.far e h),B.alloc B.size _⟩
  ·obtain rfl:L=false:=hu;go_simp;exact t.o _ _ ⟨_,_,_,_,_,_,_,_,_,_,_,_,_,_,_,_,_,_,_,_,_,_,rfl,rfl,H.next ((AG _ _).alloc (AF _) _),{d with sa:=fun _=>rfl,ha:=fun _=>⟨W.heap.size,_,_,_,_,_,_,_,_,rfl,B.size,A0.new _ _ _,fun e=>nomatch d.sa e⟩},fun e _ h=>(H.far e h.symm),B.alloc B.size _⟩
  ·obtain⟨rfl,rfl,_⟩:=i;obtain⟨A,f,rfl⟩:=H.hc rfl;obtain⟨k,x0,x1,x2,x3,x4,x5,x6,x7,rfl,M,u,_⟩:=H.ha rfl;have kc:=u.cell;have kf:=u.free;go_simp;exact t.o _ _ ⟨_,_,_,_,_,_,_,_,_,_,_,_,_,_,_,_,_,_,_,_,_,_,rfl,rfl,H.store M (A0.Xh u A) f,d.to (fun k' c e e9 m=>qO m (fun e'=>n rfl e9 (by rw[e,e'])) A),n,Xi B M A⟩
  obtain⟨rfl,rfl,_⟩:=i;obtain⟨A,f,rfl⟩:=d.hc rfl;obtain⟨k,x0,x1,x2,x3,x4,x5,x6,x7,rfl,M,u,_⟩:=d.ha rfl;have kc:=u.cell;have kf:=u.free;go_simp;exact t.o _ _ ⟨_,_,_,_,_,_,_,_,_,_,_,_,_,_,_,_,_,_,_,_,_,_,rfl,rfl,H.to (fun k' c e e9 m=>qO m (fun e'=>n e9 rfl (by rw[e,e'])) A),d.store M (A0.Xh u A) f,n,Xi B M A⟩
 case rest=>
 obtain⟨A,g,D,E,f,z,rfl,rfl,k5,k6,X⟩:=hcut;have c4:=Iv f;have c5:=Iv z;have N:=AE (by rw[V.o,f,z]:Lq [x,y]=.ok (Kb (Ea (Ar A g))));clear f z;obtain⟨P,rfl⟩:∃x:World,x=wc:=⟨_,rfl⟩;have c6:=S.next X;have d0:=k5.cell;have d1:=k6.cell;have b6:=Zv A g P (by unfold A3.len at c4;omega) (by unfold A3.len at c5;omega) c6.r.g;have c7:=(Nw A g).1;have b8:=Pp (Ar A g);have N:=AE (show∀s,Ea (Ar A g)=s->Lq [x,y]=.ok (105::115::32::s)from fun s hs=>by rw[N.o,<-hs];rfl);have N:=AE (N.o _ rfl);have a9:=fun W=>Zq (Ar A g) W aa
 generalize Ea (Ar A g)=wa at a9 b8 N;generalize Ar A g=r at b6 c7 b8 a9;go_wp2_with fail;with_reducible refine b6.mono ?_
 rintro e w4⟨rfl,I⟩;go_wp2_with fail;with_reducible refine(a9 _).mono ?_
 rintro e w5⟨rfl,c8⟩;go_wp2;go_ret;exact⟨ay,(X.trans (I.mono X.size)).trans (c8.mono (by have:=X.size;have:=I.size;omega))⟩
structure cW(X:Nat->Prop)(w:World)(d:Nat)(dk:Ap)(v:Value)(l:List Bs):Prop where
 lt:∀k,X k->k<w.heap.size
 low:∀k,k<=8->X k
 desk:Da X w d dk
 rd:Fm w v l
 len:(Ax l).length<=1000000
 cnt:l.length<=1000000
 each:∀x∈l,x.length<=1000000
 g:Gz w
 said:dk.said.length<=1000000
structure qP(X:Nat->Prop)(w:World)(d:Nat)(r:Ap×Ff)(e:Ending)(w':World):Prop where
 ans:Im r.2 e
 desk:Da X w' d r.1
 keep:Bi X w w'
def cW.pure{X:Nat->Prop}{w:World}{d:Nat}{D:Ap}{v:Value}{l:List Bs}(h:cW X w d D v l){a:Ff}(c:Calls prog f args w fun e W=>Im a e/\Below w.heap.size w W):Calls prog f args w fun e W=>qP X w d (D,a) e W:=c.mono fun _ _⟨b,H⟩=>⟨b,h.desk.next H,Bi.of h.lt H⟩
def vq(p:Value){n:Bs}(h:n≠Kx/\n≠Jj/\n≠Ln/\n≠Mn/\n≠Lo/\n≠Mo/\n≠Kc/\n≠Ik/\n≠Lp/\n≠Ky/\n≠Mp/\n≠Kz/\n≠Mq/\n≠L0/\n≠Mr/\n≠Ms):Ci Ng (R5 p) n=none:=by
 obtain⟨h0,H,a,b,c,d,e,f,g,i,j,k,l,m,o,q⟩:=h;unfold Ng R5;rw[Ci,AL h0,Ci,AL H,Ci,AL a,Ci,AL b,Ci,AL c,Ci,AL d,Ci,AL e,Ci,AL f,Ci,AL g,Ci,AL i,Ci,AL j,Ci,AL k,Ci,AL l,Ci,AL m,Ci,AL o,Ci,AL q];rfl
def vr(d:Nat)(D:Ap)(n:Bs)(l:List Bs):(∃k,Ci Ng (R5 (.pointer (some ⟨d,0,none⟩))) n=some (.func (.func k) #[.pointer (some ⟨d,0,none⟩)] #[])/\(∀A w,(callFunc k A).run prog w=.ok (.enter k A) w)/\∀(X:Nat->Prop)(v:Value)(w:World),cW X w d D v l->Calls prog k #[.pointer (some ⟨d,0,none⟩),v] w fun e W=>qP X w d (Cd D n l) e W)\/(Ci Ng (R5 (.pointer (some ⟨d,0,none⟩))) n=none/\Cd D n l=(D,.error 3)):=by
 rcases Ss n with rfl|rfl|rfl|rfl|rfl|rfl|rfl|rfl|rfl|rfl|rfl|rfl|rfl|rfl|rfl|rfl|o
 ·exact Or.inl ⟨221,rfl,DU func221 af rfl,fun X v w h=>(ph X d D v l w h.lt h.desk h.rd h.len h.cnt h.said).mono fun _ _⟨H,a,b⟩=>⟨H,a,b⟩⟩
 ·exact Or.inl ⟨222,rfl,DU func222 af rfl,fun X v w h=>h.pure (qq X d D v l w h.desk h.rd h.each h.g h.cnt)⟩
 ·exact Or.inl ⟨223,rfl,DU func223 af rfl,fun X v w h=>h.pure (nh X d D v l w h.desk h.rd h.g)⟩
 ·exact Or.inl ⟨224,rfl,DU func224 af rfl,fun X v w h=>h.pure (mq _ v l w h.rd h.cnt h.each h.g)⟩
 ·exact Or.inl ⟨225,rfl,DU func225 af rfl,fun X v w h=>h.pure (mw X d D v l w h.desk h.rd h.each h.g h.cnt)⟩
 ·exact Or.inl ⟨226,rfl,DU func226 af rfl,fun X v w h=>h.pure (mm _ v l w h.rd h.g)⟩
 ·exact Or.inl ⟨227,rfl,DU func227 af rfl,fun X v w h=>h.pure (ml _ v l w h.rd h.len h.cnt h.g)⟩
 ·exact Or.inl ⟨228,rfl,DU func228 af rfl,fun X v w h=>h.pure (mx X d D v l w h.desk h.rd h.each h.g h.cnt)⟩
 ·exact Or.inl ⟨229,rfl,DU func229 af rfl,fun X v w h=>h.pure (mr _ v l w h.rd h.len h.cnt h.g)⟩
 ·exact Or.inl ⟨230,rfl,DU func230 af rfl,fun X v w h=>(qh X d D v l w h.lt h.low h.desk h.rd h.g h.said).mono fun _ _⟨H,a,b⟩=>⟨H,a,b⟩⟩
 ·exact Or.inl ⟨231,rfl,DU func231 af rfl,fun X v w h=>h.pure (mf _ v l w h.rd h.len h.cnt)⟩
 ·exact Or.inl ⟨232,rfl,DU func232 af rfl,fun X v w h=>h.pure (nj X d D v l w h.desk h.rd h.g)⟩
 ·exact Or.inl ⟨233,rfl,DU func233 af rfl,fun X v w h=>h.pure (mg _ v l w h.rd h.len h.cnt)⟩
 ·exact Or.inl ⟨234,rfl,DU func234 af rfl,fun X v w h=>h.pure (vn _ v l w h.rd h.each h.g h.cnt)⟩
 ·exact Or.inl ⟨235,rfl,DU func235 af rfl,fun X v w h=>h.pure (mh _ v l w h.rd h.len h.cnt h.g)⟩
 ·exact Or.inl ⟨236,rfl,DU func236 af rfl,fun X v w h=>h.pure (mj _ v l w h.rd h.len h.cnt h.g)⟩
 exact Or.inr ⟨vq _ o,St o⟩
def Da.Ac{X Y:Nat->Prop}{w:World}{d:Nat}{D:Ap}(h:Da X w d D)(e:∀k,k<w.heap.size->Y k->X k):Da Y w d D:=by
 obtain⟨B,s,v,j,o,p,l,m,a⟩:=h;refine⟨B,s,v,j,fun y=>o (e d j.lt y),p,l,fun g H=>⟨fun y=>(m g H).1 (e g ?_ y),(m g H).2⟩,?_⟩
 ·rcases l.2 with⟨f,_⟩|⟨G,C,A,f,_,q,_⟩
  ·rw[f]at H;cases H
  rw[f]at H;injection H with H;simp only at H;subst H;rcases CL G w.heap.size with i|i
  ·exact i
  simp[CA i]at q
 rcases a with a|⟨b,r,a,t,u,x⟩
 ·exact Or.inl a
 exact Or.inr ⟨b,r,a,t,u.Ac (fun c n z=>⟨fun y=>n.1 (e c z y),n.2⟩),x⟩
def Da.keep{X:Nat->Prop}{w w':World}{d:Nat}{D:Ap}(h:Da X w d D)(s:w.heap.size<=w'.heap.size)(e:∀k,¬X k->k<w.heap.size->w'.heap[k]?=w.heap[k]?):Da X w' d D:=by
 obtain⟨B,S,v,j,l,o,m,n,a⟩:=h;refine⟨B,S,v,(e d l j.lt).trans j,l,o,?_,n,?_⟩
 ·refine A1.J1 m (fun g H=>e g (n g H).1 ?_);rcases m.2 with⟨f,_⟩|⟨G,C,z,f,_,p,_⟩
  ·rw[f]at H;cases H
  rw[f]at H;injection H with H;simp only at H;subst H;rcases CL G w.heap.size with i|i
  ·exact i
  simp[CA i]at p
 rcases a with a|⟨b,q,a,r,t,u⟩
 ·exact Or.inl a
 exact Or.inr ⟨b,q,a,r,t.keep s (fun c x y=>e c x.1 y),u⟩
def vs(k:Nat)(a b:Array Value)(w:World):(binOp .eql 203 (.func (.func k) a b) .nilFunc).run prog w=.ok false w:=af
def vt(w:World):(binOp .eql 203 .nilFunc .nilFunc).run prog w=.ok true w:=af
def cX(t:Array Value)(b:Nat)(s:Bs)(w:World)(H:t[4]?=some (.pointer (some ⟨b,0,none⟩)))(k:A0 w b #[s] 9)(h:R (.returned s) w):Leaves prog f79 t R [{target:=.fn (.func 131) #[.pointer (some ⟨b,0,none⟩)],args:=#[]}] .returning w:=by
 refine leaves_cons (f:=131) (args:=#[.pointer (some ⟨b,0,none⟩)]) ah yc ?_;refine(qj ⟨b,0,none⟩ w).mono ?_;rintro e u W⟨rfl,rfl,rfl⟩;have K:W.cell? ⟨b,0,none⟩=some s:=k.cell 0;refine⟨s,?_,h⟩;simp[results,results79,go_sem,H,K]
def cY(t:Array Value)(b:Nat)(c:Int)(o:Value)(w:World)(a:t[4]?=some (.pointer (some ⟨b,0,none⟩)))(d:A0 w b #[o] 9)(g:Gz w)(i:1<=c/\c<=1000)
  (h:∀W,A0 W b #[Nf c] 9->Bi (fun k=>k<w.heap.size/\k≠b) w W->R (.returned (Nf c)) W):
  Leaves prog f79 t R [{target:=.fn (.func 131) #[.pointer (some ⟨b,0,none⟩)],args:=#[]}] (.panicking [{v:=.iface 199 (.agg #[c]),recovered:=false}]) w:=by
 refine leaves_cons (f:=131) (args:=#[.pointer (some ⟨b,0,none⟩)]) ah yc ?_;refine(qk b c o w d g aa i.2).mono ?_;rintro e u W⟨rfl,rfl,H,K⟩;have j:W.cell? ⟨b,0,none⟩=some (Nf c):=H.cell 0;refine⟨(Nf c),?_,h W H K⟩;simp[results,results79,go_sem,a,j]
def cZ{X:Nat->Prop}{w W:World}(h:Bi X w W)(a:∀k,X k->k≠b):Bi X w (W.setCell ⟨b,0,none⟩ u):=⟨h.os,h.tape,h.output,by have:=h.size;simpa[World.setCell]using this,fun k H=>(D3 _ _ _ k (a k H)).trans (h.block k H)⟩
def vw(X:Nat->Prop)(d:Nat)(D:Ap)(s:Bs)(w:World)(f:∀k,X k->k<w.heap.size)(F:∀k,k<=8->X k)(hD:Da X w d D)(hg:Gz w)(hs:s.length<=900000)(a2:D.said.length<=1000000):Calls prog 79 #[.pointer (some ⟨d,0,none⟩),s] w fun e w'=>e=.returned (.string ⟨(Cb D s).2.toArray⟩)/\Da X w' d (Cb D s).1/\Bi X w w':=by
 have b7:∀(fn:Fn)(first a3:Array Value)(w:World),(Instr.makeFunc fn first a3).run prog w=.ok (.func fn first a3) w:=fun _ _ _ _=>rfl
 have G:=(AG w.heap.size w).alloc (AF _) (Obj.cells #[.string ⟨#[]⟩] 9);have I:A0 (w.alloc (.cells #[.string ⟨#[]⟩] 9)) w.heap.size #[.string ⟨#[]⟩] 9:=A0.new w _ _;have a4:Da (fun k=>X k\/k=w.heap.size) w d D:=hD.Ac (fun k H h=>h.elim id (fun e=>aa));have P:=a4.next G;have Q:=hg.next G;have a9:(w.alloc (.cells #[.string ⟨#[]⟩] 9)).heap.size=w.heap.size+1:=Array.size_push _;have hF:=ng s (w.alloc (.cells #[.string ⟨#[]⟩] 9)) aa;have S:=V6 (AV (V5 s) (Nat.succ_le_succ hs));have N:=AE (show Cb D s=match I8 s with
  |[]=>(D,[111,107])
  |n::w=>((Cd D n w).1,R4 (Cd D n w).2)from rfl)
 go_enter_defers func79,ntmps79
 go_wp2_with fail;with_reducible refine hF.mono ?_
 generalize w.alloc (.cells #[.string ⟨#[]⟩] 9)=w1 at G I P Q a9;rintro e w2⟨⟨B,rfl,b0,A⟩,C⟩;have T:=G.trans (C.mono aa);have U:=P.next C;have u:=I.next C I.lt;have a5:=Q.next C;have b8:w.heap.size<w1.heap.size:=aa
 clear hF a4 P I Q;have kc:=u.cell;have kf:=u.free;cases V:I8 s with
 |nil=>
  rw[V]at N A;clear S;go_wp2_with fail;refine cX _ w.heap.size [111,107] _ rfl (by simpa using u.set 0 (.string ⟨#[111,107]⟩)) ⟨fo,?_,cZ (Bi.of f T) (fun k H=>jy)⟩;rw[N.o];exact(U.keep ec (fun k H _=>D3 _ _ _ k (fun e=>H (Or.inr e)))).Ac (fun k _ h=>Or.inl h)
 |cons n l=>
  rw[V]at N A S;have b1:w2.cell? ⟨B,0,none⟩=some n:=A 0 n rfl;have v:(Ax l).length<=1000000/\l.length<=1000000/\∀x∈l,x.length<=1000000:=by
   have h0:=V5 s;rw[V]at h0;simp only[CD,DT,AK]at h0;exact V6 aa
  have hM:=df (.pointer (some ⟨d,0,none⟩)) n w2;have b2:=vr d D n l;have J:=bR D n l;have N:Hid (Cb D s=((Cd D n l).1,R4 (Cd D n l).2)):=N;have a6:=AE A;have hz:((l.length:Int)+1==0)=false:=di
  clear A S;go_wp2_with fail;with_reducible refine hM.mono ?_
  rintro e i⟨rfl,y⟩;have L:=T.trans (y.mono T.size);have Y:=U.next y;have M:=u.next y u.lt;have z:=a5.next y;have b9:=y.size;have c0:=C.size;have a7:∀k,(X k\/k=w.heap.size)->k<i.heap.size:=fun k H=>by
   rcases H with H|H
   ·have:=f k H;omega
   omega
  have HW:=AE (show∀j x,l[j]?=some x->i.cell? ⟨B,1+j,none⟩=some (.string ⟨x.toArray⟩)from fun j x Z=>by
   have:=a6.o (j+1) x (by simpa using Z);rw[KI]at this;exact(y.cell (p:=⟨B,1+j,none⟩) b0).trans this)
  clear hM kc kf u U a5 a6 b1;rcases b2 with⟨k,a0,eg,hC⟩|⟨a0,b3⟩
  ·rw[a0];have hq:=vs k;simp only[DA];cases l with
   |nil=>
    have R:Fm i (.slice (some ⟨B,0,none⟩) 0 0) []:=⟨B,0,0,rfl,aa,AF _,fun j x Z=>by simp at Z⟩;simp only[BG]at hz;go_wp2_with fail;with_reducible refine(hC (fun k=>X k\/k=w.heap.size) _ i ⟨a7,fun k H=>Or.inl (F k H),Y,R,v.1,v.2.1,v.2.2,z,a2⟩).mono ?_
    rintro e W⟨m,o,b⟩;have g:A0 W w.heap.size #[.string ⟨#[]⟩] 9:=(b.block _ (Or.inr rfl)).trans M;have a1:Gz W:=z.Pz (fun k H=>Or.inl (F k H)) b;have q:Bi X w W:=(Bi.of f L).trans ⟨b.os,b.tape,b.output,b.size,fun k H=>b.block k (Or.inl H)⟩;have b4:=g.cell;have b5:=g.free;generalize Cd D n []=r at m o J N;obtain⟨b6,a⟩:=r;clear hC eg hq R;cases a with
    |ok t=>
     obtain rfl:=m;go_wp2_with fail;refine cX _ w.heap.size t _ rfl (by simpa using g.set 0 t) ⟨ay,?_,cZ q (fun k H=>jy)⟩;rw[N.o];exact(o.keep ec (fun k H _=>D3 _ _ _ k (fun e=>H (Or.inr e)))).Ac (fun k _ h=>Or.inl h)
    |error c=>
     obtain rfl:=m;unfold D5;refine cY _ w.heap.size c _ W rfl g a1 (J c rfl) fun w5 _ K=>⟨ay,?_,?_⟩
     ·rw[N.o];exact(o.keep K.size (fun k H E=>K.block k ⟨E,fun e=>H (Or.inr e)⟩)).Ac (fun k _ h=>Or.inl h)
     exact q.trans ⟨K.os,K.tape,K.output,K.size,fun k H=>K.block k ⟨BN (f k H) q.size,fun e=>jy⟩⟩
   |cons x l=>
    have R:Fm i (.slice (some ⟨B,1,none⟩) (l.length+1) (l.length+1)) (x::l):=⟨B,1,_,rfl,aa,AF _,HW.o⟩;simp only[AK]at hz;go_wp2_with fail;with_reducible refine(hC (fun k=>X k\/k=w.heap.size) _ i ⟨a7,fun k H=>Or.inl (F k H),Y,R,v.1,v.2.1,v.2.2,z,a2⟩).mono ?_
    rintro e W⟨m,o,b⟩;have g:A0 W w.heap.size #[.string ⟨#[]⟩] 9:=(b.block _ (Or.inr rfl)).trans M;have a1:Gz W:=z.Pz (fun k H=>Or.inl (F k H)) b;have q:Bi X w W:=(Bi.of f L).trans ⟨b.os,b.tape,b.output,b.size,fun k H=>b.block k (Or.inl H)⟩;have b4:=g.cell;have b5:=g.free;generalize Cd D n (x::l)=r at m o J N;obtain⟨b6,a⟩:=r;clear hC eg hq R;cases a with
    |ok t=>
     obtain rfl:=m;go_wp2_with fail;refine cX _ w.heap.size t _ rfl (by simpa using g.set 0 t) ⟨ay,?_,cZ q (fun k H=>jy)⟩;rw[N.o];exact(o.keep ec (fun k H _=>D3 _ _ _ k (fun e=>H (Or.inr e)))).Ac (fun k _ h=>Or.inl h)
    |error c=>
     obtain rfl:=m;unfold D5;refine cY _ w.heap.size c _ W rfl g a1 (J c rfl) fun w5 _ K=>⟨ay,?_,?_⟩
     ·rw[N.o];exact(o.keep K.size (fun k H E=>K.block k ⟨E,fun e=>H (Or.inr e)⟩)).Ac (fun k _ h=>Or.inl h)
     exact q.trans ⟨K.os,K.tape,K.output,K.size,fun k H=>K.block k ⟨BN (f k H) q.size,fun e=>jy⟩⟩
  rw[a0];have hq:=vt;have a8:=Lu (.iface 30 (.int .i64 3)) 3 i (Or.inl rfl) z.r;unfold D5 at a8;simp only[EH];go_wp2_with fail;with_reducible refine a8.mono ?_
  rintro e W⟨rfl,O⟩;refine cY _ w.heap.size 3 _ W rfl (M.next O M.lt) (z.next O) ae fun w5 _ K=>?_
  rw[N.o,b3];refine⟨rfl,?_,?_⟩
  ·exact((Y.next O).keep K.size (fun k H E=>K.block k ⟨E,fun e=>H (Or.inr e)⟩)).Ac (fun k _ h=>Or.inl h)
  have B4:=L.trans (O.mono L.size);exact(Bi.of f B4).trans ⟨K.os,K.tape,K.output,K.size,fun k H=>K.block k ⟨BN (f k H) B4.size,fun e=>jy⟩⟩
end Go.Proofs.YtignjjnflcpiiaaGreatDoor
namespace Go.Proofs.YtignjjnflcpiiaaGreatDoor
open Go Go.RowKit Go.Shelf
attribute [local go_sem] Oper.semAt_some
def dA(cs:Nat)(W:World):Nat:=match W.cell? ⟨cs,0,none⟩with
 |some (.string b)=>b.size
 |_=>0
def qQ{cs:Nat}{W:World}{l:Bs}(h:A0 W cs #[l] 9):dA cs W=l.length:=by
 have H:W.cell? ⟨cs,0,none⟩=some l:=h.cell 0;unfold dA;rw[H];simp[ByteArray.size]
def vx(n cs c C:Nat)(s:Bs)(w:World)(H:A0 w cs #[s] 9)(p:A0 w c #[.string ⟨#[10]⟩] 9)(v:A0 w C #[.int .i64 0] 3)(M:c≠cs)(N:C≠cs)(O:s.length<=1000000):qD n 217 #[.pointer (some ⟨c,0,none⟩),.pointer (some ⟨cs,0,none⟩),.pointer (some ⟨C,0,none⟩)] (fun x:Bs=>x) (Ad 10 s) cs (fun k=>k=cs\/k=c\/k=C) w:=by
 intro l J W u a5 Q o z h0;have T:=AE H.lt;have H:=H.next u H.lt;have p:=p.next u p.lt;have v:=v.next u v.lt;have E:W.cell? ⟨cs,0,none⟩=some s:=H.cell 0;have F:W.cell? ⟨c,0,none⟩=some (.string ⟨#[10]⟩):=p.cell 0;refine callsIn_of_wp Tryz.func217 rfl trivial ?_ rfl;simp only[Tryz.ntmps217,KJ,AK,BG,Nat.reduceAdd,Nat.reduceSub,JR,JQ,KK,JW,CT,CR];gi_wp2
 gi_loopw [7] (fun _ wr=>∃(P:List Bs)(rest:Bs),Ad 10 s=P++Ad 10 rest/\rest.length<=1000000/\A0 wr cs #[rest] 9/\A0 wr c #[.string ⟨#[10]⟩] 9/\A0 wr C #[.int .i64 0] 3/\J P wr/\l<wr.heap.size) (fun _ wr=>dA cs wr)
 case atStart=>exact⟨[],s,rfl,O,H,p,v,h0,Q⟩
 obtain⟨P,rest,f,S,H,p,v,A,a6⟩:=hrel;have E:wr.cell? ⟨cs,0,none⟩=some rest:=H.cell 0;have F:wr.cell? ⟨c,0,none⟩=some (.string ⟨#[10]⟩):=p.cell 0;have U:wr.cell? ⟨C,0,none⟩=some (.int .i64 0):=v.cell 0;by_cases B:(10:UInt8)∈rest
 ·obtain⟨a,b,V,G⟩:∃a b,rest=a++10::b/\(10:UInt8)∉a:=by
   obtain⟨a,b,X,Y⟩:=List.eq_append_cons_of_mem B;exact⟨a,b,X,Y⟩
  subst V;have q:Calls Tryz.prog 66 #[(a++10::b:Bs),.string ⟨#[10]⟩] wr fun e j=>e=.returned (.int .i64 (a.length:Int))/\wr=j:=by
   have h:Calls Tryz.prog 66 _ wr _:=Tryz.strings_Index_one ⟨(a++10::b).toArray⟩ 10 wr;rw[(ah:(⟨(a++10::b).toArray⟩:ByteArray).data.toList=a++10::b),nH G]at h;exact h.mono fun _ _ h=>⟨h.1,h.2.symm⟩
  rw[Y5 G]at f;obtain⟨Z,a0,a1,a2,y,R⟩:=z P a wr A (by rw[f];exact⟨Ad 10 b,ah⟩);dsimp only at y;have a7:a.length+b.length+1<=1000000:=by simp at S;omega
  have a8:wrap64 (a.length:Int)=a.length:=da
  have a9:wrap64 ((a.length:Int)+1)=(a.length:Int)+1:=da
  have b0:¬(a.length:Int)<0:=aa
  have b1:0<=(a.length:Int)/\(a.length:Int)<=(a.length:Int)+((b.length:Int)+1):=aa
  have b2:0<=(a.length:Int)+1/\(a.length:Int)+1<=(a.length:Int)+((b.length:Int)+1):=aa
  have b3:List.take a.length (a++10::b)=a:=ah
  have b4:List.drop (a.length+1) (a++10::b)=b:=ah
  gi_wp2;refine⟨trivial,fun h=>ee,?_⟩;with_reducible refine(GD.2 q).mono ?_
  rintro e j⟨rfl,rfl⟩;gi_wp2;refine⟨fun h=>ee,?_⟩;refine R.mono ?_;rintro e d⟨rfl,g,K⟩;have i:A0 d cs #[(a++10::b:Bs)] 9:=(K.block cs (Or.inl rfl)).trans H;have m:A0 d c #[.string ⟨#[10]⟩] 9:=(K.block c (Or.inr (Or.inl rfl))).trans p;have r:A0 d C #[.int .i64 0] 3:=(K.block C (Or.inr (Or.inr rfl))).trans v;have d1:d.cell? ⟨cs,0,none⟩=some (a++10::b:Bs):=i.cell 0;have d2:d.cell? ⟨c,0,none⟩=some (.string ⟨#[10]⟩):=m.cell 0;have d3:=i.free 0;clear E F U R y q;have HH:=AE (And.intro o (And.intro g (And.intro H (And.intro i (And.intro m r)))));have HP:=AE f;have HK:=AE K;clear o g H i m r f K z A;gi_wp2;obtain⟨o,g,H,i,m,r⟩:=HH.o;have f:=HP.o;have K:=HK.o;have t:∀k,k≠cs->(d.setCell ⟨cs,0,none⟩ b).heap[k]?=d.heap[k]?:=fun k D=>D3 _ _ _ k D
  have I:A0 (d.setCell ⟨cs,0,none⟩ b) cs #[b] 9:=by simpa using i.set 0 b
  have a3:J (P++[a]) (d.setCell ⟨cs,0,none⟩ b):=o _ _ _ g ⟨rfl,rfl,rfl,ec,fun k D=>t k D.2.1⟩ (t l (by have:=T.o;omega));have a4:l<(d.setCell ⟨cs,0,none⟩ b).heap.size:=by have:=K.size;simp[World.setCell];omega
  have L:List.take (a.length+(b.length+1)-(a.length+1)) b=b:=CM aa;go_roundw
  case rel=>
   rw[L];exact⟨P++[a],b,by simp[f],aa,I,(t c M).trans m,(t C N).trans r,a3,a4⟩
  rw[L,qQ I,qQ H];simp;omega
 have q:Calls Tryz.prog 66 #[rest,.string ⟨#[10]⟩] wr fun e j=>e=.returned (.int .i64 (-1))/\wr=j:=by
  have h:Calls Tryz.prog 66 _ wr _:=Tryz.strings_Index_one ⟨rest.toArray⟩ 10 wr;rw[(ah:(⟨rest.toArray⟩:ByteArray).data.toList=rest),nI B]at h;exact h.mono fun _ _ h=>⟨h.1,h.2.symm⟩
 rw[Vb B]at f;obtain⟨Z,a0,a1,a2,y,R⟩:=z P rest wr A (by rw[f];exact List.prefix_refl _);dsimp only at y;gi_wp2;refine⟨trivial,fun h=>ee,?_⟩;with_reducible refine(GD.2 q).mono ?_
 rintro e j⟨rfl,rfl⟩;gi_wp2;refine⟨fun h=>ee,?_⟩;refine R.mono ?_;rintro e d⟨rfl,g,_⟩;gi_wp2
 go_end0
 rw[f];exact⟨⟨_,rfl⟩,g⟩
end Go.Proofs.YtignjjnflcpiiaaGreatDoor
namespace Go.Proofs.YtignjjnflcpiiaaGreatDoor
open Go Go.RowKit Proofs.Tryz Lib
def V8(k:Nat):Value:=.func (.func 217) #[] #[.pointer (some ⟨k+1,0,none⟩),.pointer (some ⟨k,0,none⟩),.pointer (some ⟨k+2,0,none⟩)]
def L5(s:Bs)(w:World):World:=((w.alloc (.cells #[s] 9)).alloc (.cells #[.string ⟨#[10]⟩] 9)).alloc (.cells #[.int .i64 0] 3)
def vz(s:Bs)(w:World):Calls prog 128 #[s,.string ⟨#[10]⟩,.int .i64 0] w fun e W=>e=.returned (V8 w.heap.size)/\L5 s w=W:=by
 have h:∀(f:Fn)(first c:Array Value)(w:World),(Instr.makeFunc f first c).run prog w=.ok (.func f first c) w:=fun _ _ _ _=>rfl
 unfold V8 L5;go_enter func128,ntmps128;go_wp2;go_ret;exact⟨ah,rfl⟩
def wh(s:Bs)(w:World):Calls prog 76 #[s,.string ⟨#[10]⟩] w fun e W=>e=.returned (V8 w.heap.size)/\L5 s w=W:=by
 have h:=vz s w;go_enter func76,ntmps76;go_wp2_with fail;with_reducible refine h.mono ?_
 rintro e a⟨rfl,rfl⟩;unfold V8;go_wp2;go_ret;exact⟨rfl,rfl⟩
def qR(s:Bs)(w:World):Below w.heap.size w (L5 s w):=(((AG _ w).alloc (AF _) _).alloc ah _).alloc ag _
def wj(s:Bs)(w:World):(L5 s w).heap.size=w.heap.size+3:=by unfold L5;simp
def wm(s:Bs)(w:World):A0 (L5 s w) w.heap.size #[s] 9:=((A0.new w _ _).alloc _).alloc _
def wt(s:Bs)(w:World):A0 (L5 s w) (w.heap.size+1) #[.string ⟨#[10]⟩] 9:=by
 have:=(A0.new (w.alloc (.cells #[s] 9)) #[.string ⟨#[10]⟩] 9).alloc (.cells #[.int .i64 0] 3);simpa[L5]using this
def xd(s:Bs)(w:World):A0 (L5 s w) (w.heap.size+2) #[.int .i64 0] 3:=by
 have:=A0.new ((w.alloc (.cells #[s] 9)).alloc (.cells #[.string ⟨#[10]⟩] 9)) #[.int .i64 0] 3;simpa[L5]using this
end Go.Proofs.YtignjjnflcpiiaaGreatDoor
namespace Go.Proofs.YtignjjnflcpiiaaGreatDoor
open Go Go.RowKit Go.Shelf
attribute [local go_sem] Oper.semAt_some
theorem xf(d:Nat)(s:Value)(w:World)(h:A0 w d #[s,.slice none 0 0] 128):Calls Tryz.prog 80 #[.pointer (some ⟨d,0,none⟩)] w fun e a=>e=.returned (.string ⟨#[]⟩)/\A0 a d #[s,.slice none 0 0] 128/\Bi (fun k=>k<w.heap.size/\(.slice none 0 0:Value).ownBlock≠some k) w a:=by
 have m:Tryz.prog.follows Departure.mixedOrders=true:=af
 have H:=fun(W:World)(q:Option Go.Addr)=>DO (P:=Tryz.prog) W 206 3 9 q
 have c:w.drew.cell? ⟨d,1,none⟩=some (.slice none 0 0):=h.cell 1;have D:(Builtin.unsafeSliceData_ #[126] 206 #[.slice none 0 0]).run Tryz.prog w.drew=.ok (.pointer none) w.drew:=rfl;go_enter Tryz.func80,Tryz.ntmps80
 go_wp2
 go_region_o
 all_goals(go_wp2;go_ret;exact⟨rfl,h,rfl,rfl,rfl,AF _,fun k _=>rfl⟩)
def xg(d:Nat)(s:Value)(g cap:Nat)(w:World)(h:cap≠0)(H:A0 w d #[s,.slice (some ⟨g,0,none⟩) 0 cap] 128):Calls Tryz.prog 80 #[.pointer (some ⟨d,0,none⟩)] w fun e a=>e=.returned (.string ⟨#[]⟩)/\A0 a d #[s,.slice (some ⟨g,0,none⟩) 0 cap] 128/\Bi (fun k=>k<w.heap.size/\(.slice (some ⟨g,0,none⟩) 0 cap:Value).ownBlock≠some k) w a:=by
 have m:Tryz.prog.follows Departure.mixedOrders=true:=af
 have S:=fun(W:World)(q:Option Go.Addr)=>DO (P:=Tryz.prog) W 206 3 9 q
 have c:w.drew.cell? ⟨d,1,none⟩=some (.slice (some ⟨g,0,none⟩) 0 cap):=H.cell 1;have D:(Builtin.unsafeSliceData_ #[126] 206 #[.slice (some ⟨g,0,none⟩) 0 cap]).run Tryz.prog w.drew=.ok (.pointer (some ⟨g,0,none⟩)) w.drew:=GJ _ _ _ _ _ _ h;clear h;go_enter Tryz.func80,Tryz.ntmps80
 go_wp2
 go_region_o
 all_goals(go_wp2;go_ret;exact⟨rfl,H,rfl,rfl,rfl,AF _,fun k _=>rfl⟩)
def xh(d:Nat)(s:Value)(g:Nat)(c:Array Value)(w:World)(b:w.heap[g]?=some (.cells c 5 (0,0)))(h:A0 w d #[s,.slice (some ⟨g,0,none⟩) 0 0] 128):Calls Tryz.prog 80 #[.pointer (some ⟨d,0,none⟩)] w fun e a=>e=.returned (.string ⟨#[]⟩)/\A0 a d #[s,.slice (some ⟨g,0,none⟩) 0 0] 128/\Bi (fun k=>k<w.heap.size/\(.slice (some ⟨g,0,none⟩) 0 0:Value).ownBlock≠some k) w a:=by
 have m:Tryz.prog.follows Departure.mixedOrders=true:=af
 have S:=fun(W:World)(q:Option Go.Addr)=>DO (P:=Tryz.prog) W 206 3 9 q
 have t:=h.lt;have C:w.drew.cell? ⟨d,1,none⟩=some (.slice (some ⟨g,0,none⟩) 0 0):=h.cell 1;have D:(Builtin.unsafeSliceData_ #[126] 206 #[.slice (some ⟨g,0,none⟩) 0 0]).run Tryz.prog w.drew=.ok (.pointer (some ⟨w.drew.heap.size,0,none⟩)) (w.drew.alloc (.view ⟨g,0,none⟩ 5)):=Lib.run_unsafeSliceData_zero w.drew _ _ 5 Tryz.underlying206 ⟨g,0,none⟩ 0 (5,c.size) (by have f:w.drew.heap[g]?=some (.cells c 5 (0,0)):=b;simp[World.shape?,f]);have H:A0 (w.drew.alloc (.view ⟨g,0,none⟩ 5)) d #[s,.slice (some ⟨g,0,none⟩) 0 0] 128:=(Lib.alloc_old w.drew _ d t).trans h;have i:(w.drew.alloc (.view ⟨g,0,none⟩ 5)).cell? ⟨d,1,none⟩=some (.slice (some ⟨g,0,none⟩) 0 0):=H.cell 1;have j:(w.alloc (.view ⟨g,0,none⟩ 5)).drew.cell? ⟨d,1,none⟩=some (.slice (some ⟨g,0,none⟩) 0 0):=i;have l:w.cell? ⟨d,1,none⟩=some (.slice (some ⟨g,0,none⟩) 0 0):=C;go_enter Tryz.func80,Tryz.ntmps80
 go_wp2
 go_region_o
 all_goals(go_wp2;go_ret;exact⟨rfl,H,Bi.of (fun k h=>h.1) ((AG w.heap.size w).drew.alloc (AF _) _)⟩)
def xj(d:Nat)(S:Value)(g cap:Nat)(c:Array Value)(s:Bs)(w:World)(h0:s≠[])(n:Bq w 0 (.slice (some ⟨g,0,none⟩) s.length cap) s)(l:w.heap[g]?=some (.cells c 5 (0,0)))(z:c.size=cap*1)(A:s.length<=cap)(m:cap<=maxLen)(o:g≠d)(h:A0 w d #[S,.slice (some ⟨g,0,none⟩) s.length cap] 128):Calls Tryz.prog 80 #[.pointer (some ⟨d,0,none⟩)] w fun e b=>e=.returned s/\A0 b d #[S,.slice (some ⟨g,0,none⟩) s.length cap] 128/\Bi (fun k=>k<w.heap.size/\(.slice (some ⟨g,0,none⟩) s.length cap:Value).ownBlock≠some k) w b:=by
 have M:Tryz.prog.follows Departure.mixedOrders=true:=af
 have p:=fun(W:World)(q:Option Go.Addr)=>DO (P:=Tryz.prog) W 206 3 9 q
 have a:s.length≠0:=ou
 have C:w.drew.cell? ⟨d,1,none⟩=some (.slice (some ⟨g,0,none⟩) s.length cap):=h.cell 1;have D:(Builtin.unsafeSliceData_ #[126] 206 #[.slice (some ⟨g,0,none⟩) s.length cap]).run Tryz.prog w.drew=.ok (.pointer (some ⟨g,0,none⟩)) w.drew:=GJ _ _ _ _ _ _ aa;have p:(Builtin.unsafeString_ #[206,3] 9 #[.pointer (some ⟨g,0,none⟩),.int .i64 s.length]).run Tryz.prog w.drew=.ok s (w.drew.freeze ⟨g,0,none⟩ s.length):=by
  refine Lib.run_unsafeString_row w.drew 206 3 9 5 Tryz.underlying206 af g c.size (by have r:w.drew.heap[g]?=some (.cells c 5 (0,0)):=l;simp[World.shape?,r]) s h0 aa (by unfold maxLen at m;omega) ?_;intro j x t;obtain⟨B,F,E,u⟩:=Bq.shape n;obtain⟨v,rfl⟩:=CB.1 t;obtain⟨G,H,f⟩:=u j v;injection E with E;subst E;injection H with H;injection H with H;subst H;by_cases i:j=0
  ·subst i;simpa[Go.Addr.add]using f
  simpa[Go.Addr.add,i]using f
 have R:∀k,k≠g->(w.drew.freeze ⟨g,0,none⟩ s.length).heap[k]?=w.heap[k]?:=fun k h=>by
  unfold World.freeze;rw[AL a];simp only[GG];rw[AL (fun e=>h e.symm)];rfl
 have y:w.heap.size<=(w.drew.freeze ⟨g,0,none⟩ s.length).heap.size:=by
  unfold World.freeze;rw[AL a];show w.heap.size<=(w.drew.heap.modify _ _).size;rw[Array.size_modify];exact AF _
 have O:(w.drew.freeze ⟨g,0,none⟩ s.length).os=w.os/\(w.drew.freeze ⟨g,0,none⟩ s.length).tape=w.tape/\(w.drew.freeze ⟨g,0,none⟩ s.length).output=w.output:=by
  unfold World.freeze;rw[AL a];exact⟨rfl,rfl,rfl⟩
 go_enter Tryz.func80,Tryz.ntmps80
 go_wp2
 go_region_o
 all_goals(go_wp2;go_ret;exact⟨rfl,(R d (fun e=>o e.symm)).trans h,O.1,O.2.1,O.2.2,y,fun k h=>R k (fun e=>h.2 xi)⟩)
def xk(d:Nat)(S v:Value)(s:Bs)(w:World)(h:A0 w d #[S,v] 128)(H:Bq w 0 v s)(f:v.ownBlock≠some d):Calls Tryz.prog 80 #[.pointer (some ⟨d,0,none⟩)] w fun e W=>e=.returned s/\A0 W d #[S,v] 128/\Bi (fun k=>k<w.heap.size/\v.ownBlock≠some k) w W:=by
 rcases H.2 with⟨rfl,h0⟩|⟨g,c,C,rfl,_,a,i,m,j,_⟩
 ·obtain rfl:=ES h0;exact xf d S w h
 by_cases h0:s=[]
 ·subst h0;by_cases b:c=0
  ·subst b;exact xh d S g C w a h
  exact xg d S g c w b h
 exact xj d S g c C s w h0 H a j i m (fun e=>f xi) h
def qS{w:World}{B g:Nat}{v:Value}{l:Bs}(h:Bq w B v l)(H:v.ownBlock=some g):g<w.heap.size:=by
 rcases h.2 with⟨a,_⟩|⟨G,C,r,a,_,c,_⟩
 ·rw[a]at H;cases H
 rw[a]at H;injection H with H;simp only at H;subst H;rcases CL G w.heap.size with b|b
 ·exact b
 simp[CA b]at c
def T5(n:Nat)(v:Value)(k:Nat):Prop:=k<n\/(n+1<=k/\k<n+8)\/v.ownBlock=some k
structure Rh(w:World)(pre:List Bs)(W:World)(sf v:Value):Prop where
 bld:A0 W (w.heap.size+2) #[sf,v] 128
 self_:sf=.pointer none\/sf=.pointer (some ⟨w.heap.size+2,0,none⟩)
 own:Bq W 0 v (Ed ⟨none,[]⟩ pre)
 far:∀g,v.ownBlock=some g->w.heap.size+8<=g
 desk:Da (T5 w.heap.size v) W w.heap.size (Hx ⟨none,[]⟩ pre)
 ptr:A0 W (w.heap.size+1) #[.pointer (some ⟨w.heap.size,0,none⟩)] 124
 below:Below w.heap.size w W
 size:w.heap.size+8<=W.heap.size
def Rh.xl{w A B:World}{p:List Bs}{S v:Value}(h:Rh w p A S v)(s:P2 (w.heap.size+3) (w.heap.size+7) A B):Rh w p B S v:=by
 have b:=h.size;refine⟨(s.block _ ⟨aa,aa,aa⟩).trans h.bld,h.self_,A1.J1 h.own (fun g a=>s.block g ?_),h.far,h.desk.keep s.size (fun k H l=>s.block k ⟨l,fun e=>H ?_,fun e=>H ?_⟩),(s.block _ ⟨aa,aa,aa⟩).trans h.ptr,?_,AV b s.size⟩
 ·have d:=h.far g a;have c:=qS h.own a;exact⟨c,aa,aa⟩
 ·exact Or.inr (Or.inl ⟨aa,aa⟩)
 ·exact Or.inr (Or.inl ⟨aa,aa⟩)
 exact⟨s.os.trans h.below.os,s.tape.trans h.below.tape,s.output.trans h.below.output,AV h.below.size s.size,fun k H=>(s.block k ⟨aa,aa,aa⟩).trans (h.below.block k H)⟩
def Rh.more{w W c d:World}{p:List Bs}{x:Bs}{S v s v':Value}(h:Rh w p W S v)
  (D:Da (T5 w.heap.size v) c w.heap.size (Cb (Hx ⟨none,[]⟩ p) x).1) (a:Bi (T5 w.heap.size v) W c)
  (j:s=.pointer (some ⟨w.heap.size+2,0,none⟩)) (l:A0 d (w.heap.size+2) #[s,v'] 128) (m:Bq d 0 v' (Ed ⟨none,[]⟩ p++((Cb (Hx ⟨none,[]⟩ p) x).2++[10])))
  (f:v'.ownBlock=v.ownBlock\/∀g,v'.ownBlock=some g->c.heap.size<=g) (K:Bi (fun k=>k<c.heap.size/\k≠w.heap.size+2/\v.ownBlock≠some k) c d):
  Rh w (p++[x]) d s v'/\Bi (fun k=>k=w.heap.size+6\/k=w.heap.size+7\/(k=w.heap.size+3\/k=w.heap.size+4\/k=w.heap.size+5)) W d:=by
 have y:=h.size;have z:=a.size;have o:=K.size;have B:∀k,T5 w.heap.size v k->k<W.heap.size->k≠w.heap.size+2->v.ownBlock≠some k->d.heap[k]?=W.heap[k]?:=fun k q A r t=>(K.block k ⟨aa,r,t⟩).trans (a.block k q)
 have n:∀k,k<w.heap.size+8->v.ownBlock≠some k:=fun k b e=>by have:=h.far k e;omega
 refine⟨⟨l,Or.inr j,by rw[qF];exact m,?_,?_,?_,?_,aa⟩,⟨K.os.trans a.os,K.tape.trans a.tape,K.output.trans a.output,aa,fun k b=>B k (Or.inr (Or.inl aa)) aa aa (n k aa)⟩⟩
 ·intro g i;rcases f with e|e
  ·exact h.far g (e▸i)
  have:=e g i;omega
 ·rw[qE];have Y:Da (fun k=>T5 w.heap.size v k\/v'.ownBlock=some k) c w.heap.size (Cb (Hx ⟨none,[]⟩ p) x).1:=D.Ac (fun k b H=>by
   rcases H with H|H
   ·exact H
   rcases f with e|e
   ·exact Or.inr (Or.inr (e▸H))
   have:=e k H;omega)
  refine(Y.keep o (fun k b u=>K.block k ⟨u,fun e=>b (Or.inl (Or.inr (Or.inl aa))),fun e=>b (Or.inl (Or.inr (Or.inr e)))⟩)).Ac (fun k _ H=>?_);rcases H with H|H|H
  ·exact Or.inl (Or.inl H)
  ·exact Or.inl (Or.inr (Or.inl H))
  exact Or.inr H
 ·exact(B _ (Or.inr (Or.inl aa)) aa aa (n _ aa)).trans h.ptr
 exact⟨K.os.trans (a.os.trans h.below.os),K.tape.trans (a.tape.trans h.below.tape),K.output.trans (a.output.trans h.below.output),by have:=h.below.size;omega,fun k b=>(B k (Or.inl b) aa aa (n k aa)).trans (h.below.block k b)⟩
def xp(s:Bs)(w:World)(b:Gz w)(X:s.length<=20000)(E:(Ed ⟨none,[]⟩ (Ad 10 (Lib.trimSuffix s [10]))).length<=140737488355328):Calls Tryz.prog 27 #[s] w fun e w'=>e=.returned (Ed ⟨none,[]⟩ (Ad 10 (Lib.trimSuffix s [10])))/\Below w.heap.size w w':=by
 have T:=fun W=>dN s [10] W aa
 have F:=fun W=>wh (Lib.trimSuffix s [10]) W
 have b1:¬(20000:Int)<(s.length:Int):=aa
 refine(GD (n:=5)).1 ?_;refine callsIn_of_wp_marks Tryz.func27 rfl trivial ?_ rfl;simp only[Tryz.ntmps27,KJ,AK,BG,Nat.reduceAdd,Nat.reduceSub,JR,JQ,KK,JW,CT,CR];gi_wp2;refine⟨trivial,?_⟩;with_reducible refine(GD.2 (T _)).mono ?_
 rintro e w1⟨rfl,rfl⟩;gi_wp2;refine⟨trivial,?_⟩;with_reducible refine(GD.2 (F _)).mono ?_
 rintro e w1⟨rfl,rfl⟩;gi_wp2;obtain⟨a,d⟩:∃a,((w.alloc (.cells #[.pointer none,.pointer none,.slice none 0 0] 130)).alloc (.cells #[.pointer (some ⟨w.heap.size,0,none⟩)] 124)).alloc (.cells #[.pointer none,.slice none 0 0] 128)=a:=⟨_,rfl⟩;have j:a.heap.size=w.heap.size+3:=by rw[<-d];simp
 have r:Below w.heap.size w a:=by rw[<-d];exact(((AG _ w).alloc (AF _) _).alloc ah _).alloc ag _
 have G:A0 a w.heap.size #[.pointer none,.pointer none,.slice none 0 0] 130:=by rw[<-d];exact((A0.new w _ _).alloc _).alloc _
 have I:A0 a (w.heap.size+1) #[.pointer (some ⟨w.heap.size,0,none⟩)] 124:=by
  rw[<-d];have:=(A0.new (w.alloc (.cells #[.pointer none,.pointer none,.slice none 0 0] 130)) #[.pointer (some ⟨w.heap.size,0,none⟩)] 124).alloc (.cells #[.pointer none,.slice none 0 0] 128);simpa using this
 have J:A0 a (w.heap.size+2) #[.pointer none,.slice none 0 0] 128:=by
  rw[<-d];have:=A0.new ((w.alloc (.cells #[.pointer none,.pointer none,.slice none 0 0] 130)).alloc (.cells #[.pointer (some ⟨w.heap.size,0,none⟩)] 124)) #[.pointer none,.slice none 0 0] 128;simpa using this
 rw[d];rw[(aa:w.heap.size+1+1+1=a.heap.size)];clear d;have L:=Rv 10 (Lib.trimSuffix s [10]);have M:(Lib.trimSuffix s [10]).length<=s.length:=KW _ _;obtain⟨t,u⟩:∃t,Lib.trimSuffix s [10]=t:=⟨_,rfl⟩;rw[u]at E L M|-;have f:=wj t a;have N:=r.trans ((qR t a).mono r.size);have O:=wm t a;have P:=wt t a;have Q:=xd t a;refine qv (n:=5) (gf:=217) (lb:=#[.pointer (some ⟨a.heap.size+1,0,none⟩),.pointer (some ⟨a.heap.size,0,none⟩),.pointer (some ⟨a.heap.size+2,0,none⟩)]) (α:=Bs) rfl (DU Tryz.func217 af rfl)
  (enc:=fun x=>.string ⟨x.toArray⟩) (xs:=Ad 10 t) (c:=a.heap.size) (C:=fun k=>k=a.heap.size\/k=a.heap.size+1\/k=a.heap.size+2) ?hC ?hseq ?hcw (fun p W=>∃S v,Rh w p W S v) ?hI ?h0
  (fun x=>{tmps:=#[s,undef,.string ⟨#[]⟩,.pointer (some ⟨w.heap.size+1,0,none⟩),.pointer (some ⟨w.heap.size+1+1,0,none⟩),.string ⟨x.toArray⟩,s,.int .i64 (s.length:Int),false,.agg #[.pointer none,.pointer none,.slice none 0 0],.pointer (some ⟨w.heap.size,0,none⟩),s,t,V8 a.heap.size,.string ⟨x.toArray⟩,undef,undef,undef,undef,undef,undef],defers:=[]}) ?hassign ?hbody ?hdone
 case hC=>intro k H;omega
 case hcw=>omega
 case hseq=>exact vx _ _ _ _ t _ O P Q aa aa aa
 case hI=>
  rintro p A B⟨S,v,h⟩Y;rw[f,j]at Y;exact⟨S,v,h.xl Y⟩
 case h0=>
  intro W Z a5;rw[f]at a5;have l:=(qR t a).trans (Z.mono aa);have a6:=N.trans (Z.mono aa);refine⟨.pointer none,.slice none 0 0,J.next l aa,Or.inl rfl,A1.nil _ _ _ _ _,(fun g b=>by cases b),?_,I.next l aa,a6,aa⟩;refine⟨.pointer none,.pointer none,.slice none 0 0,G.next l aa,?_,Or.inl rfl,A1.nil _ _ _ _ _,(fun g b=>by cases b),Or.inl ⟨rfl,rfl⟩⟩;rintro(h|h|h)
  ·omega
  ·omega
  cases h
 case hassign=>
  clear f j;intro x W K y;gi_wp2;exact y
 case hbody=>
  rintro p x W⟨S,v,h⟩z;have a0:p<+:Ad 10 t:=(List.prefix_append p [x]).trans z;obtain⟨q1,q2⟩:=qz a0;have q3:=cU (z.subset (show x∈p++[x] by simp));have q4:=qH p ⟨none,[]⟩;simp only[BG]at q4;have R:=rj ⟨none,[]⟩ z;rw[qF]at R;simp only[AJ,AK,BG]at R;have a1:Gz W:=b.next h.below;have a7:=h.size;have hL:=vw (T5 w.heap.size v) w.heap.size (Hx ⟨none,[]⟩ p) x W (fun k H=>by
   rcases H with H|H|H
   ·omega
   ·omega
   exact qS h.own H) (fun k H=>Or.inl (by have:=b.size;omega)) h.desk a1 aa aa
  have c3:W.cell? ⟨w.heap.size+1,0,none⟩=some (.pointer (some ⟨w.heap.size,0,none⟩)):=h.ptr.cell 0;have b2:¬9223372036854775807<(Cb (Hx ⟨none,[]⟩ p) x).2.length+1:=aa
  have b3:¬(9223372036854775807:Int)<((Cb (Hx ⟨none,[]⟩ p) x).2.length:Int)+1:=aa
  have a8:(Ed ⟨none,[]⟩ p).length+((Cb (Hx ⟨none,[]⟩ p) x).2++[10]).length<=140737488355328:=by simp only[AJ,AK,BG];omega
  have i:=AE h;have U:=AE (And.intro j f);clear h j f L M q1 q2 q3 q4 R E a7 a1 z a0 O P Q r N G I J u T F b X;gi_wp2;refine⟨trivial,?_⟩;refine(CallsIn.inRound _ (GD.2 hL)).mono ?_;rintro e W1⟨rfl,a2,D⟩;have hW:Calls Tryz.prog 78 #[.pointer (some ⟨w.heap.size+1+1,0,none⟩),((Cb (Hx ⟨none,[]⟩ p) x).2++[10]:Bs)] W1 _:=pg (w.heap.size+1+1) S v (Ed ⟨none,[]⟩ p) ((Cb (Hx ⟨none,[]⟩ p) x).2++[10]) W1 ((D.block _ (Or.inr (Or.inl ⟨aa,aa⟩))).trans i.o.bld) i.o.self_ (A1.J1 i.o.own (fun g b=>D.block g (Or.inr (Or.inr b)))) (fun e=>by have:=i.o.far _ e;omega) a8;have HD:=AE (And.intro a2 D);clear hL a2 D c3;gi_wp2;refine⟨trivial,?_⟩;refine(CallsIn.inRound _ (GD.2 hW)).mono ?_;rintro e W5⟨rfl,v',l,a3,a4,_,K2⟩;obtain⟨m1,m⟩:=i.o.more HD.o.1 HD.o.2 rfl l a3 a4 K2;obtain⟨e2,e3⟩:=U.o;have b4:Bi (fun k=>k=(L5 t a).heap.size\/k=(L5 t a).heap.size+1\/(k=a.heap.size\/k=a.heap.size+1\/k=a.heap.size+2)) W W5:=⟨m.os,m.tape,m.output,m.size,fun k H=>m.block k aa⟩;clear e2 e3 l a3 a4 K2 m;gi_wp2;exact⟨_,_,m1⟩
 rintro W⟨S,v,h⟩y;have a9:=xk (w.heap.size+1+1) S v (Ed ⟨none,[]⟩ (Ad 10 t)) W h.bld h.own (fun e=>by have:=h.far _ e;omega);have i:=AE h;have U:=AE (And.intro j f);have HK:=AE y;have HT:=AE u;clear h j f L M E O P Q r N G I J u T F b X y;gi_wp2;refine⟨trivial,?_⟩;refine(GD.2 a9).mono ?_;rintro e V⟨rfl,_,o⟩;gi_wp2;obtain⟨e2,e3⟩:=U.o;have h:=i.o;have h8:=h.size;have b0:V.heap[(L5 t a).heap.size]?=some (.deferred (some [])):=(o.block _ ⟨aa,fun e=>by have:=h.far _ e;omega⟩).trans HK.o;refine⟨ah,.inl ⟨_,_,rfl,run_takeDeferred b0,?_⟩⟩;refine⟨_,results_tmp rfl _ _ _,by rw[HT.o];rfl,?_⟩;have q:Below w.heap.size w V:=⟨o.os.trans h.below.os,o.tape.trans h.below.tape,o.output.trans h.below.output,AV h.below.size o.size,fun k H=>(o.block k ⟨aa,fun e=>by have:=h.far _ e;omega⟩).trans (h.below.block k H)⟩;exact⟨q.os,q.tape,q.output,AV q.size (grownBy_putObj' V _ _).size,fun k H=>(EJ aa).trans (q.block k H)⟩
end Go.Proofs.YtignjjnflcpiiaaGreatDoor
