/- address.Resolve gives where an address leads that stands -/
import Derived.Deep.RegionHeldLaw
import Derived.Test.YtignjjnflcpiiaaGreatDoorV03
set_option maxHeartbeats 3000000
set_option maxRecDepth 100000 set_option linter.all false
namespace Go.Proofs.YtignjjnflcpiiaaGreatDoor
open Go Go.RowKit Proofs.Tryz Lib
def yL(b a:A3)(w:World)(l:a.path.length<=2147483648)(i:Cj w)(d:a.scheme≠[]):Calls prog 50 #[b.val,a.val] w fun e W=>e=.returned (Ar b a).val/\Below w.heap.size w W:=by
 obtain⟨s,h,u,p,H,q,c,f⟩:=a;simp only at l d;have j:=AE (show Ar b ⟨s,h,u,p,H,q,c,f⟩=⟨s,h,u,Fh p,H,q,c,f⟩from AN d);have k:s.isEmpty=false:=by rw[AT];simpa using d
 have o:(!s.isEmpty)=true:=by rw[k];rfl
 go_enter func50,ntmps50;go_wp2_with fail;refine(Qg p _ aa (i.next cu)).mono ?_;rintro e m⟨rfl,g⟩;have r:=((A0.new (w.alloc (.cells b.cells 36)) (A3.cells ⟨s,h,u,p,H,q,c,f⟩) 36).alloc (.cells Bg 36)).next g ea;have R:=(A0.new ((w.alloc (.cells b.cells 36)).alloc (.cells (A3.cells ⟨s,h,u,p,H,q,c,f⟩) 36)) Bg 36).next g ea;rw[AX]at r;rw[AX,AX]at R;have B:Below w.heap.size w m:=((((AG _ w).alloc (AF _) _).alloc ea _).alloc ea _).trans (g.mono ea);have t:=r.cell;have x:=r.free;have n:=R.cell;have y:=R.free;have z:=r.lt;have A:=R.lt;go_wp2_with fail;refine AO (v:=(Ar b ⟨s,h,u,p,H,q,c,f⟩).val) (by rw[j.o];simp[results,results50,go_sem,n]) rfl ⟨rfl,cu⟩
def yM(b a:A3)(w:World)(C:a.path.length<=2147483648)(D:Cj w)(x:a.scheme=[])(y:a.hasAuth=true):Calls prog 50 #[b.val,a.val] w fun e E=>e=.returned (Ar b a).val/\Below w.heap.size w E:=by
 obtain⟨s,N,u,p,h,q,H,f⟩:=a;obtain⟨c,d,g,i,j,k,l,m⟩:=b;simp only at C x y;subst x;subst y;have F:=AE (ca:Ar ⟨c,d,g,i,j,k,l,m⟩ ⟨[],true,u,p,h,q,H,f⟩=⟨c,true,u,Fh p,h,q,H,f⟩);go_enter func50,ntmps50;go_upto_region 1 with fail;go_cut[7] (fun S W=>S=false/\A0 W w.heap.size (A3.cells ⟨c,d,g,i,j,k,l,m⟩) 36/\A0 W (w.heap.size+1) (A3.cells ⟨[],true,u,p,h,q,H,f⟩) 36/\A0 W (w.heap.size+2) Bg 36/\Below w.heap.size w W)
 case first=>
  have r:=((A0.new (w.alloc (.cells (A3.cells ⟨c,d,g,i,j,k,l,m⟩) 36)) (A3.cells ⟨[],true,u,p,h,q,H,f⟩) 36).alloc (.cells Bg 36));have R:=(A0.new ((w.alloc (.cells (A3.cells ⟨c,d,g,i,j,k,l,m⟩) 36)).alloc (.cells (A3.cells ⟨[],true,u,p,h,q,H,f⟩) 36)) Bg 36);rw[AX]at r;rw[AX,AX]at R;go_wp2;go_meet;exact⟨rfl,((A0.new w (A3.cells ⟨c,d,g,i,j,k,l,m⟩) 36).alloc _).alloc _,r,R,cu⟩
 obtain⟨rfl,n,r,R,B⟩:=hcut;obtain⟨o,rfl⟩:∃o:World,o=wc:=⟨_,rfl⟩;have G:=n.cell;have z:=r.cell;have I:=r.free;have J:=n.lt;have t:=r.lt;have A:=R.lt;go_upto_region 5 with fail;go_cut[7] (fun O W=>A0 W (w.heap.size+1) (A3.cells ⟨c,true,u,Fh p,h,q,H,f⟩) 36/\A0 W (w.heap.size+2) Bg 36/\Below w.heap.size w W)
 case first=>
  go_region_with ((refine(Qg _ _ aa (D.next (by first|exact B|exact B.drew|exact B.drew.drew|exact B.drew.drew.drew|exact B.drew.drew.drew.drew))).mono ?_);(rintro e P⟨rfl,L⟩);(have K:=Bp L (w0:=o) (by repeat (first|exact AG _ _|assumption|refine Below.drew ?_)));(have G:=(n.next K J).cell);(have z:=(r.next K t).cell);(have I:=(r.next K t).free))
  all_goals go_wp2_with fail
  all_goals
   go_meet;refine⟨((r.next K t).set 0 c).set 3 (Fh p),((R.next K A).A6 (a:=⟨w.heap.size+1,0,none⟩) ah c).A6 (a:=⟨w.heap.size+1,3,none⟩) ah (Fh p),?_⟩;have Q:=B.trans (K.mono B.size);go_grown
 obtain⟨r,R,B⟩:=hcut;have z:=r.cell;have T:=R.free;have M:=R.cell;have A:=R.lt;go_wp2_with fail;refine AO (v:=(Ar ⟨c,d,g,i,j,k,l,m⟩ ⟨[],true,u,p,h,q,H,f⟩).val) (by rw[F.o];simp[results,results50,go_sem,M]) rfl ⟨rfl,cu⟩
def yN(b:A3)(u q f:Bs)(h H:Bool)(w:World):Calls prog 50 #[b.val,(A3.val ⟨[],false,u,[],h,q,H,f⟩)] w fun e D=>e=.returned (Ar b ⟨[],false,u,[],h,q,H,f⟩).val/\Below w.heap.size w D:=by
 obtain⟨s,c,d,p,g,i,j,k⟩:=b;have m:=AE (ca:Ar ⟨s,c,d,p,g,i,j,k⟩ ⟨[],false,u,[],h,q,H,f⟩=⟨s,c,d,p,if h then true else g,if h then q else i,H,f⟩);go_enter func50,ntmps50;go_upto_region 1 with fail;go_cut[7] (fun S W=>S=false/\A0 W w.heap.size (A3.cells ⟨s,c,d,p,g,i,j,k⟩) 36/\A0 W (w.heap.size+1) (A3.cells ⟨[],false,u,[],h,q,H,f⟩) 36/\A0 W (w.heap.size+2) Bg 36/\Below w.heap.size w W)
 case first=>
  have r:=((A0.new (w.alloc (.cells (A3.cells ⟨s,c,d,p,g,i,j,k⟩) 36)) (A3.cells ⟨[],false,u,[],h,q,H,f⟩) 36).alloc (.cells Bg 36));have R:=(A0.new ((w.alloc (.cells (A3.cells ⟨s,c,d,p,g,i,j,k⟩) 36)).alloc (.cells (A3.cells ⟨[],false,u,[],h,q,H,f⟩) 36)) Bg 36);rw[AX]at r;rw[AX,AX]at R;go_wp2;go_meet;exact⟨rfl,((A0.new w (A3.cells ⟨s,c,d,p,g,i,j,k⟩) 36).alloc _).alloc _,r,R,cu⟩
 obtain⟨rfl,l,r,R,B⟩:=hcut;obtain⟨n,rfl⟩:∃n:World,n=wc:=⟨_,rfl⟩;have o:=l.cell;have t:=r.cell;have x:=r.free;have y:=l.lt;have z:=r.lt;have A:=R.lt;go_upto_region 7 with fail;go_cut[7] (fun E W=>A0 W w.heap.size (A3.cells ⟨s,c,d,p,g,i,j,k⟩) 36/\A0 W (w.heap.size+1) (A3.cells ⟨s,c,d,[],h,q,H,f⟩) 36/\A0 W (w.heap.size+2) Bg 36/\Below w.heap.size w W)
 case first=>
  go_region;all_goals go_wp2_with fail
  all_goals
   go_meet;exact⟨((l.A6 (a:=⟨w.heap.size+1,0,none⟩) ah s).A6 (a:=⟨w.heap.size+1,1,none⟩) ah c).A6 (a:=⟨w.heap.size+1,2,none⟩) ah d,((r.set 0 s).set 1 c).set 2 d,((R.A6 (a:=⟨w.heap.size+1,0,none⟩) ah s).A6 (a:=⟨w.heap.size+1,1,none⟩) ah c).A6 (a:=⟨w.heap.size+1,2,none⟩) ah d,cu⟩
 clear o t x y z A l r R B;obtain⟨l,r,R,B⟩:=hcut;have o:=l.cell;have t:=r.cell;have x:=r.free;have y:=l.lt;have z:=r.lt;have A:=R.lt;have F:=R.free;have C:=R.cell;go_upto_if 45 with fail;cases h with
 |true=>
  go_wp2_with fail;refine AO (v:=(Ar ⟨s,c,d,p,g,i,j,k⟩ ⟨[],false,u,[],true,q,H,f⟩).val) (by rw[m.o];simp[results,results50,go_sem,C]) rfl ⟨rfl,cu⟩
 |false=>
  go_wp2_with fail;go_region;all_goals go_wp2_with fail
  all_goals
   refine AO (v:=(Ar ⟨s,c,d,p,g,i,j,k⟩ ⟨[],false,u,[],false,q,H,f⟩).val) (by rw[m.o];simp[results,results50,go_sem,C]) rfl ⟨rfl,cu⟩
def yO(b:A3)(u q f:Bs)(h H:Bool){l:Bs}(M:l.length<=2147483648)(w:World):Cj w->Calls prog 50 #[b.val,(A3.val ⟨[],false,u,(47::l),h,q,H,f⟩)] w fun e G=>e=.returned (Ar b ⟨[],false,u,(47::l),h,q,H,f⟩).val/\Below w.heap.size w G:=by
 obtain⟨s,c,d,p,i,j,k,m⟩:=b;intro I;have J:=AE (ca:Ar ⟨s,c,d,p,i,j,k,m⟩ ⟨[],false,u,47::l,h,q,H,f⟩=⟨s,c,d,Fh (47::l),h,q,H,f⟩);go_enter func50,ntmps50;go_upto_region 1 with fail;go_cut[7] (fun L W=>L=false/\A0 W w.heap.size (A3.cells ⟨s,c,d,p,i,j,k,m⟩) 36/\A0 W (w.heap.size+1) (A3.cells ⟨[],false,u,47::l,h,q,H,f⟩) 36/\A0 W (w.heap.size+2) Bg 36/\Below w.heap.size w W)
 case first=>
  have r:=((A0.new (w.alloc (.cells (A3.cells ⟨s,c,d,p,i,j,k,m⟩) 36)) (A3.cells ⟨[],false,u,47::l,h,q,H,f⟩) 36).alloc (.cells Bg 36));have R:=(A0.new ((w.alloc (.cells (A3.cells ⟨s,c,d,p,i,j,k,m⟩) 36)).alloc (.cells (A3.cells ⟨[],false,u,47::l,h,q,H,f⟩) 36)) Bg 36);rw[AX]at r;rw[AX,AX]at R;go_wp2;go_meet;exact⟨rfl,((A0.new w (A3.cells ⟨s,c,d,p,i,j,k,m⟩) 36).alloc _).alloc _,r,R,cu⟩
 obtain⟨rfl,g,r,R,B⟩:=hcut;obtain⟨E,rfl⟩:∃E:World,E=wc:=⟨_,rfl⟩;have y:=g.cell;have t:=r.cell;have x:=r.free;have z:=g.lt;have n:=r.lt;have o:=R.lt;go_upto_region 7 with fail;go_cut[7] (fun N W=>A0 W w.heap.size (A3.cells ⟨s,c,d,p,i,j,k,m⟩) 36/\A0 W (w.heap.size+1) (A3.cells ⟨s,c,d,47::l,h,q,H,f⟩) 36/\A0 W (w.heap.size+2) Bg 36/\Below w.heap.size w W)
 case first=>
  go_region;all_goals go_wp2_with fail
  all_goals
   go_meet;exact⟨((g.A6 (a:=⟨w.heap.size+1,0,none⟩) ah s).A6 (a:=⟨w.heap.size+1,1,none⟩) ah c).A6 (a:=⟨w.heap.size+1,2,none⟩) ah d,((r.set 0 s).set 1 c).set 2 d,((R.A6 (a:=⟨w.heap.size+1,0,none⟩) ah s).A6 (a:=⟨w.heap.size+1,1,none⟩) ah c).A6 (a:=⟨w.heap.size+1,2,none⟩) ah d,cu⟩
 clear y t x z n o g r R B;obtain⟨g,r,R,B⟩:=hcut;have y:=g.cell;have t:=r.cell;have x:=r.free;have z:=g.lt;have n:=r.lt;have o:=R.lt;have F:=R.free;have A:=R.cell;go_wp2_with fail;refine(Qg (47::l) _ ag (I.next B)).mono ?_;rintro e O⟨rfl,C⟩;have S:=r.next C n;have D:=R.next C o;have K:=B.trans (C.mono B.size);clear y t x F A g r R B z n o;have t:=S.cell;have x:=S.free;have A:=D.cell;have F:=D.free;have n:=S.lt;have o:=D.lt;go_wp2_with fail;refine AO (v:=(Ar ⟨s,c,d,p,i,j,k,m⟩ ⟨[],false,u,47::l,h,q,H,f⟩).val) (by rw[J.o];simp[results,results50,go_sem,A]) rfl ⟨rfl,cu⟩
def yP(b:A3)(u q f:Bs)(H o:Bool){c:UInt8}{l:Bs}(P:c≠47)(hl:l.length<=1073741824)(Q:b.path.length<=1073741824)(w:World):Cj w->Calls prog 50 #[b.val,(A3.val ⟨[],false,u,(c::l),H,q,o,f⟩)] w fun e X=>e=.returned (Ar b ⟨[],false,u,(c::l),H,q,o,f⟩).val/\Below w.heap.size w X:=by
 obtain⟨s,h,g,d,i,j,m,n⟩:=b;intro N;simp only at Q;have O:=AE (show Ar ⟨s,h,g,d,i,j,m,n⟩ ⟨[],false,u,c::l,H,q,o,f⟩=⟨s,h,g,Fh (M8 ⟨s,h,g,d,i,j,m,n⟩++c::l),H,q,o,f⟩from AL P);have Y:=Yy ⟨s,h,g,d,i,j,m,n⟩;simp only at Y;have Z:((c.toNat:Int)==47)=false:=by
  rw[AI];intro e;apply P;apply BQ.1;show c.toNat=47;omega
 have a2:((c.toNat:Int)!=47)=true:=by simp only[bne,Z];rfl
 have G:=vF d 47;have T:=fun w=>sI d 47 w aa
 have M:Hid (M8 ⟨s,h,g,d,i,j,m,n⟩=if h&&d.isEmpty then[47]else d.take (lastIndexByte ⟨d.toArray⟩ 47+1).toNat):=AE rfl;generalize lastIndexByte ⟨d.toArray⟩ 47=k at G T M;go_enter func50,ntmps50;go_upto_region 1 with fail;go_cut[7] (fun s7 W=>s7=false/\A0 W w.heap.size (A3.cells ⟨s,h,g,d,i,j,m,n⟩) 36/\A0 W (w.heap.size+1) (A3.cells ⟨[],false,u,c::l,H,q,o,f⟩) 36/\A0 W (w.heap.size+2) Bg 36/\Below w.heap.size w W)
 case first=>
  have r:=((A0.new (w.alloc (.cells (A3.cells ⟨s,h,g,d,i,j,m,n⟩) 36)) (A3.cells ⟨[],false,u,c::l,H,q,o,f⟩) 36).alloc (.cells Bg 36));have R:=(A0.new ((w.alloc (.cells (A3.cells ⟨s,h,g,d,i,j,m,n⟩) 36)).alloc (.cells (A3.cells ⟨[],false,u,c::l,H,q,o,f⟩) 36)) Bg 36);rw[AX]at r;rw[AX,AX]at R;go_wp2;go_meet;exact⟨rfl,((A0.new w (A3.cells ⟨s,h,g,d,i,j,m,n⟩) 36).alloc _).alloc _,r,R,cu⟩
 obtain⟨rfl,z,r,R,B⟩:=hcut;obtain⟨U,rfl⟩:∃U:World,U=wc:=⟨_,rfl⟩;have J:=z.cell;have C:=r.cell;have D:=r.free;have L:=z.lt;have E:=r.lt;have F:=R.lt;go_upto_region 7 with fail;go_cut[7] (fun a3 W=>A0 W w.heap.size (A3.cells ⟨s,h,g,d,i,j,m,n⟩) 36/\A0 W (w.heap.size+1) (A3.cells ⟨s,h,g,c::l,H,q,o,f⟩) 36/\A0 W (w.heap.size+2) Bg 36/\Below w.heap.size w W)
 case first=>
  go_region;all_goals go_wp2_with fail
  all_goals
   go_meet;exact⟨((z.A6 (a:=⟨w.heap.size+1,0,none⟩) ah s).A6 (a:=⟨w.heap.size+1,1,none⟩) ah h).A6 (a:=⟨w.heap.size+1,2,none⟩) ah g,((r.set 0 s).set 1 h).set 2 g,((R.A6 (a:=⟨w.heap.size+1,0,none⟩) ah s).A6 (a:=⟨w.heap.size+1,1,none⟩) ah h).A6 (a:=⟨w.heap.size+1,2,none⟩) ah g,cu⟩
 clear J C D L E F z r R B;obtain⟨z,r,R,B⟩:=hcut;have J:=z.cell;have C:=r.cell;have D:=r.free;have L:=z.lt;have E:=r.lt;have F:=R.lt;have I:=R.free;have A:=R.cell;go_wp2_with fail;refine(T _).mono ?_;rintro e w2⟨rfl,rfl⟩;cases h with
 |false=>
  go_wp2_with fail;refine(Qg _ _ ag (N.next cu)).mono ?_;rintro e V⟨rfl,t⟩;have S:=(r.set 3 _).next t ea;have y:=(R.A6 (a:=⟨w.heap.size+1,3,none⟩) ah _).next t ea;have K:=(B.setCell (p:=⟨w.heap.size+1,3,none⟩) ah _).trans (t.mono wi);clear J C D I A z r R B L E F;have C:=S.cell;have D:=S.free;have A:=y.cell;have I:=y.free;have E:=S.lt;have F:=y.lt;go_wp2_with fail;refine AO (v:=(Ar ⟨s,false,g,d,i,j,m,n⟩ ⟨[],false,u,c::l,H,q,o,f⟩).val) ij rfl ⟨rfl,cu⟩
 |true=>
  cases d with
  |nil=>
   have a0:-1<=k:=G.1;have a1:k<0:=G.2;clear G;go_wp2_with fail;refine(Qg _ _ ag (N.next cu)).mono ?_;rintro e V⟨rfl,t⟩;have S:=(r.set 3 _).next t ea;have y:=(R.A6 (a:=⟨w.heap.size+1,3,none⟩) ah _).next t ea;have K:=(B.setCell (p:=⟨w.heap.size+1,3,none⟩) ah _).trans (t.mono wi);clear J C D I A z r R B L E F;have C:=S.cell;have D:=S.free;have A:=y.cell;have I:=y.free;have E:=S.lt;have F:=y.lt;go_wp2_with fail;refine AO (v:=(Ar ⟨s,true,g,[],i,j,m,n⟩ ⟨[],false,u,c::l,H,q,o,f⟩).val) ij rfl ⟨rfl,cu⟩
  |cons x d=>
   have a0:-1<=k:=G.1;have a1:k<(d.length:Int)+1:=G.2;clear G;have a4:d.length+1<=1073741824:=Q;go_wp2_with fail;refine(Qg _ _ ag (N.next cu)).mono ?_;rintro e V⟨rfl,t⟩;have S:=(r.set 3 _).next t ea;have y:=(R.A6 (a:=⟨w.heap.size+1,3,none⟩) ah _).next t ea;have K:=(B.setCell (p:=⟨w.heap.size+1,3,none⟩) ah _).trans (t.mono wi);clear J C D I A z r R B L E F;have C:=S.cell;have D:=S.free;have A:=y.cell;have I:=y.free;have E:=S.lt;have F:=y.lt;go_wp2_with fail;refine AO (v:=(Ar ⟨s,true,g,(x::d),i,j,m,n⟩ ⟨[],false,u,c::l,H,q,o,f⟩).val) ij rfl ⟨rfl,cu⟩
def Zv(b a:A3)(w:World)(m:b.path.length<=1073741824)(j:a.path.length<=1073741824)(h:Cj w):Calls prog 50 #[b.val,a.val] w fun e W=>e=.returned (Ar b a).val/\Below w.heap.size w W:=by
 by_cases H:a.scheme=[]
 ·cases d:a.hasAuth with
  |true=>exact yM b a w aa h H d
  |false=>
   obtain⟨s,n,u,p,g,q,i,f⟩:=a;simp only at H d j;subst H;subst d;cases p with
   |nil=>exact yN b u q f g i w
   |cons c l=>
    have o:l.length+1<=1073741824:=j;by_cases k:c=47
    ·subst k;exact yO b u q f g i aa w h
    exact yP b u q f g i k aa m w h
 exact yL b a w aa h H
def Sd(p:Bs)(w:World)(T:p.length<4294967281)(U:Cj w):Calls prog 120 #[p] w fun e X=>e=.returned (Fh p)/\Below w.heap.size w X:=by
 have S:=Ta p 47 w T U;have Y:(Ad 47 p).length<=p.length+1:=by rw[T8];have:=II (a:=(47:UInt8)) (l:=p);omega
 have Z:0<(Ad 47 p).length:=BK.2 (Lx 47 p);have D:Hid (Fh p=join (Gg (Ad 47 p) (Ad 47 p).length) [47]):=AE rfl;generalize Ad 47 p=l at S Y Z D;go_enter func120,ntmps120;go_wp2_with fail;refine S.mono ?_;rintro e w1⟨rfl,rfl⟩;go_wp2_with fail;go_loopw[4,12] (fun v i wr=>∃k:Nat,k<=l.length/\i=k/\Cp wr (w.heap.size+1) v (Gg l k)/\A0 wr w.heap.size (Ds l) 9/\Below w.heap.size w wr) (fun _ i _=>l.length-(intOf i).toNat)
 case atStart=>exact⟨0,DE _,rfl,IC _ _ _ _,A0.new _ _ _,cu⟩
 obtain⟨k,hk,rfl,n,b,H⟩:=hrel;have a6:=b.lt;by_cases L:k<l.length
 ·have hc:wr.cell? ⟨w.heap.size,k,none⟩=some (l[k]):=by rw[b.cell];simp[Ds,L]
  have r:=Tp l k;have m:=Yw L;generalize l[k]=s at hc m;generalize Gg l k=o at n r m;by_cases G:k+1=l.length
  ·have a0:((k:Int)==(l.length:Int)-1)=true:=by rw[BL];omega
   have E:(k+1==l.length)=true:=by rw[BL];exact G
   rw[E]at m;clear G E;have t:=AE m;clear m;by_cases u:s=[46]
   ·subst u;go_wp2_with(at_builtin;refine Gv rfl _ _ rfl (w.heap.size+1) _ o [] wr.heap.size rfl (n.alloc _) rfl ?_ aa ea ?_);all_goals first
     |(exact(A0.new _ _ _).cell 0)
     |(
      intro V W c q h;go_wp2;go_roundw
      case rel=>exact⟨k+1,aa,aj,by rw[t.o,Vu _ true];exact c,(b.alloc _).next h aa,(H.alloc H.size _).trans (h.mono aa)⟩
      simp[intOf];omega)
   by_cases F:s=[]
   ·subst F;go_wp2_with(at_builtin;refine Gv rfl _ _ rfl (w.heap.size+1) _ o [] wr.heap.size rfl (n.alloc _) rfl ?_ aa ea ?_);all_goals first
     |(exact(A0.new _ _ _).cell 0)
     |(
      intro V W c q h;go_wp2;go_roundw
      case rel=>exact⟨k+1,aa,aj,by rw[t.o,Vv _ true _ (Or.inr rfl)];exact c,(b.alloc _).next h aa,(H.alloc H.size _).trans (h.mono aa)⟩
      simp[intOf];omega)
   have a1:(s==[46])=false:=by rw[AI];exact u
   by_cases z:s=[46,46]
   ·subst z;rcases DH o with d|⟨O,y,d⟩
    ·subst d;obtain⟨M,N,rfl⟩:=n.shape;simp only[BG]at n;go_wp2_with(at_builtin;refine Gv rfl _ _ rfl (w.heap.size+1) _ [] [] wr.heap.size rfl (n.alloc _) rfl ?_ ae ea ?_);all_goals first
      |(exact(A0.new _ _ _).cell 0)
      |(
       intro V W c q h;go_wp2;go_roundw
       case rel=>exact⟨k+1,aa,aj,by rw[t.o,J8 _ true,AN rfl,Vw];exact c,(b.alloc _).next h aa,(H.alloc H.size _).trans (h.mono aa)⟩
       simp[intOf];omega)
    rw[DI]at d;subst d;obtain⟨g,I,rfl,J,P,C,f⟩:=n.Rk;rw[AJ]at r;simp only[AK,BG]at r;by_cases A:O=[]
    ·subst A;have a2:=f 0 y rfl;clear f;by_cases B:y=[]
     ·subst B;go_wp2_with(at_builtin;refine Gv rfl _ _ rfl (w.heap.size+1) _ [[]] [] wr.heap.size rfl (n.alloc _) rfl ?_ ae ea ?_);all_goals first
       |(exact(A0.new _ _ _).cell 0)
       |(
        intro V W c q h;go_wp2;go_roundw
        case rel=>exact⟨k+1,aa,aj,by rw[t.o,J8 _ true,AN rfl,CT,Vx];exact c,(b.alloc _).next h aa,(H.alloc H.size _).trans (h.mono aa)⟩
        simp[intOf];omega)
     have a3:y.isEmpty=false:=oz
     go_wp2_with(at_builtin;refine Gv rfl _ _ rfl (w.heap.size+1) _ [] [] wr.heap.size rfl (C.alloc _) rfl ?_ ae ea ?_);all_goals first
      |(exact(A0.new _ _ _).cell 0)
      |(
       intro V W c q h;go_wp2;go_roundw
       case rel=>exact⟨k+1,aa,aj,oj,(b.alloc _).next h aa,(H.alloc H.size _).trans (h.mono aa)⟩
       simp[intOf];omega)
    have a4:0<O.length:=BK.2 A;clear f;go_wp2_with(at_builtin;refine Gv rfl _ _ rfl (w.heap.size+1) _ O [] wr.heap.size rfl (C.alloc _) rfl ?_ aa ea ?_);all_goals first
     |(exact(A0.new _ _ _).cell 0)
     |(
      intro V W c q h;go_wp2;go_roundw
      case rel=>exact⟨k+1,aa,aj,om,(b.alloc _).next h aa,(H.alloc H.size _).trans (h.mono aa)⟩
      simp[intOf];omega)
   have a5:(s==[46,46])=false:=by rw[AI];exact z
   go_wp2_with(at_builtin;refine Gv rfl _ _ rfl (w.heap.size+1) _ o s wr.heap.size rfl (n.alloc _) rfl ?_ aa ea ?_);all_goals first
    |(exact(A0.new _ _ _).cell 0)
    |(
     intro V W c q h;go_wp2;go_roundw
     case rel=>exact⟨k+1,aa,aj,iq,(b.alloc _).next h aa,(H.alloc H.size _).trans (h.mono aa)⟩
     simp[intOf];omega)
  have a0:((k:Int)==(l.length:Int)-1)=false:=di
  have E:(k+1==l.length)=false:=by rw[AI];exact G
  rw[E]at m;clear G E;have t:=AE m;clear m;by_cases u:s=[46]
  ·subst u;go_wp2_with fail;all_goals
    go_roundw
    case rel=>exact⟨k+1,aa,aj,by rw[t.o,Vu _ false];exact n,b,H⟩
    simp[intOf];omega
  by_cases F:s=[]
  ·subst F;by_cases h0:0<k
   ·have K:(k==0)=false:=by rw[AI];omega
    go_wp2_with fail;all_goals
     go_roundw
     case rel=>exact⟨k+1,aa,aj,by rw[t.o,K,eY];exact n,b,H⟩
     simp[intOf];omega
   have K:(k==0)=true:=uz
   go_wp2_with(at_builtin;refine Gv rfl _ _ rfl (w.heap.size+1) _ o [] wr.heap.size rfl (n.alloc _) rfl ?_ aa ea ?_);all_goals first
    |(exact(A0.new _ _ _).cell 0)
    |(
     intro V W c q h;go_wp2;go_roundw
     case rel=>exact⟨k+1,aa,aj,by rw[t.o,K,Vv true _ _ (Or.inl rfl)];exact c,(b.alloc _).next h aa,(H.alloc H.size _).trans (h.mono aa)⟩
     simp[intOf];omega)
  have a1:(s==[46])=false:=by rw[AI];exact u
  by_cases z:s=[46,46]
  ·subst z;rcases DH o with d|⟨O,y,d⟩
   ·subst d;obtain⟨M,N,rfl⟩:=n.shape;simp only[BG]at n;go_wp2_with fail;all_goals
     go_roundw
     case rel=>exact⟨k+1,aa,aj,by rw[t.o,J8 _ false,AL ae,Vw];exact n,b,H⟩
     simp[intOf];omega
   rw[DI]at d;subst d;obtain⟨g,I,rfl,J,P,C,f⟩:=n.Rk;rw[AJ]at r;simp only[AK,BG]at r;by_cases A:O=[]
   ·subst A;have a2:=f 0 y rfl;clear f;by_cases B:y=[]
    ·subst B;go_wp2_with fail;all_goals
      go_roundw
      case rel=>exact⟨k+1,aa,aj,oe,b,H⟩
      simp[intOf];omega
    have a3:y.isEmpty=false:=oz
    go_wp2_with fail;all_goals
     go_roundw
     case rel=>exact⟨k+1,aa,aj,ji,b,H⟩
     simp[intOf];omega
   have a4:0<O.length:=BK.2 A;clear f;go_wp2_with fail;all_goals
    go_roundw
    case rel=>exact⟨k+1,aa,aj,jo,b,H⟩
    simp[intOf];omega
  have a5:(s==[46,46])=false:=by rw[AI];exact z
  go_wp2_with(at_builtin;refine Gv rfl _ _ rfl (w.heap.size+1) _ o s wr.heap.size rfl (n.alloc _) rfl ?_ aa ea ?_);all_goals first
   |(exact(A0.new _ _ _).cell 0)
   |(
    intro V W c q h;go_wp2;go_roundw
    case rel=>exact⟨k+1,aa,aj,iq,(b.alloc _).next h aa,(H.alloc H.size _).trans (h.mono aa)⟩
    simp[intOf];omega)
 obtain rfl:k=l.length:=aa
 have Q:(join (Gg l l.length) [47]).length<=140737488355328:=by
  rw[<-D.o];have:=Qf p;omega
 have r:=Tp l l.length;generalize Gg l l.length=o at n r Q D;rcases DH o with d|⟨O,y,d⟩
 ·subst d;obtain⟨M,N,rfl⟩:=n.shape;go_wp2_with fail;refine(Vg _ _ _ _).mono ?_;rintro e W⟨rfl,rfl⟩;go_wp2;go_ret;exact⟨Hz D.o.symm,H⟩
 rw[DI]at d;subst d;obtain⟨g,I,rfl,J,P,C,f⟩:=n.Rk;have R:=Tb g 0 I (O++[y]) [47] wr (fun j x hj=>by rw[EQ];exact f j x hj) (BJ wr _ (f O.length y ah)) aa (by simpa using J) Q;rw[AJ]at R;clear f;go_wp2_with fail;refine R.mono ?_;rintro e W⟨rfl,h⟩;go_wp2;go_ret;exact⟨Hz D.o.symm,H.trans (h.mono H.size)⟩
def Jc(l:Bs):Nat->Bs
 |0=>[]
 |k+1=>if l.getD k 0=47 then l.take (k+1)else Jc l k
def iA(l:Bs)(k:Nat):(Jc l k).length<=k:=by
 induction k with
 |zero=>simp[Jc]
 |succ k ih=>
  unfold Jc;split
  ·simp;omega
  omega
def Zw{l:Bs}{k:Nat}(h:k<l.length)(e:l[k]=47):Jc l (k+1)=l.take (k+1):=by
 unfold Jc;rw[AN];rw[AM,BC h];exact e
def Zx{l:Bs}{k:Nat}(h:k<l.length)(e:l[k]≠47):Jc l (k+1)=Jc l k:=by
 show(if l.getD k 0=47 then l.take (k+1)else Jc l k)=Jc l k;rw[AL];rw[AM,BC h];exact e
def yQ(l:Bs)(k:Nat)(a:k<=l.length):Jc l k=l.take (Lib.lastIdx ⟨l.toArray⟩ 47 k+1).toNat:=by
 induction k with
 |zero=>simp[Jc,Lib.lastIdx]
 |succ k ih=>
  have H:k<l.length:=aa
  have ih:=ih aa;unfold Lib.lastIdx;by_cases e:l[k]=47
  ·rw[Zw H e,AN]
   ·congr 1
   simp[e,H]
  rw[Zx H e,AL,ih];simp[H];intro h;apply e;apply BQ.1;show l[k].toNat=47;omega
def yR(l:Bs):Jc l l.length=Yx l:=yQ l l.length (AF _)
def iB(b a:A3)(w:World)(E:a.path.length<=2147483648)(z:Cj w)(h:a.scheme≠[]\/a.hasAuth=true):Calls prog 59 #[b.val,a.val] w fun e F=>e=.returned (Ar b a).val/\Below w.heap.size w F:=by
 obtain⟨s,H,u,p,d,q,g,f⟩:=a;simp only at E h;have A:=AE (show Ar b ⟨s,H,u,p,d,q,g,f⟩=⟨if s=[]then b.scheme else s,H,u,Fh p,d,q,g,f⟩from by
  unfold Ar;by_cases t:s=[]
  ·rcases h with h|h
   ·exact absurd t h
   simp[t,h]
  simp[t])
 go_enter func59,ntmps59;go_upto_region 1 with fail;have k:=((A0.new w b.cells 36).alloc (.cells (A3.cells ⟨s,H,u,p,d,q,g,f⟩) 36)).alloc (.cells Bg 36);have r:=((A0.new (w.alloc (.cells b.cells 36)) (A3.cells ⟨s,H,u,p,d,q,g,f⟩) 36).alloc (.cells Bg 36));have R:=(A0.new ((w.alloc (.cells b.cells 36)).alloc (.cells (A3.cells ⟨s,H,u,p,d,q,g,f⟩) 36)) Bg 36);rw[AX]at r;rw[AX,AX]at R;have B:Below w.heap.size w _:=(((AG _ w).alloc (AF _) (.cells b.cells 36)).alloc ea (.cells (A3.cells ⟨s,H,u,p,d,q,g,f⟩) 36)).alloc ea (.cells Bg 36);generalize G:((w.alloc (.cells b.cells 36)).alloc (.cells (A3.cells ⟨s,H,u,p,d,q,g,f⟩) 36)).alloc (.cells Bg 36)=W at k r R B|-;clear G;go_cut[15] (fun I J=>I=true/\J=W)
 case first=>
  have l:=r.cell;cases s with
  |nil=>
   have L:H=true:=by rcases h with h|h;exact absurd rfl h;exact h
   subst L;go_wp2;go_meet;exact⟨rfl,rfl⟩
  |cons c s=>
   go_wp2;go_meet;exact⟨rfl,rfl⟩
 obtain⟨rfl,rfl⟩:=hcut;obtain⟨W,rfl⟩:∃W:World,W=wc:=⟨_,rfl⟩;have C:=k.cell;have l:=r.cell;have m:=r.free;have D:=k.lt;have n:=r.lt;have o:=R.lt;cases s with
 |nil=>
  have x:=B.setCell (p:=⟨w.heap.size+1,0,none⟩) ah b.scheme;go_wp2_with fail;refine(Sd p _ aa (z.next x)).mono ?_;rintro e M⟨rfl,i⟩;have S:=(r.set 0 b.scheme).next i ea;have j:=(R.A6 (a:=⟨w.heap.size+1,0,none⟩) ah b.scheme).next i ea;have K:=x.trans (i.mono ea);clear C l m k r R B x D n o i;have l:=S.cell;have m:=S.free;have y:=j.cell;have N:=j.free;have n:=S.lt;have o:=j.lt;go_wp2_with fail;refine AO (v:=(Ar b ⟨[],H,u,p,d,q,g,f⟩).val) (by rw[A.o];simp[results,results59,go_sem,y]) rfl ⟨rfl,cu⟩
 |cons c s=>
  go_wp2_with fail;refine(Sd p _ aa (z.next B)).mono ?_;rintro e M⟨rfl,i⟩;have S:=r.next i ea;have j:=R.next i ea;have K:=B.trans (i.mono B.size);clear C l m k r R B D n o i;have l:=S.cell;have m:=S.free;have y:=j.cell;have N:=j.free;have n:=S.lt;have o:=j.lt;go_wp2_with fail;refine AO (v:=(Ar b ⟨c::s,H,u,p,d,q,g,f⟩).val) (by rw[A.o];simp[results,results59,go_sem,y]) rfl ⟨rfl,cu⟩
structure RS(w W:World)(b a o:A3):Prop where
 r0:A0 W w.heap.size b.cells 36
 r1:A0 W (w.heap.size+1) a.cells 36
 r2:A0 W (w.heap.size+2) Bg 36
 r3:A0 W (w.heap.size+3) o.cells 36
 B:Below w.heap.size w W
def RS.next{w W c:World}{b a o:A3}(h:RS w W b a o)(H:Below W.heap.size W c):RS w c b a o:=⟨h.r0.next H h.r0.lt,h.r1.next H h.r1.lt,h.r2.next H h.r2.lt,h.r3.next H h.r3.lt,h.B.trans (H.mono h.B.size)⟩
def yS(b:A3)(u p q f:Bs)(x H:Bool)(w:World)(hl:p.length<=1073741824)(a3:b.path.length<=1073741824):Cj w->Calls prog 59 #[b.val,(A3.val ⟨[],false,u,p,x,q,H,f⟩)] w fun e w'=>e=.returned (Ar b ⟨[],false,u,p,x,q,H,f⟩).val/\Below w.heap.size w w':=by
 obtain⟨s,o,j,g,m,n,r,t⟩:=b;intro S;simp only at a3;go_enter func59,ntmps59;go_upto_region 1 with fail;go_cut[15] (fun a4 y=>a4=false/\A0 y w.heap.size (A3.cells ⟨s,o,j,g,m,n,r,t⟩) 36/\A0 y (w.heap.size+1) (A3.cells ⟨[],false,u,p,x,q,H,f⟩) 36/\A0 y (w.heap.size+2) Bg 36/\y.heap.size=w.heap.size+3/\Below w.heap.size w y)
 case first=>
  have E:=((A0.new (w.alloc (.cells (A3.cells ⟨s,o,j,g,m,n,r,t⟩) 36)) (A3.cells ⟨[],false,u,p,x,q,H,f⟩) 36).alloc (.cells Bg 36));have F:=(A0.new ((w.alloc (.cells (A3.cells ⟨s,o,j,g,m,n,r,t⟩) 36)).alloc (.cells (A3.cells ⟨[],false,u,p,x,q,H,f⟩) 36)) Bg 36);rw[AX]at E;rw[AX,AX]at F;go_wp2;go_meet;exact⟨rfl,((A0.new w (A3.cells ⟨s,o,j,g,m,n,r,t⟩) 36).alloc _).alloc _,E,F,ah,cu⟩
 obtain⟨rfl,N,E,F,a2,B⟩:=hcut;obtain⟨W,rfl⟩:∃W:World,W=wc:=⟨_,rfl⟩;have G:=N.cell;go_upto_region 7 with fail;have q0:=N.alloc (.cells (A3.cells ⟨s,o,j,g,m,n,r,t⟩) 36);have T:=E.alloc (.cells (A3.cells ⟨s,o,j,g,m,n,r,t⟩) 36);have q2:=F.alloc (.cells (A3.cells ⟨s,o,j,g,m,n,r,t⟩) 36);have Q:=A0.new W (A3.cells ⟨s,o,j,g,m,n,r,t⟩) 36;rw[a2]at Q;have O:=B.alloc B.size (.cells (A3.cells ⟨s,o,j,g,m,n,r,t⟩) 36);generalize a5:W.alloc (.cells (A3.cells ⟨s,o,j,g,m,n,r,t⟩) 36)=U at q0 T q2 Q O|-;clear a5;go_cut[5] (fun V y=>V=.pointer (some ⟨w.heap.size+3,0,none⟩)/\RS w y ⟨s,o,j,g,m,n,r,t⟩ ⟨[],false,u,p,x,q,H,f⟩ ⟨s,o,j,g,m,n,H,f⟩)
 case first=>
  have I:=T.cell;have J:=Q.cell;have K:=Q.free;have L:=Q.lt;clear G N E F;go_region;all_goals go_wp2_with fail
  all_goals
   go_meet;refine⟨rfl,⟨(q0.A6 (a:=⟨w.heap.size+3,6,none⟩) ah H).A6 (a:=⟨w.heap.size+3,7,none⟩) ah f,(T.A6 (a:=⟨w.heap.size+3,6,none⟩) ah H).A6 (a:=⟨w.heap.size+3,7,none⟩) ah f,(q2.A6 (a:=⟨w.heap.size+3,6,none⟩) ah H).A6 (a:=⟨w.heap.size+3,7,none⟩) ah f,(Q.set 6 H).set 7 f,by have:=O.size;go_grown⟩⟩
 obtain⟨rfl,R⟩:=hcut;clear G N E F a2 B;obtain⟨W,rfl⟩:∃W:World,W=wc:=⟨_,rfl⟩;have I:=R.r1.cell;cases p with
 |nil=>
  have J:=R.r3.cell;have K:=R.r3.free;have X:=R.r2.free;have A:=R.r2.cell;have Y:=R.r2.lt;have L:=R.r3.lt;have B:=R.B;have z:=AE (ca:Ar ⟨s,o,j,g,m,n,r,t⟩ ⟨[],false,u,[],x,q,H,f⟩=⟨s,o,j,g,if x then true else m,if x then q else n,H,f⟩);cases x with
  |true=>
   go_wp2_with fail;go_region;all_goals go_wp2_with fail
   all_goals
    refine AO (v:=(Ar ⟨s,o,j,g,m,n,r,t⟩ ⟨[],false,u,[],true,q,H,f⟩).val) ep rfl ⟨rfl,cu⟩
  |false=>
   go_wp2_with fail;refine AO (v:=(Ar ⟨s,o,j,g,m,n,r,t⟩ ⟨[],false,u,[],false,q,H,f⟩).val) ep rfl ⟨rfl,cu⟩
 |cons c l=>
  go_upto_region 9 with fail;go_cut[5] (fun V y=>V=.pointer (some ⟨w.heap.size+3,0,none⟩)/\RS w y ⟨s,o,j,g,m,n,r,t⟩ ⟨[],false,u,c::l,x,q,H,f⟩ ⟨s,o,j,g,x,q,H,f⟩)
  case first=>
   have J:=R.r3.cell;have K:=R.r3.free;have L:=R.r3.lt;have O:=R.B;go_region;all_goals go_wp2_with fail
   all_goals
    go_meet;refine⟨rfl,⟨(R.r0.A6 (a:=⟨w.heap.size+3,4,none⟩) ah x).A6 (a:=⟨w.heap.size+3,5,none⟩) ah q,(R.r1.A6 (a:=⟨w.heap.size+3,4,none⟩) ah x).A6 (a:=⟨w.heap.size+3,5,none⟩) ah q,(R.r2.A6 (a:=⟨w.heap.size+3,4,none⟩) ah x).A6 (a:=⟨w.heap.size+3,5,none⟩) ah q,(R.r3.set 4 x).set 5 q,by have:=O.size;go_grown⟩⟩
  clear I R;obtain⟨rfl,R⟩:=hcut;obtain⟨W,rfl⟩:∃W:World,W=wc:=⟨_,rfl⟩;have I:=R.r1.cell;by_cases Z:c=47
  ·subst Z;have z:=AE (ca:Ar ⟨s,o,j,g,m,n,r,t⟩ ⟨[],false,u,47::l,x,q,H,f⟩=⟨s,o,j,Fh (47::l),x,q,H,f⟩);have a6:l.length+1<=1073741824:=hl;go_wp2_with fail;refine(Sd (47::l) _ ag (S.next R.B)).mono ?_;rintro e U⟨rfl,C⟩;have R:=R.next C;clear I C;have J:=R.r3.cell;have K:=R.r3.free;have X:=R.r2.free;have A:=R.r2.cell;have Y:=R.r2.lt;have L:=R.r3.lt;have B:=R.B;go_wp2_with fail;refine AO (v:=(Ar ⟨s,o,j,g,m,n,r,t⟩ ⟨[],false,u,47::l,x,q,H,f⟩).val) ep rfl ⟨rfl,cu⟩
  have a6:l.length+1<=1073741824:=hl;have a7:((c.toNat:Int)==47)=false:=by
   rw[AI];intro e;apply Z;apply BQ.1;show c.toNat=47;omega
  have a9:((c.toNat:Int)!=47)=true:=by simp only[bne,a7];rfl
  have z:=AE (show Ar ⟨s,o,j,g,m,n,r,t⟩ ⟨[],false,u,c::l,x,q,H,f⟩=⟨s,o,j,Fh (M8 ⟨s,o,j,g,m,n,r,t⟩++c::l),x,q,H,f⟩from AL Z);have a0:=Yy ⟨s,o,j,g,m,n,r,t⟩;simp only at a0;have P:Hid (M8 ⟨s,o,j,g,m,n,r,t⟩=if o&&g.isEmpty then[47]else Jc g g.length):=AE (by rw[yR];rfl);cases o with
  |false=>
   have G:=R.r0.cell;go_upto_if 55 with fail;go_cut[6] (fun s6 y=>s6=(M8 ⟨s,false,j,g,m,n,r,t⟩++c::l:Bs)/\y=W)
   case first=>
    go_wp2_with fail;go_loop[7,59] (fun d i=>∃k:Nat,k<=g.length/\i=k/\d=(Jc g k)) (fun _ i=>g.length-(intOf i).toNat)
    case atStart=>exact⟨0,DE _,rfl,rfl⟩
    obtain⟨k,hk,rfl,rfl⟩:=hrel;by_cases M:k<g.length
    ·by_cases e:g[k]=47
     ·have eb:((g[k].toNat:Int)==47)=true:=by rw[e];rfl
      have D:=AE (Zw M e);clear e;go_wp2_with fail
      go_round
      case rel=>exact⟨k+1,aa,aj,by rw[D.o]⟩
      simp[intOf];omega
     have eb:((g[k].toNat:Int)==47)=false:=by
      rw[AI];intro h;apply e;apply BQ.1;show g[k].toNat=47;omega
     have D:=AE (Zx M e);clear e;go_wp2_with fail
     go_round
     case rel=>exact⟨k+1,aa,aj,by rw[D.o]⟩
     simp[intOf];omega
    obtain rfl:k=g.length:=aa
    have a8:=iA g g.length;cases a1:g.isEmpty;all_goals
     go_wp2;go_meet;exact⟨by rw[P.o];simp[a1],rfl⟩
   obtain⟨rfl,rfl⟩:=hcut;obtain⟨W,rfl⟩:∃W:World,W=wc:=⟨_,rfl⟩;generalize M8 ⟨s,false,j,g,m,n,r,t⟩=d at z a0;clear P G I;go_wp2_with fail;refine(Sd _ _ ag (S.next R.B)).mono ?_;rintro e U⟨rfl,C⟩;have R:=R.next C;clear C;have J:=R.r3.cell;have K:=R.r3.free;have X:=R.r2.free;have A:=R.r2.cell;have Y:=R.r2.lt;have L:=R.r3.lt;have B:=R.B;go_wp2_with fail;refine AO (v:=(Ar ⟨s,false,j,g,m,n,r,t⟩ ⟨[],false,u,c::l,x,q,H,f⟩).val) ep rfl ⟨rfl,cu⟩
  |true=>
   have G:=R.r0.cell;go_upto_if 55 with fail;go_cut[6] (fun s6 y=>s6=(M8 ⟨s,true,j,g,m,n,r,t⟩++c::l:Bs)/\y=W)
   case first=>
    go_wp2_with fail;go_loop[7,59] (fun d i=>∃k:Nat,k<=g.length/\i=k/\d=(Jc g k)) (fun _ i=>g.length-(intOf i).toNat)
    case atStart=>exact⟨0,DE _,rfl,rfl⟩
    obtain⟨k,hk,rfl,rfl⟩:=hrel;by_cases M:k<g.length
    ·by_cases e:g[k]=47
     ·have eb:((g[k].toNat:Int)==47)=true:=by rw[e];rfl
      have D:=AE (Zw M e);clear e;go_wp2_with fail
      go_round
      case rel=>exact⟨k+1,aa,aj,by rw[D.o]⟩
      simp[intOf];omega
     have eb:((g[k].toNat:Int)==47)=false:=by
      rw[AI];intro h;apply e;apply BQ.1;show g[k].toNat=47;omega
     have D:=AE (Zx M e);clear e;go_wp2_with fail
     go_round
     case rel=>exact⟨k+1,aa,aj,by rw[D.o]⟩
     simp[intOf];omega
    obtain rfl:k=g.length:=aa
    have a8:=iA g g.length;cases a1:g.isEmpty;all_goals
     go_wp2;go_meet;exact⟨by rw[P.o];simp[a1],rfl⟩
   obtain⟨rfl,rfl⟩:=hcut;obtain⟨W,rfl⟩:∃W:World,W=wc:=⟨_,rfl⟩;generalize M8 ⟨s,true,j,g,m,n,r,t⟩=d at z a0;clear P G I;go_wp2_with fail;refine(Sd _ _ ag (S.next R.B)).mono ?_;rintro e U⟨rfl,C⟩;have R:=R.next C;clear C;have J:=R.r3.cell;have K:=R.r3.free;have X:=R.r2.free;have A:=R.r2.cell;have Y:=R.r2.lt;have L:=R.r3.lt;have B:=R.B;go_wp2_with fail;refine AO (v:=(Ar ⟨s,true,j,g,m,n,r,t⟩ ⟨[],false,u,c::l,x,q,H,f⟩).val) ep rfl ⟨rfl,cu⟩
def Zy(b a:A3)(w:World)(g:b.path.length<=1073741824)(d:a.path.length<=1073741824)(h:Cj w):Calls prog 59 #[b.val,a.val] w fun e W=>e=.returned (Ar b a).val/\Below w.heap.size w W:=by
 by_cases H:a.scheme=[]
 ·cases c:a.hasAuth with
  |true=>exact iB b a w aa h (Or.inr c)
  |false=>
   obtain⟨s,k,u,p,i,q,j,f⟩:=a;simp only at H c d;subst H;subst c;exact yS b u p q f i j w d g h
 exact iB b a w aa h (Or.inl H)
section
variable {P : Program} {ops : Array Oper} {Q : Exit → Act → World → Prop} {md : Region.Mode} {S : World → Prop} {s : Nat}
def Kt(P:Program)(md:Region.Mode)(ops:Array Oper)(Q:Exit->Act->World->Prop)(S:World->Prop)(s:Nat):Nat->Array Bool->Act->World->Prop
 |0,l,a,w=>Region.ready md ops l=[]/\Q .normal a w
 |n+1,l,a,w=>(Region.ready md ops l=[]->Q .normal a w)/\∀i∈Region.ready md ops l,wpOp P ops Q i (fun A W=>if i=s then wpAny P md ops Q n (l.setIfInBounds i true) A W else S W/\Kt P md ops Q S s n (l.setIfInBounds i true) A W) a w
def Kt.any:∀{n:Nat}{l:Array Bool}{a:Act}{w:World},Kt P md ops Q S s n l a w->wpAny P md ops Q n l a w
 |0,_,_,_,h=>h
 |n+1,_,_,_,h=>⟨h.1,fun i H=>KH (fun A W k=>by
  by_cases e:i=s
  ·rwa[AN e]at k
  rw[AL e]at k;exact k.2.any) (h.2 i H)⟩
def Oj(md:Region.Mode)(ops:Array Oper)(i:Nat):Nat->Nat->Bool
 |0,_=>false
 |n+1,s=>match ops[s]?with
  |none=>false
  |some o=>o.after.any fun e=>Region.binds md e&&(e.on==i||Oj md ops i n e.on)
def Mg(md:Region.Mode)(ops:Array Oper)(l:Array Bool):Prop:=∀j o,ops[j]?=some o->l.getD j false=true->∀e∈o.after,Region.binds md e=true->l.getD e.on false=true
def Mg.none(n:Nat):Mg md ops (Array.replicate n false):=fun j o _ h=>by
 rw[EZ,Array.getElem?_replicate]at h;split at h
 ·cases h
 cases h
def Mg.set{l:Array Bool}{i:Nat}(h:Mg md ops l)(r:i∈Region.ready md ops l):Mg md ops (l.setIfInBounds i true):=fun j o H f e a b=>by
 by_cases c:j=i
 ·subst c;obtain⟨_,O,d,g⟩:=IK.1 r;rw[H]at d;cases d;exact getD_set_true (g e a b)
 exact getD_set_true (h j o H (by rwa[getD_set_ne false (fun e=>c e.symm)]at f) e a b)
def Mg.waits{l:Array Bool}{i:Nat}(h:Mg md ops l):∀(n s:Nat),l.getD s false=true->Oj md ops i n s=true->l.getD i false=true
 |0,_,_,H=>by cases H
 |n+1,s,d,H=>by
  unfold Oj at H;cases a:ops[s]?with
  |none=>rw[a]at H;cases H
  |some o=>
   rw[a]at H;obtain⟨x,f,b⟩:=Array.any_eq_true'.1 H;simp only[BR,FM,BL]at b;have c:=h s o a d x f b.1;rcases b.2 with e|e
   ·rw[e]at c;exact c
   exact h.waits n x.on c e
def Mg.ready{l:Array Bool}{i s:Nat}(h:Mg md ops l)(n:Nat)(r:s∈Region.ready md ops l)(H:Oj md ops i n s=true):l.getD i false=true:=by
 cases n with
 |zero=>cases H
 |succ n=>
  obtain⟨_,o,c,d⟩:=IK.1 r;unfold Oj at H;rw[c]at H;obtain⟨x,f,b⟩:=Array.any_eq_true'.1 H;simp only[BR,FM,BL]at b;have a:=d x f b.1;rcases b.2 with e|e
  ·rw[e]at a;exact a
  exact h.waits n x.on a e
def iC{l:Array Bool}{i:Nat}(h0:l.getD i true=false)(h:l.getD i false=true):False:=by
 rcases CL i l.size with H|H
 ·simp[H]at h0 h;rw[h0]at h;cases h
 simp[CA H]at h
def iD{l:Array Bool}{i:Nat}{o:Oper}(H:l.getD i true=false)(a:∀e∈o.after,Region.binds md e=true->l.getD e.on false=true):∀e∈o.after,Region.binds md e=true->e.on≠i:=fun e b c d=>by
 have h:=a e b c;rw[d]at h;exact iC H h
theorem Kt.first{i:Nat}{o:Oper}{v:Value}(m:ops[i]?=some o)(p:Region.noSelect ops=true)(d:Nat)(x:Oj md ops i d s=true)(y:i≠s)
  (z:∀c a w,Q (.panic c) (a.put o.dst v) w->Q (.panic c) a w):∀(n:Nat)(l:Array Bool)(a:Act)(w:World),Mg md ops l->
  (∀j O,ops[j]?=some O->j≠i->l.getD j true=false->(∀e∈O.after,Region.binds md e=true->e.on≠i)->o.apart ops O=true)->
  i∈Region.ready md ops l->YieldsIf P ops S o v a->S w->Kt P md ops Q S s n (l.setIfInBounds i true) (a.put o.dst v) w->Kt P md ops Q S s (n+1) l a w
 |n,l,a,w,A,B,r,D,E,H=>by
  refine⟨fun h=>(by rw[h]at r;cases r),fun j g=>?_⟩;by_cases f:j=i
  ·subst f;refine D.wpOp m E ?_;rw[AL y];exact⟨E,H⟩
  obtain⟨F,O,t,K⟩:=IK.1 g;have G:l.getD i true=false:=(IK.1 r).1;have L:=iD G K;have M:j≠s:=fun e=>by
   subst e;exact iC G (A.ready d g x)
  have u:=KN g f;cases n with
  |zero=>rw[H.1]at u;cases u
  |succ n=>
   have I:=H.2 j u;simp only[AL M]at I|-;have N:=wpOp_putIf t (B j O t f F L) (fun C b=>GQ p i o C b m) (fun C b=>GQ p j O C b t) z D I;refine KH (fun R W k=>⟨k.2.1,Kt.first m p d x y z n _ R W (A.set g) (fun q T U V X Y=>?_) (KN r (Ne.symm f)) k.1 k.2.1 ?_⟩) N
   ·refine B q T U V ?_ Y;by_cases J:j=q
    ·subst J;exact F
    rwa[getD_set_ne true J]at X
   rw[JA _ _ f];exact k.2.2
theorem Kt.iE{i:Nat}{o:Oper}{v:Value}(f:ops[i]?=some o)(g:Region.noSelect ops=true)(x:i≠s)
  (p:∀c a w,Q (.panic c) (a.put o.dst v) w->Q (.panic c) a w):∀(n:Nat)(l:Array Bool)(a:Act)(w:World),
  (∀j O,ops[j]?=some O->j≠i->l.getD j true=false->(∀e∈O.after,Region.binds md e=true->e.on≠i)->o.apart ops O=true)->
  i∈Region.ready md ops l->Yields P ops o v a->S w->Kt P md ops Q S s n (l.setIfInBounds i true) (a.put o.dst v) w->Kt P md ops Q S s (n+1) l a w
 |n,l,a,w,y,r,z,I,H=>by
  refine⟨fun h=>(by rw[h]at r;cases r),fun j B=>?_⟩;by_cases d:j=i
  ·subst d;refine z.wpOp f ?_;rw[AL x];exact⟨I,H⟩
  obtain⟨D,O,t,J⟩:=IK.1 B;have K:l.getD i true=false:=(IK.1 r).1;have L:=iD K J;have u:=KN B d;have E:∀k ok,ops[k]?=some ok->k≠i->(l.setIfInBounds j true).getD k true=false->(∀e∈ok.after,Region.binds md e=true->e.on≠i)->o.apart ops ok=true:=fun q M N R T U=>by
   refine y q M N R ?_ U;by_cases F:j=q
   ·subst F;exact D
   rwa[getD_set_ne true F]at T
  cases n with
  |zero=>rw[H.1]at u;cases u
  |succ n=>
   have V:=H.2 j u;have m:=wpOp_put t (y j O t d D L) (fun C b=>GQ g i o C b f) (fun C b=>GQ g j O C b t) p z V;by_cases G:j=s
   ·simp only[AN G]at m|-;refine KH (fun A W k=>wpAny_first f (GQ g) p n _ A W E (KN r (Ne.symm d)) k.1 ?_) m;rw[JA _ _ d];exact k.2
   simp only[AL G]at m|-;refine KH (fun A W k=>⟨k.2.1,Kt.iE f g x p n _ A W E (KN r (Ne.symm d)) k.1 k.2.1 ?_⟩) m;rw[JA _ _ d];exact k.2.2
def Aa(P:Program)(md:Region.Mode)(ops:Array Oper)(Q:Exit->Act->World->Prop)(S:World->Prop)(s:Nat)(n:Nat)(l:Array Bool)(a:Act)(w:World):Prop:=Mg md ops l->Kt P md ops Q S s n l a w
def Aa.take{i:Nat}{o:Oper}{v:Value}{n:Nat}{l:Array Bool}{a:Act}{w:World}(H:ops[i]?=some o)(e:Region.noSelect ops=true)(f:Region.free md ops l i=true)(r:(Region.ready md ops l).contains i=true)
  (g:Oj md ops i 40 s=true) (j:i≠s) (k:∀c a w,Q (.panic c) (a.put o.dst v) w->Q (.panic c) a w) (y:YieldsIf P ops S o v a) (m:S w)
  (h:Aa P md ops Q S s n (l.setIfInBounds i true) (a.put o.dst v) w):Aa P md ops Q S s (n+1) l a w:=fun b=>
 have d:i∈Region.ready md ops l:=by simpa using r
 Kt.first H e 40 g j k n l a w b (Region.free_spec H f) d y m (h (b.set d))
def Aa.iF{i:Nat}{o:Oper}{v:Value}{n:Nat}{l:Array Bool}{a:Act}{w:World}(H:ops[i]?=some o)(d:Region.noSelect ops=true)(f:Region.free md ops l i=true)(r:(Region.ready md ops l).contains i=true)
  (e:i≠s) (g:∀c a w,Q (.panic c) (a.put o.dst v) w->Q (.panic c) a w) (y:Yields P ops o v a) (j:S w)
  (h:Aa P md ops Q S s n (l.setIfInBounds i true) (a.put o.dst v) w):Aa P md ops Q S s (n+1) l a w:=fun k=>
 have b:i∈Region.ready md ops l:=by simpa using r
 Kt.iE H d e g n l a w (Region.free_spec H f) b y j (h (k.set b))
def Aa.one{j:Nat}{o:Oper}{n:Nat}{l:Array Bool}{a:Act}{w:World}(H:Region.ready md ops l=[j])(c:ops[j]?=some o)(d:j≠s)
  (h:∀K:Act->World->Prop,Shut (∀a w,S w->Aa P md ops Q S s n (l.setIfInBounds j true) a w->K a w)->if Region.wanted o (yielded ops a.tmps)=true then Oper.wp P o a w K Q else K (a.put o.dst undef) w):Aa P md ops Q S s (n+1) l a w:=fun e=>by
 have f:=e;refine⟨fun h0=>xo,fun i b=>?_⟩;rw[H]at b;obtain rfl:=CS.1 b;simp only[AL d];exact wpOp_step c fun K g=>h K fun a w k W=>g a w ⟨k,W (f.set (by rw[H];simp))⟩
def Aa.stop{o:Oper}{n:Nat}{l:Array Bool}{a:Act}{w:World}(H:Region.ready md ops l=[s])(c:ops[s]?=some o)
  (h:∀K:Act->World->Prop,Shut (∀a w,wpAny P md ops Q n (l.setIfInBounds s true) a w->K a w)->if Region.wanted o (yielded ops a.tmps)=true then Oper.wp P o a w K Q else K (a.put o.dst undef) w):Aa P md ops Q S s (n+1) l a w:=fun d=>by
 have f:=d;refine⟨fun h0=>xo,fun i b=>?_⟩;rw[H]at b;obtain rfl:=CS.1 b;simp only[DK];exact wpOp_step c fun K e=>h K fun a w W=>e a w W
def Jv(P:Program)(md:Region.Mode)(ops:Array Oper)(Q:Exit->Act->World->Prop)(S:World->Prop)(s:Nat)(n:Nat)(l:Array Bool)(a:Act)(w:World)(r:List Nat):Prop:=∀i∈r,wpOp P ops Q i (fun A W=>S W/\Aa P md ops Q S s n (l.setIfInBounds i true) A W) a w
def Jv.nil{n:Nat}{l:Array Bool}{a:Act}{w:World}:Jv P md ops Q S s n l a w []:=fun _ h=>ee
def Jv.cons{n:Nat}{l:Array Bool}{a:Act}{w:World}{i:Nat}{o:Oper}{r:List Nat}(b:ops[i]?=some o)
  (h:∀K:Act->World->Prop,Shut (∀a w,S w->Aa P md ops Q S s n (l.setIfInBounds i true) a w->K a w)->if Region.wanted o (yielded ops a.tmps)=true then Oper.wp P o a w K Q else K (a.put o.dst undef) w)
  (c:Jv P md ops Q S s n l a w r):Jv P md ops Q S s n l a w (i::r):=fun j H=>by
 rcases CG.1 H with rfl|H
 ·exact wpOp_step b (fun K d=>h K (fun a w e W=>d a w ⟨e,W⟩))
 exact c j H
def Aa.all(r:List Nat){n:Nat}{l:Array Bool}{a:Act}{w:World}(H:Region.ready md ops l=r)(d:r≠[])(f:s∉r)(h:Jv P md ops Q S s n l a w r):Aa P md ops Q S s (n+1) l a w:=fun g=>by
 refine⟨fun h0=>absurd (H▸h0) d,fun i b=>?_⟩;have c:i∈r:=H▸b;have j:i≠s:=fun e=>f (e▸c)
 simp only[AL j];exact KH (fun A W k=>⟨k.1,k.2 (g.set b)⟩) (h i c)
def U2{j:Nat}{o:Oper}{n:Nat}{l:Array Bool}{a:Act}{w:World}(H:Region.ready md ops l=[j])(c:ops[j]?=some o)
  (h:∀K:Act->World->Prop,Shut (∀a w,wpAny P md ops Q n (l.setIfInBounds j true) a w->K a w)->if Region.wanted o (yielded ops a.tmps)=true then Oper.wp P o a w K Q else K (a.put o.dst undef) w):wpAny P md ops Q (n+1) l a w:=by
 refine⟨fun h0=>xo,fun i b=>?_⟩;rw[H]at b;obtain rfl:=CS.1 b;exact wpOp_step c fun K d=>h K fun a w W=>d a w W
def U3{i:Nat}{a:Act}{w:World}(s:Nat)(S:World->Prop)(H:P.follows .mixedOrders=true)(h:Aa P .any ops Q S s ops.size (Array.replicate ops.size false) a w.drew):(Code.region i ops true).wp P Q a w:=wp_region_any H (h (Mg.none _)).any
theorem Aa.tk(i:Nat){o:Oper}{v:Value}{n:Nat}{l L:Array Bool}{a A:Act}{w:World}(b:S w)(h:Aa P md ops Q S s n L A w)(d:ops[i]?=some o:=by exact rfl)(e:Region.noSelect ops=true:=by kernel_rfl)(f:Region.free md ops l i=true:=by kernel_rfl)(r:(Region.ready md ops l).contains i=true:=by kernel_rfl)
 (g:Oj md ops i 40 s=true:=by kernel_rfl) (j:i≠s:=by decide) (k:∀c a w,Q (.panic c) (a.put o.dst v) w→Q (.panic c) a w:=by exact fun _ _ _ h=>h) (y:YieldsIf P ops S o v a:=by(refine Or.inl ⟨by rfl,?_⟩;intro W H;(try dsimp only at H);(try obtain⟨_,_,_,_⟩:=H);(try go_split_ands);(try dsimp only);go_simp;try with_reducible rfl))
 (m:l.setIfInBounds i true=L:=by rfl) (p:a.put o.dst v=A:=by(simp only[Act.put];rfl)):Aa P md ops Q S s (n+1) l a w:=Aa.take d e f r g j k y b (by rw[m,p];exact h)
theorem Aa.tu(i:Nat){o:Oper}{v:Value}{n:Nat}{l L:Array Bool}{a A:Act}{w:World}(H:S w)(h:Aa P md ops Q S s n L A w)(b:ops[i]?=some o:=by exact rfl)(d:Region.noSelect ops=true:=by kernel_rfl)(f:Region.free md ops l i=true:=by kernel_rfl)(r:(Region.ready md ops l).contains i=true:=by kernel_rfl)
 (e:i≠s:=by decide) (g:∀c a w,Q (.panic c) (a.put o.dst v) w→Q (.panic c) a w:=by exact fun _ _ _ h=>h) (y:Yields P ops o v a:=by(refine Or.inl ⟨by rfl,?_⟩;intro W;(try dsimp only);go_simp;try with_reducible rfl))
 (j:l.setIfInBounds i true=L:=by rfl) (k:a.put o.dst v=A:=by(simp only[Act.put];rfl)):Aa P md ops Q S s (n+1) l a w:=Aa.iF b d f r e g y H (by rw[j,k];exact h)
theorem Nu(i:Nat){o:Oper}{v:Value}{n:Nat}{l L:Array Bool}{a A:Act}{w:World}(h:wpAny P md ops Q n L A w)(H:ops[i]?=some o:=by exact rfl)(b:Region.noSelect ops=true:=by kernel_rfl)(f:Region.free md ops l i=true:=by kernel_rfl)(r:(Region.ready md ops l).contains i=true:=by kernel_rfl)
 (d:∀c a w,Q (.panic c) (a.put o.dst v) w->Q (.panic c) a w:=by exact fun _ _ _ h=>h) (y:Yields P ops o v a:=by(refine Or.inl ⟨ca,?_⟩;intro W;(try dsimp only);go_simp;try with_reducible rfl))
 (e:l.setIfInBounds i true=L:=by rfl) (g:a.put o.dst v=A:=by(simp only[Act.put];rfl)):wpAny P md ops Q (n+1) l a w:=wpAny_take H b f r d y (by rw[e,g];exact h)
end
end Go.Proofs.YtignjjnflcpiiaaGreatDoor
