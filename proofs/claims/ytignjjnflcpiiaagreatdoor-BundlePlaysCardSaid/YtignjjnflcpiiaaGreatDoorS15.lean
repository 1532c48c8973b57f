/- address.Dots gives a path without its dots. Condition: th -/
import Derived.Test.YtignjjnflcpiiaaGreatDoorS09
import Derived.Test.YtignjjnflcpiiaaGreatDoorS10
import Derived.Test.YtignjjnflcpiiaaGreatDoorS11
set_option linter.all false
set_option maxHeartbeats 4000000
set_option maxRecDepth 100000
namespace Go.Proofs.YtignjjnflcpiiaaGreatDoor
open Go Go.RowKit Proofs.Tryz Lib
theorem P7(p:Bs)(w:World)(T:p.length<4294967281)(U:Cb w):Calls prog 111 #[.string ⟨p.toArray⟩] w fun e X=>e=.returned (.string ⟨(G7 p).toArray⟩)∧Below w.heap.size w X:=by
 have S:=Uw p 47 w T U;have Y:(Bo 47 p).length≤p.length+1:=by rw[Q1];have:=GM (a:=(47:UInt8)) (l:=p);omega
 have Z:0<(Bo 47 p).length:=BE.2 (N3 47 p);have D:Hid (G7 p=join (F1 (Bo 47 p) (Bo 47 p).length) [47]):=AB rfl;generalize Bo 47 p=l at S Y Z D;go_enter func111,ntmps111;go_wp2_with fail;refine S.mono ?_;rintro e w1⟨rfl,rfl⟩;go_wp2_with fail;go_loopw[3,13] (fun v i wr=>∃k:Nat,k≤l.length∧i=.int .i64 k∧Cg wr (w.heap.size+1) v (F1 l k)∧A1 wr w.heap.size (Fk l) 9∧Below w.heap.size w wr) (fun _ i _=>l.length-(intOf i).toNat)
 case atStart=>exact⟨0,CX _,rfl,GG _ _ _ _,A1.new _ _ _,by go_grown⟩
 obtain⟨k,hk,rfl,n,b,H⟩:=hrel;have a6:=b.lt;by_cases L:k<l.length
 ·have hc:wr.cell? ⟨w.heap.size,k,none⟩=some (.string ⟨(l[k]).toArray⟩):=by rw[b.cell];simp[Fk,L]
  have r:=Qu l k;have m:=W3 L;generalize l[k]=s at hc m;generalize F1 l k=o at n r m;by_cases G:k+1=l.length
  ·have a0:((k:Int)+1==(l.length:Int))=true:=by rw[BG];omega
   have E:(k+1==l.length)=true:=by rw[BG];exact G
   rw[E]at m;clear G E;have t:=AB m;clear m;by_cases u:s=[46]
   ·subst u;go_wp2_with(at_builtin;refine G3 rfl _ _ rfl (w.heap.size+1) _ o [] wr.heap.size rfl (n.alloc _) rfl ?_ (by omega) (by go_size) ?_);all_goals first
     |(exact(A1.new _ _ _).cell 0)
     |(
      intro V W c q h;go_wp2_with fail;go_roundw
      case rel=>exact⟨k+1,by omega,by go_num,by rw[t.o,Sq _ true];exact c,(b.alloc _).next h (by omega),(H.alloc H.size _).trans (h.mono (by omega))⟩
      simp[intOf];omega)
   by_cases F:s=[]
   ·subst F;go_wp2_with(at_builtin;refine G3 rfl _ _ rfl (w.heap.size+1) _ o [] wr.heap.size rfl (n.alloc _) rfl ?_ (by omega) (by go_size) ?_);all_goals first
     |(exact(A1.new _ _ _).cell 0)
     |(
      intro V W c q h;go_wp2_with fail;go_roundw
      case rel=>exact⟨k+1,by omega,by go_num,by rw[t.o,Sr _ true _ (Or.inr rfl)];exact c,(b.alloc _).next h (by omega),(H.alloc H.size _).trans (h.mono (by omega))⟩
      simp[intOf];omega)
   have a1:(s==[46])=false:=by rw[AG];exact u
   by_cases z:s=[46,46]
   ·subst z;rcases DE o with d|⟨O,y,d⟩
    ·subst d;obtain⟨M,N,rfl⟩:=n.shape;simp only[BN]at n;go_wp2_with(at_builtin;refine G3 rfl _ _ rfl (w.heap.size+1) _ [] [] wr.heap.size rfl (n.alloc _) rfl ?_ (by decide) (by go_size) ?_);all_goals first
      |(exact(A1.new _ _ _).cell 0)
      |(
       intro V W c q h;go_wp2_with fail;go_roundw
       case rel=>exact⟨k+1,by omega,by go_num,by rw[t.o,I0 _ true,AM rfl,Ss];exact c,(b.alloc _).next h (by omega),(H.alloc H.size _).trans (h.mono (by omega))⟩
       simp[intOf];omega)
    rw[DF]at d;subst d;obtain⟨g,I,rfl,J,P,C,f⟩:=n.Oj;rw[AH]at r;simp only[AO,BN]at r;by_cases A:O=[]
    ·subst A;have a2:=f 0 y rfl;clear f;by_cases B:y=[]
     ·subst B;go_wp2_with(at_builtin;refine G3 rfl _ _ rfl (w.heap.size+1) _ [[]] [] wr.heap.size rfl (n.alloc _) rfl ?_ (by decide) (by go_size) ?_);all_goals first
       |(exact(A1.new _ _ _).cell 0)
       |(
        intro V W c q h;go_wp2_with fail;go_roundw
        case rel=>exact⟨k+1,by omega,by go_num,by rw[t.o,I0 _ true,AM rfl,DK,St];exact c,(b.alloc _).next h (by omega),(H.alloc H.size _).trans (h.mono (by omega))⟩
        simp[intOf];omega)
     have a3:y.isEmpty=false:=by rw[AP];simpa using B
     go_wp2_with(at_builtin;refine G3 rfl _ _ rfl (w.heap.size+1) _ [] [] wr.heap.size rfl (C.alloc _) rfl ?_ (by decide) (by go_size) ?_);all_goals first
      |(exact(A1.new _ _ _).cell 0)
      |(
       intro V W c q h;go_wp2_with fail;go_roundw
       case rel=>exact⟨k+1,by omega,by go_num,by rw[t.o,I0 _ true,AM rfl,Mv (Or.inr B)];exact c,(b.alloc _).next h (by omega),(H.alloc H.size _).trans (h.mono (by omega))⟩
       simp[intOf];omega)
    have a4:0<O.length:=BE.2 A;clear f;go_wp2_with(at_builtin;refine G3 rfl _ _ rfl (w.heap.size+1) _ O [] wr.heap.size rfl (C.alloc _) rfl ?_ (by omega) (by go_size) ?_);all_goals first
     |(exact(A1.new _ _ _).cell 0)
     |(
      intro V W c q h;go_wp2_with fail;go_roundw
      case rel=>exact⟨k+1,by omega,by go_num,by rw[t.o,I0 _ true,AM rfl,Mv (Or.inl A)];exact c,(b.alloc _).next h (by omega),(H.alloc H.size _).trans (h.mono (by omega))⟩
      simp[intOf];omega)
   have a5:(s==[46,46])=false:=by rw[AG];exact z
   go_wp2_with(at_builtin;refine G3 rfl _ _ rfl (w.heap.size+1) _ o s wr.heap.size rfl (n.alloc _) rfl ?_ (by omega) (by go_size) ?_);all_goals first
    |(exact(A1.new _ _ _).cell 0)
    |(
     intro V W c q h;go_wp2_with fail;go_roundw
     case rel=>exact⟨k+1,by omega,by go_num,by rw[t.o,Su _ _ _ _ u F z];exact c,(b.alloc _).next h (by omega),(H.alloc H.size _).trans (h.mono (by omega))⟩
     simp[intOf];omega)
  have a0:((k:Int)+1==(l.length:Int))=false:=by rw[AG];omega
  have E:(k+1==l.length)=false:=by rw[AG];exact G
  rw[E]at m;clear G E;have t:=AB m;clear m;by_cases u:s=[46]
  ·subst u;go_wp2_with fail;all_goals
    go_roundw
    case rel=>exact⟨k+1,by omega,by go_num,by rw[t.o,Sq _ false];exact n,b,H⟩
    simp[intOf];omega
  by_cases F:s=[]
  ·subst F;by_cases h0:0<k
   ·have K:(k==0)=false:=by rw[AG];omega
    go_wp2_with fail;all_goals
     go_roundw
     case rel=>exact⟨k+1,by omega,by go_num,by rw[t.o,K,bG];exact n,b,H⟩
     simp[intOf];omega
   have K:(k==0)=true:=by rw[BG];omega
   go_wp2_with(at_builtin;refine G3 rfl _ _ rfl (w.heap.size+1) _ o [] wr.heap.size rfl (n.alloc _) rfl ?_ (by omega) (by go_size) ?_);all_goals first
    |(exact(A1.new _ _ _).cell 0)
    |(
     intro V W c q h;go_wp2_with fail;go_roundw
     case rel=>exact⟨k+1,by omega,by go_num,by rw[t.o,K,Sr true _ _ (Or.inl rfl)];exact c,(b.alloc _).next h (by omega),(H.alloc H.size _).trans (h.mono (by omega))⟩
     simp[intOf];omega)
  have a1:(s==[46])=false:=by rw[AG];exact u
  by_cases z:s=[46,46]
  ·subst z;rcases DE o with d|⟨O,y,d⟩
   ·subst d;obtain⟨M,N,rfl⟩:=n.shape;simp only[BN]at n;go_wp2_with fail;all_goals
     go_roundw
     case rel=>exact⟨k+1,by omega,by go_num,by rw[t.o,I0 _ false,AI (by decide),Ss];exact n,b,H⟩
     simp[intOf];omega
   rw[DF]at d;subst d;obtain⟨g,I,rfl,J,P,C,f⟩:=n.Oj;rw[AH]at r;simp only[AO,BN]at r;by_cases A:O=[]
   ·subst A;have a2:=f 0 y rfl;clear f;by_cases B:y=[]
    ·subst B;go_wp2_with fail;all_goals
      go_roundw
      case rel=>exact⟨k+1,by omega,by go_num,by rw[t.o,I0 _ false,AI (by decide),DK,St];exact n,b,H⟩
      simp[intOf];omega
    have a3:y.isEmpty=false:=by rw[AP];simpa using B
    go_wp2_with fail;all_goals
     go_roundw
     case rel=>exact⟨k+1,by omega,by go_num,by rw[t.o,I0 _ false,AI (by decide),Mv (Or.inr B)];exact C,b,H⟩
     simp[intOf];omega
   have a4:0<O.length:=BE.2 A;clear f;go_wp2_with fail;all_goals
    go_roundw
    case rel=>exact⟨k+1,by omega,by go_num,by rw[t.o,I0 _ false,AI (by decide),Mv (Or.inl A)];exact C,b,H⟩
    simp[intOf];omega
  have a5:(s==[46,46])=false:=by rw[AG];exact z
  go_wp2_with(at_builtin;refine G3 rfl _ _ rfl (w.heap.size+1) _ o s wr.heap.size rfl (n.alloc _) rfl ?_ (by omega) (by go_size) ?_);all_goals first
   |(exact(A1.new _ _ _).cell 0)
   |(
    intro V W c q h;go_wp2_with fail;go_roundw
    case rel=>exact⟨k+1,by omega,by go_num,by rw[t.o,Su _ _ _ _ u F z];exact c,(b.alloc _).next h (by omega),(H.alloc H.size _).trans (h.mono (by omega))⟩
    simp[intOf];omega)
 obtain rfl:k=l.length:=by omega
 have Q:(join (F1 l l.length) [47]).length≤140737488355328:=by
  rw[←D.o];have:=Sv p;omega
 have r:=Qu l l.length;generalize F1 l l.length=o at n r Q D;rcases DE o with d|⟨O,y,d⟩
 ·subst d;obtain⟨M,N,rfl⟩:=n.shape;go_wp2_with fail;refine(Uy _ _ _ _).mono ?_;rintro e W⟨rfl,rfl⟩;go_wp2_with fail;go_ret;exact⟨Gx D.o.symm,H⟩
 rw[DF]at d;subst d;obtain⟨g,I,rfl,J,P,C,f⟩:=n.Oj;have R:=Ux g 0 I (O++[y]) [47] wr (fun j x hj=>by rw[EX];exact f j x hj) (AY wr _ (f O.length y (by simp))) (by omega) (by simpa using J) Q;rw[AH]at R;clear f;go_wp2_with fail;refine R.mono ?_;rintro e W⟨rfl,h⟩;go_wp2_with fail;go_ret;exact⟨Gx D.o.symm,H.trans (h.mono H.size)⟩
theorem tZ(b a:A3)(w:World)(l:a.path.length≤2147483648)(i:Cb w)(d:a.scheme≠[]):Calls prog 50 #[b.val,a.val] w fun e W=>e=.returned (Be b a).val∧Below w.heap.size w W:=by
 obtain⟨s,h,u,p,H,q,c,f⟩:=a;simp only at l d;have j:=AB (show Be b ⟨s,h,u,p,H,q,c,f⟩=⟨s,h,u,G7 p,H,q,c,f⟩from AM d);have k:s.isEmpty=false:=by rw[AP];simpa using d
 have o:(!s.isEmpty)=true:=by rw[k];rfl
 go_enter func50,ntmps50;go_wp2_with fail;refine(P7 p _ (by omega) (i.next (by go_grown))).mono ?_;rintro e m⟨rfl,g⟩;have r:=((A1.new (w.alloc (.cells b.cells 36)) (A3.cells ⟨s,h,u,p,H,q,c,f⟩) 36).alloc (.cells Bb 36)).next g (by go_size);have R:=(A1.new ((w.alloc (.cells b.cells 36)).alloc (.cells (A3.cells ⟨s,h,u,p,H,q,c,f⟩) 36)) Bb 36).next g (by go_size);rw[AV]at r;rw[AV,AV]at R;have B:Below w.heap.size w m:=((((AD _ w).alloc (AC _) _).alloc (by go_size) _).alloc (by go_size) _).trans (g.mono (by go_size));have t:=r.cell;have x:=r.free;have n:=R.cell;have y:=R.free;have z:=r.lt;have A:=R.lt;go_wp2_with fail;refine AL (v:=(Be b ⟨s,h,u,p,H,q,c,f⟩).val) (by rw[j.o];simp[results,results50,go_sem,n]) rfl ⟨rfl,by go_grown⟩
theorem uA(b a:A3)(w:World)(C:a.path.length≤2147483648)(D:Cb w)(x:a.scheme=[])(y:a.hasAuth=true):Calls prog 50 #[b.val,a.val] w fun e E=>e=.returned (Be b a).val∧Below w.heap.size w E:=by
 obtain⟨s,N,u,p,h,q,H,f⟩:=a;obtain⟨c,d,g,i,j,k,l,m⟩:=b;simp only at C x y;subst x;subst y;have F:=AB (by rfl:Be ⟨c,d,g,i,j,k,l,m⟩ ⟨[],true,u,p,h,q,H,f⟩=⟨c,true,u,G7 p,h,q,H,f⟩);go_enter func50,ntmps50;go_upto_region 1 with fail;go_cut[7] (fun S W=>S=.bool false∧A1 W w.heap.size (A3.cells ⟨c,d,g,i,j,k,l,m⟩) 36∧A1 W (w.heap.size+1) (A3.cells ⟨[],true,u,p,h,q,H,f⟩) 36∧A1 W (w.heap.size+2) Bb 36∧Below w.heap.size w W)
 case first=>
  have r:=((A1.new (w.alloc (.cells (A3.cells ⟨c,d,g,i,j,k,l,m⟩) 36)) (A3.cells ⟨[],true,u,p,h,q,H,f⟩) 36).alloc (.cells Bb 36));have R:=(A1.new ((w.alloc (.cells (A3.cells ⟨c,d,g,i,j,k,l,m⟩) 36)).alloc (.cells (A3.cells ⟨[],true,u,p,h,q,H,f⟩) 36)) Bb 36);rw[AV]at r;rw[AV,AV]at R;go_wp2_with fail;go_meet;exact⟨rfl,((A1.new w (A3.cells ⟨c,d,g,i,j,k,l,m⟩) 36).alloc _).alloc _,r,R,by go_grown⟩
 obtain⟨rfl,n,r,R,B⟩:=hcut;obtain⟨o,rfl⟩:∃o:World,o=wc:=⟨_,rfl⟩;have G:=n.cell;have z:=r.cell;have I:=r.free;have J:=n.lt;have t:=r.lt;have A:=R.lt;go_upto_region 5 with fail;go_cut[7] (fun O W=>A1 W (w.heap.size+1) (A3.cells ⟨c,true,u,G7 p,h,q,H,f⟩) 36∧A1 W (w.heap.size+2) Bb 36∧Below w.heap.size w W)
 case first=>
  go_region_with ((refine(P7 _ _ (by omega) (D.next (by first|exact B|exact B.drew|exact B.drew.drew|exact B.drew.drew.drew|exact B.drew.drew.drew.drew))).mono ?_);(rintro e P⟨rfl,L⟩);(have K:=C4 L (w0:=o) (by repeat (first|exact AD _ _|assumption|refine Below.drew ?_)));(have G:=(n.next K J).cell);(have z:=(r.next K t).cell);(have I:=(r.next K t).free))
  all_goals go_wp2_with fail
  all_goals
   go_meet;refine⟨((r.next K t).set 0 (.string ⟨c.toArray⟩)).set 3 (.string ⟨(G7 p).toArray⟩),((R.next K A).A6 (a:=⟨w.heap.size+1,0,none⟩) (by simp) (.string ⟨c.toArray⟩)).A6 (a:=⟨w.heap.size+1,3,none⟩) (by simp) (.string ⟨(G7 p).toArray⟩),?_⟩;have Q:=B.trans (K.mono B.size);go_grown
 obtain⟨r,R,B⟩:=hcut;have z:=r.cell;have T:=R.free;have M:=R.cell;have A:=R.lt;go_wp2_with fail;refine AL (v:=(Be ⟨c,d,g,i,j,k,l,m⟩ ⟨[],true,u,p,h,q,H,f⟩).val) (by rw[F.o];simp[results,results50,go_sem,M]) rfl ⟨rfl,by go_grown⟩
theorem uB(b:A3)(u q f:Bs)(h H:Bool)(w:World):Calls prog 50 #[b.val,(A3.val ⟨[],false,u,[],h,q,H,f⟩)] w fun e D=>e=.returned (Be b ⟨[],false,u,[],h,q,H,f⟩).val∧Below w.heap.size w D:=by
 obtain⟨s,c,d,p,g,i,j,k⟩:=b;have m:=AB (by rfl:Be ⟨s,c,d,p,g,i,j,k⟩ ⟨[],false,u,[],h,q,H,f⟩=⟨s,c,d,p,if h then true else g,if h then q else i,H,f⟩);go_enter func50,ntmps50;go_upto_region 1 with fail;go_cut[7] (fun S W=>S=.bool false∧A1 W w.heap.size (A3.cells ⟨s,c,d,p,g,i,j,k⟩) 36∧A1 W (w.heap.size+1) (A3.cells ⟨[],false,u,[],h,q,H,f⟩) 36∧A1 W (w.heap.size+2) Bb 36∧Below w.heap.size w W)
 case first=>
  have r:=((A1.new (w.alloc (.cells (A3.cells ⟨s,c,d,p,g,i,j,k⟩) 36)) (A3.cells ⟨[],false,u,[],h,q,H,f⟩) 36).alloc (.cells Bb 36));have R:=(A1.new ((w.alloc (.cells (A3.cells ⟨s,c,d,p,g,i,j,k⟩) 36)).alloc (.cells (A3.cells ⟨[],false,u,[],h,q,H,f⟩) 36)) Bb 36);rw[AV]at r;rw[AV,AV]at R;go_wp2_with fail;go_meet;exact⟨rfl,((A1.new w (A3.cells ⟨s,c,d,p,g,i,j,k⟩) 36).alloc _).alloc _,r,R,by go_grown⟩
 obtain⟨rfl,l,r,R,B⟩:=hcut;obtain⟨n,rfl⟩:∃n:World,n=wc:=⟨_,rfl⟩;have o:=l.cell;have t:=r.cell;have x:=r.free;have y:=l.lt;have z:=r.lt;have A:=R.lt;go_upto_region 7 with fail;go_cut[7] (fun E W=>A1 W w.heap.size (A3.cells ⟨s,c,d,p,g,i,j,k⟩) 36∧A1 W (w.heap.size+1) (A3.cells ⟨s,c,d,[],h,q,H,f⟩) 36∧A1 W (w.heap.size+2) Bb 36∧Below w.heap.size w W)
 case first=>
  go_region;all_goals go_wp2_with fail
  all_goals
   go_meet;exact⟨((l.A6 (a:=⟨w.heap.size+1,0,none⟩) (by simp) (.string ⟨s.toArray⟩)).A6 (a:=⟨w.heap.size+1,1,none⟩) (by simp) (.bool c)).A6 (a:=⟨w.heap.size+1,2,none⟩) (by simp) (.string ⟨d.toArray⟩),((r.set 0 (.string ⟨s.toArray⟩)).set 1 (.bool c)).set 2 (.string ⟨d.toArray⟩),((R.A6 (a:=⟨w.heap.size+1,0,none⟩) (by simp) (.string ⟨s.toArray⟩)).A6 (a:=⟨w.heap.size+1,1,none⟩) (by simp) (.bool c)).A6 (a:=⟨w.heap.size+1,2,none⟩) (by simp) (.string ⟨d.toArray⟩),by go_grown⟩
 clear o t x y z A l r R B;obtain⟨l,r,R,B⟩:=hcut;have o:=l.cell;have t:=r.cell;have x:=r.free;have y:=l.lt;have z:=r.lt;have A:=R.lt;have F:=R.free;have C:=R.cell;go_upto_if 45 with fail;cases h with
 |true=>
  go_wp2_with fail;refine AL (v:=(Be ⟨s,c,d,p,g,i,j,k⟩ ⟨[],false,u,[],true,q,H,f⟩).val) (by rw[m.o];simp[results,results50,go_sem,C]) rfl ⟨rfl,by go_grown⟩
 |false=>
  go_wp2_with fail;go_region;all_goals go_wp2_with fail
  all_goals
   refine AL (v:=(Be ⟨s,c,d,p,g,i,j,k⟩ ⟨[],false,u,[],false,q,H,f⟩).val) (by rw[m.o];simp[results,results50,go_sem,C]) rfl ⟨rfl,by go_grown⟩
theorem uC(b:A3)(u q f:Bs)(h H:Bool){l:Bs}(M:l.length≤2147483648)(w:World):Cb w→Calls prog 50 #[b.val,(A3.val ⟨[],false,u,(47::l),h,q,H,f⟩)] w fun e G=>e=.returned (Be b ⟨[],false,u,(47::l),h,q,H,f⟩).val∧Below w.heap.size w G:=by
 obtain⟨s,c,d,p,i,j,k,m⟩:=b;intro I;have J:=AB (by rfl:Be ⟨s,c,d,p,i,j,k,m⟩ ⟨[],false,u,47::l,h,q,H,f⟩=⟨s,c,d,G7 (47::l),h,q,H,f⟩);go_enter func50,ntmps50;go_upto_region 1 with fail;go_cut[7] (fun L W=>L=.bool false∧A1 W w.heap.size (A3.cells ⟨s,c,d,p,i,j,k,m⟩) 36∧A1 W (w.heap.size+1) (A3.cells ⟨[],false,u,47::l,h,q,H,f⟩) 36∧A1 W (w.heap.size+2) Bb 36∧Below w.heap.size w W)
 case first=>
  have r:=((A1.new (w.alloc (.cells (A3.cells ⟨s,c,d,p,i,j,k,m⟩) 36)) (A3.cells ⟨[],false,u,47::l,h,q,H,f⟩) 36).alloc (.cells Bb 36));have R:=(A1.new ((w.alloc (.cells (A3.cells ⟨s,c,d,p,i,j,k,m⟩) 36)).alloc (.cells (A3.cells ⟨[],false,u,47::l,h,q,H,f⟩) 36)) Bb 36);rw[AV]at r;rw[AV,AV]at R;go_wp2_with fail;go_meet;exact⟨rfl,((A1.new w (A3.cells ⟨s,c,d,p,i,j,k,m⟩) 36).alloc _).alloc _,r,R,by go_grown⟩
 obtain⟨rfl,g,r,R,B⟩:=hcut;obtain⟨E,rfl⟩:∃E:World,E=wc:=⟨_,rfl⟩;have y:=g.cell;have t:=r.cell;have x:=r.free;have z:=g.lt;have n:=r.lt;have o:=R.lt;go_upto_region 7 with fail;go_cut[7] (fun N W=>A1 W w.heap.size (A3.cells ⟨s,c,d,p,i,j,k,m⟩) 36∧A1 W (w.heap.size+1) (A3.cells ⟨s,c,d,47::l,h,q,H,f⟩) 36∧A1 W (w.heap.size+2) Bb 36∧Below w.heap.size w W)
 case first=>
  go_region;all_goals go_wp2_with fail
  all_goals
   go_meet;exact⟨((g.A6 (a:=⟨w.heap.size+1,0,none⟩) (by simp) (.string ⟨s.toArray⟩)).A6 (a:=⟨w.heap.size+1,1,none⟩) (by simp) (.bool c)).A6 (a:=⟨w.heap.size+1,2,none⟩) (by simp) (.string ⟨d.toArray⟩),((r.set 0 (.string ⟨s.toArray⟩)).set 1 (.bool c)).set 2 (.string ⟨d.toArray⟩),((R.A6 (a:=⟨w.heap.size+1,0,none⟩) (by simp) (.string ⟨s.toArray⟩)).A6 (a:=⟨w.heap.size+1,1,none⟩) (by simp) (.bool c)).A6 (a:=⟨w.heap.size+1,2,none⟩) (by simp) (.string ⟨d.toArray⟩),by go_grown⟩
 clear y t x z n o g r R B;obtain⟨g,r,R,B⟩:=hcut;have y:=g.cell;have t:=r.cell;have x:=r.free;have z:=g.lt;have n:=r.lt;have o:=R.lt;have F:=R.free;have A:=R.cell;go_wp2_with fail;refine(P7 (47::l) _ (by simp;omega) (I.next B)).mono ?_;rintro e O⟨rfl,C⟩;have S:=r.next C n;have D:=R.next C o;have K:=B.trans (C.mono B.size);clear y t x F A g r R B z n o;have t:=S.cell;have x:=S.free;have A:=D.cell;have F:=D.free;have n:=S.lt;have o:=D.lt;go_wp2_with fail;refine AL (v:=(Be ⟨s,c,d,p,i,j,k,m⟩ ⟨[],false,u,47::l,h,q,H,f⟩).val) (by rw[J.o];simp[results,results50,go_sem,A]) rfl ⟨rfl,by go_grown⟩
theorem uD(b:A3)(u q f:Bs)(H o:Bool){c:UInt8}{l:Bs}(P:c≠47)(hl:l.length≤1073741824)(Q:b.path.length≤1073741824)(w:World):Cb w→Calls prog 50 #[b.val,(A3.val ⟨[],false,u,(c::l),H,q,o,f⟩)] w fun e X=>e=.returned (Be b ⟨[],false,u,(c::l),H,q,o,f⟩).val∧Below w.heap.size w X:=by
 obtain⟨s,h,g,d,i,j,m,n⟩:=b;intro N;simp only at Q;have O:=AB (show Be ⟨s,h,g,d,i,j,m,n⟩ ⟨[],false,u,c::l,H,q,o,f⟩=⟨s,h,g,G7 (Jg ⟨s,h,g,d,i,j,m,n⟩++c::l),H,q,o,f⟩from AI P);have Y:=W4 ⟨s,h,g,d,i,j,m,n⟩;simp only at Y;have Z:((c.toNat:Int)==47)=false:=by
  rw[AG];intro e;apply P;apply BJ.1;show c.toNat=47;omega
 have a2:((c.toNat:Int)!=47)=true:=by simp only[bne,Z];rfl
 have G:=bI d 47;have T:=fun w=>nM d 47 w (by omega)
 have M:Hid (Jg ⟨s,h,g,d,i,j,m,n⟩=if h&&d.isEmpty then[47]else d.take (lastIndexByte ⟨d.toArray⟩ 47+1).toNat):=AB rfl;generalize lastIndexByte ⟨d.toArray⟩ 47=k at G T M;go_enter func50,ntmps50;go_upto_region 1 with fail;go_cut[7] (fun s7 W=>s7=.bool false∧A1 W w.heap.size (A3.cells ⟨s,h,g,d,i,j,m,n⟩) 36∧A1 W (w.heap.size+1) (A3.cells ⟨[],false,u,c::l,H,q,o,f⟩) 36∧A1 W (w.heap.size+2) Bb 36∧Below w.heap.size w W)
 case first=>
  have r:=((A1.new (w.alloc (.cells (A3.cells ⟨s,h,g,d,i,j,m,n⟩) 36)) (A3.cells ⟨[],false,u,c::l,H,q,o,f⟩) 36).alloc (.cells Bb 36));have R:=(A1.new ((w.alloc (.cells (A3.cells ⟨s,h,g,d,i,j,m,n⟩) 36)).alloc (.cells (A3.cells ⟨[],false,u,c::l,H,q,o,f⟩) 36)) Bb 36);rw[AV]at r;rw[AV,AV]at R;go_wp2_with fail;go_meet;exact⟨rfl,((A1.new w (A3.cells ⟨s,h,g,d,i,j,m,n⟩) 36).alloc _).alloc _,r,R,by go_grown⟩
 obtain⟨rfl,z,r,R,B⟩:=hcut;obtain⟨U,rfl⟩:∃U:World,U=wc:=⟨_,rfl⟩;have J:=z.cell;have C:=r.cell;have D:=r.free;have L:=z.lt;have E:=r.lt;have F:=R.lt;go_upto_region 7 with fail;go_cut[7] (fun a3 W=>A1 W w.heap.size (A3.cells ⟨s,h,g,d,i,j,m,n⟩) 36∧A1 W (w.heap.size+1) (A3.cells ⟨s,h,g,c::l,H,q,o,f⟩) 36∧A1 W (w.heap.size+2) Bb 36∧Below w.heap.size w W)
 case first=>
  go_region;all_goals go_wp2_with fail
  all_goals
   go_meet;exact⟨((z.A6 (a:=⟨w.heap.size+1,0,none⟩) (by simp) (.string ⟨s.toArray⟩)).A6 (a:=⟨w.heap.size+1,1,none⟩) (by simp) (.bool h)).A6 (a:=⟨w.heap.size+1,2,none⟩) (by simp) (.string ⟨g.toArray⟩),((r.set 0 (.string ⟨s.toArray⟩)).set 1 (.bool h)).set 2 (.string ⟨g.toArray⟩),((R.A6 (a:=⟨w.heap.size+1,0,none⟩) (by simp) (.string ⟨s.toArray⟩)).A6 (a:=⟨w.heap.size+1,1,none⟩) (by simp) (.bool h)).A6 (a:=⟨w.heap.size+1,2,none⟩) (by simp) (.string ⟨g.toArray⟩),by go_grown⟩
 clear J C D L E F z r R B;obtain⟨z,r,R,B⟩:=hcut;have J:=z.cell;have C:=r.cell;have D:=r.free;have L:=z.lt;have E:=r.lt;have F:=R.lt;have I:=R.free;have A:=R.cell;go_wp2_with fail;refine(T _).mono ?_;rintro e w2⟨rfl,rfl⟩;cases h with
 |false=>
  go_wp2_with fail;refine(P7 _ _ (by simp;omega) (N.next (by go_grown))).mono ?_;rintro e V⟨rfl,t⟩;have S:=(r.set 3 _).next t (by go_size);have y:=(R.A6 (a:=⟨w.heap.size+1,3,none⟩) (by simp) _).next t (by go_size);have K:=(B.setCell (p:=⟨w.heap.size+1,3,none⟩) (by simp) _).trans (t.mono (by have:=B.size;go_size));clear J C D I A z r R B L E F;have C:=S.cell;have D:=S.free;have A:=y.cell;have I:=y.free;have E:=S.lt;have F:=y.lt;go_wp2_with fail;refine AL (v:=(Be ⟨s,false,g,d,i,j,m,n⟩ ⟨[],false,u,c::l,H,q,o,f⟩).val) (by rw[O.o,M.o];simp[results,results50,go_sem,A]) rfl ⟨rfl,by go_grown⟩
 |true=>
  cases d with
  |nil=>
   have a0:-1≤k:=G.1;have a1:k<0:=G.2;clear G;go_wp2_with fail;refine(P7 _ _ (by simp;omega) (N.next (by go_grown))).mono ?_;rintro e V⟨rfl,t⟩;have S:=(r.set 3 _).next t (by go_size);have y:=(R.A6 (a:=⟨w.heap.size+1,3,none⟩) (by simp) _).next t (by go_size);have K:=(B.setCell (p:=⟨w.heap.size+1,3,none⟩) (by simp) _).trans (t.mono (by have:=B.size;go_size));clear J C D I A z r R B L E F;have C:=S.cell;have D:=S.free;have A:=y.cell;have I:=y.free;have E:=S.lt;have F:=y.lt;go_wp2_with fail;refine AL (v:=(Be ⟨s,true,g,[],i,j,m,n⟩ ⟨[],false,u,c::l,H,q,o,f⟩).val) (by rw[O.o,M.o];simp[results,results50,go_sem,A]) rfl ⟨rfl,by go_grown⟩
  |cons x d=>
   have a0:-1≤k:=G.1;have a1:k<(d.length:Int)+1:=G.2;clear G;have a4:d.length+1≤1073741824:=Q;go_wp2_with fail;refine(P7 _ _ (by simp;omega) (N.next (by go_grown))).mono ?_;rintro e V⟨rfl,t⟩;have S:=(r.set 3 _).next t (by go_size);have y:=(R.A6 (a:=⟨w.heap.size+1,3,none⟩) (by simp) _).next t (by go_size);have K:=(B.setCell (p:=⟨w.heap.size+1,3,none⟩) (by simp) _).trans (t.mono (by have:=B.size;go_size));clear J C D I A z r R B L E F;have C:=S.cell;have D:=S.free;have A:=y.cell;have I:=y.free;have E:=S.lt;have F:=y.lt;go_wp2_with fail;refine AL (v:=(Be ⟨s,true,g,(x::d),i,j,m,n⟩ ⟨[],false,u,c::l,H,q,o,f⟩).val) (by rw[O.o,M.o];simp[results,results50,go_sem,A]) rfl ⟨rfl,by go_grown⟩
theorem cQ(b a:A3)(w:World)(m:b.path.length≤1073741824)(j:a.path.length≤1073741824)(h:Cb w):Calls prog 50 #[b.val,a.val] w fun e W=>e=.returned (Be b a).val∧Below w.heap.size w W:=by
 by_cases H:a.scheme=[]
 ·cases d:a.hasAuth with
  |true=>exact uA b a w (by omega) h H d
  |false=>
   obtain⟨s,n,u,p,g,q,i,f⟩:=a;simp only at H d j;subst H;subst d;cases p with
   |nil=>exact uB b u q f g i w
   |cons c l=>
    have o:l.length+1≤1073741824:=j;by_cases k:c=47
    ·subst k;exact uC b u q f g i (by omega) w h
    exact uD b u q f g i k (by omega) m w h
 exact tZ b a w (by omega) h H
theorem uE(l:Bs):(H6 l).1.length+(H6 l).2.length≤l.length:=by
 unfold H6;cases h:Ab [58] l with
 |none=>simp
 |some x=>
  obtain⟨a,b⟩:=x;have e:=AF List.length (Ee h);simp at e;simp only;split
  ·simp only;omega
  simp
theorem uF(l:Bs):(L9 l).2.1.length+(L9 l).2.2.length≤l.length:=by
 unfold L9;split
 ·cases h:Ab [47] (l.drop 2)with
  |none=>simp
  |some x=>
   obtain⟨a,b⟩:=x;have e:=AF List.length (Ee h);simp at e;simp;omega
 simp
theorem My{s:Bs}{x:A3}(h:Cl s=some x):x.len≤3*s.length:=by
 unfold Cl at h;split at h
 ·cases h;have H:=Ow s [35];have a:=Ow (cut s [35]).1 [63];have b:=uE (cut (cut s [35]).1 [63]).1;have c:=uF (H6 (cut (cut s [35]).1 [63]).1).2;unfold Ls A3.len;simp only;omega
 cases h
theorem Qx(x y:A3):(Be x y).len≤2*x.len+2*y.len+4∧(Be x y).path.length≤2*x.len+2*y.len+4:=by
 have a:=Sv y.path;have h:=Sv (Jg x++y.path);have b:=W4 x;simp only[AH]at h;unfold Be A3.len;split
 ·simp only;omega
 split
 ·simp only;omega
 split
 ·cases q:y.hasQuery<;>simp<;>omega
 rename_i c l H;rw[H]at a h;rw[H];split<;>simp only<;>omega
theorem uG(x:A3):(Cd x).len≤x.len:=by unfold Cd A3.len A2;simp
theorem cR(s:Bs)(w:World)(a:s.length≤1000000000000):Calls prog 274 #[.string ⟨s.toArray⟩] w fun e W=>e=.returned (.bool (Fi s))∧Below w.heap.size w W:=by
 go_enter func274,ntmps274;go_wp2_with fail;go_loop[6] (fun i=>∃k:Nat,i=.int .i64 k∧k≤s.length∧s.all G1=(s.drop k).all G1) (fun i=>s.length-(intOf i).toNat)
 case atStart=>exact⟨0,rfl,by omega,by simp⟩
 obtain⟨k,rfl,d,l⟩:=hrel;have h:=AB l;clear l;by_cases c:k<s.length
 ·have A:=AB (Qc G1 c);have I:=AB (Yv s[k]);have f:(s[k].toNat:Int)<256:=by have:=s[k].toNat_lt;omega
  go_upto_region 4 with fail;go_cut[24] (fun t x=>t=.bool (!G1 s[k])∧x=w)
  case first=>
   go_wp2_with fail;all_goals
    go_meet;exact⟨by rw[I.o];first|(simp[*];done)|(simp[*];omega),rfl⟩
  obtain⟨rfl,rfl⟩:=hcut;generalize G1 s[k]=b at A⊢;cases b with
  |false=>
   go_wp2_with fail;go_ret;exact⟨Ba (by unfold Fi;rw[h.o,A.o];rfl),AD _ _⟩
  |true=>
   go_wp2_with fail
   go_round
   case rel=>exact⟨k+1,by go_num,by omega,by rw[h.o,A.o];rfl⟩
   simp[intOf];omega
 obtain rfl:k=s.length:=by omega
 have H:=AB (by unfold Fi;rw[h.o,AQ];rfl:Fi s=(trimS s [32,9]==s));go_wp2_with fail;with_reducible refine(Sy s _ a).mono ?_
 rintro e g⟨rfl,rfl⟩;go_wp2_with fail;go_ret;exact⟨Ba (by rw[H.o]),AD _ _⟩
theorem cS(v:Value)(l:List A4)(w:World)(r:C7 w v l)(c:L7 l):Calls prog 214 #[v] w fun e W=>e=.returned (.bool (Ca l))∧Below w.heap.size w W:=by
 have G:=c.1;have u:=AB c.2;clear c;obtain⟨a,I,rfl,g⟩:=r.open;have z:=AB g;clear g r;go_enter func214,ntmps214;go_wp2_with fail;go_loopw[7] (fun i wr=>∃k:Nat,i=.int .i64 k∧k≤l.length∧Ca l=Ca (l.drop k)∧Below w.heap.size w wr) (fun i _=>l.length-(intOf i).toNat)
 case atStart=>exact⟨0,rfl,by omega,by simp,AD _ _⟩
 obtain⟨k,rfl,J,j,B⟩:=hrel;have h:=AB j;clear j;by_cases t:k<l.length
 ·obtain⟨b,rfl,m,n,o⟩:=z.o k t;have d:=u.o l[k] (AN _);have H:=AB (by unfold Ca;rw[AE t,FA]:Ca (l.drop k)=(Eg l[k].1&&Fi l[k].2&&Ca (l.drop (k+1))));have C:=(B.cell (p:=⟨b,k*2,none⟩) m).trans n;have q:=(B.cell (p:=⟨b,k*2+1,none⟩) m).trans o;clear n o;generalize l[k]=f at d H C q;obtain⟨x,y⟩:=f;simp only at d H C q;obtain⟨A,D⟩:=d;go_wp2_with fail;refine(bK x _ A).mono ?_;rintro e W⟨rfl,rfl⟩;generalize Eg x=E at H⊢;cases E with
  |false=>
   go_wp2_with fail;go_ret;exact⟨Ba (by rw[h.o,H.o];rfl),B.alloc B.size _⟩
  |true=>
   go_wp2_with fail;refine(cR y _ D).mono ?_;rintro e K⟨rfl,s⟩;generalize Fi y=F at H⊢;cases F with
   |false=>
    go_wp2_with fail;go_ret;exact⟨Ba (by rw[h.o,H.o];rfl),(B.alloc B.size _).trans (s.mono (B.alloc B.size _).size)⟩
   |true=>
    go_wp2_with fail;go_roundw
    case rel=>exact⟨k+1,by go_num,by omega,by rw[h.o,H.o];rfl,(B.alloc B.size _).trans (s.mono (B.alloc B.size _).size)⟩
    simp[intOf];omega
 obtain rfl:k=l.length:=by omega
 go_wp2_with fail;go_ret;exact⟨Ba (by rw[h.o,AQ];rfl),B⟩
theorem P8(v:Value)(l:List A4)(s:Bs)(w:World)(r:C7 w v l)(c:L7 l)(I:s.length≤1000000000000):Calls prog 54 #[v,.string ⟨s.toArray⟩] w fun e W=>e=.returned (.tuple #[.string ⟨((Ai l s).getD []).toArray⟩,.bool (Ai l s).isSome])∧Below w.heap.size w W:=by
 have J:=c.1;have E:=AB c.2;clear c;obtain⟨a,L,rfl,o⟩:=r.open;have F:=AB o;clear o r;go_enter func54,ntmps54;go_wp2_with fail;go_loopw[10] (fun i wr=>∃k:Nat,i=.int .i64 k∧k≤l.length∧Ai l s=Ai (l.drop k) s∧Below w.heap.size w wr) (fun i _=>l.length-(intOf i).toNat)
 case atStart=>exact⟨0,rfl,by omega,by simp,AD _ _⟩
 obtain⟨k,rfl,M,q,B⟩:=hrel;have d:=AB q;clear q;by_cases t:k<l.length
 ·obtain⟨b,rfl,u,z,A⟩:=F.o k t;have g:=E.o l[k] (AN _);have D:=AB (by rw[AE t];rfl:Ai (l.drop k) s=if A2 l[k].1=A2 s then some l[k].2 else Ai (l.drop (k+1)) s);have C:=(B.cell (p:=⟨b,k*2,none⟩) u).trans z;have j:=(B.cell (p:=⟨b,k*2+1,none⟩) u).trans A;clear z A;generalize l[k]=f at g D C j;obtain⟨x,y⟩:=f;simp only at g D C j;obtain⟨N,O⟩:=g;have K:=A1.new wr #[.string ⟨x.toArray⟩,.string ⟨y.toArray⟩] 92;have B:=B.alloc B.size (.cells #[.string ⟨x.toArray⟩,.string ⟨y.toArray⟩] 92);go_wp2_with fail;refine(I1 x _ (by omega)).mono ?_;rintro e P⟨rfl,m⟩;have K:=K.next m K.lt;have B:=B.trans (m.mono B.size);clear m C j;go_wp2_with fail;refine(I1 s _ (by omega)).mono ?_;rintro e Q⟨rfl,n⟩;have K:=K.next n K.lt;have B:=B.trans (n.mono B.size);clear n;have R:=K.cell 1;by_cases h:A2 x=A2 s
  ·have G:(A2 x==A2 s)=true:=by rw[BG];exact h
   have H:=AB (by rw[d.o,D.o,AM h]:Ai l s=some y);clear h;go_wp2_with fail;go_ret2;exact⟨by rw[H.o];rfl,B⟩
  have G:(A2 x==A2 s)=false:=by rw[AG];exact h
  have H:=AB (by rw[d.o,D.o,AI h]:Ai l s=Ai (l.drop (k+1)) s);clear h;go_wp2_with fail;go_roundw
  case rel=>exact⟨k+1,by go_num,by omega,H.o,B⟩
  simp[intOf];omega
 obtain rfl:k=l.length:=by omega
 have H:=AB (by rw[d.o,AQ];rfl:Ai l s=none);go_wp2_with fail;go_ret2;exact⟨by rw[H.o];rfl,B⟩
theorem cT(v:Value)(l:List A4)(s:Bs)(w:World)(r:C7 w v l)(z:l.length≤1000000000000):Calls prog 56 #[v,.string ⟨s.toArray⟩] w fun e W=>e=.returned (.tuple #[.string ⟨((C5 l s).getD []).toArray⟩,.bool (C5 l s).isSome])∧Below w.heap.size w W:=by
 obtain⟨a,A,rfl,d⟩:=r.open;have q:=AB d;clear d r;go_enter func56,ntmps56;go_wp2_with fail;go_loopw[10] (fun i wr=>∃k:Nat,i=.int .i64 k∧k≤l.length∧C5 l s=C5 (l.drop k) s∧Below w.heap.size w wr) (fun i _=>l.length-(intOf i).toNat)
 case atStart=>exact⟨0,rfl,by omega,by simp,AD _ _⟩
 obtain⟨k,rfl,E,g,B⟩:=hrel;have c:=AB g;clear g;by_cases t:k<l.length
 ·obtain⟨b,rfl,j,m,n⟩:=q.o k t;have D:=AB (by rw[AE t];rfl:C5 (l.drop k) s=if l[k].1=s then some l[k].2 else C5 (l.drop (k+1)) s);have C:=(B.cell (p:=⟨b,k*2,none⟩) j).trans m;have o:=(B.cell (p:=⟨b,k*2+1,none⟩) j).trans n;clear m n;generalize l[k]=f at D C o;obtain⟨x,y⟩:=f;simp only at D C o;have K:=(A1.new wr #[.string ⟨x.toArray⟩,.string ⟨y.toArray⟩] 119).cell;have B:=B.alloc B.size (.cells #[.string ⟨x.toArray⟩,.string ⟨y.toArray⟩] 119);by_cases h:x=s
  ·have u:(x==s)=true:=by rw[BG];exact h
   have H:=AB (by rw[c.o,D.o,AM h]:C5 l s=some y);clear h;go_wp2_with fail;go_ret2;exact⟨by rw[H.o];rfl,B⟩
  have u:(x==s)=false:=by rw[AG];exact h
  have H:=AB (by rw[c.o,D.o,AI h]:C5 l s=C5 (l.drop (k+1)) s);clear h;go_wp2_with fail;go_roundw
  case rel=>exact⟨k+1,by go_num,by omega,H.o,B⟩
  simp[intOf];omega
 obtain rfl:k=l.length:=by omega
 have H:=AB (by rw[c.o,AQ];rfl:C5 l s=none);go_wp2_with fail;go_ret2;exact⟨by rw[H.o];rfl,B⟩
theorem uH:((List.range 256).all fun n=>Ac n.toUInt8==((decide ((33:Int)≤(n.toUInt8.toNat:Int))&&decide ((n.toUInt8.toNat:Int)≤126))&&!(decide (0≤indexByte Od n.toUInt8))))=true:=by kernel_rfl
theorem uI(c:UInt8):Ac c=((decide ((33:Int)≤(c.toNat:Int))&&decide ((c.toNat:Int)≤126))&&!(decide (0≤indexByte Od c))):=by
 have:=AW.1 uH c.toNat (BY.2 c.toNat_lt);rw[show c.toNat.toUInt8=c by simp]at this;exact BG.1 this
theorem P9(s:Bs)(w:World)(j:s.length≤1000000000000):Calls prog 125 #[.string ⟨s.toArray⟩] w fun e W=>e=.returned (.bool (Ae s))∧W=w:=by
 have T:=AB (Nl s);go_enter func125,ntmps125;go_wp2_with fail;go_loop[6] (fun i=>∃k:Nat,i=.int .i64 k∧k≤s.length∧s.all Ac=(s.drop k).all Ac) (fun i=>s.length-(intOf i).toNat)
 case atStart=>exact⟨0,rfl,by omega,by simp⟩
 obtain⟨k,rfl,m,l⟩:=hrel;have h:=AB l;clear l;by_cases d:k<s.length
 ·have A:=AB (Qc Ac d);have I:=AB (uI s[k]);have n:(s[k].toNat:Int)<256:=by have:=s[k].toNat_lt;omega
  have X:=Mi Od (s[k].toNat:Int) s[k] (by simp) w;unfold Od at X;go_upto_region 4 with fail;go_cut[21] (fun t x=>t=.bool (!Ac s[k])∧x=w)
  case first=>
   go_wp2_with fail;with_reducible refine(Jh _ _ _ _).mono ?_
   rintro e o⟨rfl,rfl⟩;generalize(decide ((33:Int)≤(s[k].toNat:Int))&&decide ((s[k].toNat:Int)≤126))=q at I⊢;cases q with
   |false=>
    go_wp2_with fail;go_meet;exact⟨by rw[I.o];rfl,rfl⟩
   |true=>
    go_wp2_with fail;with_reducible refine X.mono ?_
    rintro e p⟨rfl,rfl⟩;have a:=AB (by rw[I.o];rfl:Ac s[k]=!(decide (0≤indexByte [40,41,60,62,64,44,59,58,92,34,47,91,93,63,61] s[k])));generalize indexByte [40,41,60,62,64,44,59,58,92,34,47,91,93,63,61] s[k]=z at a⊢;go_wp2_with fail;go_meet;exact⟨by rw[a.o];simp,rfl⟩
  obtain⟨rfl,rfl⟩:=hcut;generalize Ac s[k]=b at A⊢;cases b with
  |false=>
   have f:=AB (by rw[T.o,h.o,A.o];simp:Ae s=false);go_wp2_with fail;go_ret;exact⟨Ba f.o.symm,rfl⟩
  |true=>
   go_wp2_with fail
   go_round
   case rel=>exact⟨k+1,by go_num,by omega,by rw[h.o,A.o];rfl⟩
   simp[intOf];omega
 obtain rfl:k=s.length:=by omega
 have H:=AB (by rw[T.o,h.o,AQ];simp:Ae s=!s.isEmpty);by_cases c:s=[]
 ·subst c;go_wp2_with fail;go_ret;exact⟨Ba (by rw[H.o];rfl),rfl⟩
 have g:s.isEmpty=false:=by rw[AP];simpa using c
 go_wp2_with fail;go_ret;exact⟨Ba (by rw[H.o,g];rfl),rfl⟩
end Go.Proofs.YtignjjnflcpiiaaGreatDoor
