/- The document's Dots gives a path without its dots. Condit -/
import Derived.Test.YtignjjnflcpiiaaGreatDoorS10
set_option linter.all false
set_option maxHeartbeats 3000000
set_option maxRecDepth 100000
namespace Go.Proofs.YtignjjnflcpiiaaGreatDoor
open Go Go.RowKit Proofs.Tryz Lib
theorem Qy(p:Bs)(w:World)(T:p.length<4294967281)(U:Cb w):Calls prog 120 #[.string ⟨p.toArray⟩] w fun e X=>e=.returned (.string ⟨(G7 p).toArray⟩)∧Below w.heap.size w X:=by
 have S:=Uw p 47 w T U;have Y:(Bo 47 p).length≤p.length+1:=by rw[Q1];have:=GM (a:=(47:UInt8)) (l:=p);omega
 have Z:0<(Bo 47 p).length:=BE.2 (N3 47 p);have D:Hid (G7 p=join (F1 (Bo 47 p) (Bo 47 p).length) [47]):=AB rfl;generalize Bo 47 p=l at S Y Z D;go_enter func120,ntmps120;go_wp2_with fail;refine S.mono ?_;rintro e w1⟨rfl,rfl⟩;go_wp2_with fail;go_loopw[4,12] (fun v i wr=>∃k:Nat,k≤l.length∧i=.int .i64 k∧Cg wr (w.heap.size+1) v (F1 l k)∧A1 wr w.heap.size (Fk l) 9∧Below w.heap.size w wr) (fun _ i _=>l.length-(intOf i).toNat)
 case atStart=>exact⟨0,CX _,rfl,GG _ _ _ _,A1.new _ _ _,by go_grown⟩
 obtain⟨k,hk,rfl,n,b,H⟩:=hrel;have a6:=b.lt;by_cases L:k<l.length
 ·have hc:wr.cell? ⟨w.heap.size,k,none⟩=some (.string ⟨(l[k]).toArray⟩):=by rw[b.cell];simp[Fk,L]
  have r:=Qu l k;have m:=W3 L;generalize l[k]=s at hc m;generalize F1 l k=o at n r m;by_cases G:k+1=l.length
  ·have a0:((k:Int)==(l.length:Int)-1)=true:=by rw[BG];omega
   have E:(k+1==l.length)=true:=by rw[BG];exact G
   rw[E]at m;clear G E;have t:=AB m;clear m;by_cases u:s=[46]
   ·subst u;go_wp2_with(at_builtin;refine G3 rfl _ _ rfl (w.heap.size+1) _ o [] wr.heap.size rfl (n.alloc _) rfl ?_ (by omega) (by go_size) ?_);all_goals first
     |(exact(A1.new _ _ _).cell 0)
     |(
      intro V W c q h;go_wp2_with fail;go_roundw
      case rel=>exact⟨k+1,by omega,by go_num,by rw[t.o,Sq _ true];exact c,(b.alloc _).next h (by omega),(H.alloc H.size _).trans (h.mono (by omega))⟩
      simp[intOf];omega)
   by_cases F:s=[]
   ·subst F;go_wp2_with(at_builtin;refine G3 rfl _ _ rfl (w.heap.size+1) _ o [] wr.heap.size rfl (n.alloc _) rfl ?_ (by omega) (by go_size) ?_);all_goals first
     |(exact(A1.new _ _ _).cell 0)
     |(
      intro V W c q h;go_wp2_with fail;go_roundw
      case rel=>exact⟨k+1,by omega,by go_num,by rw[t.o,Sr _ true _ (Or.inr rfl)];exact c,(b.alloc _).next h (by omega),(H.alloc H.size _).trans (h.mono (by omega))⟩
      simp[intOf];omega)
   have a1:(s==[46])=false:=by rw[AG];exact u
   by_cases z:s=[46,46]
   ·subst z;rcases DE o with d|⟨O,y,d⟩
    ·subst d;obtain⟨M,N,rfl⟩:=n.shape;simp only[BN]at n;go_wp2_with(at_builtin;refine G3 rfl _ _ rfl (w.heap.size+1) _ [] [] wr.heap.size rfl (n.alloc _) rfl ?_ (by decide) (by go_size) ?_);all_goals first
      |(exact(A1.new _ _ _).cell 0)
      |(
       intro V W c q h;go_wp2_with fail;go_roundw
       case rel=>exact⟨k+1,by omega,by go_num,by rw[t.o,I0 _ true,AM rfl,Ss];exact c,(b.alloc _).next h (by omega),(H.alloc H.size _).trans (h.mono (by omega))⟩
       simp[intOf];omega)
    rw[DF]at d;subst d;obtain⟨g,I,rfl,J,P,C,f⟩:=n.Oj;rw[AH]at r;simp only[AO,BN]at r;by_cases A:O=[]
    ·subst A;have a2:=f 0 y rfl;clear f;by_cases B:y=[]
     ·subst B;go_wp2_with(at_builtin;refine G3 rfl _ _ rfl (w.heap.size+1) _ [[]] [] wr.heap.size rfl (n.alloc _) rfl ?_ (by decide) (by go_size) ?_);all_goals first
       |(exact(A1.new _ _ _).cell 0)
       |(
        intro V W c q h;go_wp2_with fail;go_roundw
        case rel=>exact⟨k+1,by omega,by go_num,by rw[t.o,I0 _ true,AM rfl,DK,St];exact c,(b.alloc _).next h (by omega),(H.alloc H.size _).trans (h.mono (by omega))⟩
        simp[intOf];omega)
     have a3:y.isEmpty=false:=by rw[AP];simpa using B
     go_wp2_with(at_builtin;refine G3 rfl _ _ rfl (w.heap.size+1) _ [] [] wr.heap.size rfl (C.alloc _) rfl ?_ (by decide) (by go_size) ?_);all_goals first
      |(exact(A1.new _ _ _).cell 0)
      |(
       intro V W c q h;go_wp2_with fail;go_roundw
       case rel=>exact⟨k+1,by omega,by go_num,by rw[t.o,I0 _ true,AM rfl,Mv (Or.inr B)];exact c,(b.alloc _).next h (by omega),(H.alloc H.size _).trans (h.mono (by omega))⟩
       simp[intOf];omega)
    have a4:0<O.length:=BE.2 A;clear f;go_wp2_with(at_builtin;refine G3 rfl _ _ rfl (w.heap.size+1) _ O [] wr.heap.size rfl (C.alloc _) rfl ?_ (by omega) (by go_size) ?_);all_goals first
     |(exact(A1.new _ _ _).cell 0)
     |(
      intro V W c q h;go_wp2_with fail;go_roundw
      case rel=>exact⟨k+1,by omega,by go_num,by rw[t.o,I0 _ true,AM rfl,Mv (Or.inl A)];exact c,(b.alloc _).next h (by omega),(H.alloc H.size _).trans (h.mono (by omega))⟩
      simp[intOf];omega)
   have a5:(s==[46,46])=false:=by rw[AG];exact z
   go_wp2_with(at_builtin;refine G3 rfl _ _ rfl (w.heap.size+1) _ o s wr.heap.size rfl (n.alloc _) rfl ?_ (by omega) (by go_size) ?_);all_goals first
    |(exact(A1.new _ _ _).cell 0)
    |(
     intro V W c q h;go_wp2_with fail;go_roundw
     case rel=>exact⟨k+1,by omega,by go_num,by rw[t.o,Su _ _ _ _ u F z];exact c,(b.alloc _).next h (by omega),(H.alloc H.size _).trans (h.mono (by omega))⟩
     simp[intOf];omega)
  have a0:((k:Int)==(l.length:Int)-1)=false:=by rw[AG];omega
  have E:(k+1==l.length)=false:=by rw[AG];exact G
  rw[E]at m;clear G E;have t:=AB m;clear m;by_cases u:s=[46]
  ·subst u;go_wp2_with fail;all_goals
    go_roundw
    case rel=>exact⟨k+1,by omega,by go_num,by rw[t.o,Sq _ false];exact n,b,H⟩
    simp[intOf];omega
  by_cases F:s=[]
  ·subst F;by_cases h0:0<k
   ·have K:(k==0)=false:=by rw[AG];omega
    go_wp2_with fail;all_goals
     go_roundw
     case rel=>exact⟨k+1,by omega,by go_num,by rw[t.o,K,bG];exact n,b,H⟩
     simp[intOf];omega
   have K:(k==0)=true:=by rw[BG];omega
   go_wp2_with(at_builtin;refine G3 rfl _ _ rfl (w.heap.size+1) _ o [] wr.heap.size rfl (n.alloc _) rfl ?_ (by omega) (by go_size) ?_);all_goals first
    |(exact(A1.new _ _ _).cell 0)
    |(
     intro V W c q h;go_wp2_with fail;go_roundw
     case rel=>exact⟨k+1,by omega,by go_num,by rw[t.o,K,Sr true _ _ (Or.inl rfl)];exact c,(b.alloc _).next h (by omega),(H.alloc H.size _).trans (h.mono (by omega))⟩
     simp[intOf];omega)
  have a1:(s==[46])=false:=by rw[AG];exact u
  by_cases z:s=[46,46]
  ·subst z;rcases DE o with d|⟨O,y,d⟩
   ·subst d;obtain⟨M,N,rfl⟩:=n.shape;simp only[BN]at n;go_wp2_with fail;all_goals
     go_roundw
     case rel=>exact⟨k+1,by omega,by go_num,by rw[t.o,I0 _ false,AI (by decide),Ss];exact n,b,H⟩
     simp[intOf];omega
   rw[DF]at d;subst d;obtain⟨g,I,rfl,J,P,C,f⟩:=n.Oj;rw[AH]at r;simp only[AO,BN]at r;by_cases A:O=[]
   ·subst A;have a2:=f 0 y rfl;clear f;by_cases B:y=[]
    ·subst B;go_wp2_with fail;all_goals
      go_roundw
      case rel=>exact⟨k+1,by omega,by go_num,by rw[t.o,I0 _ false,AI (by decide),DK,St];exact n,b,H⟩
      simp[intOf];omega
    have a3:y.isEmpty=false:=by rw[AP];simpa using B
    go_wp2_with fail;all_goals
     go_roundw
     case rel=>exact⟨k+1,by omega,by go_num,by rw[t.o,I0 _ false,AI (by decide),Mv (Or.inr B)];exact C,b,H⟩
     simp[intOf];omega
   have a4:0<O.length:=BE.2 A;clear f;go_wp2_with fail;all_goals
    go_roundw
    case rel=>exact⟨k+1,by omega,by go_num,by rw[t.o,I0 _ false,AI (by decide),Mv (Or.inl A)];exact C,b,H⟩
    simp[intOf];omega
  have a5:(s==[46,46])=false:=by rw[AG];exact z
  go_wp2_with(at_builtin;refine G3 rfl _ _ rfl (w.heap.size+1) _ o s wr.heap.size rfl (n.alloc _) rfl ?_ (by omega) (by go_size) ?_);all_goals first
   |(exact(A1.new _ _ _).cell 0)
   |(
    intro V W c q h;go_wp2_with fail;go_roundw
    case rel=>exact⟨k+1,by omega,by go_num,by rw[t.o,Su _ _ _ _ u F z];exact c,(b.alloc _).next h (by omega),(H.alloc H.size _).trans (h.mono (by omega))⟩
    simp[intOf];omega)
 obtain rfl:k=l.length:=by omega
 have Q:(join (F1 l l.length) [47]).length≤140737488355328:=by
  rw[←D.o];have:=Sv p;omega
 have r:=Qu l l.length;generalize F1 l l.length=o at n r Q D;rcases DE o with d|⟨O,y,d⟩
 ·subst d;obtain⟨M,N,rfl⟩:=n.shape;go_wp2_with fail;refine(Uy _ _ _ _).mono ?_;rintro e W⟨rfl,rfl⟩;go_wp2_with fail;go_ret;exact⟨Gx D.o.symm,H⟩
 rw[DF]at d;subst d;obtain⟨g,I,rfl,J,P,C,f⟩:=n.Oj;have R:=Ux g 0 I (O++[y]) [47] wr (fun j x hj=>by rw[EX];exact f j x hj) (AY wr _ (f O.length y (by simp))) (by omega) (by simpa using J) Q;rw[AH]at R;clear f;go_wp2_with fail;refine R.mono ?_;rintro e W⟨rfl,h⟩;go_wp2_with fail;go_ret;exact⟨Gx D.o.symm,H.trans (h.mono H.size)⟩
def I3(l:Bs):Nat→Bs
 |0=>[]
 |k+1=>if l.getD k 0=47 then l.take (k+1)else I3 l k
theorem cU(l:Bs)(k:Nat):(I3 l k).length≤k:=by
 induction k with
 |zero=>simp[I3]
 |succ k ih=>
  unfold I3;split
  ·simp;omega
  omega
theorem Wl{l:Bs}{k:Nat}(h:k<l.length)(e:l[k]=47):I3 l (k+1)=l.take (k+1):=by
 unfold I3;rw[AM];rw[AK,AZ h];exact e
theorem Wm{l:Bs}{k:Nat}(h:k<l.length)(e:l[k]≠47):I3 l (k+1)=I3 l k:=by
 show(if l.getD k 0=47 then l.take (k+1)else I3 l k)=I3 l k;rw[AI];rw[AK,AZ h];exact e
theorem uJ(l:Bs)(k:Nat)(a:k≤l.length):I3 l k=l.take (Lib.lastIdx ⟨l.toArray⟩ 47 k+1).toNat:=by
 induction k with
 |zero=>simp[I3,Lib.lastIdx]
 |succ k ih=>
  have H:k<l.length:=by omega
  have ih:=ih (by omega);unfold Lib.lastIdx;by_cases e:l[k]=47
  ·rw[Wl H e,AM]
   ·congr 1
   simp[e,H]
  rw[Wm H e,AI,ih];simp[H];intro h;apply e;apply BJ.1;show l[k].toNat=47;omega
theorem uK(l:Bs):I3 l l.length=P3 l:=uJ l l.length (AC _)
theorem cV(b a:A3)(w:World)(E:a.path.length≤2147483648)(z:Cb w)(h:a.scheme≠[]∨a.hasAuth=true):Calls prog 59 #[b.val,a.val] w fun e F=>e=.returned (Be b a).val∧Below w.heap.size w F:=by
 obtain⟨s,H,u,p,d,q,g,f⟩:=a;simp only at E h;have A:=AB (show Be b ⟨s,H,u,p,d,q,g,f⟩=⟨if s=[]then b.scheme else s,H,u,G7 p,d,q,g,f⟩from by
  unfold Be;by_cases t:s=[]
  ·rcases h with h|h
   ·exact absurd t h
   simp[t,h]
  simp[t])
 go_enter func59,ntmps59;go_upto_region 1 with fail;have k:=((A1.new w b.cells 36).alloc (.cells (A3.cells ⟨s,H,u,p,d,q,g,f⟩) 36)).alloc (.cells Bb 36);have r:=((A1.new (w.alloc (.cells b.cells 36)) (A3.cells ⟨s,H,u,p,d,q,g,f⟩) 36).alloc (.cells Bb 36));have R:=(A1.new ((w.alloc (.cells b.cells 36)).alloc (.cells (A3.cells ⟨s,H,u,p,d,q,g,f⟩) 36)) Bb 36);rw[AV]at r;rw[AV,AV]at R;have B:Below w.heap.size w _:=(((AD _ w).alloc (AC _) (.cells b.cells 36)).alloc (by go_size) (.cells (A3.cells ⟨s,H,u,p,d,q,g,f⟩) 36)).alloc (by go_size) (.cells Bb 36);generalize G:((w.alloc (.cells b.cells 36)).alloc (.cells (A3.cells ⟨s,H,u,p,d,q,g,f⟩) 36)).alloc (.cells Bb 36)=W at k r R B⊢;clear G;go_cut[15] (fun I J=>I=.bool true∧J=W)
 case first=>
  have l:=r.cell;cases s with
  |nil=>
   have L:H=true:=by rcases h with h|h;exact absurd rfl h;exact h
   subst L;go_wp2_with fail;go_meet;exact⟨rfl,rfl⟩
  |cons c s=>
   go_wp2_with fail;go_meet;exact⟨rfl,rfl⟩
 obtain⟨rfl,rfl⟩:=hcut;obtain⟨W,rfl⟩:∃W:World,W=wc:=⟨_,rfl⟩;have C:=k.cell;have l:=r.cell;have m:=r.free;have D:=k.lt;have n:=r.lt;have o:=R.lt;cases s with
 |nil=>
  have x:=B.setCell (p:=⟨w.heap.size+1,0,none⟩) (by simp) (.string ⟨b.scheme.toArray⟩);go_wp2_with fail;refine(Qy p _ (by omega) (z.next x)).mono ?_;rintro e M⟨rfl,i⟩;have S:=(r.set 0 (.string ⟨b.scheme.toArray⟩)).next i (by go_size);have j:=(R.A6 (a:=⟨w.heap.size+1,0,none⟩) (by simp) (.string ⟨b.scheme.toArray⟩)).next i (by go_size);have K:=x.trans (i.mono (by go_size));clear C l m k r R B x D n o i;have l:=S.cell;have m:=S.free;have y:=j.cell;have N:=j.free;have n:=S.lt;have o:=j.lt;go_wp2_with fail;refine AL (v:=(Be b ⟨[],H,u,p,d,q,g,f⟩).val) (by rw[A.o];simp[results,results59,go_sem,y]) rfl ⟨rfl,by go_grown⟩
 |cons c s=>
  go_wp2_with fail;refine(Qy p _ (by omega) (z.next B)).mono ?_;rintro e M⟨rfl,i⟩;have S:=r.next i (by go_size);have j:=R.next i (by go_size);have K:=B.trans (i.mono B.size);clear C l m k r R B D n o i;have l:=S.cell;have m:=S.free;have y:=j.cell;have N:=j.free;have n:=S.lt;have o:=j.lt;go_wp2_with fail;refine AL (v:=(Be b ⟨c::s,H,u,p,d,q,g,f⟩).val) (by rw[A.o];simp[results,results59,go_sem,y]) rfl ⟨rfl,by go_grown⟩
structure RS(w W:World)(b a o:A3):Prop where
 r0:A1 W w.heap.size b.cells 36
 r1:A1 W (w.heap.size+1) a.cells 36
 r2:A1 W (w.heap.size+2) Bb 36
 r3:A1 W (w.heap.size+3) o.cells 36
 B:Below w.heap.size w W
theorem RS.next{w W c:World}{b a o:A3}(h:RS w W b a o)(H:Below W.heap.size W c):RS w c b a o:=⟨h.r0.next H h.r0.lt,h.r1.next H h.r1.lt,h.r2.next H h.r2.lt,h.r3.next H h.r3.lt,h.B.trans (H.mono h.B.size)⟩
theorem uL(b:A3)(u p q f:Bs)(x H:Bool)(w:World)(hl:p.length≤1073741824)(a3:b.path.length≤1073741824):Cb w→Calls prog 59 #[b.val,(A3.val ⟨[],false,u,p,x,q,H,f⟩)] w fun e w'=>e=.returned (Be b ⟨[],false,u,p,x,q,H,f⟩).val∧Below w.heap.size w w':=by
 obtain⟨s,o,j,g,m,n,r,t⟩:=b;intro S;simp only at a3;go_enter func59,ntmps59;go_upto_region 1 with fail;go_cut[15] (fun a4 y=>a4=.bool false∧A1 y w.heap.size (A3.cells ⟨s,o,j,g,m,n,r,t⟩) 36∧A1 y (w.heap.size+1) (A3.cells ⟨[],false,u,p,x,q,H,f⟩) 36∧A1 y (w.heap.size+2) Bb 36∧y.heap.size=w.heap.size+3∧Below w.heap.size w y)
 case first=>
  have E:=((A1.new (w.alloc (.cells (A3.cells ⟨s,o,j,g,m,n,r,t⟩) 36)) (A3.cells ⟨[],false,u,p,x,q,H,f⟩) 36).alloc (.cells Bb 36));have F:=(A1.new ((w.alloc (.cells (A3.cells ⟨s,o,j,g,m,n,r,t⟩) 36)).alloc (.cells (A3.cells ⟨[],false,u,p,x,q,H,f⟩) 36)) Bb 36);rw[AV]at E;rw[AV,AV]at F;go_wp2_with fail;go_meet;exact⟨rfl,((A1.new w (A3.cells ⟨s,o,j,g,m,n,r,t⟩) 36).alloc _).alloc _,E,F,by simp,by go_grown⟩
 obtain⟨rfl,N,E,F,a2,B⟩:=hcut;obtain⟨W,rfl⟩:∃W:World,W=wc:=⟨_,rfl⟩;have G:=N.cell;go_upto_region 7 with fail;have q0:=N.alloc (.cells (A3.cells ⟨s,o,j,g,m,n,r,t⟩) 36);have T:=E.alloc (.cells (A3.cells ⟨s,o,j,g,m,n,r,t⟩) 36);have q2:=F.alloc (.cells (A3.cells ⟨s,o,j,g,m,n,r,t⟩) 36);have Q:=A1.new W (A3.cells ⟨s,o,j,g,m,n,r,t⟩) 36;rw[a2]at Q;have O:=B.alloc B.size (.cells (A3.cells ⟨s,o,j,g,m,n,r,t⟩) 36);generalize a5:W.alloc (.cells (A3.cells ⟨s,o,j,g,m,n,r,t⟩) 36)=U at q0 T q2 Q O⊢;clear a5;go_cut[5] (fun V y=>V=.pointer (some ⟨w.heap.size+3,0,none⟩)∧RS w y ⟨s,o,j,g,m,n,r,t⟩ ⟨[],false,u,p,x,q,H,f⟩ ⟨s,o,j,g,m,n,H,f⟩)
 case first=>
  have I:=T.cell;have J:=Q.cell;have K:=Q.free;have L:=Q.lt;clear G N E F;go_region;all_goals go_wp2_with fail
  all_goals
   go_meet;refine⟨rfl,⟨(q0.A6 (a:=⟨w.heap.size+3,6,none⟩) (by simp) (.bool H)).A6 (a:=⟨w.heap.size+3,7,none⟩) (by simp) (.string ⟨f.toArray⟩),(T.A6 (a:=⟨w.heap.size+3,6,none⟩) (by simp) (.bool H)).A6 (a:=⟨w.heap.size+3,7,none⟩) (by simp) (.string ⟨f.toArray⟩),(q2.A6 (a:=⟨w.heap.size+3,6,none⟩) (by simp) (.bool H)).A6 (a:=⟨w.heap.size+3,7,none⟩) (by simp) (.string ⟨f.toArray⟩),(Q.set 6 (.bool H)).set 7 (.string ⟨f.toArray⟩),by have:=O.size;go_grown⟩⟩
 obtain⟨rfl,R⟩:=hcut;clear G N E F a2 B;obtain⟨W,rfl⟩:∃W:World,W=wc:=⟨_,rfl⟩;have I:=R.r1.cell;cases p with
 |nil=>
  have J:=R.r3.cell;have K:=R.r3.free;have X:=R.r2.free;have A:=R.r2.cell;have Y:=R.r2.lt;have L:=R.r3.lt;have B:=R.B;have z:=AB (by rfl:Be ⟨s,o,j,g,m,n,r,t⟩ ⟨[],false,u,[],x,q,H,f⟩=⟨s,o,j,g,if x then true else m,if x then q else n,H,f⟩);cases x with
  |true=>
   go_wp2_with fail;go_region;all_goals go_wp2_with fail
   all_goals
    refine AL (v:=(Be ⟨s,o,j,g,m,n,r,t⟩ ⟨[],false,u,[],true,q,H,f⟩).val) (by rw[z.o];simp[results,results59,go_sem,A]) rfl ⟨rfl,by go_grown⟩
  |false=>
   go_wp2_with fail;refine AL (v:=(Be ⟨s,o,j,g,m,n,r,t⟩ ⟨[],false,u,[],false,q,H,f⟩).val) (by rw[z.o];simp[results,results59,go_sem,A]) rfl ⟨rfl,by go_grown⟩
 |cons c l=>
  go_upto_region 9 with fail;go_cut[5] (fun V y=>V=.pointer (some ⟨w.heap.size+3,0,none⟩)∧RS w y ⟨s,o,j,g,m,n,r,t⟩ ⟨[],false,u,c::l,x,q,H,f⟩ ⟨s,o,j,g,x,q,H,f⟩)
  case first=>
   have J:=R.r3.cell;have K:=R.r3.free;have L:=R.r3.lt;have O:=R.B;go_region;all_goals go_wp2_with fail
   all_goals
    go_meet;refine⟨rfl,⟨(R.r0.A6 (a:=⟨w.heap.size+3,4,none⟩) (by simp) (.bool x)).A6 (a:=⟨w.heap.size+3,5,none⟩) (by simp) (.string ⟨q.toArray⟩),(R.r1.A6 (a:=⟨w.heap.size+3,4,none⟩) (by simp) (.bool x)).A6 (a:=⟨w.heap.size+3,5,none⟩) (by simp) (.string ⟨q.toArray⟩),(R.r2.A6 (a:=⟨w.heap.size+3,4,none⟩) (by simp) (.bool x)).A6 (a:=⟨w.heap.size+3,5,none⟩) (by simp) (.string ⟨q.toArray⟩),(R.r3.set 4 (.bool x)).set 5 (.string ⟨q.toArray⟩),by have:=O.size;go_grown⟩⟩
  clear I R;obtain⟨rfl,R⟩:=hcut;obtain⟨W,rfl⟩:∃W:World,W=wc:=⟨_,rfl⟩;have I:=R.r1.cell;by_cases Z:c=47
  ·subst Z;have z:=AB (by rfl:Be ⟨s,o,j,g,m,n,r,t⟩ ⟨[],false,u,47::l,x,q,H,f⟩=⟨s,o,j,G7 (47::l),x,q,H,f⟩);have a6:l.length+1≤1073741824:=hl;go_wp2_with fail;refine(Qy (47::l) _ (by simp;omega) (S.next R.B)).mono ?_;rintro e U⟨rfl,C⟩;have R:=R.next C;clear I C;have J:=R.r3.cell;have K:=R.r3.free;have X:=R.r2.free;have A:=R.r2.cell;have Y:=R.r2.lt;have L:=R.r3.lt;have B:=R.B;go_wp2_with fail;refine AL (v:=(Be ⟨s,o,j,g,m,n,r,t⟩ ⟨[],false,u,47::l,x,q,H,f⟩).val) (by rw[z.o];simp[results,results59,go_sem,A]) rfl ⟨rfl,by go_grown⟩
  have a6:l.length+1≤1073741824:=hl;have a7:((c.toNat:Int)==47)=false:=by
   rw[AG];intro e;apply Z;apply BJ.1;show c.toNat=47;omega
  have a9:((c.toNat:Int)!=47)=true:=by simp only[bne,a7];rfl
  have z:=AB (show Be ⟨s,o,j,g,m,n,r,t⟩ ⟨[],false,u,c::l,x,q,H,f⟩=⟨s,o,j,G7 (Jg ⟨s,o,j,g,m,n,r,t⟩++c::l),x,q,H,f⟩from AI Z);have a0:=W4 ⟨s,o,j,g,m,n,r,t⟩;simp only at a0;have P:Hid (Jg ⟨s,o,j,g,m,n,r,t⟩=if o&&g.isEmpty then[47]else I3 g g.length):=AB (by rw[uK];rfl);cases o with
  |false=>
   have G:=R.r0.cell;go_upto_if 55 with fail;go_cut[6] (fun s6 y=>s6=.string ⟨(Jg ⟨s,false,j,g,m,n,r,t⟩++c::l).toArray⟩∧y=W)
   case first=>
    go_wp2_with fail;go_loop[7,59] (fun d i=>∃k:Nat,k≤g.length∧i=.int .i64 k∧d=.string ⟨(I3 g k).toArray⟩) (fun _ i=>g.length-(intOf i).toNat)
    case atStart=>exact⟨0,CX _,rfl,rfl⟩
    obtain⟨k,hk,rfl,rfl⟩:=hrel;by_cases M:k<g.length
    ·by_cases e:g[k]=47
     ·have eb:((g[k].toNat:Int)==47)=true:=by rw[e];rfl
      have D:=AB (Wl M e);clear e;go_wp2_with fail
      go_round
      case rel=>exact⟨k+1,by omega,by go_num,by rw[D.o]⟩
      simp[intOf];omega
     have eb:((g[k].toNat:Int)==47)=false:=by
      rw[AG];intro h;apply e;apply BJ.1;show g[k].toNat=47;omega
     have D:=AB (Wm M e);clear e;go_wp2_with fail
     go_round
     case rel=>exact⟨k+1,by omega,by go_num,by rw[D.o]⟩
     simp[intOf];omega
    obtain rfl:k=g.length:=by omega
    have a8:=cU g g.length;cases a1:g.isEmpty;all_goals
     go_wp2_with fail;go_meet;exact⟨by rw[P.o];simp[a1],rfl⟩
   obtain⟨rfl,rfl⟩:=hcut;obtain⟨W,rfl⟩:∃W:World,W=wc:=⟨_,rfl⟩;generalize Jg ⟨s,false,j,g,m,n,r,t⟩=d at z a0;clear P G I;go_wp2_with fail;refine(Qy _ _ (by simp;omega) (S.next R.B)).mono ?_;rintro e U⟨rfl,C⟩;have R:=R.next C;clear C;have J:=R.r3.cell;have K:=R.r3.free;have X:=R.r2.free;have A:=R.r2.cell;have Y:=R.r2.lt;have L:=R.r3.lt;have B:=R.B;go_wp2_with fail;refine AL (v:=(Be ⟨s,false,j,g,m,n,r,t⟩ ⟨[],false,u,c::l,x,q,H,f⟩).val) (by rw[z.o];simp[results,results59,go_sem,A]) rfl ⟨rfl,by go_grown⟩
  |true=>
   have G:=R.r0.cell;go_upto_if 55 with fail;go_cut[6] (fun s6 y=>s6=.string ⟨(Jg ⟨s,true,j,g,m,n,r,t⟩++c::l).toArray⟩∧y=W)
   case first=>
    go_wp2_with fail;go_loop[7,59] (fun d i=>∃k:Nat,k≤g.length∧i=.int .i64 k∧d=.string ⟨(I3 g k).toArray⟩) (fun _ i=>g.length-(intOf i).toNat)
    case atStart=>exact⟨0,CX _,rfl,rfl⟩
    obtain⟨k,hk,rfl,rfl⟩:=hrel;by_cases M:k<g.length
    ·by_cases e:g[k]=47
     ·have eb:((g[k].toNat:Int)==47)=true:=by rw[e];rfl
      have D:=AB (Wl M e);clear e;go_wp2_with fail
      go_round
      case rel=>exact⟨k+1,by omega,by go_num,by rw[D.o]⟩
      simp[intOf];omega
     have eb:((g[k].toNat:Int)==47)=false:=by
      rw[AG];intro h;apply e;apply BJ.1;show g[k].toNat=47;omega
     have D:=AB (Wm M e);clear e;go_wp2_with fail
     go_round
     case rel=>exact⟨k+1,by omega,by go_num,by rw[D.o]⟩
     simp[intOf];omega
    obtain rfl:k=g.length:=by omega
    have a8:=cU g g.length;cases a1:g.isEmpty;all_goals
     go_wp2_with fail;go_meet;exact⟨by rw[P.o];simp[a1],rfl⟩
   obtain⟨rfl,rfl⟩:=hcut;obtain⟨W,rfl⟩:∃W:World,W=wc:=⟨_,rfl⟩;generalize Jg ⟨s,true,j,g,m,n,r,t⟩=d at z a0;clear P G I;go_wp2_with fail;refine(Qy _ _ (by simp;omega) (S.next R.B)).mono ?_;rintro e U⟨rfl,C⟩;have R:=R.next C;clear C;have J:=R.r3.cell;have K:=R.r3.free;have X:=R.r2.free;have A:=R.r2.cell;have Y:=R.r2.lt;have L:=R.r3.lt;have B:=R.B;go_wp2_with fail;refine AL (v:=(Be ⟨s,true,j,g,m,n,r,t⟩ ⟨[],false,u,c::l,x,q,H,f⟩).val) (by rw[z.o];simp[results,results59,go_sem,A]) rfl ⟨rfl,by go_grown⟩
theorem cW(b a:A3)(w:World)(g:b.path.length≤1073741824)(d:a.path.length≤1073741824)(h:Cb w):Calls prog 59 #[b.val,a.val] w fun e W=>e=.returned (Be b a).val∧Below w.heap.size w W:=by
 by_cases H:a.scheme=[]
 ·cases c:a.hasAuth with
  |true=>exact cV b a w (by omega) h (Or.inr c)
  |false=>
   obtain⟨s,k,u,p,i,q,j,f⟩:=a;simp only at H c d;subst H;subst c;exact uL b u p q f i j w d g h
 exact cV b a w (by omega) h (Or.inl H)
end Go.Proofs.YtignjjnflcpiiaaGreatDoor
