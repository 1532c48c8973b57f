/- The document's ReadAddress gives the address that a text -/
import Derived.Test.YtignjjnflcpiiaaGreatDoorS11
set_option linter.all false
set_option maxHeartbeats 4000000
set_option maxRecDepth 100000
namespace Go.Proofs.YtignjjnflcpiiaaGreatDoor
open Go Go.RowKit Proofs.Tryz Lib
def Mx(l:Bs):Value:=match Cl l with|some a=>.tuple #[a.val,.int .i64 0]|none=>.tuple #[A3.zero.val,.int .i64 3]
abbrev T0(s:Bs)(h:Bool)(a:Bs)(H:Bool)(q:Bs)(b:Bool)(f:Bs):Array Value:=#[.string ⟨s.toArray⟩,.bool h,.string ⟨a.toArray⟩,.string ⟨#[]⟩,.bool H,.string ⟨q.toArray⟩,.bool b,.string ⟨f.toArray⟩]
def Ds(K:Nat)(s:Bs)(j:Nat)(o:Value):Prop:=∃b,o=.bool b∧b=(decide (0<(K:Int))&&Kq s j)
variable {b p m c:Bool}{j K:Nat}{d:UInt8}
theorem Ds.mk{s:Bs}(h:b=(decide (0<(K:Int))&&Kq s j)):Ds K s j (.bool b):=⟨b,rfl,h⟩
def T2(d:UInt8)(o:Value):Prop:=∃p:Bool,p=(decide (97≤(d.toNat:Int))&&decide ((d.toNat:Int)≤122))∧o=.bool p
theorem T2.mk(h:p=(decide (97≤(d.toNat:Int))&&decide ((d.toNat:Int)≤122))):T2 d (.bool p):=⟨p,h,rfl⟩
def Wi(b:Bool)(d:UInt8)(m:Bool)(o:Value):Prop:=o=.bool (b&&Fm d m)
theorem Wi.mk(h:c=(b&&Fm d m)):Wi b d m (.bool c):=by rw[Wi,h]
theorem Wj(l:Bs)(w:World)(hl:l.length<4294967281):Calls prog 23 #[.string ⟨l.toArray⟩] w fun e y=>e=.returned (Mx l)∧Below w.heap.size w y:=by
 go_enter func23,ntmps23;go_wp2_with fail;go_loop[16] (fun i=>∃k:Nat,k≤l.length∧i=.int .i64 k∧(l.take k).all Jf=true) (fun i=>l.length-(intOf i).toNat)
 case atStart=>exact⟨0,CX _,rfl,by simp⟩
 obtain⟨k,hk,rfl,L⟩:=hrel;by_cases a1:k<l.length
 ·by_cases M:(33:Int)≤l[k].toNat∧(l[k].toNat:Int)≤126
  ·obtain⟨F,h2⟩:=M;go_wp2_with fail;refine(Jh _ _ _ _).mono ?_;rintro e g⟨rfl,rfl⟩;go_wp2_with fail
   go_round
   case rel=>exact⟨k+1,by omega,by go_num,Vl Jf a1 L (Zt F h2)⟩
   simp[intOf];omega
  have G:=Zu Jf a1 (Zs M);have N:(decide ((33:Int)≤l[k].toNat)&&decide ((l[k].toNat:Int)≤126))=false:=by
   rw[←Bool.decide_and,EB];exact M
  go_wp2_with fail;refine(Jh _ _ _ _).mono ?_;rintro e g⟨rfl,rfl⟩;rw[(by have:=l[k].toNat_lt;first|go_num|(unfold wrap64;omega):wrap64 (l[k].toNat:Int)=l[k].toNat),N];clear M;go_wp2_with fail;refine AL (v:=.tuple #[A3.zero.val,.int .i64 3]) (by simp[results,results23,go_sem,A3.zero]) rfl ⟨by rw[Mx,Cl,G];rfl,by go_grown⟩
 obtain rfl:k=l.length:=by omega
 rw[CQ]at L;have O:A1 _ w.heap.size Bb 36:=(A1.new w Bb 36).alloc (.cells Bb 36);have u:=A1.new (w.alloc (.cells Bb 36)) Bb 36;rw[AV]at u;have B0:Below w.heap.size w _:=((AD w.heap.size w).alloc (AC _) (.cells Bb 36)).alloc (by go_size) (.cells Bb 36);go_upto_if 30 with(go_at_call 66;refine(Sz _ _ _).mono ?_;rintro e y⟨m,c,rfl,rfl⟩);generalize b1:(w.alloc (.cells Bb 36)).alloc (.cells Bb 36)=g at O u B0⊢;clear b1;go_cut[0] (fun I W=>I=.string ⟨(cut l [35]).1.toArray⟩∧A1 W w.heap.size Bb 36∧A1 W (w.heap.size+1) (T0 [] false [] false [] (cut l [35]).2.2 (cut l [35]).2.1) 36∧Below w.heap.size w W)
 case first=>
  rcases GE m 0 with n|n
  ·have e:=AB (c.bN n);go_wp2_with fail;go_meet;rw[e.o];exact⟨rfl,O,u,B0⟩
  have e:=AB (c.bO n);have b2:=c.W9;have ac:=u.cell;have az:=u.free;have a2:=u.lt;go_wp2_with fail;go_region;all_goals go_wp2_with fail
  all_goals
   go_meet;rw[e.o];exact⟨rfl,(O.A6 (a:=⟨w.heap.size+1,6,none⟩) (by simp) _).A6 (a:=⟨w.heap.size+1,7,none⟩) (by simp) _,(u.set 6 _).set 7 _,by go_grown⟩
 obtain⟨rfl,J,x,P⟩:=hcut;clear O u B0 c;have Q:=Ow l [35];generalize a3:cut l [35]=c1 at Q J x P⊢;obtain⟨z,f,G⟩:=c1;have a4:=AB a3;clear a3;simp only at Q J x P⊢;go_upto_if 43 with(go_at_call 66;refine(Sz _ _ _).mono ?_;rintro e y⟨m,c,rfl,rfl⟩);obtain⟨g,rfl⟩:∃g:World,g=wc:=⟨_,rfl⟩;go_cut[0] (fun I W=>I=.string ⟨(cut z [63]).1.toArray⟩∧A1 W w.heap.size Bb 36∧A1 W (w.heap.size+1) (T0 [] false [] (cut z [63]).2.2 (cut z [63]).2.1 G f) 36∧Below w.heap.size w W)
 case first=>
  rcases GE m 0 with n|n
  ·have e:=AB (c.bN n);go_wp2_with fail;go_meet;rw[e.o];exact⟨rfl,J,x,P⟩
  have e:=AB (c.bO n);have b2:=c.W9;have ac:=x.cell;have az:=x.free;have a2:=x.lt;go_wp2_with fail;go_region;all_goals go_wp2_with fail
  all_goals
   go_meet;rw[e.o];exact⟨rfl,(J.A6 (a:=⟨w.heap.size+1,4,none⟩) (by simp) _).A6 (a:=⟨w.heap.size+1,5,none⟩) (by simp) _,(x.set 4 _).set 5 _,by go_grown⟩
 obtain⟨rfl,R,C,D⟩:=hcut;clear J x P c;have T:=Ow z [63];have b6:z.length≤l.length:=Q.1;clear Q;generalize a5:cut z [63]=c2 at T R C D⊢;obtain⟨s,q,hq⟩:=c2;have a6:=AB a5;clear a5;simp only at T R C D⊢;go_upto_if 56 with(go_at_call 66;refine(Sz _ _ _).mono ?_;rintro e y⟨m,c,rfl,rfl⟩);obtain⟨g,rfl⟩:∃g:World,g=wc:=⟨_,rfl⟩;go_cut[0] (fun I W=>I=.string ⟨(H6 s).2.toArray⟩∧A1 W w.heap.size Bb 36∧A1 W (w.heap.size+1) (T0 (H6 s).1 false [] hq q G f) 36∧Below w.heap.size w W)
 case first=>
  rcases GE m 0 with n|n
  ·have e:=AB (Vk (c.no (by omega)));go_wp2_with fail;go_meet;rw[e.o];exact⟨rfl,R,C,D⟩
  obtain⟨K,rfl⟩:∃K:Nat,m=K:=⟨m.toNat,by omega⟩;have hs:=AB (c.sT n);have b7:=c.W9;go_wp2_with fail;go_loopw[9,60] (fun o i W=>∃j:Nat,j≤K∧i=.int .i64 j∧Ds K s j o∧A1 W w.heap.size Bb 36∧A1 W (w.heap.size+1) (T0 [] false [] hq q G f) 36∧Below w.heap.size w W) (fun _ i _=>K-(intOf i).toNat)
  case atStart=>exact⟨0,CX _,rfl,Ds.mk (by simp[Kq]),R,C,D⟩
  obtain⟨j,hj,rfl,⟨b,rfl,N⟩,r,A,B⟩:=hrel;have U:=AB N;clear N;by_cases a1:j<K
  ·have a7:j<s.length:=by omega
   have F:=AB (sV s j a7);have hU:=AB (bP a7);have H:=AB (by rw[hU.o,sX,U.o,GV]:(b&&Fm (Bw s[j]) (!(j==0)))=(decide (0<(K:Int))&&Kq s (j+1)));clear U hU;go_wp2_with fail;refine(I1 _ _ (by simp;omega)).mono ?_;rintro e w2⟨rfl,V⟩;rw[F.o];clear F;have r:=r.next V r.lt;have A:=A.next V A.lt;have B:=B.trans (V.mono B.size);clear V R C D;generalize Bw s[j]=d at H⊢;go_upto_region 21 with fail;go_cut[12] (fun o W=>T2 d o∧W=w2)
   case first=>
    clear H;go_wp2_with fail;all_goals
     go_meet;exact⟨T2.mk (by first|(simp[*];done)|(simp[*];omega)),rfl⟩
   obtain⟨⟨pp,t,rfl⟩,rfl⟩:=hcut;have p:=AB t;clear t;cases b with
   |false=>
    go_wp2_with fail;all_goals
     go_roundw
     case rel=>first|exact⟨j+1,by omega,by go_num,Ds.mk (by rw[←H.o];rfl),r,A,B⟩|((repeat apply Exists.intro);exact⟨⟨j+1,by omega,by go_num,Ds.mk (by rw[←H.o];rfl),r,A,B⟩,rfl⟩)|exact⟨_,_,_,_,_,⟨j+1,by omega,by go_num,Ds.mk (by rw[←H.o];rfl)⟩,rfl,rfl,rfl,rfl,rfl⟩
     simp[intOf];omega
   |true=>
    cases pp with
    |true=>
     have h:=AB (by unfold Fm;rw[←p.o];rfl:Fm d (!(j==0))=true);go_wp2_with fail;all_goals
      go_roundw
      case rel=>first|exact⟨j+1,by omega,by go_num,Ds.mk (by rw[←H.o,h.o];first|rfl|(simp;omega)),r,A,B⟩|((repeat apply Exists.intro);exact⟨⟨j+1,by omega,by go_num,Ds.mk (by rw[←H.o,h.o];first|rfl|(simp;omega)),r,A,B⟩,rfl⟩)|exact⟨_,_,_,_,_,⟨j+1,by omega,by go_num,Ds.mk (by rw[←H.o,h.o];first|rfl|(simp;omega))⟩,rfl,rfl,rfl,rfl,rfl⟩
      simp[intOf];omega
    |false=>
     by_cases b8:0<j
     ·have E:=AB (by rw[(by rw[AG];omega:(j==0)=false)];rfl:(!(j==0))=true);rcases(by omega:((48:Int)≤d.toNat∧(d.toNat:Int)≤57)∨((57:Int)<d.toNat)∨((d.toNat:Int)<48))with⟨b3,b4⟩|hD|hD
      ·as_aux_lemma=>
        have h:=AB (by unfold Fm;rw[←p.o,E.o];rw[BD b3,BD b4];rfl:Fm d (!(j==0))=true);clear p;go_wp2_with fail;all_goals
         go_roundw
         case rel=>first|exact⟨j+1,by omega,by go_num,Ds.mk (by rw[←H.o,h.o];first|rfl|(simp;omega)),r,A,B⟩|((repeat apply Exists.intro);exact⟨⟨j+1,by omega,by go_num,Ds.mk (by rw[←H.o,h.o];first|rfl|(simp;omega)),r,A,B⟩,rfl⟩)|exact⟨_,_,_,_,_,⟨j+1,by omega,by go_num,Ds.mk (by rw[←H.o,h.o];first|rfl|(simp;omega))⟩,rfl,rfl,rfl,rfl,rfl⟩
         simp[intOf];omega
      ·as_aux_lemma=>
        have b9:(48:Int)≤d.toNat:=by omega
        have h:=AB (by unfold Fm;rw[←p.o,E.o];rw[AX (Int.not_le.2 hD),(by rw[AG];omega:((d.toNat:Int)==43)=false),(by rw[AG];omega:((d.toNat:Int)==45)=false),(by rw[AG];omega:((d.toNat:Int)==46)=false)];simp:Fm d (!(j==0))=false);clear p;go_wp2_with fail;all_goals
         go_roundw
         case rel=>first|exact⟨j+1,by omega,by go_num,Ds.mk (by rw[←H.o,h.o];first|rfl|(simp;omega)),r,A,B⟩|((repeat apply Exists.intro);exact⟨⟨j+1,by omega,by go_num,Ds.mk (by rw[←H.o,h.o];first|rfl|(simp;omega)),r,A,B⟩,rfl⟩)|exact⟨_,_,_,_,_,⟨j+1,by omega,by go_num,Ds.mk (by rw[←H.o,h.o];first|rfl|(simp;omega))⟩,rfl,rfl,rfl,rfl,rfl⟩
         simp[intOf];omega
      by_cases X:(d.toNat:Int)=43
      ·as_aux_lemma=>
        have h:=AB (by unfold Fm;rw[←p.o,E.o];rw[(by rw[BG];exact X:((d.toNat:Int)==43)=true)];simp:Fm d (!(j==0))=true);clear p;go_wp2_with fail;all_goals
         go_roundw
         case rel=>first|exact⟨j+1,by omega,by go_num,Ds.mk (by rw[←H.o,h.o];first|rfl|(simp;omega)),r,A,B⟩|((repeat apply Exists.intro);exact⟨⟨j+1,by omega,by go_num,Ds.mk (by rw[←H.o,h.o];first|rfl|(simp;omega)),r,A,B⟩,rfl⟩)|exact⟨_,_,_,_,_,⟨j+1,by omega,by go_num,Ds.mk (by rw[←H.o,h.o];first|rfl|(simp;omega))⟩,rfl,rfl,rfl,rfl,rfl⟩
         simp[intOf];omega
      by_cases Y:(d.toNat:Int)=45
      ·as_aux_lemma=>
        have h:=AB (by unfold Fm;rw[←p.o,E.o];rw[(by rw[BG];exact Y:((d.toNat:Int)==45)=true)];simp:Fm d (!(j==0))=true);clear p;go_wp2_with fail;all_goals
         go_roundw
         case rel=>first|exact⟨j+1,by omega,by go_num,Ds.mk (by rw[←H.o,h.o];first|rfl|(simp;omega)),r,A,B⟩|((repeat apply Exists.intro);exact⟨⟨j+1,by omega,by go_num,Ds.mk (by rw[←H.o,h.o];first|rfl|(simp;omega)),r,A,B⟩,rfl⟩)|exact⟨_,_,_,_,_,⟨j+1,by omega,by go_num,Ds.mk (by rw[←H.o,h.o];first|rfl|(simp;omega))⟩,rfl,rfl,rfl,rfl,rfl⟩
         simp[intOf];omega
      by_cases Z:(d.toNat:Int)=46
      ·as_aux_lemma=>
        have h:=AB (by unfold Fm;rw[←p.o,E.o];rw[(by rw[BG];exact Z:((d.toNat:Int)==46)=true)];simp:Fm d (!(j==0))=true);clear p;go_wp2_with fail;all_goals
         go_roundw
         case rel=>first|exact⟨j+1,by omega,by go_num,Ds.mk (by rw[←H.o,h.o];first|rfl|(simp;omega)),r,A,B⟩|((repeat apply Exists.intro);exact⟨⟨j+1,by omega,by go_num,Ds.mk (by rw[←H.o,h.o];first|rfl|(simp;omega)),r,A,B⟩,rfl⟩)|exact⟨_,_,_,_,_,⟨j+1,by omega,by go_num,Ds.mk (by rw[←H.o,h.o];first|rfl|(simp;omega))⟩,rfl,rfl,rfl,rfl,rfl⟩
         simp[intOf];omega
      as_aux_lemma=>
       have X:((d.toNat:Int)==43)=false:=by rw[AG];exact X
       have Y:((d.toNat:Int)==45)=false:=by rw[AG];exact Y
       have Z:((d.toNat:Int)==46)=false:=by rw[AG];exact Z
       have h:=AB (by unfold Fm;rw[←p.o,E.o];rw[AX (Int.not_le.2 hD),X,Y,Z];simp:Fm d (!(j==0))=false);clear p;go_wp2_with fail;all_goals
        go_roundw
        case rel=>first|exact⟨j+1,by omega,by go_num,Ds.mk (by rw[←H.o,h.o];first|rfl|(simp;omega)),r,A,B⟩|((repeat apply Exists.intro);exact⟨⟨j+1,by omega,by go_num,Ds.mk (by rw[←H.o,h.o];first|rfl|(simp;omega)),r,A,B⟩,rfl⟩)|exact⟨_,_,_,_,_,⟨j+1,by omega,by go_num,Ds.mk (by rw[←H.o,h.o];first|rfl|(simp;omega))⟩,rfl,rfl,rfl,rfl,rfl⟩
        simp[intOf];omega
     have E:=AB (by rw[(by rw[BG];omega:(j==0)=true)];rfl:(!(j==0))=false)
     as_aux_lemma=>
      have h:=AB (by unfold Fm;rw[←p.o,E.o];rfl:Fm d (!(j==0))=false);clear p;go_wp2_with fail;all_goals
       go_roundw
       case rel=>first|exact⟨j+1,by omega,by go_num,Ds.mk (by rw[←H.o,h.o];first|rfl|(simp;omega)),r,A,B⟩|((repeat apply Exists.intro);exact⟨⟨j+1,by omega,by go_num,Ds.mk (by rw[←H.o,h.o];first|rfl|(simp;omega)),r,A,B⟩,rfl⟩)|exact⟨_,_,_,_,_,⟨j+1,by omega,by go_num,Ds.mk (by rw[←H.o,h.o];first|rfl|(simp;omega))⟩,rfl,rfl,rfl,rfl,rfl⟩
       simp[intOf];omega
  obtain rfl:j=K:=by omega
  have a0:b=Ih s:=by rw[U.o,hs.o];simp
  clear U hs;have az:=A.free;have ac:=A.cell;have a2:=A.lt;cases b with
  |false=>
   have e:=AB (Vk a0.symm);clear a0;go_wp2_with fail;go_meet;rw[e.o];exact⟨rfl,r,A,B⟩
  |true=>
   have e:=AB (c.parse a0.symm);clear a0;go_wp2_with fail;go_region;all_goals go_wp2_with fail
   all_goals
    go_meet;rw[e.o];exact⟨rfl,r.A6 (a:=⟨w.heap.size+1,0,none⟩) (by simp) _,A.set 0 _,by go_grown⟩
 obtain⟨rfl,r,A,B⟩:=hcut;clear R C D c;have a8:=sU s;have c0:s.length≤z.length:=T.1;clear T;generalize a9:H6 s=S at a8 r A B⊢;obtain⟨c3,S⟩:=S;have b0:=AB a9;clear a9;simp only at a8 r A B⊢;obtain⟨g,rfl⟩:∃g:World,g=wc:=⟨_,rfl⟩;have az:=A.free;have ac:=A.cell;have rz:=r.free;have rc:=r.cell;have a2:=A.lt;have c4:=r.lt;by_cases t:hasPrefix S [47,47]=true
 ·have HA:=AB (Zq t);have HT:=AB (by unfold trimPrefix;rw[AM t];rfl:trimPrefix S [47,47]=S.drop 2);have c5:2≤S.length:=by
   have:=Yb [47,47] S t;have:=AF List.length this;simp at this;omega
  go_wp2_with fail;refine(Jc _ _ _).mono ?_;rintro e y⟨rfl,rfl⟩;rw[t];go_wp2_with fail;refine(Sz _ _ _).mono ?_;rintro e y⟨m,c,rfl,rfl⟩;obtain⟨F,h2,h3⟩:=c.auth;have b5:=AB (show L9 S=(true,(S.drop 2).take m.toNat,(S.drop 2).drop m.toNat)from HA.o.trans (by rw[HT.o];exact h3));clear h3 c;rw[AS]at h2;go_wp2_with fail;go_region;all_goals go_wp2_with fail
  all_goals
   refine AL (v:=.tuple #[(Ls l).val,.int .i64 0]) (by rw[Ql a4.o a6.o b0.o b5.o];simp[results,results23,go_sem,rc]<;>first|rfl|exact CH (by simp;omega)) rfl ⟨by rw[Mx,Cl,L];rfl,by go_grown⟩
 have HA:=AB (Zr t);go_wp2_with fail;refine(Jc _ _ _).mono ?_;rintro e y⟨rfl,rfl⟩;rw[AP.2 t];go_wp2_with fail;refine AL (v:=.tuple #[(Ls l).val,.int .i64 0]) (by rw[Ql a4.o a6.o b0.o HA.o];simp[results,results23,go_sem,rc]<;>rfl) rfl ⟨by rw[Mx,Cl,L];rfl,by go_grown⟩
end Go.Proofs.YtignjjnflcpiiaaGreatDoor
