/- The document's ReadAddress gives the address that a text -/
import Derived.Test.YtignjjnflcpiiaaGreatDoorV13
set_option maxHeartbeats 4000000
set_option maxRecDepth 100000 set_option linter.all false
namespace Go.Proofs.YtignjjnflcpiiaaGreatDoor
open Go Go.RowKit Proofs.Tryz Lib
def N6(l:Bs):Value:=match Be l with|some a=>.tuple #[a.val,.int .i64 0]|none=>.tuple #[A3.zero.val,.int .i64 3]
abbrev Wp(s:Bs)(h:Bool)(a:Bs)(H:Bool)(q:Bs)(b:Bool)(f:Bs):Array Value:=#[s,h,a,.string ⟨#[]⟩,H,q,b,f]
def Eh(K:Nat)(s:Bs)(j:Nat)(o:Value):Prop:=∃b,o=.bool b/\b=(decide (0<(K:Int))&&N5 s j)
def Eh.mk{K:Nat}{s:Bs}{j:Nat}{b:Bool}(h:b=(decide (0<(K:Int))&&N5 s j)):Eh K s j b:=⟨b,rfl,h⟩
def Wq(d:UInt8)(o:Value):Prop:=∃p:Bool,p=(decide (97<=(d.toNat:Int))&&decide ((d.toNat:Int)<=122))/\o=p
def Wq.mk{d:UInt8}{p:Bool}(h:p=(decide (97<=(d.toNat:Int))&&decide ((d.toNat:Int)<=122))):Wq d p:=⟨p,h,rfl⟩
def U5(l:Bs)(w:World)(hl:l.length<4294967281):Calls prog 23 #[l] w fun e x=>e=.returned (N6 l)/\Below w.heap.size w x:=by
 go_enter func23,ntmps23;go_wp2_with fail;go_loop[16] (fun i=>∃k:Nat,k<=l.length/\i=k/\(l.take k).all Lb=true) (fun i=>l.length-(intOf i).toNat)
 case atStart=>exact⟨0,DE _,rfl,ah⟩
 obtain⟨k,hk,rfl,J⟩:=hrel;by_cases a0:k<l.length
 ·by_cases L:(33:Int)<=l[k].toNat/\(l[k].toNat:Int)<=126
  ·obtain⟨D,h2⟩:=L;go_wp2_with fail;refine(Ju _ _ _ _).mono ?_;rintro e g⟨rfl,rfl⟩;go_wp2_with fail
   go_round
   case rel=>exact⟨k+1,aa,aj,Yv Lb a0 J (eV D h2)⟩
   simp[intOf];omega
  have F:=eW Lb a0 (eU L);have M:(decide ((33:Int)<=l[k].toNat)&&decide ((l[k].toNat:Int)<=126))=false:=by
   rw[<-Bool.decide_and,EG];exact L
  go_wp2_with fail;refine(Ju _ _ _ _).mono ?_;rintro e g⟨rfl,rfl⟩;rw[(by have:=l[k].toNat_lt;first|go_num|(unfold wrap64;omega):wrap64 (l[k].toNat:Int)=l[k].toNat),M];clear L;go_wp2_with fail;refine AO (v:=.tuple #[A3.zero.val,.int .i64 3]) (by simp[results,results23,go_sem,A3.zero]) rfl ⟨by rw[N6,Be,F];rfl,cu⟩
 obtain rfl:k=l.length:=aa
 rw[CY]at J;have N:A0 _ w.heap.size Bg 36:=(A0.new w Bg 36).alloc (.cells Bg 36);have t:=A0.new (w.alloc (.cells Bg 36)) Bg 36;rw[AX]at t;have B0:Below w.heap.size w _:=((AG w.heap.size w).alloc (AF _) (.cells Bg 36)).alloc ea (.cells Bg 36);go_upto_if 30 with(go_at_call 66;refine(Wn _ _ _).mono ?_;rintro e x⟨m,c,rfl,rfl⟩);generalize b0:(w.alloc (.cells Bg 36)).alloc (.cells Bg 36)=g at N t B0|-;clear b0;go_cut[0] (fun G W=>G=.string ⟨(cut l [35]).1.toArray⟩/\A0 W w.heap.size Bg 36/\A0 W (w.heap.size+1) (Wp [] false [] false [] (cut l [35]).2.2 (cut l [35]).2.1) 36/\Below w.heap.size w W)
 case first=>
  rcases IA m 0 with h0|h0
  ·have e:=AE (c.jR h0);go_wp2;go_meet;rw[e.o];exact⟨rfl,N,t,B0⟩
  have e:=AE (c.jS h0);have b1:=c.aJ;have ac:=t.cell;have az:=t.free;have a1:=t.lt;go_wp2_with fail;go_region;all_goals go_wp2_with fail
  all_goals
   go_meet;rw[e.o];exact⟨rfl,(N.A6 (a:=⟨w.heap.size+1,6,none⟩) ah _).A6 (a:=⟨w.heap.size+1,7,none⟩) ah _,(t.set 6 _).set 7 _,cu⟩
 obtain⟨rfl,I,u,O⟩:=hcut;clear N t B0 c;have P:=Ru l [35];generalize a2:cut l [35]=c1 at P I u O|-;obtain⟨y,f,F⟩:=c1;have a3:=AE a2;clear a2;simp only at P I u O|-;go_upto_if 43 with(go_at_call 66;refine(Wn _ _ _).mono ?_;rintro e x⟨m,c,rfl,rfl⟩);obtain⟨g,rfl⟩:∃g:World,g=wc:=⟨_,rfl⟩;go_cut[0] (fun G W=>G=.string ⟨(cut y [63]).1.toArray⟩/\A0 W w.heap.size Bg 36/\A0 W (w.heap.size+1) (Wp [] false [] (cut y [63]).2.2 (cut y [63]).2.1 F f) 36/\Below w.heap.size w W)
 case first=>
  rcases IA m 0 with h0|h0
  ·have e:=AE (c.jR h0);go_wp2;go_meet;rw[e.o];exact⟨rfl,I,u,O⟩
  have e:=AE (c.jS h0);have b1:=c.aJ;have ac:=u.cell;have az:=u.free;have a1:=u.lt;go_wp2_with fail;go_region;all_goals go_wp2_with fail
  all_goals
   go_meet;rw[e.o];exact⟨rfl,(I.A6 (a:=⟨w.heap.size+1,4,none⟩) ah _).A6 (a:=⟨w.heap.size+1,5,none⟩) ah _,(u.set 4 _).set 5 _,cu⟩
 obtain⟨rfl,R,z,C⟩:=hcut;clear I u O c;have Q:=Ru y [63];have b5:y.length<=l.length:=P.1;clear P;generalize a4:cut y [63]=c2 at Q R z C|-;obtain⟨s,q,hq⟩:=c2;have a5:=AE a4;clear a4;simp only at Q R z C|-;go_upto_if 56 with(go_at_call 66;refine(Wn _ _ _).mono ?_;rintro e x⟨m,c,rfl,rfl⟩);obtain⟨g,rfl⟩:∃g:World,g=wc:=⟨_,rfl⟩;go_cut[0] (fun G W=>G=.string ⟨(Ib s).2.toArray⟩/\A0 W w.heap.size Bg 36/\A0 W (w.heap.size+1) (Wp (Ib s).1 false [] hq q F f) 36/\Below w.heap.size w W)
 case first=>
  rcases IA m 0 with h0|h0
  ·have e:=AE (Yu (c.no aa));go_wp2;go_meet;rw[e.o];exact⟨rfl,R,z,C⟩
  obtain⟨K,rfl⟩:∃K:Nat,m=K:=⟨m.toNat,aa⟩;have hs:=AE (c.RO h0);have b6:=c.aJ;go_wp2_with fail;go_loopw[9,60] (fun o i W=>∃j:Nat,j<=K/\i=j/\Eh K s j o/\A0 W w.heap.size Bg 36/\A0 W (w.heap.size+1) (Wp [] false [] hq q F f) 36/\Below w.heap.size w W) (fun _ i _=>K-(intOf i).toNat)
  case atStart=>exact⟨0,DE _,rfl,Eh.mk (by simp[N5]),R,z,C⟩
  obtain⟨j,hj,rfl,⟨b,rfl,M⟩,r,A,B⟩:=hrel;have T:=AE M;clear M;by_cases a0:j<K
  ·have a6:j<s.length:=by omega
   have D:=AE (RR s j a6);have hU:=AE (jT a6);have H:=AE (by rw[hU.o,RU,T.o,IW]:(b&&Ht (Bx s[j]) (!(j==0)))=(decide (0<(K:Int))&&N5 s (j+1)));clear T hU;go_wp2_with fail;refine(Ix _ _ ag).mono ?_;rintro e w2⟨rfl,U⟩;rw[D.o];clear D;have r:=r.next U r.lt;have A:=A.next U A.lt;have B:=B.trans (U.mono B.size);clear U R z C;generalize Bx s[j]=d at H|-;go_upto_region 21 with fail;go_cut[12] (fun o W=>Wq d o/\W=w2)
   case first=>
    clear H;go_wp2_with fail;all_goals
     go_meet;exact⟨Wq.mk (by first|(simp[*];done)|(simp[*];omega)),rfl⟩
   obtain⟨⟨pp,n,rfl⟩,rfl⟩:=hcut;have p:=AE n;clear n;cases b with
   |false=>
    go_wp2_with fail;all_goals
     go_roundw
     case rel=>first|exact⟨j+1,aa,aj,Eh.mk (by rw[<-H.o];rfl),r,A,B⟩|((repeat apply Exists.intro);exact⟨⟨j+1,aa,aj,Eh.mk (by rw[<-H.o];rfl),r,A,B⟩,rfl⟩)|exact⟨_,_,_,_,_,⟨j+1,aa,aj,Eh.mk (by rw[<-H.o];rfl)⟩,rfl,rfl,rfl,rfl,rfl⟩
     simp[intOf];omega
   |true=>
    cases pp with
    |true=>
     have h:=AE (by unfold Ht;rw[<-p.o];rfl:Ht d (!(j==0))=true);go_wp2_with fail;all_goals
      go_roundw
      case rel=>first|exact⟨j+1,aa,aj,Eh.mk ak,r,A,B⟩|((repeat apply Exists.intro);exact⟨⟨j+1,aa,aj,Eh.mk ak,r,A,B⟩,rfl⟩)|exact⟨_,_,_,_,_,⟨j+1,aa,aj,Eh.mk ak⟩,rfl,rfl,rfl,rfl,rfl⟩
      simp[intOf];omega
    |false=>
     by_cases b7:0<j
     ·have E:=AE (by rw[(di:(j==0)=false)];rfl:(!(j==0))=true);rcases(aa:((48:Int)<=d.toNat/\(d.toNat:Int)<=57)\/((57:Int)<d.toNat)\/((d.toNat:Int)<48))with⟨b2,b3⟩|hD|hD
      ·as_aux_lemma=>
        have h:=AE (by unfold Ht;rw[<-p.o,E.o];rw[BH b2,BH b3];rfl:Ht d (!(j==0))=true);clear p;go_wp2_with fail;all_goals
         go_roundw
         case rel=>first|exact⟨j+1,aa,aj,Eh.mk ak,r,A,B⟩|((repeat apply Exists.intro);exact⟨⟨j+1,aa,aj,Eh.mk ak,r,A,B⟩,rfl⟩)|exact⟨_,_,_,_,_,⟨j+1,aa,aj,Eh.mk ak⟩,rfl,rfl,rfl,rfl,rfl⟩
         simp[intOf];omega
      ·as_aux_lemma=>
        have b8:(48:Int)<=d.toNat:=aa
        have h:=AE (by unfold Ht;rw[<-p.o,E.o];rw[AY (Int.not_le.2 hD),(di:((d.toNat:Int)==43)=false),(di:((d.toNat:Int)==45)=false),(di:((d.toNat:Int)==46)=false)];simp:Ht d (!(j==0))=false);clear p;go_wp2_with fail;all_goals
         go_roundw
         case rel=>first|exact⟨j+1,aa,aj,Eh.mk ak,r,A,B⟩|((repeat apply Exists.intro);exact⟨⟨j+1,aa,aj,Eh.mk ak,r,A,B⟩,rfl⟩)|exact⟨_,_,_,_,_,⟨j+1,aa,aj,Eh.mk ak⟩,rfl,rfl,rfl,rfl,rfl⟩
         simp[intOf];omega
      by_cases V:(d.toNat:Int)=43
      ·as_aux_lemma=>
        have h:=AE (by unfold Ht;rw[<-p.o,E.o];rw[(by rw[BL];exact V:((d.toNat:Int)==43)=true)];simp:Ht d (!(j==0))=true);clear p;go_wp2_with fail;all_goals
         go_roundw
         case rel=>first|exact⟨j+1,aa,aj,Eh.mk ak,r,A,B⟩|((repeat apply Exists.intro);exact⟨⟨j+1,aa,aj,Eh.mk ak,r,A,B⟩,rfl⟩)|exact⟨_,_,_,_,_,⟨j+1,aa,aj,Eh.mk ak⟩,rfl,rfl,rfl,rfl,rfl⟩
         simp[intOf];omega
      by_cases X:(d.toNat:Int)=45
      ·as_aux_lemma=>
        have h:=AE (by unfold Ht;rw[<-p.o,E.o];rw[(by rw[BL];exact X:((d.toNat:Int)==45)=true)];simp:Ht d (!(j==0))=true);clear p;go_wp2_with fail;all_goals
         go_roundw
         case rel=>first|exact⟨j+1,aa,aj,Eh.mk ak,r,A,B⟩|((repeat apply Exists.intro);exact⟨⟨j+1,aa,aj,Eh.mk ak,r,A,B⟩,rfl⟩)|exact⟨_,_,_,_,_,⟨j+1,aa,aj,Eh.mk ak⟩,rfl,rfl,rfl,rfl,rfl⟩
         simp[intOf];omega
      by_cases Y:(d.toNat:Int)=46
      ·as_aux_lemma=>
        have h:=AE (by unfold Ht;rw[<-p.o,E.o];rw[(by rw[BL];exact Y:((d.toNat:Int)==46)=true)];simp:Ht d (!(j==0))=true);clear p;go_wp2_with fail;all_goals
         go_roundw
         case rel=>first|exact⟨j+1,aa,aj,Eh.mk ak,r,A,B⟩|((repeat apply Exists.intro);exact⟨⟨j+1,aa,aj,Eh.mk ak,r,A,B⟩,rfl⟩)|exact⟨_,_,_,_,_,⟨j+1,aa,aj,Eh.mk ak⟩,rfl,rfl,rfl,rfl,rfl⟩
         simp[intOf];omega
      as_aux_lemma=>
       have V:((d.toNat:Int)==43)=false:=by rw[AI];exact V
       have X:((d.toNat:Int)==45)=false:=by rw[AI];exact X
       have Y:((d.toNat:Int)==46)=false:=by rw[AI];exact Y
       have h:=AE (by unfold Ht;rw[<-p.o,E.o];rw[AY (Int.not_le.2 hD),V,X,Y];simp:Ht d (!(j==0))=false);clear p;go_wp2_with fail;all_goals
        go_roundw
        case rel=>first|exact⟨j+1,aa,aj,Eh.mk ak,r,A,B⟩|((repeat apply Exists.intro);exact⟨⟨j+1,aa,aj,Eh.mk ak,r,A,B⟩,rfl⟩)|exact⟨_,_,_,_,_,⟨j+1,aa,aj,Eh.mk ak⟩,rfl,rfl,rfl,rfl,rfl⟩
        simp[intOf];omega
     have E:=AE (by rw[(uz:(j==0)=true)];rfl:(!(j==0))=false)
     as_aux_lemma=>
      have h:=AE (by unfold Ht;rw[<-p.o,E.o];rfl:Ht d (!(j==0))=false);clear p;go_wp2_with fail;all_goals
       go_roundw
       case rel=>first|exact⟨j+1,aa,aj,Eh.mk ak,r,A,B⟩|((repeat apply Exists.intro);exact⟨⟨j+1,aa,aj,Eh.mk ak,r,A,B⟩,rfl⟩)|exact⟨_,_,_,_,_,⟨j+1,aa,aj,Eh.mk ak⟩,rfl,rfl,rfl,rfl,rfl⟩
       simp[intOf];omega
  obtain rfl:j=K:=aa
  have Z:b=Jp s:=by rw[T.o,hs.o];simp
  clear T hs;have az:=A.free;have ac:=A.cell;have a1:=A.lt;cases b with
  |false=>
   have e:=AE (Yu Z.symm);clear Z;go_wp2;go_meet;rw[e.o];exact⟨rfl,r,A,B⟩
  |true=>
   have e:=AE (c.parse Z.symm);clear Z;go_wp2_with fail;go_region;all_goals go_wp2_with fail
   all_goals
    go_meet;rw[e.o];exact⟨rfl,r.A6 (a:=⟨w.heap.size+1,0,none⟩) ah _,A.set 0 _,cu⟩
 obtain⟨rfl,r,A,B⟩:=hcut;clear R z C c;have a7:=RQ s;have b9:s.length<=y.length:=Q.1;clear Q;generalize a8:Ib s=S at a7 r A B|-;obtain⟨c0,S⟩:=S;have a9:=AE a8;clear a8;simp only at a7 r A B|-;obtain⟨g,rfl⟩:∃g:World,g=wc:=⟨_,rfl⟩;have az:=A.free;have ac:=A.cell;have rz:=r.free;have rc:=r.cell;have a1:=A.lt;have c3:=r.lt;by_cases n:hasPrefix S [47,47]=true
 ·have HA:=AE (eS n);have HT:=AE (by unfold trimPrefix;rw[AN n];rfl:trimPrefix S [47,47]=S.drop 2);have c4:2<=S.length:=by
   have:=dH [47,47] S n;have:=CI List.length this;simp at this;omega
  go_wp2_with fail;refine(L6 _ _ _).mono ?_;rintro e x⟨rfl,rfl⟩;rw[n];go_wp2_with fail;refine(Wn _ _ _).mono ?_;rintro e x⟨m,c,rfl,rfl⟩;obtain⟨D,h2,h3⟩:=c.auth;have b4:=AE (show Nl S=(true,(S.drop 2).take m.toNat,(S.drop 2).drop m.toNat)from HA.o.trans (by rw[HT.o];exact h3));clear h3 c;rw[BD]at h2;go_wp2_with fail;go_region;all_goals go_wp2_with fail
  all_goals
   refine AO (v:=.tuple #[(Oe l).val,.int .i64 0]) (by rw[To a3.o a5.o a9.o b4.o];simp[results,results23,go_sem,rc]<;>first|rfl|exact CM ag) rfl ⟨by rw[N6,Be,J];rfl,cu⟩
 have HA:=AE (eT n);go_wp2_with fail;refine(L6 _ _ _).mono ?_;rintro e x⟨rfl,rfl⟩;rw[AT.2 n];go_wp2_with fail;refine AO (v:=.tuple #[(Oe l).val,.int .i64 0]) (by rw[To a3.o a5.o a9.o HA.o];simp[results,results23,go_sem,rc]<;>rfl) rfl ⟨by rw[N6,Be,J];rfl,cu⟩
end Go.Proofs.YtignjjnflcpiiaaGreatDoor
