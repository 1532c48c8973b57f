/- What stands behind the name of a tag's attribute: the sig -/
import Derived.Test.YtignjjnflcpiiaaGreatDoorV18
import Derived.Test.YtignjjnflcpiiaaGreatDoorV19
set_option maxHeartbeats 16000000
set_option maxRecDepth 100000 set_option linter.all false
namespace Go.Proofs.YtignjjnflcpiiaaGreatDoor
open Go Go.RowKit Proofs.Tryz Lib
variable {R:Nat × List Av}{w0 w:World}{j B J e i c g p:Nat}{out:List Av}{v U:Value}{s n t N:Bs}{Q:Exit → Act → World → Prop}{A K a I:Act}{k d:Option Go.Addr}{b:List Nat}
def YA{I:Value}{d:Nat}
  (h:Mj s n d v [U,I,Value.string ⟨t.toArray⟩] A) (J:s.length<=1000000000) (m:Iy w B v out) (b:Below B w0 w) (K:B<=w0.heap.size) (M:out.length<=j) (O:j<=s.length) (a0:j<d) (a1:d<=s.length)
  (c:Hid ((∀h:d<s.length,s[d]≠61)->(Aw s d).1=R.1/\out++(Aw s d).2=R.2))
  (H:Hid (∀i,(∃h:d<s.length,s[d]=61)->i=Ab Am s (d+1)->(s.length<=i->i=R.1/\out=R.2)/\(i<s.length->(s.length<=Cw s i->s.length=R.1/\out=R.2)/\(Cw s i<s.length->(Aw s (Cw s i+Cx s i)).1=R.1/\(out++(if Ip.contains t then[(i+Cx s i,Cw s i-(i+Cx s i),D1 ((s.drop (i+Cx s i)).take (Cw s i-(i+Cx s i))))]else[]))++(Aw s (Cw s i+Cx s i)).2=R.2))))
  (N:O1 Q .normal s n B w0 R j) (u:O1 Q (.exit 3) s n B w0 R j) (S:Sq Q s n B w0 R):
  Code.wp prog Ub Q A w:=by
 obtain⟨u2,u3,u4,u5,F,rfl,hF⟩:=h;obtain⟨g,rfl⟩:=Qb hF;simp only[M5,CR,CT,AK,BG,Nat.reduceAdd,Nat.reduceSub];let a2:=bodyPost prog f124 (fun _ _=>True);delta Ub Sp On Om f124;dsimp only[Ak,Hc,Gj,Option.getD];have P:=AE N;have y:=AE u;have z:=AE S;clear N u S;have a3:=b.size;by_cases e:∃h:d<s.length,s[d]=61
 ·obtain⟨q,o⟩:=e;have H:=AE (fun i=>H.o i ⟨q,o⟩);have T:(s[d].toNat:Int)=61:=by rw[o];rfl
  have a4:¬((s.length:Int)<=(d:Int)):=aa
  have L:=AE (O0 Am (s:=s) (i:=d+1) aa);clear c;go_upto_region 22 with fail;go_cut[1] (fun x W=>x=.int .i64 ((d+1:Nat):Int)/\W=w)
  case first=>
   go_wp2;go_meet;exact⟨aj,rfl⟩
  case rest=>
  obtain⟨rfl,f⟩:=hcut;obtain rfl:=f.symm;clear f T o;go_upto_block 10 with fail;go_cut[1] (fun x W=>x=.int .i64 (Ab Am s (d+1):Int)/\W=w)
  case first=>
   go_wp2_with fail;go_loopw[1] (fun x wr=>∃k:Nat,x=k/\k<=s.length/\Hid (Ab Am s k=Ab Am s (d+1))/\wr=w) (fun x _=>s.length-(intOf x).toNat)
   case atStart=>exact⟨d+1,rfl,aa,AE rfl,rfl⟩
   obtain⟨k,rfl,hk,r,rfl⟩:=hrel;by_cases C:k<s.length
   ·have G:=U4 s[k] wr;have Y:=AE (Sm (p:=Am) C);have D:=AE (Sn (p:=Am) C);generalize Am s[k]=g at G Y D;cases g with
    |true=>
     have l:=AE (by rw[<-r.o,Y.o rfl]:Ab Am s (k+1)=Ab Am s (d+1));go_wp2_with fail;with_reducible refine G.mono ?_
     rintro x V⟨rfl,rfl⟩;go_wp2;go_roundw
     case rel=>exact⟨k+1,aj,aa,l,bo⟩
     simp[intOf];omega
    |false=>
     have l:=AE (by rw[<-r.o,D.o rfl]:Ab Am s (d+1)=k);go_wp2_with fail;with_reducible refine G.mono ?_
     rintro x V⟨rfl,rfl⟩;go_wp2;go_meet;exact⟨by rw[l.o],rfl⟩
   obtain rfl:k=s.length:=aa
   have l:=AE (by rw[<-r.o,So (AF _)]:Ab Am s (d+1)=s.length);go_wp2;go_meet;exact⟨by rw[l.o],rfl⟩
  case rest=>
  obtain⟨rfl,f⟩:=hcut;obtain rfl:=f.symm;clear f;have X:=L.o;have H:=AE (H.o _ rfl);generalize Ab Am s (d+1)=i at X H|-;clear L;by_cases E:i<s.length
  ·have a:=H.o.2 E;have Z:=AE a.1;have HG:=AE a.2;have a5:¬((s.length:Int)<=(i:Int)):=by omega
   clear a H;go_upto_if 162 with fail;go_cut[] (fun W=>W=w)
   case first=>
    go_wp2;go_meet;first|rfl|trivial
   case rest=>
   obtain rfl:=hcut.symm;clear hcut;apply_assumption;exact VL ⟨_,_,_,_,_,rfl,rfl⟩ J m b K M O E aa Z HG P.o z.o
  obtain rfl:i=s.length:=aa
  have a:=H.o.1 (AF _);have H1:=AE (by rw[Nat.min_self];exact a.1:min s.length s.length=R.1);have H2:=AE a.2;clear a H;go_wp2_with fail;refine z.o s.length v w _ ⟨_,_,_,_,_,rfl,rfl⟩ aa H1 (by rw[<-H2.o];exact m) b
 have c:=AE (c.o (fun h h2=>e ⟨h,h2⟩));clear H;by_cases q:d<s.length
 ·have o:((s[d].toNat:Int)!=61)=true:=by
   rw[DD];exact fun h=>e ⟨q,BQ.1 ag⟩
  have a6:(s[d].toNat:Int)<256:=by have:=s[d].toNat_lt;omega
  clear e;go_wp2_with fail;refine y.o d v out w _ ⟨_,_,_,_,_,rfl,rfl⟩ aa aa aa m b c
 obtain rfl:d=s.length:=aa
 clear e;go_wp2_with fail;refine y.o s.length v out w _ ⟨_,_,_,_,_,rfl,rfl⟩ aa aa aa m b c
def YB
  (h:Mj s n j v [U,Value.int .i64 (e:Int)] A) (z:s.length<=1000000000) (o:Iy w B v out) (H:Below B w0 w) (C:B<=w0.heap.size) (D:out.length<=J) (E:J<=s.length) (P:j<e) (T:e<s.length) (X:J<=j)
  (l:Hid (∀d,d=Ab Am s e->(∀h:d<s.length,s[d]≠61)->(Aw s d).1=R.1/\out++(Aw s d).2=R.2))
  (V:Hid (∀d i,d=Ab Am s e->(∃h:d<s.length,s[d]=61)->i=Ab Am s (d+1)->(s.length<=i->i=R.1/\out=R.2)/\(i<s.length->(s.length<=Cw s i->s.length=R.1/\out=R.2)/\(Cw s i<s.length->(Aw s (Cw s i+Cx s i)).1=R.1/\(out++(if Ip.contains (A2 ((s.drop j).take (e-j)))then[(i+Cx s i,Cw s i-(i+Cx s i),D1 ((s.drop (i+Cx s i)).take (Cw s i-(i+Cx s i))))]else[]))++(Aw s (Cw s i+Cx s i)).2=R.2))))
  (N:O1 Q .normal s n B w0 R J) (I:O1 Q (.exit 3) s n B w0 R J) (S:Sq Q s n B w0 R):
  Code.wp prog Sp Q A w:=by
 obtain⟨Z,u3,u4,u5,F,rfl,hF⟩:=h;obtain⟨g,rfl⟩:=Qb hF;simp only[M5,CR,CT,AK,BG,Nat.reduceAdd,Nat.reduceSub];let a0:=bodyPost prog f124 (fun _ _=>True);delta Sp On Om f124;dsimp only[Ak,Hc,Gj,Option.getD];have K:=H.size;have q:=fun W=>Ix ((s.drop j).take (e-j)) W ag
 generalize A2 ((s.drop j).take (e-j))=M at q V;have a1:(j:Int)<=(e:Int):=aa
 have a2:(e:Int)<=(s.length:Int):=aa
 go_upto_region 17 with fail;go_cut[10] (fun x a=>x=M/\Below w.heap.size w a)
 case first=>
  go_wp2_with fail;with_reducible refine(q _).mono ?_
  rintro x m⟨rfl,b⟩;go_wp2;go_meet;exact⟨rfl,b⟩
 case rest=>
 obtain⟨rfl,b⟩:=hcut;obtain⟨m,rfl⟩:∃x:World,x=wc:=⟨_,rfl⟩;have o:=A1.next o b;have H:=H.trans (b.mono aa);have K:=H.size;clear q b;have L:=AE (O0 Am (s:=s) (i:=e) aa);go_upto_region 18 with fail;go_cut[1] (fun x a=>x=e/\a=m)
 case first=>
  go_wp2;go_meet;exact⟨rfl,rfl⟩
 case rest=>
 obtain⟨rfl,c⟩:=hcut;obtain rfl:=c.symm;clear c;go_upto_block 8 with fail;go_cut[1] (fun x a=>x=.int .i64 (Ab Am s e:Int)/\a=m)
 case first=>
  go_wp2_with fail;go_loopw[1] (fun x wr=>∃k:Nat,x=k/\k<=s.length/\Hid (Ab Am s k=Ab Am s e)/\wr=m) (fun x _=>s.length-(intOf x).toNat)
  case atStart=>exact⟨e,rfl,aa,AE rfl,rfl⟩
  obtain⟨k,rfl,hk,r,rfl⟩:=hrel;by_cases t:k<s.length
  ·have G:=U4 s[k] wr;have Y:=AE (Sm (p:=Am) t);have u:=AE (Sn (p:=Am) t);generalize Am s[k]=g at G Y u;cases g with
   |true=>
    have f:=AE (by rw[<-r.o,Y.o rfl]:Ab Am s (k+1)=Ab Am s e);go_wp2_with fail;with_reducible refine G.mono ?_
    rintro x O⟨rfl,rfl⟩;go_wp2;go_roundw
    case rel=>exact⟨k+1,aj,aa,f,bo⟩
    simp[intOf];omega
   |false=>
    have f:=AE (by rw[<-r.o,u.o rfl]:Ab Am s e=k);go_wp2_with fail;with_reducible refine G.mono ?_
    rintro x O⟨rfl,rfl⟩;go_wp2;go_meet;exact⟨by rw[f.o],rfl⟩
  obtain rfl:k=s.length:=aa
  have f:=AE (by rw[<-r.o,So (AF _)]:Ab Am s e=s.length);go_wp2;go_meet;exact⟨by rw[f.o],rfl⟩
 case rest=>
 obtain⟨rfl,c⟩:=hcut;obtain rfl:=c.symm;clear c;have y:=L.o;have l:=AE (l.o _ rfl);have V:=AE (fun i=>V.o _ i rfl);generalize Ab Am s e=d at y l V|-;clear L;apply_assumption;exact YA ⟨_,_,_,_,_,rfl,rfl⟩ z o H C D E aa y.2 l V N I S
def YC{a:Nat}
  (h:Mj s N a v [] K) (hs:s.length<=1000000000) (O:Iy w B v out) (y:Below B w0 w) (hB:B<=w0.heap.size) (a3:out.length<=j) (P:j<=s.length) (a6:j<=a) (a7:a<s.length)
  (H:Hid ((Aw s j).1=R.1/\out++(Aw s j).2=R.2))
  (M:Hid (∀e,e=Ab Fc s (a+1)->s.length<=e->Aw s j=(s.length,[])))
  (f:Hid (∀e d,e=Ab Fc s (a+1)->e<s.length->d=Ab Am s e->(∀h:d<s.length,s[d]≠61)->Aw s j=Aw s d))
  (L:Hid (∀e d,e=Ab Fc s (a+1)->e<s.length->d=Ab Am s e->∀a8:d<s.length,s[d]=61->C5 s j=E9 s (A2 ((s.drop a).take (e-a))) (Ab Am s (d+1))))
  (S:O1 Q .normal s N B w0 R j) (T:O1 Q (.exit 3) s N B w0 R j) (U:Sq Q s N B w0 R):
  Code.wp prog lJ Q K w:=by
 obtain⟨u2,u3,u4,u5,F,rfl,hF⟩:=h;obtain⟨g,rfl⟩:=Qb hF;simp only[M5,CR,CT,AK,BG,Nat.reduceAdd,Nat.reduceSub];let a9:=bodyPost prog f124 (fun _ _=>True);delta lJ On Om f124;dsimp only[Ak,Hc,Gj,Option.getD];have HN:=AE S;have a4:=AE T;have V:=AE U;clear S T U;have b0:=y.size;have X:=AE (O0 Fc (s:=s) (i:=a+1) aa);go_upto_block 6 with fail;go_cut[9] (fun x W=>x=.int .i64 (Ab Fc s (a+1):Int)/\W=w)
 case first=>
  go_wp2_with fail;go_loopw[9] (fun x wr=>∃k:Nat,x=k/\k<=s.length/\Hid (Ab Fc s k=Ab Fc s (a+1))/\wr=w) (fun x _=>s.length-(intOf x).toNat)
  case atStart=>exact⟨a+1,aj,aa,AE rfl,rfl⟩
  obtain⟨k,rfl,hk,l,rfl⟩:=hrel;by_cases Z:k<s.length
  ·have G:=U4 s[k] wr;have b1:(s[k].toNat:Int)<256:=by have:=s[k].toNat_lt;omega
   have Y:=AE (Sm (p:=Fc) Z);have z:=AE (Sn (p:=Fc) Z);have c:=AE (by unfold Fc;rw[F2 s[k] 47,F2 s[k] 61,F2 s[k] 62];rfl:Fc s[k]=!(Am s[k]||((s[k].toNat:Int)==47)||((s[k].toNat:Int)==61)||((s[k].toNat:Int)==62)));go_upto_region 13 with fail;go_cut[108] (fun t W=>t=.bool (Fc s[k])/\W=wr)
   case first=>
    generalize Am s[k]=g at G c;cases g with
    |true=>
     go_wp2_with fail;with_reducible refine G.mono ?_
     rintro e o⟨rfl,rfl⟩;go_wp2;go_meet;exact⟨by rw[c.o];rfl,rfl⟩
    |false=>
     cases a0:((s[k].toNat:Int)!=47)with
     |false=>
      have m:=AE (Qt a0);go_wp2_with fail;with_reducible refine G.mono ?_
      rintro e o⟨rfl,rfl⟩;go_wp2;go_meet;exact⟨by rw[c.o,m.o];rfl,rfl⟩
     |true=>
      have m:=AE (Qs a0);cases a1:((s[k].toNat:Int)!=61)with
      |false=>
       have q:=AE (Qt a1);go_wp2_with fail;with_reducible refine G.mono ?_
       rintro e o⟨rfl,rfl⟩;go_wp2;go_meet;exact⟨by rw[c.o,m.o,q.o];rfl,rfl⟩
      |true=>
       have q:=AE (Qs a1);cases a2:((s[k].toNat:Int)!=62)with
       |false=>
        have C:=AE (Qt a2);go_wp2_with fail;with_reducible refine G.mono ?_
        rintro e o⟨rfl,rfl⟩;go_wp2;go_meet;exact⟨by rw[c.o,m.o,q.o,C.o];rfl,rfl⟩
       |true=>
        have C:=AE (Qs a2);go_wp2_with fail;with_reducible refine G.mono ?_
        rintro e o⟨rfl,rfl⟩;go_wp2;go_meet;exact⟨by rw[c.o,m.o,q.o,C.o];rfl,rfl⟩
   case rest=>
   obtain⟨rfl,b⟩:=hcut;obtain rfl:=b.symm;clear b G c;cases r:Fc s[k]with
   |true=>
    have n:=AE (by rw[<-l.o,Y.o r]:Ab Fc s (k+1)=Ab Fc s (a+1));clear r Y z l;go_wp2;go_roundw
    case rel=>exact⟨k+1,aj,aa,n,bo⟩
    simp[intOf];omega
   |false=>
    have n:=AE (by rw[<-l.o,z.o r]:Ab Fc s (a+1)=k);clear r Y z l;go_wp2;go_meet;exact⟨by rw[n.o],rfl⟩
  obtain rfl:k=s.length:=aa
  have n:=AE (by rw[<-l.o,So (AF _)]:Ab Fc s (a+1)=s.length);clear l;go_wp2;go_meet;exact⟨by rw[n.o],rfl⟩
 case rest=>
 obtain⟨rfl,b⟩:=hcut;obtain rfl:=b.symm;clear b;have a5:=X.o;have M:=AE (M.o _ rfl);have f:=AE (fun d=>f.o _ d rfl);have L:=AE (fun d=>L.o _ d rfl);generalize Ab Fc s (a+1)=e at a5 M f L|-;clear X;by_cases b2:s.length<=e
 ·obtain rfl:e=s.length:=by omega
  have E:=M.o (AF _);have H1:=AE (by rw[<-H.o.1,E];simp:min s.length s.length=R.1);have H2:=AE (by rw[<-H.o.2,E];simp:out=R.2);clear E M f L H;go_wp2_with fail;refine V.o s.length v w _ ⟨_,_,_,_,_,rfl,rfl⟩ aa H1 (by rw[<-H2.o];exact O) y
 have D:e<s.length:=aa
 have b3:¬((s.length:Int)<=(e:Int)):=aa
 have HB:=AE (show∀d,d=Ab Am s e->(∀h:d<s.length,s[d]≠61)->(Aw s d).1=R.1/\out++(Aw s d).2=R.2 from fun d I h=>by
  rw[<-f.o d D I h];exact H.o)
 have HV:=AE (show∀d i,d=Ab Am s e->(∃h:d<s.length,s[d]=61)->i=Ab Am s (d+1)->(s.length<=i->i=R.1/\out=R.2)/\(i<s.length->(s.length<=Cw s i->s.length=R.1/\out=R.2)/\(Cw s i<s.length->(Aw s (Cw s i+Cx s i)).1=R.1/\(out++(if Ip.contains (A2 ((s.drop a).take (e-a)))then[(i+Cx s i,Cw s i-(i+Cx s i),D1 ((s.drop (i+Cx s i)).take (Cw s i-(i+Cx s i))))]else[]))++(Aw s (Cw s i+Cx s i)).2=R.2))from fun d i I h hi=>by
  obtain⟨h1,h2⟩:=h;have A:=L.o d D I h1 h2;rw[<-hi]at A;refine⟨fun u=>?_,fun u=>⟨fun J=>?_,fun J=>?_⟩⟩
  ·have E:=VF A u;rw[<-H.o.1,<-H.o.2,E];simp
  ·have E:=VG A u J;rw[<-H.o.1,<-H.o.2,E];simp
  have E:=VH P A u J;rw[<-H.o.1,<-H.o.2,E];exact⟨rfl,by rw[AP]⟩)
 clear M f L H;go_upto_if 114 with fail;go_cut[1] (fun x W=>x=a/\W=w)
 case first=>
  go_wp2;go_meet;exact⟨rfl,rfl⟩
 case rest=>
 obtain⟨rfl,b⟩:=hcut;obtain rfl:=b.symm;clear b;apply_assumption;exact YB ⟨_,_,_,_,_,rfl,rfl⟩ hs O y hB a3 P aa D aa HB HV HN.o a4.o V.o
def YD{X:Act}
  (h:Mj s N j v [] X) (hs:s.length<=1000000000) (K:Iy w B v out) (C:Below B w0 w) (hB:B<=w0.heap.size) (a4:out.length<=j) (l:j<=s.length)
  (f:Hid ((Aw s j).1=R.1/\out++(Aw s j).2=R.2))
  (Z:O1 Q .normal s N B w0 R j) (a0:O1 Q (.exit 3) s N B w0 R j) (hS:Sq Q s N B w0 R):
  Code.wp prog On Q X w:=by
 obtain⟨u2,u3,u4,u5,F,rfl,hF⟩:=h;obtain⟨g,rfl⟩:=Qb hF;simp only[M5,CR,CT,AK,BG,Nat.reduceAdd,Nat.reduceSub];let a9:=bodyPost prog f124 (fun _ _=>True);delta On Om f124;dsimp only[Ak,Hc,Gj,Option.getD];have HN:=AE Z;have a5:=AE a0;have S:=AE hS;clear Z a0 hS;have b0:=C.size;have a1:=AE (O0 Et l);have H:=AE (VB l);have M:=AE (fun a e n o q r u=>VC (s:=s) (j:=j) (a:=a) (e:=e) l n o q r u);have b:=AE (fun a e d n o q r O P u=>VD (s:=s) (j:=j) (a:=a) (e:=e) (d:=d) l n o q r O P u);have L:=AE (fun a e d n o q r O P a6 u=>VE (s:=s) (j:=j) (a:=a) (e:=e) (d:=d) l n o q r O P a6 u);go_upto_block 4 with fail;go_cut[1] (fun x W=>x=.int .i64 (Ab Et s j:Int)/\W=w)
 case first=>
  go_wp2_with fail;go_loopw[1] (fun x wr=>∃k:Nat,x=k/\k<=s.length/\Hid (Ab Et s k=Ab Et s j)/\wr=w) (fun x _=>s.length-(intOf x).toNat)
  case atStart=>exact⟨j,rfl,aa,AE rfl,rfl⟩
  obtain⟨k,rfl,hk,m,rfl⟩:=hrel;by_cases a2:k<s.length
  ·have G:=U4 s[k] wr;have a7:(s[k].toNat:Int)<256:=by have:=s[k].toNat_lt;omega
   have Y:=AE (Sm (p:=Et) a2);have T:=AE (Sn (p:=Et) a2);have y:=AE (by unfold Et;rw[F2 s[k] 47];rfl:Et s[k]=(Am s[k]||((s[k].toNat:Int)==47)));go_upto_region 8 with fail;go_cut[63] (fun t W=>t=.bool (Et s[k])/\W=wr)
   case first=>
    generalize Am s[k]=g at G y;cases g with
    |true=>
     go_wp2_with fail;with_reducible refine G.mono ?_
     rintro e w2⟨rfl,rfl⟩;go_wp2;go_meet;exact⟨by rw[y.o];rfl,rfl⟩
    |false=>
     by_cases D:((s[k].toNat:Int)==47)=true
     ·go_wp2_with fail;with_reducible refine G.mono ?_
      rintro e w2⟨rfl,rfl⟩;go_wp2;go_meet;exact⟨by rw[y.o,D];rfl,rfl⟩
     have D:=AT.2 D;go_wp2_with fail;with_reducible refine G.mono ?_
     rintro e w2⟨rfl,rfl⟩;go_wp2;go_meet;exact⟨by rw[y.o,D];rfl,rfl⟩
   case rest=>
   obtain⟨rfl,c⟩:=hcut;obtain rfl:=c.symm;clear c G y;cases I:Et s[k]with
   |true=>
    have z:=AE (by rw[<-m.o,Y.o I]:Ab Et s (k+1)=Ab Et s j);clear I Y T m;go_wp2;go_roundw
    case rel=>exact⟨k+1,aj,aa,z,bo⟩
    simp[intOf];omega
   |false=>
    have z:=AE (by rw[<-m.o,T.o I]:Ab Et s j=k);clear I Y T m;go_wp2;go_meet;exact⟨by rw[z.o],rfl⟩
  obtain rfl:k=s.length:=aa
  have z:=AE (by rw[<-m.o,So (AF _)]:Ab Et s j=s.length);clear m;go_wp2;go_meet;exact⟨by rw[z.o],rfl⟩
 case rest=>
 obtain⟨rfl,c⟩:=hcut;obtain rfl:=c.symm;clear c;have a3:=a1.o;have H:=AE H.o;have M:=AE (fun e=>M.o _ e rfl);have b:=AE (fun e d=>b.o _ e d rfl);have L:=AE (fun e d=>L.o _ e d rfl);generalize Ab Et s j=a at a3 H M b L|-;clear a1;by_cases a8:s.length<=a
 ·obtain rfl:a=s.length:=by omega
  have E:=H.o (Or.inl (AF _));have U:=AE (by rw[<-f.o.1,E]:min (s.length+1) s.length=R.1);have V:=AE (by rw[<-f.o.2,E];simp:out=R.2);clear E H M b L f;go_wp2_with fail;refine S.o (s.length+1) v w _ ⟨_,_,_,_,_,rfl,rfl⟩ (AF _) U (by rw[<-V.o];exact K) C
 have A:a<s.length:=aa
 have b1:¬((s.length:Int)<=(a:Int)):=aa
 have a7:(s[a].toNat:Int)<256:=by have:=s[a].toNat_lt;omega
 by_cases J:((s[a].toNat:Int)==62)=true
 ·have i:s[a]=62:=BQ.1 (by have:=BL.1 J;simp;omega);have E:=H.o (Or.inr ⟨A,i⟩);have U:=AE (by rw[<-f.o.1,E]:min (a+1) s.length=R.1);have V:=AE (by rw[<-f.o.2,E];simp:out=R.2);clear E H M b L f i;go_wp2_with fail;refine S.o (a+1) v w _ ⟨_,_,_,_,_,rfl,rfl⟩ aa U (by rw[<-V.o];exact K) C
 have i:s[a]≠62:=fun h=>J iy
 have M:=AE (fun e=>M.o e A i);have b:=AE (fun e d=>b.o e d A i);have L:=AE (fun e d=>L.o e d A i);have J:=AT.2 J;clear H i a8;go_upto_if 75 with fail;go_cut[1] (fun x W=>x=a/\W=w)
 case first=>
  go_wp2;go_meet;exact⟨rfl,rfl⟩
 case rest=>
 obtain⟨rfl,c⟩:=hcut;obtain rfl:=c.symm;clear c;apply_assumption;exact YC ⟨_,_,_,_,_,rfl,rfl⟩ hs K C hB a4 l a3.1 A f M b L HN.o a5.o S.o
def Ou(x:Bs):Bool:=Qa.contains x
def YE(x:Bs):Ou x=((x==[115,99,114,105,112,116])||((x==[115,116,121,108,101])||((x==[116,101,120,116,97,114,101,97])||(x==[116,105,116,108,101])))):=by
 unfold Ou Qa;simp only[KG,List.contains_nil,Bool.or_false]
def YF(s:Bs)(i:Nat):A2 (s.drop i)=(A2 s).drop i:=by unfold A2;rw[List.map_drop]
theorem YG(s:Bs)(i:Nat):Dt s i=(if Ou (A2 ((s.drop i).takeWhile De))then Di (A2 s) (60::47::A2 ((s.drop i).takeWhile De)) (Aw s (Ab De s i)).1 else(Aw s (Ab De s i)).1,(Aw s (Ab De s i)).2):=by
 have h:(s.drop i).take (C7 (s.drop i) Em)=(s.drop i).takeWhile De:=Vo _ _;have H:i+C7 (s.drop i) Em=Ab De s i:=rfl;rw[Zc,h,H];have a:(Qa.contains (A2 ((s.drop i).takeWhile De)))=Ou (A2 ((s.drop i).takeWhile De)):=rfl;rw[a];cases Ou (A2 ((s.drop i).takeWhile De))with
 |false=>rfl
 |true=>
  simp only[DK];unfold Di;rw[<-YF,aH];rfl
def YH:((List.range 256).all fun n=>((decide (97<=((Bx n.toUInt8).toNat:Int))&&decide (((Bx n.toUInt8).toNat:Int)<=122))||(decide (48<=((Bx n.toUInt8).toNat:Int))&&decide (((Bx n.toUInt8).toNat:Int)<=57)))==De n.toUInt8)=true:=af
def YI(c:UInt8):De c=((decide (97<=((Bx c).toNat:Int))&&decide (((Bx c).toNat:Int)<=122))||(decide (48<=((Bx c).toNat:Int))&&decide (((Bx c).toNat:Int)<=57))):=by
 have:=AW.1 YH c.toNat (BT.2 c.toNat_lt);rw[show c.toNat.toUInt8=c by simp]at this;exact(BL.1 this).symm
def YJ
  (h:Mj s n j v [] A) (G:s.length<=1000000000) (I:n.length<=s.length) (c:Iy w B v R.2) (d:Below B w0 w) (J:B<=w0.heap.size) (K:j<=s.length+1) (b:Hid (min j s.length=R.1))
  (T:Hid (Dt s i=(if Ou n then Di (A2 s) (60::47::n) R.1 else R.1,R.2))):
  Code.wp prog lI (bodyPost prog f124 fun e p=>∃v,e=.returned (.tuple #[v,.int .i64 ((Dt s i).1:Int)])/\Iy p B v (Dt s i).2/\Below B w0 p) A w:=by
 obtain⟨U,L,N,O,F,rfl,hF⟩:=h;obtain⟨g,rfl⟩:=Qb hF;simp only[M5,CR,CT,AK,BG,Nat.reduceAdd,Nat.reduceSub];generalize Q:bodyPost prog f124 _=P;delta lI Om f124;dsimp only[Ak,Option.getD];subst Q;have S:=d.size;obtain⟨r,q⟩:=R;simp only at c b T;have V:r<=s.length:=by have:=b.o;omega
 have M:=AE (by have:=b.o;omega:(min (j:Int) (s.length:Int))=(r:Int));go_upto_region 41 with fail;go_cut[1] (fun x k=>x=r/\k=w)
 case first=>
  go_wp2;go_meet;exact⟨by first|rw[M.o]|(congr 1;have:=M.o;omega),rfl⟩
 case rest=>
 obtain⟨rfl,a⟩:=hcut;obtain rfl:=a.symm;clear a M b;have H:=AE (YE n);go_upto_region 42 with fail;go_cut[251] (fun t k=>t=.bool (Ou n)/\k=w)
 case first=>
  generalize X:(n==[115,99,114,105,112,116])=u at H;cases u with
  |true=>
   as_aux_lemma=>go_wp2;go_meet;exact⟨bu,rfl⟩
  |false=>
   generalize Y:(n==[115,116,121,108,101])=y at H;cases y with
   |true=>
    as_aux_lemma=>go_wp2;go_meet;exact⟨bu,rfl⟩
   |false=>
    generalize Z:(n==[116,101,120,116,97,114,101,97])=z at H;cases z with
    |true=>
     as_aux_lemma=>go_wp2;go_meet;exact⟨bu,rfl⟩
    |false=>
     generalize a0:(n==[116,105,116,108,101])=q4 at H;as_aux_lemma=>go_wp2;go_meet;exact⟨bu,rfl⟩
 case rest=>
 obtain⟨rfl,a⟩:=hcut;obtain rfl:=a.symm;clear a H;generalize Ou n=C at T|-;cases C with
 |false=>
  as_aux_lemma=>have T:=AE (show Dt s i=(r,q)from T.o);go_wp2;go_ret2;exact⟨_,by rw[T.o];rfl,by rw[T.o];exact c,d⟩
 |true=>
  as_aux_lemma=>
   have l:=AE (show Dt s i=(Di (A2 s) (60::47::n) r,q)from T.o);clear T;have m:=fun W=>Ix s W aa
   have hF:=fun W=>aI (A2 s) (60::47::n) r W (by rw[aH];omega) aa ah
   generalize Di (A2 s) (60::47::n) r=f at hF l;generalize A2 s=ls at m hF;go_wp2_with fail;with_reducible refine(m _).mono ?_
   rintro e w2⟨rfl,o⟩;have D:=A1.next c o;have E:=d.trans (o.mono aa);clear m o;go_wp2_with fail;refine(hF _).mono ?_;rintro e w3⟨rfl,rfl⟩;go_wp2;go_ret2;exact⟨_,by rw[l.o];rfl,by rw[l.o];exact D,E⟩
def Mj.at{L:List Value}(h:Mj s n j v L a):intOf (a.tmps.getD 1 undef)=(j:Int):=by
 obtain⟨u,U,b,c,F,rfl,hF⟩:=h;rfl
def YK(s:Bs)(i:Nat)(w:World)(hs:s.length<=1000000000)(hi:i<=s.length):Calls prog 124 #[s,i] w fun e W=>∃v,e=.returned (.tuple #[v,.int .i64 ((Dt s i).1:Int)])/\Iy W w.heap.size v (Dt s i).2/\Below w.heap.size w W:=by
 have T:=AE (YG s i);have a0:=AE (O0 De hi);go_enter func124,ntmps124;go_upto_block 0 with fail;go_cut[1,7] (fun x y m=>∃n:Bs,x=.int .i64 (Ab De s i:Int)/\y=n/\Hid (n=A2 ((s.drop i).takeWhile De))/\n.length<=s.length/\Below w.heap.size w m)
 case first=>
  go_wp2_with fail;go_loopw[1,7] (fun x y wr=>∃(k:Nat)(n:Bs),x=k/\y=n/\k<=s.length/\n.length<=k/\Hid (Ab De s k=Ab De s i)/\Hid (n++A2 ((s.drop k).takeWhile De)=A2 ((s.drop i).takeWhile De))/\Below w.heap.size w wr) (fun x _ _=>s.length-(intOf x).toNat)
  case atStart=>exact⟨i,[],rfl,rfl,hi,DE _,AE rfl,AE rfl,AG _ _⟩
  obtain⟨k,n,rfl,rfl,hk,L,c,M,B⟩:=hrel;by_cases o:k<s.length
  ·have C:=Ix [s[k]] wr ah;have Z:=AE (YI s[k]);have Y:=AE (fun h=>And.intro (Sm (p:=De) o h) (by rw[AH o,List.takeWhile_cons_of_pos h];rfl:A2 ((s.drop k).takeWhile De)=Bx s[k]::A2 ((s.drop (k+1)).takeWhile De)));have D:=AE (fun h=>And.intro (Sn (p:=De) o h) (by rw[AH o,List.takeWhile_cons_of_neg ko];rfl:A2 ((s.drop k).takeWhile De)=[]));have HW:=AE (ca:A2 [s[k]]=[Bx s[k]]);rw[HW.o]at C;have H1:=AE (by rw[AH o];rfl:(s.drop k).take 1=[s[k]]);have b2:wrap64 ((k:Int)+1)=(k:Int)+1:=by unfold wrap64;omega
   generalize De s[k]=q at Z Y D;generalize a8:Bx s[k]=l at C Z Y;have b3:(l.toNat:Int)<256:=by have:=l.toNat_lt;omega
   go_upto_region 4 with fail;go_cut[8] (fun t m=>t=.int .u8 (l.toNat:Int)/\Below wr.heap.size wr m)
   case first=>
    go_wp2_with fail
    (try rw[H1.o])
    with_reducible refine C.mono ?_
    rintro e N⟨rfl,b⟩;go_wp2;go_meet;exact⟨rfl,b⟩
   case rest=>
   obtain⟨rfl,b⟩:=hcut;obtain⟨N,rfl⟩:∃x:World,x=wc:=⟨_,rfl⟩;have r:=B.trans (b.mono B.size);clear C b B HW a8 H1;go_upto_region 5 with fail;go_cut[40] (fun t m=>t=.bool (!q)/\m=N)
   case first=>
    by_cases H:97<=(l.toNat:Int)
    ·have V:=AE (BH H);by_cases h2:(l.toNat:Int)<=122
     ·have P:=AE (BH h2);go_wp2;go_meet;exact⟨by rw[Z.o,V.o,P.o];rfl,rfl⟩
     have P:=AE (AY h2);by_cases E:48<=(l.toNat:Int)
     ·have g:=AE (BH E);by_cases F:(l.toNat:Int)<=57
      ·omega
      have u:=AE (AY F);go_wp2;go_meet;exact⟨by rw[Z.o,V.o,P.o,g.o,u.o];rfl,rfl⟩
     omega
    have V:=AE (AY H);by_cases E:48<=(l.toNat:Int)
    ·have g:=AE (BH E);by_cases F:(l.toNat:Int)<=57
     ·have u:=AE (BH F);go_wp2;go_meet;exact⟨by rw[Z.o,V.o,g.o,u.o];rfl,rfl⟩
     have u:=AE (AY F);go_wp2;go_meet;exact⟨by rw[Z.o,V.o,g.o,u.o];rfl,rfl⟩
    have g:=AE (AY E);go_wp2;go_meet;exact⟨by rw[Z.o,V.o,g.o];rfl,rfl⟩
   case rest=>
   obtain⟨rfl,a1⟩:=hcut;obtain rfl:=a1.symm;clear a1 Z;cases q with
   |true=>
    have H:=Y.o rfl;have a:=AE (by rw[<-c.o,H.1]:Ab De s (k+1)=Ab De s i);have d:=AE (by rw[<-M.o,H.2];simp:(n++[l])++A2 ((s.drop (k+1)).takeWhile De)=A2 ((s.drop i).takeWhile De));have B3:=r.alloc r.size (.cells #[.int .u8 (l.toNat:Int)] 5);clear H Y D c M;go_wp2;go_roundw
    case rel=>exact⟨k+1,n++[l],aj,ah,aa,ag,a,d,B3⟩
    simp[intOf];omega
   |false=>
    have H:=D.o rfl;have a:=AE (by rw[<-c.o,H.1]:Ab De s i=k);have d:=AE (by rw[<-M.o,H.2];simp:n=A2 ((s.drop i).takeWhile De));clear H Y D c M;go_wp2;go_meet;exact⟨n,by rw[a.o],rfl,d,aa,r⟩
  obtain rfl:k=s.length:=aa
  have a:=AE (by rw[<-c.o,So (AF _)]:Ab De s i=s.length);have d:=AE (by rw[<-M.o,AS];simp[A2]:n=A2 ((s.drop i).takeWhile De));clear c M;go_wp2;go_meet;exact⟨n,by rw[a.o],rfl,d,L,B⟩
 case rest=>
 obtain⟨n,rfl,rfl,a2,L,B⟩:=hcut;obtain⟨w1,rfl⟩:∃x:World,x=wc:=⟨_,rfl⟩;have T:=AE (by rw[T.o,a2.o]:Dt s i=(if Ou n then Di (A2 s) (60::47::n) (Aw s (Ab De s i)).1 else(Aw s (Ab De s i)).1,(Aw s (Ab De s i)).2));have a3:=a0.o;generalize Ab De s i=I at a3 T|-;generalize hR:Aw s I=R at T;have a4:=AE (by rw[hR];exact⟨rfl,rfl⟩:(Aw s I).1=R.1/\[]++(Aw s I).2=R.2);clear a0 a2 hR;go_upto_block 2 with fail;go_wp2_with fail;refine wp_loop (fun Q W=>∃(j:Nat)(v:Value)(O:List Av),Mj s n j v [] Q/\j<=s.length/\O.length<=j/\Iy W w.heap.size v O/\Hid ((Aw s j).1=R.1/\O++(Aw s j).2=R.2)/\Below w.heap.size w W) (fun Q _=>s.length-(intOf (Q.tmps.getD 1 undef)).toNat) ?_ ?_
 ·exact⟨I,_,[],⟨_,_,_,_,_,rfl,rfl⟩,a3.2,DE _,A1.nil _ _ _ _ _,a4,B⟩
 rintro a5 N⟨j,v,O,a6,hj,a9,b0,c,r⟩;have a7:=a6.at;clear a4 B;refine wp_block ?_;refine YD (R:=R) a6 hs b0 r (AF _) a9 hj c ?_ ?_ ?_
 ·intro J G S w3 K f z b1 U A b a;have X:=f.at;refine⟨⟨J,G,S,f,z,U,A,a,b⟩,?_⟩;show s.length-(intOf (K.tmps.getD 1 undef)).toNat<s.length-(intOf (a5.tmps.getD 1 undef)).toNat;rw[a7,X];omega
 ·intro J G S w3 K f z b1 U A b a;have X:=f.at;refine⟨⟨J,G,S,f,z,U,A,a,b⟩,?_⟩;show s.length-(intOf (K.tmps.getD 1 undef)).toNat<s.length-(intOf (a5.tmps.getD 1 undef)).toNat;rw[a7,X];omega
 intro J G w3 K f z d A b;apply_assumption;exact YJ f hs L A b (AF _) z d T
noncomputable def nJ:Code:=Ak (Ak (Ak (Ak (Ak (Ak (Ak (Ak ((f159.body).getD .skip))))))))
def YL{X:Option Bs}(J:Ho 139 [(0,Value.string ⟨s.toArray⟩),(8,Value.slice k b.length c)] I)(hl:b.length<=10000000)(b2:b.length<=c)(K:Below w0.heap.size w0 w)
  (HG:Hid (0<b.length->k=some ⟨g,0,none⟩)) (L:Hid (∀j(h:j<b.length),g<w.heap.size/\w.cell? ⟨g,j,none⟩=some (.int .i64 (b[j]:Int)))) (H1:Hid (∀x∈b,x<=1))
  (P:Hid (X=if(Es b).2.all (·==0)then some (Es b).1 else none)):
  Code.wp prog nJ (bodyPost prog f159 fun e w'=>e=.returned (Ok X)/\Below w0.heap.size w0 w') I w:=by
 obtain⟨fr,rfl⟩:=J.op;clear J;simp only[Fp,↓reduceIte,Nat.reduceAdd,Nat.reduceEqDiff];generalize hQ:bodyPost prog f159 _=Q';delta nJ f159;dsimp only[Ak,Option.getD];subst hQ;have a3:=K.size;go_wp2_with fail;go_loopw[8,13] (fun v x wr=>∃(S:Option Go.Addr)(o:Nat)(O:Bs),v=.slice S (b.length-o) (c-o)/\Hid (o<b.length->S=some ⟨g,o,none⟩)/\o<=b.length/\x=O/\8*O.length<=o/\Hid (O++(Es (b.drop o)).1=(Es b).1)/\Hid ((Es (b.drop o)).2=(Es b).2)/\Below w.heap.size w wr) (fun v _ _=>match v with| .slice _ n _=>n|_=>0)
 case atStart=>exact⟨k,0,[],rfl,HG,DE _,rfl,ah,AE ah,AE ah,AG _ _⟩
 obtain⟨S,o,O,rfl,Q,ho,rfl,b3,f,R,B⟩:=hrel;by_cases h8:8<=b.length-o
 ·have q:=Q.o aa;subst q;have T:((b.drop o).take 8).length=8:=by simp;omega
  have U:b.drop o=(b.drop o).take 8++b.drop (o+8):=by
   rw[<-ET];exact(CE 8 _).symm
  have t:=Qj (l:=b.drop (o+8)) T;rw[<-U]at t;have r:=AE (by rw[<-f.o,t];simp:(O++[(Cf ((b.drop o).take 8)).toUInt8])++(Es (b.drop (o+8))).1=(Es b).1);have a4:=AE (by rw[<-R.o,t]:(Es (b.drop (o+8))).2=(Es b).2);have Y:=AE (show∀m(h:o+m<b.length),m<8->Cf ((b.drop o).take (m+1))=Cf ((b.drop o).take m)*2+b[o+m]from fun m h h2=>by
   have u:m<(b.drop o).length:=ag
   rw[AZ u,kA,KL])
  clear t U T f R;have a5:(8:Int)<=((b.length-o:Nat):Int):=aa
  have b4:8<=c-o:=aa
  go_wp2_with fail;go_loopw[14,112] (fun n y W=>∃m:Nat,y=m/\m<=8/\n=.int .i64 (Cf ((b.drop o).take m):Int)/\Cf ((b.drop o).take m)<2^m/\W=wr) (fun _ y _=>8-(intOf y).toNat)
  case atStart=>exact⟨0,rfl,aa,rfl,by show Cf ([]:List Nat)<1;decide,rfl⟩
  obtain⟨m,rfl,u,rfl,i,rfl⟩:=hrel;by_cases a6:m<8
  ·have a:o+m<b.length:=by omega
   have M:=AE (Y.o m a a6);have a7:=H1.o _ (AQ a);have H:=L.o (o+m) a;have z:wr.cell? ⟨g,o+m,none⟩=some (.int .i64 (b[o+m]:Int)):=(B.cell (p:=⟨g,o+m,none⟩) H.1).trans H.2;have Z:2^(m+1)=2*2^m:=by rw[JB];omega
   have a8:=AE (by rw[M.o,Z];omega:Cf ((b.drop o).take (m+1))<2^(m+1));have a9:Cf ((b.drop o).take m)<256:=BN i (by
    have:m=0\/m=1\/m=2\/m=3\/m=4\/m=5\/m=6\/m=7:=aa
    rcases this with rfl|rfl|rfl|rfl|rfl|rfl|rfl|rfl<;>decide)
   clear H Z i;generalize Cf ((b.drop o).take m)=n at M a9|-;have V:=AE (aa:((n:Int)*2+(b[o+m]:Int))=((n*2+b[o+m]:Nat):Int));generalize b[o+m]=C at z a7 M V;go_wp2;go_roundw
   case rel=>exact⟨m+1,aj,aa,by rw[M.o];first|rw[V.o]|(congr 1;exact V.o),a8.o,bo⟩
   simp[intOf];omega
  obtain rfl:m=8:=aa
  have b0:Cf ((b.drop o).take 8)<256:=i;clear i Y;generalize Cf ((b.drop o).take 8)=n at b0 r|-;obtain⟨d,E⟩:∃d:UInt8,d=n.toUInt8:=⟨_,rfl⟩;rw[<-E]at r;have b5:(n:Int)=((d.toNat:Nat):Int):=by rw[E,CX];omega
  clear E;have b6:=d.toNat_lt;have B2:=B.alloc B.size (.cells #[.int .u8 (d.toNat:Int)] 5);have g1:¬9223372036854775807<O.length+1:=aa
  go_wp2_with fail;refine⟨⟨_,o+8,O++[d],by rw[KT,KT],AE (fun h=>?_),aa,ah,ag,r,a4,B2⟩,?_⟩
  ·first|rfl|rw[AL aa]
  show b.length-o-8<b.length-o;omega
 have F:=Z6 (l:=b.drop o) ag;have a0:=AE (by rw[<-f.o,F];simp:(Es b).1=O);have a1:=AE (by rw[<-R.o,F]:(Es b).2=b.drop o);have a2:=AE (by rw[P.o,a0.o,a1.o]:X=if(b.drop o).all (·==0)then some O else none);clear F f R a0 a1 P;have a5:¬(8:Int)<=((b.length-o:Nat):Int):=aa
 go_wp2_with fail;go_loopw[131] (fun y W=>∃m:Nat,y=m/\m<=b.length-o/\Hid ((b.drop o).all (·==0)=(b.drop (o+m)).all (·==0))/\W=wr) (fun y _=>b.length-o-(intOf y).toNat)
 case atStart=>exact⟨0,rfl,aa,AE rfl,rfl⟩
 obtain⟨m,rfl,u,A,rfl⟩:=hrel;have BW:=K.trans (B.mono a3);by_cases b7:m<b.length-o
 ·have a:o+m<b.length:=by omega
  have q:=Q.o aa;subst q;have H:=L.o (o+m) a;have z:wr.cell? ⟨g,o+m,none⟩=some (.int .i64 (b[o+m]:Int)):=(B.cell (p:=⟨g,o+m,none⟩) H.1).trans H.2;have D:=AE (by rw[AH a,FP];rfl:(b.drop (o+m)).all (·==0)=((b[o+m]==0)&&(b.drop (o+(m+1))).all (·==0)));clear H;generalize b[o+m]=C at z D;by_cases G:C=0
  ·subst G;have b1:=AE (by rw[A.o,D.o];rfl:(b.drop o).all (·==0)=(b.drop (o+(m+1))).all (·==0));clear A D;go_wp2;go_roundw
   case rel=>exact⟨m+1,aj,aa,b1,bo⟩
   simp[intOf];omega
  have b8:((C:Int)!=0)=true:=gi
  have N:=AE (show X=none from by
   rw[a2.o,A.o,D.o,AI.2 G];rfl)
  clear A D G;go_wp2;go_ret2;exact⟨ay,BW⟩
 obtain rfl:m=b.length-o:=aa
 have N:=AE (show X=some O from by
  rw[a2.o,A.o,BP aa];rfl)
 go_wp2;go_ret2;exact⟨ay,BW⟩
def YM(h:N7 w B (.slice d b.length p) b):∃g,b.length<=p/\(0<b.length->d=some ⟨g,0,none⟩)/\∀j(h:j<b.length),g<w.heap.size/\w.cell? ⟨g,j,none⟩=some (.int .i64 (b[j]:Int)):=by
 obtain⟨a,C,H,k⟩:=A1.rd ae Sk h;injection H with E o q;subst E;have c:b.length<=p:=by
  unfold N7 A1 at h;rcases h.2 with⟨H,h0⟩|⟨g,C,r,H,e,s,u,c,z,v⟩
  ·injection H with F l m;omega
  injection H with F l m;omega
 by_cases h0:0<b.length
 ·obtain⟨g,e,t,n⟩:=k h0;refine⟨g,c,fun _=>e,fun j f=>⟨t,?_⟩⟩;rw[n j aa];have i:=L8 (cs:=Nx) Sk b j f 0 ae;rw[IE,BI]at i;rw[i];rfl
 exact⟨0,c,fun h=>absurd h h0,fun j f=>aa⟩
def nK(s:Bs)(w:World)(hl:s.length<=1000000):Calls prog 159 #[s] w fun e w'=>e=.returned (Ok (Dr s))/\Below w.heap.size w w':=by
 rw[<-wH];have P:=AE (ca:Pg s=Pf (s.filter fun c=>!Am c));have b2:=AE (show(s.filter fun c=>!Am c).length<=s.length from JH _ _);go_enter func159,ntmps159;go_upto_block 0 with fail;go_cut[4] (fun v l=>Bq l w.heap.size v (s.filter fun c=>!Am c)/\Below w.heap.size w l)
 case first=>
  go_wp2_with fail;go_loopw[4,21] (fun v i wr=>∃(k:Nat)(o:Bs),i=k/\k<=s.length/\o.length<=k/\Bq wr w.heap.size v o/\Hid (o=(s.take k).filter fun c=>!Am c)/\Below w.heap.size w wr) (fun _ i _=>s.length-(intOf i).toNat)
  case atStart=>exact⟨0,[],rfl,aa,ah,A1.nil _ _ _ _ _,AE ah,AG _ _⟩
  obtain⟨k,o,rfl,hk,e5,b,HO,B⟩:=hrel;by_cases a0:k<s.length
  ·have a1:=AE (show((s.take (k+1)).filter fun c=>!Am c)=o++(if !Am s[k]then[s[k]]else[])from by
    rw[AZ a0,List.filter_append,<-HO.o];congr 1;rw[DB,List.filter_nil])
   have G:=AE (TV s[k]);have a2:(s[k].toNat:Int)<256:=ku
   go_upto_region 6 with fail;generalize s[k]=c at a1 G a2|-;have F:=AE (show(!Am c)=false->o=(s.take (k+1)).filter fun c=>!Am c from fun h=>by rw[a1.o,h];simp);have K:=AE (show(!Am c)=true->o++[c]=(s.take (k+1)).filter fun c=>!Am c from fun h=>by rw[a1.o,h];rfl);clear a1;cases b3:((c.toNat:Int)!=13)with
   |false=>
    have O:=AE b3;have u:=AE (F.o (by rw[G.o,O.o];rfl));clear F K G;go_wp2;go_roundw
    case rel=>exact⟨k+1,o,aj,aa,aa,b,u,B⟩
    simp[intOf];omega
   |true=>
    have O:=AE b3;cases b4:((c.toNat:Int)!=10)with
    |false=>
     have S:=AE b4;have u:=AE (F.o (by rw[G.o,O.o,S.o];rfl));clear F K G;go_wp2;go_roundw
     case rel=>exact⟨k+1,o,aj,aa,aa,b,u,B⟩
     simp[intOf];omega
    |true=>
     have S:=AE b4;cases b5:((c.toNat:Int)!=32)with
     |false=>
      have a3:=AE b5;have u:=AE (F.o (by rw[G.o,O.o,S.o,a3.o];rfl));clear F K G;go_wp2;go_roundw
      case rel=>exact⟨k+1,o,aj,aa,aa,b,u,B⟩
      simp[intOf];omega
     |true=>
      have a3:=AE b5;cases h9:((c.toNat:Int)!=9)with
      |false=>
       have H9:=AE h9;have u:=AE (F.o (by rw[G.o,O.o,S.o,a3.o,H9.o];rfl));clear F K G;go_wp2;go_roundw
       case rel=>exact⟨k+1,o,aj,aa,aa,b,u,B⟩
       simp[intOf];omega
      |true=>
       have H9:=AE h9;have u:=AE (K.o (by rw[G.o,O.o,S.o,a3.o,H9.o];rfl));clear F K G;go_wp2_with(at_builtin;refine Q6 rfl _ _ rfl w.heap.size _ o [c] wr.heap.size 1 1 rfl rfl (Bq.alloc b _) rfl (Tf wr c _) ag cy ?_;intro V Q f H);have q:=(B.alloc B.size (.cells #[.int .u8 (c.toNat:Int)] 5)).trans H;clear H;go_wp2;go_roundw
       case rel=>exact⟨k+1,o++[c],aj,aa,ag,f,u,q⟩
       simp[intOf];omega
  obtain rfl:k=s.length:=aa
  have N:=AE (by rw[HO.o,CY]:o=s.filter fun c=>!Am c);go_wp2;go_meet;exact⟨by rw[<-N.o];exact b,B⟩
 case rest=>
 obtain⟨b,B⟩:=hcut;obtain⟨W,rfl⟩:∃x:World,x=wc:=⟨_,rfl⟩;have c7:=b2.o;have P:=AE P.o;generalize(s.filter fun c=>!Am c)=L at b c7 P;obtain⟨la,a4,rfl,y⟩:=Bq.shape b;have a8:=AE y;have U:L.length<=a4\/L.length=0:=by
  rcases b.2 with⟨C,h2⟩|⟨g,e6,e7,C,_,_,U,_⟩
  ·exact Or.inr h2
  injection C with e8 e9 e3;subst e3;exact Or.inl U
 have f0:L.length<=a4:=aa
 have b6:=AE (TR L);have b7:=AE (W4 L);have b8:=B.size;clear y b2 U;by_cases h4:L.length%4=0
 case neg=>
  have N:=AE (by rw[P.o];unfold Pf;rw[AN h4]:Pg s=none);have b9:((L.length:Int)%4 !=0)=true:=gi
  go_wp2;go_ret2;exact⟨ay,B⟩
 have P:=AE (show Pg s=match D2 (L.take (L.length-Dh L))with
  |none=>none
  |some Ep=>if(Es Ep).2.all (·==0)then some (Es Ep).1 else none from by rw[P.o];unfold Pf;rw[AL aa];rfl)
 have b9:(L.length:Int)%4=0:=aa
 go_upto_region 11 with fail;clear b9;go_upto_block 2 with fail;go_cut[7] (fun x l=>x=.int .i64 (Dh L:Int)/\l=W)
 case first=>
  go_wp2_with fail;go_loopw[7] (fun x wr=>∃p:Nat,x=p/\p<=2/\p<=L.length/\Hid ((1<=p->Mi L 0=true)/\(2<=p->Mi L 1=true))/\wr=W) (fun x _=>2-(intOf x).toNat)
  case atStart=>exact⟨0,rfl,aa,aa,AE ⟨aa,aa⟩,rfl⟩
  obtain⟨p,rfl,a9,f1,HS,rfl⟩:=hrel;have T:=AE (ca:Mi L p=(decide (p<2)&&(decide (p<L.length)&&(L.getD (L.length-1-p) 0==61))));have b0:=AE (show Mi L p=false->p<=2->Dh L=p from fun h hp=>by
   rw[b6.o];have C:=HS.o;have:p=0\/p=1\/p=2:=aa
   rcases this with rfl|rfl|rfl
   ·rw[h];rfl
   ·rw[C.1 aa,h];rfl
   rw[C.1 aa,C.2 aa];rfl)
  by_cases hp:p<2
  ·by_cases c0:p<L.length
   ·have hi:L.length-1-p<L.length:=by omega
    have hg:L.getD (L.length-1-p) 0=L[L.length-1-p]:=by rw[AM];simp[hi]
    obtain⟨g,he,a5⟩:=a8.o (L.length-1-p) hi;subst he;have T:=AE (by rw[T.o,BH hp,BH c0,hg,F2];rfl:Mi L p=(((L[L.length-1-p]).toNat:Int)==61));have a2:((L[L.length-1-p]).toNat:Int)<256:=by have:=(L[L.length-1-p]).toNat_lt;omega
    have z1:wrap64 ((L.length:Int)-1)=(L.length:Int)-1:=da
    have z2:(L.length:Int)-1-(p:Int)=((L.length-1-p:Nat):Int):=aa
    have i0:((L.length-1-p:Nat):Int)<(L.length:Int):=aa
    clear hg;generalize L[L.length-1-p]=c at a5 T a2;cases c1:((c.toNat:Int)==61)with
    |true=>
     have c8:=AE (show(1<=p+1->Mi L 0=true)/\(2<=p+1->Mi L 1=true)from by
      have C:=HS.o;have h2:Mi L p=true:=by rw[T.o,c1]
      refine⟨fun _=>?_,fun _=>?_⟩
      ·by_cases h0:p=0
       ·subst h0;exact h2
       exact C.1 aa
      obtain rfl:p=1:=aa
      exact h2)
     go_wp2;go_roundw
     case rel=>exact⟨p+1,aj,aa,aa,c8,bo⟩
     simp[intOf];omega
    |false=>
     have N:=AE (b0.o (by rw[T.o,c1]) a9);go_wp2;go_meet;exact⟨fo,rfl⟩
   have N:=AE (b0.o (by rw[T.o,AY c0];simp) a9);have c2:¬(p:Int)<(L.length:Int):=aa
   go_wp2;go_meet;exact⟨fo,rfl⟩
  have N:=AE (b0.o (by rw[T.o,AY hp];rfl) a9);have c2:¬(p:Int)<2:=aa
  go_wp2;go_meet;exact⟨fo,rfl⟩
 case rest=>
 obtain⟨rfl,D⟩:=hcut;obtain rfl:=D.symm;clear D b6 h4;have c9:=b7.o;have P:=AE P.o;generalize Dh L=p at c9 P|-;generalize hX:L.take (L.length-p)=a at P;have c3:a.length=L.length-p:=by rw[<-hX];simp
 have d0:=AE (show∀j(h:j<a.length),∃g,la=some ⟨g,0,none⟩/\g<W.heap.size/\W.cell? ⟨g,j,none⟩=some (.int .u8 (a[j].toNat:Int))from fun j h=>by
  obtain⟨g,e,hc⟩:=a8.o j aa;refine⟨g,e,BJ W _ hc,?_⟩;rw[hc];subst hX;simp)
 clear hX a8 b7;have c2:(0:Int)<=(p:Int):=aa
 have z1:(L.length:Int)-(p:Int)=((a.length:Nat):Int):=aa
 have f2:a.length<=a4:=aa
 have f3:((a.length:Nat):Int)<=(a4:Int):=aa
 have d1:=AE c3;clear c3;go_upto_block 4 with fail;go_cut[8] (fun v l=>∃E ba b1,v=.slice ba E.length b1/\Hid (D2 a=some E)/\N7 l W.heap.size (.slice ba E.length b1) E/\Below W.heap.size W l)
 case first=>
  go_wp2_with fail;go_loopw[8,78] (fun v i wr=>∃(k:Nat)(A:List Nat),i=k/\k<=a.length/\A.length=6*k/\N7 wr W.heap.size v A/\Hid ((D2 (a.drop k)).map (A++·)=D2 a)/\Below W.heap.size W wr) (fun _ i _=>a.length-(intOf i).toNat)
  case atStart=>exact⟨0,[],rfl,aa,rfl,A1.nil _ _ _ _ _,AE ah,AG _ _⟩
  obtain⟨k,A,rfl,hk,c4,R,HB,J⟩:=hrel;by_cases a0:k<a.length
  ·obtain⟨g,he,d2,a5⟩:=d0.o k a0;subst he;have d3:=(J.cell (p:=⟨g,k,none⟩) d2).trans a5;have Y:=AE (show(if Bb a[k]<0 then none else((D2 (a.drop (k+1))).map (Aq (Bb a[k]).toNat++·)).map (A++·))=D2 a from by
    rw[<-HB.o,AH a0,fO];split<;>rfl)
   have f4:A.length<=6*k:=aa
   have d4:=AE c4;clear c4 a5 HB;generalize a[k]=c at d3 Y;have a2:(c.toNat:Int)<256:=eo
   go_upto_block 6 with fail;go_cut[11] (fun x l=>(∃n:Nat,x=n/\n<64/\Hid (Bb c=(n:Int))/\l=wr)\/(x=.int .i64 64/\Hid (Bb c<0)/\l=wr))
   case first=>
    go_wp2_with fail;go_loopw[11] (fun x l=>∃n:Nat,x=n/\n<=64/\Hid (∀m,m<n->Bv m≠c)/\l=wr) (fun x _=>64-(intOf x).toNat)
    case atStart=>exact⟨0,rfl,aa,AE (fun m hm=>aa),rfl⟩
    obtain⟨n,rfl,hn,M,rfl⟩:=hrel;by_cases a6:n<64
    ·have a7:=jX n wr a6;by_cases y:Bv n=c
     ·have I:=AE (by rw[<-y];exact(vR a6).1:Bb c=(n:Int));rw[y]at a7;clear y M;go_wp2_with fail;with_reducible refine a7.mono ?_
      rintro e w3⟨rfl,Z⟩;obtain rfl:=Z.symm;clear Z;go_wp2;go_meet;exact Or.inl ⟨n,rfl,a6,I,rfl⟩
     have d5:=AE (show∀m,m<n+1->Bv m≠c from fun m hm=>by
      by_cases h:m=n
      ·rw[h];exact y
      exact M.o m aa)
     have d6:(((Bv n).toNat:Int)!=(c.toNat:Int))=true:=by
      rw[DD];intro h;exact y (BQ.1 aa)
     generalize Bv n=d at a7 d6;clear y M;go_wp2_with fail;with_reducible refine a7.mono ?_
     rintro e w3⟨rfl,Z⟩;obtain rfl:=Z.symm;clear Z;go_wp2;go_roundw
     case rel=>exact⟨n+1,aj,aa,d5,bo⟩
     simp[intOf];omega
    obtain rfl:n=64:=aa
    have I:=AE (TS M.o);clear M;go_wp2;go_meet;exact Or.inr ⟨rfl,I,rfl⟩
   case rest=>
   rcases hcut with⟨n,rfl,a6,I,D⟩|⟨rfl,I,D⟩
   ·obtain rfl:=D.symm;clear D;have d7:=AE (show(D2 (a.drop (k+1))).map ((A++Aq n)++·)=D2 a from by
     rw[<-Y.o,I.o,AL aa,EW,Option.map_map];congr 1;funext z;simp)
    have f5:¬(n:Int)=64:=aa
    have f6:((n:Int)==64)=false:=di
    clear Y I;have c5:=d4.o;have f7:(0:Int)<=(n:Int):=aa
    go_wp2_with fail;go_loopw[8,12] (fun v x l=>∃m:Nat,x=.int .i64 (5-(m:Int))/\m<=6/\N7 l W.heap.size v (A++(Aq n).take m)/\Below W.heap.size W l) (fun _ x _=>(intOf x+1).toNat)
    case atStart=>exact⟨0,rfl,aa,by simpa using R,J⟩
    clear R J;obtain⟨m,rfl,hm,b,B⟩:=hrel;by_cases d8:m<6
    ·have M:=AE (TT n m d8);have f8:(A++(Aq n).take m).length<=6*k+6:=by simp[Aq,c5];omega
     have:m=0\/m=1\/m=2\/m=3\/m=4\/m=5:=aa
     rcases this with rfl|rfl|rfl|rfl|rfl|rfl
     ·have r:Go.bits .and .i64 ((n:Int)/32) 1=((Hu n 0:Nat):Int):=by
       rw[Kv _ aa aa];show _=((n/32%2:Nat):Int);omega
      go_wp2_with(at_builtin;refine Ku rfl _ _ rfl W.heap.size _ (A++(Aq n).take 0) (Hu n 0) wr.heap.size 1 rfl (A1.alloc b _) rfl eh aa cy ?_;intro V Q f t H);rw[AP,<-M.o]at f;have q:=(B.alloc B.size (.cells #[.int .i64 (Hu n 0:Int)] 3)).trans H;clear t H;go_wp2;go_roundw
      case rel=>exact⟨1,aj,aa,f,q⟩
      simp[intOf];try omega
     ·have r:Go.bits .and .i64 ((n:Int)/16) 1=((Hu n 1:Nat):Int):=by
       rw[Kv _ aa aa];show _=((n/16%2:Nat):Int);omega
      go_wp2_with(at_builtin;refine Ku rfl _ _ rfl W.heap.size _ (A++(Aq n).take 1) (Hu n 1) wr.heap.size 1 rfl (A1.alloc b _) rfl eh aa cy ?_;intro V Q f t H);rw[AP,<-M.o]at f;have q:=(B.alloc B.size (.cells #[.int .i64 (Hu n 1:Int)] 3)).trans H;clear t H;go_wp2;go_roundw
      case rel=>exact⟨2,aj,aa,f,q⟩
      simp[intOf];try omega
     ·have r:Go.bits .and .i64 ((n:Int)/8) 1=((Hu n 2:Nat):Int):=by
       rw[Kv _ aa aa];show _=((n/8%2:Nat):Int);omega
      go_wp2_with(at_builtin;refine Ku rfl _ _ rfl W.heap.size _ (A++(Aq n).take 2) (Hu n 2) wr.heap.size 1 rfl (A1.alloc b _) rfl eh aa cy ?_;intro V Q f t H);rw[AP,<-M.o]at f;have q:=(B.alloc B.size (.cells #[.int .i64 (Hu n 2:Int)] 3)).trans H;clear t H;go_wp2;go_roundw
      case rel=>exact⟨3,aj,aa,f,q⟩
      simp[intOf];try omega
     ·have r:Go.bits .and .i64 ((n:Int)/4) 1=((Hu n 3:Nat):Int):=by
       rw[Kv _ aa aa];show _=((n/4%2:Nat):Int);omega
      go_wp2_with(at_builtin;refine Ku rfl _ _ rfl W.heap.size _ (A++(Aq n).take 3) (Hu n 3) wr.heap.size 1 rfl (A1.alloc b _) rfl eh aa cy ?_;intro V Q f t H);rw[AP,<-M.o]at f;have q:=(B.alloc B.size (.cells #[.int .i64 (Hu n 3:Int)] 3)).trans H;clear t H;go_wp2;go_roundw
      case rel=>exact⟨4,aj,aa,f,q⟩
      simp[intOf];try omega
     ·have r:Go.bits .and .i64 ((n:Int)/2) 1=((Hu n 4:Nat):Int):=by
       rw[Kv _ aa aa];show _=((n/2%2:Nat):Int);omega
      go_wp2_with(at_builtin;refine Ku rfl _ _ rfl W.heap.size _ (A++(Aq n).take 4) (Hu n 4) wr.heap.size 1 rfl (A1.alloc b _) rfl eh aa cy ?_;intro V Q f t H);rw[AP,<-M.o]at f;have q:=(B.alloc B.size (.cells #[.int .i64 (Hu n 4:Int)] 3)).trans H;clear t H;go_wp2;go_roundw
      case rel=>exact⟨5,aj,aa,f,q⟩
      simp[intOf];try omega
     have r:Go.bits .and .i64 (n:Int) 1=((Hu n 5:Nat):Int):=by
      rw[Kv _ aa aa];show _=((n/1%2:Nat):Int);omega
     go_wp2_with(at_builtin;refine Ku rfl _ _ rfl W.heap.size _ (A++(Aq n).take 5) (Hu n 5) wr.heap.size 1 rfl (A1.alloc b _) rfl eh aa cy ?_;intro V Q f t H);rw[AP,<-M.o]at f;have q:=(B.alloc B.size (.cells #[.int .i64 (Hu n 5:Int)] 3)).trans H;clear t H;go_wp2;go_roundw
     case rel=>exact⟨6,aj,aa,f,q⟩
     simp[intOf];try omega
    obtain rfl:m=6:=aa
    have d9:N7 wr W.heap.size _ (A++Aq n):=b;clear b;go_wp2;go_roundw
    case rel=>exact⟨k+1,A++Aq n,aj,aa,by simp[Aq,c5];omega,d9,d7,B⟩
    simp[intOf];omega
   obtain rfl:=D.symm;clear D;have N:=AE (show Pg s=none from by
    have h:=Y.o;rw[AN I.o]at h;rw[P.o,<-h])
   have BW:=B.trans (J.mono b8);clear Y I;go_wp2;go_ret2;exact⟨ay,BW⟩
  obtain rfl:k=a.length:=aa
  have N:=AE (by rw[<-HB.o,AS];simp[D2]:D2 a=some A);obtain⟨ia,e0,rfl,_⟩:=A1.rd ae Sk R;go_wp2;go_meet;exact⟨A,ia,e0,rfl,N,R,J⟩
 case rest=>
 obtain⟨E,ba,b1,rfl,c6,R,J⟩:=hcut;obtain⟨w2,rfl⟩:∃x:World,x=wc:=⟨_,rfl⟩;have e1:=lA _ _ c6.o;have e2:E.length<=10000000:=by have:=d1.o;omega
 have HX:=AE (by rw[P.o,c6.o]:Pg s=if(Es E).2.all (·==0)then some (Es E).1 else none);have H1:=AE e1.2;have BW:=B.trans (J.mono b8);obtain⟨ga,U,hg,e4⟩:=YM R;apply_assumption;exact YL ⟨_,rfl,rfl,rfl⟩ (g:=ga) (X:=Pg s) e2 U BW (AE hg) (AE e4) H1 HX
end Go.Proofs.YtignjjnflcpiiaaGreatDoor
