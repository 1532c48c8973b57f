/- text.Unquote reads quoted-printable. Condition: the text -/
import Derived.Test.YtignjjnflcpiiaaGreatDoorV00
set_option maxHeartbeats 4000000
set_option maxRecDepth 100000 set_option linter.all false
namespace Go.Proofs.YtignjjnflcpiiaaGreatDoor
open Go Go.RowKit Proofs.Tryz Lib
def Du:Option Bs->Value
 |none=>.tuple #[.string ⟨#[]⟩,.iface 30 (.int .i64 3)]
 |some l=>.tuple #[l,.nilIface]
def fC(c:UInt8):Ly c=(Hy c||((c.toNat:Int)==32)||((c.toNat:Int)==9)):=by
 have h:∀d:UInt8,(c==d)=((c.toNat:Int)==(d.toNat:Int)):=fun d=>by
  by_cases e:c=d
  ·subst e;simp
  rw[AI.2 e,eq_comm,AI];intro h;exact e (BQ.1 aa)
 unfold Ly;rw[h 32,h 9];rfl
variable {l o:Bs}{c:UInt8}{v n p k q v' n' p':Nat}
def Z0(h:l.length<2):Jm (61::l)=none:=by
 match l,h with
 |[],_=>rfl
 |[_],_=>rfl
def fD(h:c≠61):Jm (c::l)=if Ly c then some (c,l)else none:=by
 unfold Jm;split
 ·rename_i e;injection e with e _;exact absurd e h
 ·rename_i e;injection e with E a;rw[E,a]
 rename_i e;cases e
def vH(h:c≠61):Db (c::l)=if Ly c then(Db l).map (c::·)else none:=by
 rw[Ve (GL _ _),fD h];cases Ly c<;>rfl
def fE(s:Bs)(w:World)(hl:s.length<=1000000)(hg:Cj w):Calls prog 253 #[s] w fun e g=>e=.returned (Du (Df s))/\Below w.heap.size w g:=by
 have hS:=Yg s [13,10] w aa ae hg;have b4:(Lib.split s [13,10]).length<=1000001:=fe
 have T:∀x∈Lib.split s [13,10],x.length<=1000000:=fun x V=>AV (Yc _ _ _ _ V) hl
 have X:Hid (Df s=Dz (Lib.split s [13,10])):=AE rfl;generalize Lib.split s [13,10]=l at hS b4 T X;have b5:=AE T;clear T;go_enter func253,ntmps253;go_wp2_with fail;refine hS.mono ?_;rintro e J⟨rfl,rfl⟩;go_wp2_with fail;go_loopw[4,15] (fun v i wr=>∃(k:Nat)(done:Bs),i=k/\k<=l.length/\Bq wr (w.heap.size+1) v done/\done.length<=k*1000002/\A0 wr w.heap.size (Ds l) 9/\(Dz (l.drop k)).map (done++·)=Dz l/\Below w.heap.size w wr) (fun _ i _=>l.length-(intOf i).toNat)
 case atStart=>exact⟨0,[],rfl,aa,A1.nil _ _ _ _ _,ah,A0.new _ _ _,ah,cu⟩
 obtain⟨k,done,rfl,hk,H,c4,b,a4,B⟩:=hrel;have Z:=AE a4;clear a4;have a5:=b.lt;by_cases a6:k<l.length
 ·have V:=b5.o l[k] (AQ _);have hy:=Yd l[k];have HL:=AE (show l.drop k=l[k]::l.drop (k+1)from AH a6);have hc:wr.cell? ⟨w.heap.size,k,none⟩=some (l[k]):=by rw[b.cell];simp[Ds,a6]
  have K:=AE (by rw[<-HL.o];exact Z.o:(Dz (l[k]::l.drop (k+1))).map (done++·)=Dz l);have a7:(!(l.drop (k+1)).isEmpty)=decide ((k:Int)+1<l.length):=by
   by_cases h:k+1<l.length
   ·rw[BH aa];simp;exact h
   rw[AY aa,show l.drop (k+1)=[]from IH.2 aa];rfl
  have b6:=AE a7;clear a7 HL Z;generalize l[k]=x at hc V hy K;generalize hr:l.drop (k+1)=r at K b6;have Hr:=AE hr;clear hr;go_wp2_with fail;refine(dO x [32,9] _ aa ae ae).mono ?_;rintro e L⟨rfl,f⟩;have b:=b.next f b.lt;have H:=H.next f;have B:=B.trans (f.mono B.size);clear f hc;have q:(trimRightS x [32,9]).length<=9223372036854775807:=by have:=T9 x [32,9];omega
  go_wp2_with fail;refine(dM _ [61] _ q).mono ?_;rintro e g⟨rfl,rfl⟩;go_wp2_with fail;refine(dN _ [61] _ q).mono ?_;rintro e g⟨rfl,rfl⟩;rw[(ca:hasSuffix (trimRightS x [32,9]) [61]=Mw x),(ca:trimSuffix (trimRightS x [32,9]) [61]=J7 x)];clear q;have M:=AE (ca:Dz (x::r)=match Db (J7 x)with|none=>none|some a=>(Dz r).map (a++(if Mw x||r.isEmpty then[]else[13,10])++·));generalize Mw x=a8 at M|-;generalize J7 x=y at hy M|-;obtain⟨J,rfl⟩:∃J:World,J=L:=⟨_,rfl⟩;have O:=AE (show Db y=none->Df s=none from fun h=>by rw[X.o,<-K.o,M.o,h];rfl);go_wp2_with fail;obtain⟨w0,rfl⟩:∃w0:World,w0=J:=⟨_,rfl⟩;go_loopw[4,9] (fun v i m=>∃(j:Nat)(d:Bs),i=j/\j<=y.length/\Bq m (w.heap.size+1) v (done++d)/\d.length<=j/\A0 m w.heap.size (Ds l) 9/\(Db (y.drop j)).map (d++·)=Db y/\Below w.heap.size w m) (fun _ i _=>y.length-(intOf i).toNat)
  case atStart=>exact⟨0,[],rfl,aa,by rw[BU];exact H,ah,b,ah,B⟩
  clear H b B a5;obtain⟨j,d,rfl,hj,H,c5,b,a9,B⟩:=hrel;have n:=AE a9;clear a9;have a5:=b.lt;have q:(done++d).length<=1000010000000:=ag
  by_cases b7:j<y.length
  ·have Y:=AE (show y.drop j=y[j]::y.drop (j+1)from AH b7);by_cases u:y[j]=61
   ·by_cases h2:j+2<y.length
    ·have a0:=AE (by rw[Y.o,u,AH (show j+1<y.length by omega),AH (show j+1+1<y.length by omega)]:y.drop j=61::y[j+1]::y[j+2]::y.drop (j+3));have i1:(j:Int)+1<y.length:=by omega
     have i2:(j:Int)+2<y.length:=aa
     have gA:=Vd y[j+1];have gB:=Vd y[j+2];have S:=AE (ca:Jm (61::y[j+1]::y[j+2]::y.drop (j+3))=if 0<=El y[j+1]/\0<=El y[j+2]then some ((El y[j+1]*16+El y[j+2]).toNat.toUInt8,y.drop (j+3))else none);have a1:=fun W=>dQ y[j+1] W
     have a2:=fun W=>dQ y[j+2] W
     generalize b8:El y[j+1]=A at gA S a1;generalize b9:El y[j+2]=P at gB S a2;clear b8 b9;have a3:=AE (show Db (y.drop j)=match Jm (y.drop j)with|none=>none|some (c,z)=>(Db z).map (c::·)from Ve (by rw[Y.o];exact GL _ _));go_wp2_with fail;refine(a1 _).mono ?_;rintro e g⟨rfl,rfl⟩;by_cases hA:0<=A
     ·go_wp2_with fail;refine(a2 _).mono ?_;rintro e g⟨rfl,rfl⟩;by_cases hB:0<=P
      ·obtain⟨D,b0,c0⟩:∃D:UInt8,(A*16+P).toNat.toUInt8=D/\A*16+P=(D.toNat:Int):=⟨_,rfl,ag⟩;have b1:Db (y.drop j)=(Db (y.drop (j+3))).map (D::·):=by rw[a3.o,a0.o,S.o,AN ⟨hA,hB⟩,b0]
       have c1:=AE b1;clear b1 b0;have o4:=sT A P hA aa hB aa;have c6:(D.toNat:Int)<256:=by have:=D.toNat_lt;omega
       have z1:IntKind.i64.wrap (A*16)=A*16:=CQ _ aa;have z2:IntKind.u8.wrap (D.toNat:Int)=(D.toNat:Int):=IntWalk.u8_in _ aa;have s1:IntKind.i64.wrap ((j:Int)+1)=(j:Int)+1:=CQ _ aa;have s2:IntKind.i64.wrap ((j:Int)+2)=(j:Int)+2:=CQ _ aa;have s3:0<=(j:Int)+1:=aa
       have s4:0<=(j:Int)+2:=aa
       have s5:((j:Int)+1).toNat=j+1:=aa
       have s6:((j:Int)+2).toNat=j+2:=aa
       go_upto_region 15 with fail;go_cut[4] (fun v m=>Bq m (w.heap.size+1) v (done++d++[D])/\A0 m w.heap.size (Ds l) 9/\Below w.heap.size w m)
       case first=>
        go_region_law((first
         |(refine sM ca _ _ ca (w.heap.size+1) _ (done++d) [D] wr.heap.size 1 1 rfl ae ca (by first|exact(H.alloc _).drew|exact Bq.alloc H.drew _) ca (sL wr D _) ag ag ?_;intro v' L C f)
         |(go_simp;(first|(with_reducible refine(a1 _).mono ?_)|(with_reducible refine(a2 _).mono ?_));rintro e g⟨rfl,rfl⟩)))
        all_goals
         go_wp2;go_meet;exact⟨C,(b.alloc _).drew.next f (DZ _),(B.alloc B.size _).drew.trans (f.mono (IF _))⟩
       clear H b B s1 s2 z1 z2 o4 c0;obtain⟨H,b,B⟩:=hcut;go_wp2;go_roundw
       case rel=>exact⟨j+3,d++[D],aj,aa,by rw[<-AP];exact H,ag,b,by rw[<-n.o,c1.o];cases Db (y.drop (j+3))<;>simp,B⟩
       simp[intOf];omega
      have N:=AE (O.o (by rw[<-n.o,a3.o,a0.o,S.o,AL (fun h=>hB h.2)];rfl));go_wp2_with fail;refine(Th 61 _).mono ?_;rintro e g⟨rfl,rfl⟩;rw[(ca:Hy 61=false)];go_wp2_with fail;refine AO (v:=Du none) fu rfl ⟨fo,B⟩
     have N:=AE (O.o (by rw[<-n.o,a3.o,a0.o,S.o,AL (fun h=>hA h.1)];rfl));go_wp2_with fail;refine(Th 61 _).mono ?_;rintro e g⟨rfl,rfl⟩;rw[(ca:Hy 61=false)];go_wp2_with fail;refine AO (v:=Du none) fu rfl ⟨fo,B⟩
    have N:=AE (O.o (by rw[<-n.o,Ve (by rw[Y.o];exact GL _ _),Y.o,u,Z0 ag];rfl));have i2:(y.length:Int)<=(j:Int)+2:=aa
    go_wp2_with fail;refine(Th 61 _).mono ?_;rintro e g⟨rfl,rfl⟩;rw[(ca:Hy 61=false)];go_wp2_with fail;refine AO (v:=Du none) fu rfl ⟨fo,B⟩
   have U:=AE (by rw[Y.o];exact vH u:Db (y.drop j)=if Ly y[j]then(Db (y.drop (j+1))).map (y[j]::·)else none);have o:=AE (fC y[j]);have b2:((y[j].toNat:Int)==61)=false:=by rw[AI];intro h;exact u (BQ.1 ag)
   have c2:(y[j].toNat:Int)<256:=by have:=y[j].toNat_lt;omega
   clear u Y;go_upto_region 14 with fail;generalize y[j]=c at U o b2 c2|-;go_upto_region 17 with fail;go_cut[80] (fun t m=>t=.bool (Ly c)/\m=wr)
   case first=>
    go_wp2_with fail;refine(Th c _).mono ?_;rintro e g⟨rfl,rfl⟩;generalize Hy c=pc at o|-;cases pc with
    |true=>
     go_wp2;go_meet;exact⟨by rw[o.o];rfl,rfl⟩
    |false=>
     by_cases F:((c.toNat:Int)==32)=true
     ·go_wp2;go_meet;exact⟨by rw[o.o,F];rfl,rfl⟩
     have F:=AT.2 F;by_cases Q:((c.toNat:Int)==9)=true
     ·go_wp2;go_meet;exact⟨by rw[o.o,F,Q];rfl,rfl⟩
     have Q:=AT.2 Q;go_wp2;go_meet;exact⟨by rw[o.o,F,Q];rfl,rfl⟩
   obtain⟨rfl,rfl⟩:=hcut;clear o b2;obtain⟨wr,rfl⟩:∃x:World,x=wc:=⟨_,rfl⟩;generalize Ly c=st at U|-;cases st with
   |false=>
    have N:=AE (O.o (by rw[<-n.o,U.o];rfl));go_wp2_with fail;refine AO (v:=Du none) fu rfl ⟨fo,B⟩
   |true=>
    go_wp2_with(at_builtin;refine Q6 rfl _ _ rfl (w.heap.size+1) _ (done++d) [c] wr.heap.size 1 1 rfl rfl (H.alloc _) rfl (Tf wr c _) ag ag ?_;intro v' L C f);go_wp2;go_roundw
    case rel=>exact⟨j+1,d++[c],aj,aa,by rw[<-AP];exact C,ag,(b.alloc _).next f aa,by rw[<-n.o,U.o,AN rfl];cases Db (y.drop (j+1))<;>simp,(B.alloc B.size _).trans (f.mono aa)⟩
    simp[intOf];omega
  obtain rfl:j=y.length:=aa
  have b3:Db y=some d:=by rw[<-n.o,AS];simp[Db,Kf]
  have E:=AE (by rw[<-K.o,M.o,b3];cases Dz r<;>simp:Dz l=(Dz r).map (done++d++(if a8||r.isEmpty then[]else[13,10])++·));clear b3;have c3:(done++d).length<=k*1000002+1000000:=ag
  generalize done++d=p at H c3 q E;have R:=AE (show r=l.drop (k+1)from Hr.o.symm);cases a8 with
  |true=>
   have G:=AE (by rw[E.o];cases Dz r<;>simp:(Dz r).map (p++·)=Dz l);clear E;go_wp2;go_roundw
   case rel=>exact⟨k+1,p,aj,aa,H,aa,b,by rw[<-R.o];exact G.o,B⟩
   simp[intOf];omega
  |false=>
   by_cases c7:k+1<l.length
   ·have I:r.isEmpty=false:=by rw[R.o];simp;omega
    have G:=AE (by rw[E.o,I];cases Dz r<;>simp:(Dz r).map ((p++[13,10])++·)=Dz l);clear E I;go_wp2_with(at_builtin;refine sN rfl _ _ rfl (w.heap.size+1) _ p [13,10] rfl H rfl ag aa ?_;intro v' L C f);go_wp2;go_roundw
    case rel=>exact⟨k+1,p++[13,10],aj,aa,C,ag,b.next f aa,by rw[<-R.o];exact G.o,B.trans (f.mono aa)⟩
    simp[intOf];omega
   have I:r.isEmpty=true:=by rw[R.o];simp;omega
   have G:=AE (by rw[E.o,I];cases Dz r<;>simp:(Dz r).map (p++·)=Dz l);clear E I;go_wp2;go_roundw
   case rel=>exact⟨k+1,p,aj,aa,H,aa,b,by rw[<-R.o];exact G.o,B⟩
   simp[intOf];omega
 obtain rfl:k=l.length:=aa
 have hd:Df s=some done:=by rw[X.o,<-Z.o];simp[Dz]
 have Hd:=AE hd;clear hd;have c8:=H.text;obtain⟨va,vc,rfl,_⟩:=H.shape;go_wp2_with fail;refine AO (v:=Du (some done)) fu rfl ⟨by rw[Hd.o],B⟩
def vI(h:Vc v n p)(H:Gb c n p=some (k,q))(b:Bb c<64):k<64/\q<=2/\((n+1)%4=1->q=0)/\((n+1)%4=2->q=0)/\((n+1)%4=3->q<=1):=by
 obtain⟨a,d,e,f,_⟩:=h;unfold Gb at H;split at H
 ·simp at H;omega
 split at H
 ·cases H
 simp at H;omega
def vJ(f:v<262144*64)(d:n%4=1->v<64)(e:n%4=2->v<4096)(g:n%4=3->v<262144)(H:p<=2)(a:n%4=1->p=0)(b:n%4=2->p=0)(c:n%4=3->p<=1)(h:F8 v n p=some (o,v',n',p')):Vc v' n' p'/\o.length<=3:=by
 unfold F8 at h;split at h
 ·simp at h;obtain⟨rfl,rfl,rfl,rfl⟩:=h;refine⟨⟨H,a,b,c,?_,?_,d,e⟩,ah⟩<;>omega
 split at h
 ·cases h
 simp at h;obtain⟨rfl,rfl,rfl,rfl⟩:=h;refine⟨⟨H,a,b,c,?_,?_,?_,?_⟩,ah⟩<;>omega
def vK:((List.range 256).all fun n=>Am n.toUInt8==decide (0<=indexByte [13,10,32,9] n.toUInt8))=true:=af
def vM(c:UInt8):Am c=decide (0<=indexByte [13,10,32,9] c):=by
 have:=AW.1 vK c.toNat (BT.2 c.toNat_lt);rw[show c.toNat.toUInt8=c by simp]at this;exact BL.1 this
def Z1(n:Nat):IntKind.u8.wrap (n:Int)=(n.toUInt8.toNat:Int):=by
 rw[IntKind.wrap_u8];simp
def vN(w:World)(a b c:UInt8)(t:TypeId)(i:Nat)(h:i<3):(w.alloc (.cells #[.int .u8 (a.toNat:Int),.int .u8 (b.toNat:Int),.int .u8 (c.toNat:Int)] t)).cell? ⟨w.heap.size,i,none⟩=some (.int .u8 (([a,b,c]:Bs)[i].toNat:Int)):=by
 rw[(A0.new w #[.int .u8 (a.toNat:Int),.int .u8 (b.toNat:Int),.int .u8 (c.toNat:Int)] t).cell]
 match i,h with
 |0,_=>rfl
 |1,_=>rfl
 |2,_=>rfl
def vO(w:World)(a b c:UInt8)(t:TypeId)(i:Nat)(h:i<[a,b].length):(w.alloc (.cells #[.int .u8 (a.toNat:Int),.int .u8 (b.toNat:Int),.int .u8 (c.toNat:Int)] t)).cell? ⟨w.heap.size,i,none⟩=some (.int .u8 ([a,b][i].toNat:Int)):=by
 rw[(A0.new w #[.int .u8 (a.toNat:Int),.int .u8 (b.toNat:Int),.int .u8 (c.toNat:Int)] t).cell]
 match i,h with
 |0,_=>rfl
 |1,_=>rfl
def vP(w:World)(a b c:UInt8)(t:TypeId)(i:Nat)(h:i<[a].length):(w.alloc (.cells #[.int .u8 (a.toNat:Int),.int .u8 (b.toNat:Int),.int .u8 (c.toNat:Int)] t)).cell? ⟨w.heap.size,i,none⟩=some (.int .u8 ([a][i].toNat:Int)):=by
 rw[(A0.new w #[.int .u8 (a.toNat:Int),.int .u8 (b.toNat:Int),.int .u8 (c.toNat:Int)] t).cell]
 match i,h with
 |0,_=>rfl
def fF(s:Bs)(w:World)(hl:s.length<=1000000000000):Calls prog 252 #[s] w fun e W=>e=.returned (Du (Dr s))/\Below w.heap.size w W:=by
 have hT:Hid (Dr s=Ce s 0 0 0):=AE rfl;go_enter func252,ntmps252;go_wp2_with fail;go_loopw[4,5,6,7,13] (fun o v n p i wr=>∃(k V N P:Nat)(done:Bs),i=k/\k<=s.length/\v=V/\n=N/\p=P/\N<=k/\Vc V N P/\Bq wr w.heap.size o done/\done.length<=3*k/\(Ce (s.drop k) V N P).map (done++·)=Dr s/\Below w.heap.size w wr) (fun _ _ _ _ i _=>s.length-(intOf i).toNat)
 case atStart=>exact⟨0,0,0,0,[],rfl,aa,rfl,rfl,rfl,aa,⟨aa,aa,aa,aa,aa,aa,aa,aa⟩,A1.nil _ _ _ _ _,ah,by simp[Dr],AG _ _⟩
 obtain⟨k,V,N,P,done,rfl,hk,rfl,rfl,rfl,c0,G,f,c1,a2,B⟩:=hrel;have T:=AE a2;clear a2;have l:=AE G;have hV:V<262144:=G.2.2.2.2.1;have hP:P<=2:=G.1;clear G;by_cases b3:k<s.length
 ·have HL:=AE (show s.drop k=s[k]::s.drop (k+1)from AH b3);have d:=AE (by rw[<-T.o,HL.o];rfl:(match J6 s[k] V N P with|none=>none|some (o,v',n',p')=>(Ce (s.drop (k+1)) v' n' p').map (o++·)).map (done++·)=Dr s);clear HL T;go_upto_region 7 with fail;have U:=AE (vM s[k]);have J:=Y8 s[k];have b4:(s[k].toNat:Int)<256:=by have:=s[k].toNat_lt;omega
  generalize s[k]=c at d U J b4|-;have hU:c.toNat.toUInt8=c:=ah
  have HU:=AE hU;clear hU;go_wp2_with fail;refine(P5 [13,10,32,9] _ c (by rw[<-HU.o];simp) _).mono ?_;rintro e W⟨rfl,rfl⟩;by_cases L:0<=indexByte [13,10,32,9] c
  ·have E:=AE (by unfold J6;rw[AN (by rw[U.o];exact BH L)]:J6 c V N P=some ([],V,N,P));generalize indexByte [13,10,32,9] c=q at L|-;go_wp2;go_roundw
   case rel=>exact⟨k+1,V,N,P,done,aj,aa,rfl,rfl,rfl,aa,l.o,f,aa,by rw[<-d.o,E.o];show _=((Ce (s.drop (k+1)) V N P).map ([]++·)).map (done++·);cases Ce (s.drop (k+1)) V N P<;>simp,B⟩
   simp[intOf];omega
  have E:=AE (by unfold J6;rw[AL (by rw[U.o];simpa using L)];rfl:J6 c V N P=match Gb c N P with|none=>none|some (k,p)=>F8 (V*64+k) (N+1) p);generalize indexByte [13,10,32,9] c=q at L|-;go_wp2_with fail;refine(P5 Q1 _ c (by rw[<-HU.o];simp) _).mono ?_;rintro e W⟨rfl,rfl⟩;rw[(ca:indexByte Q1 c=Bb c)];have r:=AE (ca:Gb c N P=if c=61/\2<=N%4 then some (0,P+1)else if Bb c<0\/0<P then none else some ((Bb c).toNat,P));have a3:c=61->Bb c=-1:=fun h=>iy
  have X:=AE a3;clear a3;generalize M:Bb c=I at J r X|-;have a4:=AE M;clear M;have Y:=AE (show Gb c N P=none->Dr s=none from fun h=>by rw[<-d.o,E.o,h];rfl);go_upto_block 2 with fail;go_cut[7,10] (fun p x wx=>∃K q:Nat,x=K/\p=q/\Gb c N P=some (K,q)/\wx=wr)
  case first=>
   by_cases g:c=61
   ·have M:I=-1:=X.o g;subst g;by_cases O:2<=N%4
    ·have b5:(2:Int)<=(N:Int)%4:=by omega
     have Z:=AE (by rw[r.o,AN ⟨rfl,O⟩]:Gb 61 N P=some (0,P+1));go_wp2;go_meet;exact⟨0,P+1,rfl,aj,Z.o,rfl⟩
    have b5:(N:Int)%4<2:=aa
    have H:=AE (Y.o (by rw[r.o,AL (fun h=>O h.2),AN (Or.inl aa)]));subst M;go_wp2_with fail;refine AO (v:=Du none) ei rfl ⟨ix,B⟩
   have c2:((c.toNat:Int)==61)=false:=by rw[AI];intro h;exact g (BQ.1 ag)
   by_cases R:I<0\/0<P
   ·have H:=AE (Y.o (by rw[r.o,AL (fun h=>g h.1),AN R]));clear g;by_cases hi:I<0
    ·go_wp2_with fail;refine AO (v:=Du none) ei rfl ⟨ix,B⟩
    have a5:(0:Int)<P:=aa
    clear R;go_wp2_with fail;refine AO (v:=Du none) ei rfl ⟨ix,B⟩
   have Z:=AE (by rw[r.o,AL (fun h=>g h.1),AL R]:Gb c N P=some (I.toNat,P));have hi:0<=I:=aa
   have a5:P=0:=aa
   clear g R;obtain⟨m,rfl⟩:∃m:Nat,I=m:=⟨I.toNat,aa⟩;subst a5;go_wp2;go_meet;exact⟨m,0,rfl,rfl,by rw[Z.o];simp,rfl⟩
  obtain⟨K,Q,rfl,rfl,a0,rfl⟩:=hcut;obtain⟨wr,rfl⟩:∃x:World,x=wc:=⟨_,rfl⟩;have b6:=vI l.o a0 (by rw[a4.o];exact J.2);have t:=AE (by rw[<-d.o,E.o,a0]:(match F8 (V*64+K) (N+1) Q with|none=>none|some (o,v',n',p')=>(Ce (s.drop (k+1)) v' n' p').map (o++·)).map (done++·)=Dr s);clear d E a0 Y r X a4 J;obtain⟨c3,hQ,a6,a7,a8⟩:=b6;have a9:(N+1)%4=1->V*64+K<64:=fun h=>by have:=l.o.2.2.2.2.2.1 aa;omega
  have b0:(N+1)%4=2->V*64+K<4096:=fun h=>by have:=l.o.2.2.2.2.2.2.1 aa;omega
  have b2:(N+1)%4=3->V*64+K<262144:=fun h=>by have:=l.o.2.2.2.2.2.2.2 aa;omega
  obtain⟨a,y⟩:∃a:Nat,V*64+K=a:=⟨_,rfl⟩;have o6:bits .or .i64 ((V:Int)*64) K=(a:Int):=(sR V K aa aa aa aa).trans aa;have c4:a<16777216:=aa
  have S:=AE (fun(o:Bs)(v' n' p':Nat)(h:F8 a (N+1) Q=some (o,v',n',p'))=>vJ (o:=o) (v':=v') (n':=n') (p':=p') (show a<262144*64 by omega) (by rw[<-y];exact a9) (by rw[<-y];exact b0) (by rw[<-y];exact b2) hQ a6 a7 a8 h);rw[y]at t;clear a6 a7 a8 a9 b0 b2 y l hP;have E:=AE (ca:F8 a (N+1) Q=if 0<(N+1)%4 then some ([],a,N+1,Q)else if Q=1/\a%256≠0\/Q=2/\a%65536≠0 then none else some ([(a/65536).toUInt8,(a/256).toUInt8,a.toUInt8].take (3-Q),0,N+1,Q));by_cases z:0<(N+1)%4
  ·have b7:(0:Int)<((N:Int)+1)%4:=by omega
   have a1:=AE (by rw[E.o,AN z]:F8 a (N+1) Q=some ([],a,N+1,Q));have b:=AE (S.o _ _ _ _ a1.o).1;have b8:=AE (by rw[<-t.o,a1.o];show _=((Ce (s.drop (k+1)) a (N+1) Q).map ([]++·)).map (done++·);cases Ce (s.drop (k+1)) a (N+1) Q<;>simp:(Ce (s.drop (k+1)) a (N+1) Q).map (done++·)=Dr s);clear E a1 t S z;go_wp2;go_roundw
   case rel=>exact⟨k+1,a,N+1,Q,done,aj,aa,rfl,aj,rfl,aa,b.o,f,aa,b8.o,B⟩
   simp[intOf];omega
  have b7:((N:Int)+1)%4=0:=aa
  have HX:=AE (show(Q=1/\a%256≠0\/Q=2/\a%65536≠0)->Dr s=none from fun h=>by rw[<-t.o,E.o,AL z,AN h];rfl);have u:=AE (show¬(Q=1/\a%256≠0\/Q=2/\a%65536≠0)->Vc 0 (N+1) Q/\(Ce (s.drop (k+1)) 0 (N+1) Q).map ((done++[(a/65536).toUInt8,(a/256).toUInt8,a.toUInt8].take (3-Q))++·)=Dr s from fun h=>by
   have he:F8 a (N+1) Q=some ([(a/65536).toUInt8,(a/256).toUInt8,a.toUInt8].take (3-Q),0,N+1,Q):=by rw[E.o,AL z,AL h]
   refine⟨(S.o _ _ _ _ he).1,?_⟩;rw[<-t.o,he];show _=((Ce (s.drop (k+1)) 0 (N+1) Q).map (_++·)).map (done++·);cases Ce (s.drop (k+1)) 0 (N+1) Q<;>simp)
  have z1:=Z1 (a/65536);have z2:=Z1 (a/256);have z3:=Z1 a;rw[(aa:((a/65536:Nat):Int)=(a:Int)/65536)]at z1;rw[(aa:((a/256:Nat):Int)=(a:Int)/256)]at z2;have c5:=sU a aa aa;have c6:=sV a aa aa;clear E t S z;generalize(a/65536).toUInt8=D at z1 u;generalize(a/256).toUInt8=j at z2 u;generalize a.toUInt8=A at z3 u;obtain rfl|rfl|rfl:Q=0\/Q=1\/Q=2:=aa
  ·have b:=AE (u.o (by simp[*]));go_wp2_with(at_builtin;refine Q6 rfl _ _ rfl w.heap.size _ done [D,j,A] wr.heap.size 3 3 rfl rfl (f.alloc _) rfl (fun i hi=>vN wr D j A _ i hi) ag cy ?_;intro v' w2 C F);go_wp2;go_roundw
   case rel=>exact⟨k+1,0,N+1,0,done++[D,j,A],aj,aa,rfl,aj,rfl,aa,b.o.1,C,ag,b.o.2,(B.alloc B.size _).trans F⟩
   simp[intOf];omega
  ·by_cases O:a%256=0
   ·have b1:((a:Int)%256 !=0)=false:=by rw[GS];omega
    have b:=AE (u.o (by simp[*]));go_wp2_with(at_builtin;refine Q6 rfl _ _ rfl w.heap.size _ done [D,j] wr.heap.size 2 3 rfl rfl (f.alloc _) rfl (vO wr D j A _) ag cy ?_;intro v' w2 C F);go_wp2;go_roundw
    case rel=>exact⟨k+1,0,N+1,1,done++[D,j],aj,aa,rfl,aj,rfl,aa,b.o.1,C,ag,b.o.2,(B.alloc B.size _).trans F⟩
    simp[intOf];omega
   have b1:((a:Int)%256 !=0)=true:=gi
   have H:=AE (HX.o (by simp[*]));go_wp2_with fail;refine AO (v:=Du none) ei rfl ⟨ix,B⟩
  by_cases O:a%65536=0
  ·have b1:((a:Int)%65536 !=0)=false:=by rw[GS];omega
   have b:=AE (u.o (by simp[*]));go_wp2_with(at_builtin;refine Q6 rfl _ _ rfl w.heap.size _ done [D] wr.heap.size 1 3 rfl rfl (f.alloc _) rfl (vP wr D j A _) ag cy ?_;intro v' w2 C F);go_wp2;go_roundw
   case rel=>exact⟨k+1,0,N+1,2,done++[D],aj,aa,rfl,aj,rfl,aa,b.o.1,C,ag,b.o.2,(B.alloc B.size _).trans F⟩
   simp[intOf];omega
  have b1:((a:Int)%65536 !=0)=true:=gi
  have H:=AE (HX.o (by simp[*]));go_wp2_with fail;refine AO (v:=Du none) ei rfl ⟨ix,B⟩
 obtain rfl:k=s.length:=aa
 have d:=AE (by rw[<-T.o,AS];unfold Ce;split<;>simp:(if 0<N%4 then none else some done)=Dr s);by_cases hN:0<N%4
 ·have b9:(0:Int)<(N:Int)%4:=by omega
  have H:=AE (by rw[<-d.o,AN hN]:Dr s=none);go_wp2_with fail;refine AO (v:=Du none) ei rfl ⟨ix,B⟩
 have b9:(N:Int)%4=0:=aa
 have H:=AE (by rw[<-d.o,AL hN]:Dr s=some done);have c7:=f.text;obtain⟨va,vc,rfl,_⟩:=f.shape;go_wp2_with fail;refine AO (v:=Du (some done)) ei rfl ⟨ix,B⟩
end Go.Proofs.YtignjjnflcpiiaaGreatDoor
