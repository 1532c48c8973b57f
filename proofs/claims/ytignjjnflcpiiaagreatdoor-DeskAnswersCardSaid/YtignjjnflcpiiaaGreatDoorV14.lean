/- Quoted-printable read, by the document's answer: as the p -/
import Derived.Test.YtignjjnflcpiiaaGreatDoorV04
import Derived.Test.YtignjjnflcpiiaaGreatDoorV13
set_option maxHeartbeats 8000000
set_option maxRecDepth 100000 set_option linter.all false
namespace Go.Proofs.YtignjjnflcpiiaaGreatDoor
open Go Go.RowKit Proofs.Tryz Lib
def Ok:Option Bs->Value
 |none=>.tuple #[.string ⟨#[]⟩,.int .i64 3]
 |some l=>.tuple #[l,.int .i64 0]
def Wo:Bs:=[48,49,50,51,52,53,54,55,56,57,65,66,67,68,69,70]
def RV:((List.range 127).all fun n=>indexByte Wo (upperB n.toUInt8)==El n.toUInt8)=true:=af
def RW(c:UInt8)(h:c.toNat<127):indexByte Wo (upperB c)=El c:=by
 have:=AW.1 RV c.toNat (BT.2 h);rw[show c.toNat.toUInt8=c by simp]at this;exact BL.1 this
def RX:((List.range 256).all fun n=>decide (n<127)||decide (El n.toUInt8<0))=true:=af
def jU(c:UInt8)(h:126<c.toNat):El c<0:=by
 have:=AW.1 RX c.toNat (BT.2 c.toNat_lt);rw[show c.toNat.toUInt8=c by simp]at this;simp at this;omega
theorem jV(c:UInt8)(w:World)(h:c.toNat<127):Calls prog 246 #[.int .u8 c.toNat] w fun e g=>e=.returned (.int .i64 (El c))/\Below w.heap.size w g:=by
 have D:=AE (RW c h);have H:=Tryz.strings_ToUpper_ascii ⟨#[c]⟩ (w.alloc (.cells #[.int .u8 (c.toNat:Int)] 5)) (show(1:Nat)<=140737488355328 by omega) (fun j b a=>by
  cases j with
  |zero=>simp at a;subst a;omega
  |succ j=>simp at a)
 have i:toUpperA (⟨#[c]⟩:ByteArray).data.toList=[upperB c]:=rfl;rw[i]at H;generalize upperB c=d at H D;have hI:=fun W=>P5 Wo (d.toNat:Int) d (Tm d) W
 have X:=AE (ca:Wo=[48,49,50,51,52,53,54,55,56,57,65,66,67,68,69,70]);rw[X.o]at hI;go_enter func246,ntmps246;go_wp2_with fail;with_reducible refine H.mono ?_
 rintro e k⟨rfl,f⟩;have B:=((AG w.heap.size w).alloc (AF _) (.cells #[.int .u8 (c.toNat:Int)] 5)).trans (f.mono ah);clear f;go_wp2_with fail;with_reducible refine(hI _).mono ?_
 rintro e l⟨rfl,rfl⟩;go_wp2;go_ret;exact⟨by rw[<-D.o,X.o];rfl,B⟩
theorem RY(a b:UInt8)(l:Bs):Jm (61::a::b::l)=if 0<=El a/\0<=El b then some ((El a*16+El b).toNat.toUInt8,l)else none:=rfl
variable {x z y:Bs}{k:Nat}
def RZ(h:trimRightS x [32,9]=[]):Mw x=false/\J7 x=[]:=by
 unfold Mw J7;rw[h];exact⟨rfl,rfl⟩
def SA(b:trimRightS x [32,9]=z)(d:z.length=k+1):Mw x=(z[k]' aa==61)/\J7 x=if(z[k]' aa==61)=true then z.take k else z:=by
 have l:k<z.length:=aa
 have e:z=z.take k++[z[k]]:=by
  rw[<-AZ l,CM aa]
 have H:hasSuffix z [61]=(z[k]==61):=by
  generalize z[k]=c at e;unfold hasSuffix;rw[DY,GI,BL];constructor
  ·rintro⟨t,a⟩;rw[e]at a;have:=CI List.getLast? a;simp at this;exact this.symm
  intro h;subst h;exact⟨z.take k,e.symm⟩
 unfold Mw J7;rw[b];refine⟨H,?_⟩;unfold trimSuffix;rw[H];have:z.length-[(61:UInt8)].length=k:=ag
 rw[this]
def SB(b:y.length=k+1):trimRightS y [32,9]=if((((y[k]' aa).toNat:Int)==32)||(((y[k]' aa).toNat:Int)==9))=true then trimRightS (y.take k) [32,9]else y:=by
 have H:k<y.length:=aa
 have e:y=y.take k++[y[k]]:=by
  rw[<-AZ H,CM aa]
 have h:=jK (y.take k) y[k] [32,9];rw[<-e]at h;have a:([32,9]:Bs).contains y[k]=((((y[k]' aa).toNat:Int)==32)||(((y[k]' aa).toNat:Int)==9)):=by
  rw[<-Sf];unfold Iw;rw[F2,F2];rfl
 rw[<-a];exact h
def SC(c:UInt8)(h:c≠61):Ly c=((decide (33<=(c.toNat:Int))&&decide ((c.toNat:Int)<=126))||((c.toNat:Int)==32)||((c.toNat:Int)==9)):=by
 have H:((c.toNat:Int)==61)=false:=by rw[AI];exact fun e=>h (BQ.1 ag)
 rw[fC,jP,H];simp
def SD{a b:Int}(H:0<=a)(c:a<16)(d:0<=b)(e:b<16):((((a*16+b).toNat.toUInt8).toNat:Nat):Int)=a*16+b:=by
 have h:(a*16+b).toNat<256:=aa
 rw[CX];omega
def jW(s:Bs)(w:World)(hl:s.length<=1000000)(hg:Cj w):Calls prog 160 #[s] w fun e w'=>e=.returned (Ok (Df s))/\Below w.heap.size w w':=by
 have hS:=Yg s [13,10] w aa ae hg;have d3:(split s [13,10]).length<=1000001:=fe
 have a8:∀x∈split s [13,10],x.length<=1000000:=fun x hx=>AV (Yc _ _ _ _ hx) hl
 have hT:Hid (Df s=Dz (split s [13,10])):=AE rfl;generalize split s [13,10]=L at hS d3 a8 hT;have d4:=AE a8;clear a8;go_enter func160,ntmps160;go_wp2_with fail;with_reducible refine hS.mono ?_
 rintro e w1⟨rfl,rfl⟩;clear hS;have k1:=A0.new w (Ds L) 9;have B1:=(AG w.heap.size w).alloc (AF _) (.cells (Ds L) 9);generalize w.alloc (.cells (Ds L) 9)=w1 at k1 B1|-;go_wp2_with fail;go_loopw[5,14] (fun v i wr=>∃(k:Nat)(o:Bs),v=o/\i=k/\k<=L.length/\o.length<=k*1000002/\A0 wr w.heap.size (Ds L) 9/\Hid ((Dz (L.drop k)).map (o++·)=Df s)/\Below w.heap.size w wr) (fun _ i _=>L.length-(intOf i).toNat)
 case atStart=>exact⟨0,[],rfl,rfl,aa,ah,k1,AE (by rw[hT.o];simp),B1⟩
 clear k1 B1 hT;obtain⟨k,o,rfl,rfl,p,e8,F,a9,B⟩:=hrel;by_cases c0:k<L.length
 ·have hx:=d4.o L[k] (AQ _);have G:wr.cell? ⟨w.heap.size,k,none⟩=some (L[k]):=by rw[F.cell];simp[Ds,c0]
  have I:=AE (show(match Db (J7 L[k])with|none=>none|some a=>(Dz (L.drop (k+1))).map (o++(a++(if Mw L[k]||(L.drop (k+1)).isEmpty then[]else[13,10]))++·))=Df s from by
   rw[<-a9.o,AH c0];show _=(match Db (J7 L[k])with|none=>none|some a=>(Dz (L.drop (k+1))).map (a++(if Mw L[k]||(L.drop (k+1)).isEmpty then[]else[13,10])++·)).map _;cases Db (J7 L[k])with
   |none=>rfl
   |some a=>simp only;rw[Option.map_map];congr 1;funext z;simp)
  have c1:(!(L.drop (k+1)).isEmpty)=decide ((k:Int)<(L.length:Int)-1):=by
   by_cases h:k+1<L.length
   ·rw[BH aa];simp;exact h
   rw[AY aa,show L.drop (k+1)=[]from IH.2 aa];rfl
  have S:=AE c1;clear c1 a9;generalize L[k]=x at G hx I;generalize(L.drop (k+1)).isEmpty=c2 at I S;have d5:=Yd x;have b0:=AE (show Db (J7 x)=none->Df s=none from fun h=>by rw[<-I.o,h]);have R:=AE (fun h=>RZ (x:=x) h);have D:=AE (fun z k hz p=>SA (x:=x) (z:=z) (k:=k) hz p);go_upto_block 2 with fail;go_cut[7] (fun v m=>v=(trimRightS x [32,9])/\m=wr)
  case first=>
   go_wp2_with fail;go_loopw[7] (fun v wq=>∃y:Bs,v=y/\y.length<=x.length/\Hid (trimRightS y [32,9]=trimRightS x [32,9])/\wq=wr) (fun v _=>Jn v)
   case atStart=>exact⟨x,rfl,AF _,AE rfl,rfl⟩
   obtain⟨y,rfl,e9,Y,rfl⟩:=hrel;by_cases b1:y=[]
   ·subst b1;have H:=AE (by rw[<-Y.o];rfl:trimRightS x [32,9]=[]);clear Y;go_wp2;go_meet;exact⟨by first|(rw[H.o];done)|(rw[H.o];rfl),rfl⟩
   obtain⟨k,p⟩:∃k,y.length=k+1:=⟨y.length-1,by have:=BK.2 b1;omega⟩;have c3:k<y.length:=aa
   have HS:=AE (SB p);have he:y.isEmpty=false:=by rw[AT];intro h;exact b1 (GK.1 h)
   have c4:wrap64 ((k:Int)+1-1)=(k:Int):=da
   have c5:(y[k].toNat:Int)<256:=by have:=y[k].toNat_lt;omega
   go_upto_region 6 with fail;go_cut[36] (fun t m=>t=.bool (((y[k].toNat:Int)==32)||((y[k].toNat:Int)==9))/\m=wr)
   case first=>
    by_cases J:((y[k].toNat:Int)==32)=true
    ·have C:=AE J;go_wp2;go_meet;exact⟨ic,rfl⟩
    have J:=AT.2 J;have C:=AE J;cases h9:((y[k].toNat:Int)==9)with
    |true=>
     have K:=AE h9;go_wp2;go_meet;exact⟨by rw[C.o,K.o];rfl,rfl⟩
    |false=>
     have K:=AE h9;go_wp2;go_meet;exact⟨by rw[C.o,K.o];rfl,rfl⟩
   case rest=>
   obtain⟨rfl,f⟩:=hcut;obtain rfl:=f.symm;clear f;generalize(((y[k].toNat:Int)==32)||((y[k].toNat:Int)==9))=q at HS|-;cases q with
   |true=>
    have b2:=AE (by rw[<-Y.o,HS.o];rfl:trimRightS (y.take k) [32,9]=trimRightS x [32,9]);clear HS Y;go_wp2_with fail;refine⟨⟨y.take k,?_,?_,b2,?_⟩,?_⟩
    ·simp
    ·rw[CH];omega
    ·first|rfl|trivial
    simp;omega
   |false=>
    have b2:=AE (by rw[<-Y.o,HS.o];rfl:trimRightS x [32,9]=y);clear HS Y;go_wp2;go_meet;exact⟨by rw[b2.o],rfl⟩
  case rest=>
  obtain⟨rfl,f⟩:=hcut;obtain rfl:=f.symm;clear f;have c6:=T9 x [32,9];have R:=AE R.o;have D:=AE (fun k p=>D.o _ k rfl p);generalize trimRightS x [32,9]=z at c6 R D|-;generalize d6:Mw x=so at I R D;generalize d7:J7 x=E at I R D b0 d5;clear d6 d7;go_upto_region 8 with fail;go_cut[8] (fun t m=>t=so/\m=wr)
  case first=>
   by_cases r:z=[]
   ·have H:=AE (R.o r);subst r;go_wp2;go_meet;exact⟨by rw[H.o.1],rfl⟩
   obtain⟨k,p⟩:∃k,z.length=k+1:=⟨z.length-1,by have:=BK.2 r;omega⟩;have c3:k<z.length:=aa
   have H:=AE (D.o k p);have he:z.isEmpty=false:=by rw[AT];intro h;exact r (GK.1 h)
   have c4:wrap64 ((k:Int)+1-1)=(k:Int):=da
   have c5:(z[k].toNat:Int)<256:=by have:=z[k].toNat_lt;omega
   have U:=AE (F2 z[k] 61);clear r;go_wp2;go_meet;exact⟨by rw[H.o.1,U.o];rfl,rfl⟩
  case rest=>
  obtain⟨rfl,f⟩:=hcut;obtain rfl:=f.symm;clear f;go_upto_region 9 with fail;go_upto_if 52 with fail;go_cut[7] (fun v m=>v=E/\m=wr)
  case first=>
   by_cases r:z=[]
   ·have H:=AE (R.o r);subst r;have d8:so=false:=H.o.1;subst d8;go_wp2;go_meet;exact⟨by first|(rw[H.o.2];done)|(rw[H.o.2];rfl),rfl⟩
   obtain⟨k,p⟩:∃k,z.length=k+1:=⟨z.length-1,by have:=BK.2 r;omega⟩;have c3:k<z.length:=aa
   have H:=D.o k p;have c4:wrap64 ((k:Int)+1-1)=(k:Int):=da
   clear r;rw[<-H.1]at H;have a4:=AE H.2;clear H;cases so with
   |true=>
    go_wp2;go_meet;exact⟨by first|(rw[a4.o];done)|(rw[a4.o];simp),rfl⟩
   |false=>
    go_wp2;go_meet;exact⟨by first|(rw[a4.o];done)|(rw[a4.o];rfl),rfl⟩
  case rest=>
  obtain⟨rfl,f⟩:=hcut;obtain rfl:=f.symm;clear f R D c6;go_upto_block 4 with fail;go_cut[5] (fun v m=>∃d:Bs,v=(o++d:Bs)/\Hid (Db E=some d)/\d.length<=x.length/\Below wr.heap.size wr m)
  case first=>
   go_wp2_with fail;go_loopw[5,7] (fun v u wq=>∃A y:Bs,v=A/\u=y/\A.length+y.length<=o.length+x.length/\Hid ((Db y).map (A++·)=(Db E).map (o++·))/\Below wr.heap.size wr wq) (fun _ u _=>Jn u)
   case atStart=>exact⟨o,E,rfl,rfl,aa,AE rfl,AG _ _⟩
   obtain⟨A,y,rfl,rfl,b3,U,n⟩:=hrel;have g:=B.trans (n.mono B.size);cases y with
   |nil=>
    obtain⟨d,hd⟩:∃d,Db E=some d:=by
     have:=U.o;cases h:Db E with
     |none=>rw[h]at this;simp[Db,Kf]at this
     |some d=>exact⟨d,rfl⟩
    have T:A=o++d:=by
     have:=U.o;rw[hd]at this;simpa[Db,Kf]using this
    have HD:=AE hd;have HA:=AE T;have f0:A.length=o.length+d.length:=by rw[T];simp
    clear hd T U;go_wp2;go_meet;exact⟨d,by rw[HA.o],HD,by simp at b3;omega,n⟩
   |cons c l=>
    have HC:=AE (Ve (GL c l));have M:=AE (show Jm (c::l)=none->Df s=none from fun h=>b0.o (by
     have:=U.o;rw[HC.o,h]at this;cases h2:Db E with
     |none=>rfl
     |some d=>rw[h2]at this;cases this))
    have a2:=AE (show∀d y',Jm (c::l)=some (d,y')->(Db y').map ((A++[d])++·)=(Db E).map (o++·)from fun d y' h=>by
     have e:=U.o;rw[HC.o,h]at e;rw[<-e];show _=((Db y').map (d::·)).map (A++·);cases Db y' with
     |none=>rfl
     |some z=>simp)
    have c5:(c.toNat:Int)<256:=eo
    clear U HC;cases G:((c.toNat:Int)==61)with
    |true=>
     obtain rfl:c=61:=BQ.1 (by have:=BL.1 G;simp;omega);clear G;cases l with
     |nil=>
      have N:=AE (M.o (Z0 ae));go_wp2;go_ret2;exact⟨ay,g⟩
     |cons a l=>
      cases l with
      |nil=>
       have N:=AE (M.o (Z0 ah));go_wp2;go_ret2;exact⟨ay,g⟩
      |cons b l=>
       have H3:=AE (RY a b l);have f1:(a.toNat:Int)<256:=by have:=a.toNat_lt;omega
       have f2:(b.toNat:Int)<256:=by have:=b.toNat_lt;omega
       have c7:=Vd a;have c8:=Vd b;have b7:=AE (jU a);have b8:=AE (jU b);have O:=fun W h=>jV a W h
       have V:=fun W h=>jV b W h
       have P:=AE (show El a<0\/El b<0->Df s=none from fun h=>M.o (by rw[H3.o,AL aa]));generalize d9:El a=X at c7 b7 O P H3;generalize e0:El b=db at c8 b8 V P H3;clear d9 e0 M;by_cases T:a.toNat<127
       ·have e1:¬(126:Int)<(a.toNat:Int):=by omega
        have O:=fun W=>O W T
        by_cases hb:b.toNat<127
        ·have e2:¬(126:Int)<(b.toNat:Int):=by omega
         have V:=fun W=>V W hb
         clear T hb b7 b8;by_cases e3:X<0
         ·have N:=AE (P.o (Or.inl e3));go_wp2_with fail;with_reducible refine(O _).mono ?_
          rintro e Z⟨rfl,j⟩;have B3:=g.trans (j.mono g.size);clear j;go_wp2;go_ret2;exact⟨ay,B3⟩
         have c9:0<=X:=aa
         by_cases e4:db<0
         ·have N:=AE (P.o (Or.inr e4));go_wp2_with fail;with_reducible refine(O _).mono ?_
          rintro e Z⟨rfl,j⟩;have B3:=g.trans (j.mono g.size);clear j;go_wp2_with fail;with_reducible refine(V _).mono ?_
          rintro e w4⟨rfl,b4⟩;have B4:=B3.trans (b4.mono B3.size);clear b4;go_wp2;go_ret2;exact⟨ay,B4⟩
         have d0:0<=db:=aa
         have a5:=AE (a2.o _ l (by rw[H3.o,AN ⟨c9,d0⟩]));have d1:=AE (SD c9 c7.2 d0 c8.2);generalize(X*16+db).toNat.toUInt8=Q at a5 d1;clear H3 P a2;have f3:=Q.toNat_lt;have f4:X*16+db=((Q.toNat:Nat):Int):=d1.o.symm;have z1:IntKind.i64.wrap (X*16)=X*16:=CQ _ aa;have z2:IntKind.i64.wrap ((Q.toNat:Nat):Int)=((Q.toNat:Nat):Int):=CQ _ aa;have z3:IntKind.u8.wrap ((Q.toNat:Nat):Int)=((Q.toNat:Nat):Int):=IntWalk.u8_in _ aa;have g1:¬9223372036854775807<A.length+1:=aa
         have e5:=n.drew;go_upto_region 17 with(first|(with_reducible refine(O _).mono ?_;rintro e Z⟨rfl,j⟩;have j:=n.trans (j.mono n.size))|(with_reducible refine(V _).mono ?_;rintro e w4⟨rfl,b4⟩;have b4:=j.trans (b4.mono j.size)));have d2:=b4.drew;clear e5;go_region_law((first
          |(go_simp;with_reducible refine(O _).mono ?_;rintro e w5⟨rfl,b5⟩;have b5:=d2.trans (b5.mono d2.size))
          |(go_simp;with_reducible refine(V _).mono ?_;rintro e w6⟨rfl,b6⟩;have b6:=b5.trans (b6.mono b5.size))))
         all_goals
          go_wp2;go_roundw
          case rel=>exact⟨A++[Q],l,ah,ah,by simp at b3|-;omega,a5,b6.alloc b6.size _⟩
          simp;omega
        have N:=AE (P.o (Or.inr (b8.o aa)));have e2:(126:Int)<(b.toNat:Int):=aa
        go_wp2;go_ret2;exact⟨ay,g⟩
       have N:=AE (P.o (Or.inl (b7.o aa)));have e1:(126:Int)<(a.toNat:Int):=aa
       go_wp2;go_ret2;exact⟨ay,g⟩
    |false=>
     have b9:c≠61:=fun h=>by rw[h]at G;simp at G
     have a6:=AE (fD (l:=l) b9);have a0:=AE (SC c b9);have hI:=fun W=>Ju (c.toNat:Int) 33 126 W
     clear b9;go_upto_region 19 with fail;go_cut[105] (fun t m=>t=.bool (Ly c)/\m=wr)
     case first=>
      generalize(decide (33<=(c.toNat:Int))&&decide ((c.toNat:Int)<=126))=q at hI a0;cases q with
      |true=>
       go_wp2_with fail;with_reducible refine(hI _).mono ?_
       rintro e Z⟨rfl,rfl⟩;go_wp2;go_meet;exact⟨by rw[a0.o];rfl,rfl⟩
      |false=>
       cases J:((c.toNat:Int)==32)with
       |true=>
        have C:=AE J;go_wp2_with fail;with_reducible refine(hI _).mono ?_
        rintro e Z⟨rfl,rfl⟩;go_wp2;go_meet;exact⟨by rw[a0.o,C.o];rfl,rfl⟩
       |false=>
        have C:=AE J;cases h9:((c.toNat:Int)==9)with
        |true=>
         have K:=AE h9;go_wp2_with fail;with_reducible refine(hI _).mono ?_
         rintro e Z⟨rfl,rfl⟩;go_wp2;go_meet;exact⟨by rw[a0.o,C.o,K.o];rfl,rfl⟩
        |false=>
         have K:=AE h9;go_wp2_with fail;with_reducible refine(hI _).mono ?_
         rintro e Z⟨rfl,rfl⟩;go_wp2;go_meet;exact⟨by rw[a0.o,C.o,K.o];rfl,rfl⟩
     case rest=>
     obtain⟨rfl,f⟩:=hcut;obtain rfl:=f.symm;clear f a0 hI G;cases a7:Ly c with
     |true=>
      have a5:=AE (a2.o c l (by rw[a6.o,a7];rfl));have j:=n.alloc n.size (.cells #[.int .u8 (c.toNat:Int)] 5);clear a7 a6 M a2;go_wp2;go_roundw
      case rel=>exact⟨A++[c],l,ah,ah,by simp at b3|-;omega,a5,j⟩
      simp
     |false=>
      have N:=AE (M.o (by rw[a6.o,a7];rfl));clear a7 a6 M a2;go_wp2;go_ret2;exact⟨ay,g⟩
  case rest=>
  obtain⟨d,rfl,HD,f5,n⟩:=hcut;obtain⟨w2,rfl⟩:∃x:World,x=wc:=⟨_,rfl⟩;have F:=F.next n F.lt;have g:=B.trans (n.mono B.size);have a1:=AE (by rw[<-I.o,HD.o]:(Dz (L.drop (k+1))).map (o++(d++(if so||c2 then[]else[13,10]))++·)=Df s);clear I b0 HD n B;have f6:wrap64 ((L.length:Int)-1)=(L.length:Int)-1:=da
  have e6:(o++d).length<=k*1000002+1000000:=ag
  cases so with
  |true=>
   have a3:=AE (by rw[<-a1.o];simp:(Dz (L.drop (k+1))).map ((o++d)++·)=Df s);clear a1 S;go_wp2;go_roundw
   case rel=>exact⟨k+1,o++d,rfl,aj,aa,aa,F,a3,g⟩
   simp[intOf];omega
  |false=>
   cases c2 with
   |true=>
    have a3:=AE (by rw[<-a1.o];simp:(Dz (L.drop (k+1))).map ((o++d)++·)=Df s);have e7:¬((k:Int)<(L.length:Int)-1):=by have:=S.o;simpa using this.symm
    clear a1 S;go_wp2;go_roundw
    case rel=>exact⟨k+1,o++d,rfl,aj,aa,aa,F,a3,g⟩
    simp[intOf];omega
   |false=>
    have a3:=AE (by rw[<-a1.o];simp:(Dz (L.drop (k+1))).map (((o++d)++[13,10])++·)=Df s);have e7:((k:Int)<(L.length:Int)-1):=by have:=S.o;simpa using this.symm
    clear a1 S;go_wp2;go_roundw
    case rel=>exact⟨k+1,(o++d)++[13,10],ah,aj,aa,by simp at e6|-;omega,F,a3,g⟩
    simp[intOf];omega
 obtain rfl:k=L.length:=aa
 have N:=AE (by rw[<-a9.o,AS];simp[Dz]:Df s=some o);go_wp2;go_ret2;exact⟨ay,B⟩
end Go.Proofs.YtignjjnflcpiiaaGreatDoor
