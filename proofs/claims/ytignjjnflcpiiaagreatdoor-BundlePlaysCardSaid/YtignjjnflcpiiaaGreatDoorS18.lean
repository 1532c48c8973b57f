/- Quoted-printable read, by the document's answer: as the p -/
import Derived.Test.YtignjjnflcpiiaaGreatDoorS08
import Derived.Test.YtignjjnflcpiiaaGreatDoorS17
set_option linter.all false
set_option maxHeartbeats 8000000
set_option maxRecDepth 100000
namespace Go.Proofs.YtignjjnflcpiiaaGreatDoor
open Go Go.RowKit Proofs.Tryz Lib
def Np:Option Bs→Value
 |none=>.tuple #[.string ⟨#[]⟩,.int .i64 3]
 |some l=>.tuple #[.string ⟨l.toArray⟩,.int .i64 0]
def T5:Bs:=[48,49,50,51,52,53,54,55,56,57,65,66,67,68,69,70]
theorem uU:((List.range 127).all fun n=>indexByte T5 (upperB n.toUInt8)==Du n.toUInt8)=true:=by kernel_rfl
theorem uV(c:UInt8)(h:c.toNat<127):indexByte T5 (upperB c)=Du c:=by
 have:=AW.1 uU c.toNat (BY.2 h);rw[show c.toNat.toUInt8=c by simp]at this;exact BG.1 this
theorem uW:((List.range 256).all fun n=>decide (n<127)||decide (Du n.toUInt8<0))=true:=by kernel_rfl
theorem cY(c:UInt8)(h:126<c.toNat):Du c<0:=by
 have:=AW.1 uW c.toNat (BY.2 c.toNat_lt);rw[show c.toNat.toUInt8=c by simp]at this;simp at this;omega
theorem cZ(c:UInt8)(w:World)(h:c.toNat<127):Calls prog 246 #[.int .u8 c.toNat] w fun e g=>e=.returned (.int .i64 (Du c))∧Below w.heap.size w g:=by
 have D:=AB (uV c h);have H:=Tryz.strings_ToUpper_ascii ⟨#[c]⟩ (w.alloc (.cells #[.int .u8 (c.toNat:Int)] 5)) (show(1:Nat)≤140737488355328 by omega) (fun j b a=>by
  cases j with
  |zero=>simp at a;subst a;omega
  |succ j=>simp at a)
 have i:toUpperA (⟨#[c]⟩:ByteArray).data.toList=[upperB c]:=rfl;rw[i]at H;generalize upperB c=d at H D;have I:=fun W=>Mi T5 (d.toNat:Int) d (Qj d) W
 have X:=AB (by rfl:T5=[48,49,50,51,52,53,54,55,56,57,65,66,67,68,69,70]);rw[X.o]at I;go_enter func246,ntmps246;go_wp2_with fail;with_reducible refine H.mono ?_
 rintro e k⟨rfl,f⟩;have B:=((AD w.heap.size w).alloc (AC _) (.cells #[.int .u8 (c.toNat:Int)] 5)).trans (f.mono (by simp));clear f;go_wp2_with fail;with_reducible refine(I _).mono ?_
 rintro e l⟨rfl,rfl⟩;go_wp2_with fail;go_ret;exact⟨by rw[←D.o,X.o];rfl,B⟩
theorem uX(a b:UInt8)(l:Bs):I8 (61::a::b::l)=if 0≤Du a∧0≤Du b then some ((Du a*16+Du b).toNat.toUInt8,l)else none:=rfl
variable {x z y:Bs}{k:Nat}
theorem uY(h:trimRightS x [32,9]=[]):Kf x=false∧Hv x=[]:=by
 unfold Kf Hv;rw[h];exact⟨rfl,rfl⟩
theorem uZ(b:trimRightS x [32,9]=z)(d:z.length=k+1):Kf x=(z[k]'(by omega)==61)∧Hv x=if(z[k]'(by omega)==61)=true then z.take k else z:=by
 have l:k<z.length:=by omega
 have e:z=z.take k++[z[k]]:=by
  rw[←AU l,CH (by omega)]
 have H:hasSuffix z [61]=(z[k]==61):=by
  generalize z[k]=c at e;unfold hasSuffix;rw[DZ,GR,BG];constructor
  ·rintro⟨t,a⟩;rw[e]at a;have:=AF List.getLast? a;simp at this;exact this.symm
  intro h;subst h;exact⟨z.take k,e.symm⟩
 unfold Kf Hv;rw[b];refine⟨H,?_⟩;unfold trimSuffix;rw[H];have:z.length-[(61:UInt8)].length=k:=by simp;omega
 rw[this]
theorem vA(b:y.length=k+1):trimRightS y [32,9]=if((((y[k]'(by omega)).toNat:Int)==32)||(((y[k]'(by omega)).toNat:Int)==9))=true then trimRightS (y.take k) [32,9]else y:=by
 have H:k<y.length:=by omega
 have e:y=y.take k++[y[k]]:=by
  rw[←AU H,CH (by omega)]
 have h:=bL (y.take k) y[k] [32,9];rw[←e]at h;have a:([32,9]:Bs).contains y[k]=((((y[k]'(by omega)).toNat:Int)==32)||(((y[k]'(by omega)).toNat:Int)==9)):=by
  rw[←P5];unfold Hk;rw[Ei,Ei];rfl
 rw[←a];exact h
theorem vB(c:UInt8)(h:c≠61):Jq c=((decide (33≤(c.toNat:Int))&&decide ((c.toNat:Int)≤126))||((c.toNat:Int)==32)||((c.toNat:Int)==9)):=by
 have H:((c.toNat:Int)==61)=false:=by rw[AG];exact fun e=>h (BJ.1 (by simp;omega))
 rw[Zw,cX,H];simp
theorem vC{a b:Int}(H:0≤a)(c:a<16)(d:0≤b)(e:b<16):((((a*16+b).toNat.toUInt8).toNat:Nat):Int)=a*16+b:=by
 have h:(a*16+b).toNat<256:=by omega
 rw[CO];omega
theorem vD(s:Bs)(w:World)(hl:s.length≤1000000)(hg:Cb w):Calls prog 160 #[.string ⟨s.toArray⟩] w fun e w'=>e=.returned (Np (E6 s))∧Below w.heap.size w w':=by
 have hS:=Uz s [13,10] w (by omega) (by decide) hg;have d3:(split s [13,10]).length≤1000001:=by rw[Q8 _ _ (by decide)];have:=S6 s [13,10] (by decide);omega
 have a8:∀x∈split s [13,10],x.length≤1000000:=fun x hx=>BC (Ul _ _ _ _ hx) hl
 have hT:Hid (E6 s=Df (split s [13,10])):=AB rfl;generalize split s [13,10]=L at hS d3 a8 hT;have d4:=AB a8;clear a8;go_enter func160,ntmps160;go_wp2_with fail;with_reducible refine hS.mono ?_
 rintro e w1⟨rfl,rfl⟩;clear hS;have k1:=A1.new w (Fk L) 9;have B1:=(AD w.heap.size w).alloc (AC _) (.cells (Fk L) 9);generalize w.alloc (.cells (Fk L) 9)=w1 at k1 B1⊢;go_wp2_with fail;go_loopw[5,14] (fun v i wr=>∃(k:Nat)(o:Bs),v=.string ⟨o.toArray⟩∧i=.int .i64 k∧k≤L.length∧o.length≤k*1000002∧A1 wr w.heap.size (Fk L) 9∧Hid ((Df (L.drop k)).map (o++·)=E6 s)∧Below w.heap.size w wr) (fun _ i _=>L.length-(intOf i).toNat)
 case atStart=>exact⟨0,[],rfl,rfl,by omega,by simp,k1,AB (by rw[hT.o];simp),B1⟩
 clear k1 B1 hT;obtain⟨k,o,rfl,rfl,p,e8,F,a9,B⟩:=hrel;by_cases c0:k<L.length
 ·have hx:=d4.o L[k] (AN _);have G:wr.cell? ⟨w.heap.size,k,none⟩=some (.string ⟨(L[k]).toArray⟩):=by rw[F.cell];simp[Fk,c0]
  have I:=AB (show(match Cp (Hv L[k])with|none=>none|some a=>(Df (L.drop (k+1))).map (o++(a++(if Kf L[k]||(L.drop (k+1)).isEmpty then[]else[13,10]))++·))=E6 s from by
   rw[←a9.o,AE c0];show _=(match Cp (Hv L[k])with|none=>none|some a=>(Df (L.drop (k+1))).map (a++(if Kf L[k]||(L.drop (k+1)).isEmpty then[]else[13,10])++·)).map _;cases Cp (Hv L[k])with
   |none=>rfl
   |some a=>simp only;rw[Option.map_map];congr 1;funext z;simp)
  have c1:(!(L.drop (k+1)).isEmpty)=decide ((k:Int)<(L.length:Int)-1):=by
   by_cases h:k+1<L.length
   ·rw[BD (by omega)];simp;exact h
   rw[AX (by omega),show L.drop (k+1)=[]from GL.2 (by omega)];rfl
  have S:=AB c1;clear c1 a9;generalize L[k]=x at G hx I;generalize(L.drop (k+1)).isEmpty=c2 at I S;have d5:=Um x;have b0:=AB (show Cp (Hv x)=none→E6 s=none from fun h=>by rw[←I.o,h]);have R:=AB (fun h=>uY (x:=x) h);have D:=AB (fun z k hz p=>uZ (x:=x) (z:=z) (k:=k) hz p);go_upto_block 2 with fail;go_cut[7] (fun v m=>v=.string ⟨(trimRightS x [32,9]).toArray⟩∧m=wr)
  case first=>
   go_wp2_with fail;go_loopw[7] (fun v wq=>∃y:Bs,v=.string ⟨y.toArray⟩∧y.length≤x.length∧Hid (trimRightS y [32,9]=trimRightS x [32,9])∧wq=wr) (fun v _=>I9 v)
   case atStart=>exact⟨x,rfl,AC _,AB rfl,rfl⟩
   obtain⟨y,rfl,e9,Y,rfl⟩:=hrel;by_cases b1:y=[]
   ·subst b1;have H:=AB (by rw[←Y.o];rfl:trimRightS x [32,9]=[]);clear Y;go_wp2_with fail;go_meet;exact⟨by first|(rw[H.o];done)|(rw[H.o];rfl),rfl⟩
   obtain⟨k,p⟩:∃k,y.length=k+1:=⟨y.length-1,by have:=BE.2 b1;omega⟩;have c3:k<y.length:=by omega
   have HS:=AB (vA p);have he:y.isEmpty=false:=by rw[AP];intro h;exact b1 (FL.1 h)
   have c4:wrap64 ((k:Int)+1-1)=(k:Int):=by unfold wrap64;omega
   have c5:(y[k].toNat:Int)<256:=by have:=y[k].toNat_lt;omega
   go_upto_region 6 with fail;go_cut[36] (fun t m=>t=.bool (((y[k].toNat:Int)==32)||((y[k].toNat:Int)==9))∧m=wr)
   case first=>
    by_cases J:((y[k].toNat:Int)==32)=true
    ·have C:=AB J;go_wp2_with fail;go_meet;exact⟨by rw[C.o];rfl,rfl⟩
    have J:=AP.2 J;have C:=AB J;cases h9:((y[k].toNat:Int)==9)with
    |true=>
     have K:=AB h9;go_wp2_with fail;go_meet;exact⟨by rw[C.o,K.o];rfl,rfl⟩
    |false=>
     have K:=AB h9;go_wp2_with fail;go_meet;exact⟨by rw[C.o,K.o];rfl,rfl⟩
   case rest=>
   obtain⟨rfl,f⟩:=hcut;obtain rfl:=f.symm;clear f;generalize(((y[k].toNat:Int)==32)||((y[k].toNat:Int)==9))=q at HS⊢;cases q with
   |true=>
    have b2:=AB (by rw[←Y.o,HS.o];rfl:trimRightS (y.take k) [32,9]=trimRightS x [32,9]);clear HS Y;go_wp2_with fail;refine⟨⟨y.take k,?_,?_,b2,?_⟩,?_⟩
    ·simp
    ·rw[BV];omega
    ·first|rfl|trivial
    simp;omega
   |false=>
    have b2:=AB (by rw[←Y.o,HS.o];rfl:trimRightS x [32,9]=y);clear HS Y;go_wp2_with fail;go_meet;exact⟨by rw[b2.o],rfl⟩
  case rest=>
  obtain⟨rfl,f⟩:=hcut;obtain rfl:=f.symm;clear f;have c6:=Q4 x [32,9];have R:=AB R.o;have D:=AB (fun k p=>D.o _ k rfl p);generalize trimRightS x [32,9]=z at c6 R D⊢;generalize d6:Kf x=so at I R D;generalize d7:Hv x=E at I R D b0 d5;clear d6 d7;go_upto_region 8 with fail;go_cut[8] (fun t m=>t=.bool so∧m=wr)
  case first=>
   by_cases r:z=[]
   ·have H:=AB (R.o r);subst r;go_wp2_with fail;go_meet;exact⟨by rw[H.o.1],rfl⟩
   obtain⟨k,p⟩:∃k,z.length=k+1:=⟨z.length-1,by have:=BE.2 r;omega⟩;have c3:k<z.length:=by omega
   have H:=AB (D.o k p);have he:z.isEmpty=false:=by rw[AP];intro h;exact r (FL.1 h)
   have c4:wrap64 ((k:Int)+1-1)=(k:Int):=by unfold wrap64;omega
   have c5:(z[k].toNat:Int)<256:=by have:=z[k].toNat_lt;omega
   have U:=AB (Ei z[k] 61);clear r;go_wp2_with fail;go_meet;exact⟨by rw[H.o.1,U.o];rfl,rfl⟩
  case rest=>
  obtain⟨rfl,f⟩:=hcut;obtain rfl:=f.symm;clear f;go_upto_region 9 with fail;go_upto_if 52 with fail;go_cut[7] (fun v m=>v=.string ⟨E.toArray⟩∧m=wr)
  case first=>
   by_cases r:z=[]
   ·have H:=AB (R.o r);subst r;have d8:so=false:=H.o.1;subst d8;go_wp2_with fail;go_meet;exact⟨by first|(rw[H.o.2];done)|(rw[H.o.2];rfl),rfl⟩
   obtain⟨k,p⟩:∃k,z.length=k+1:=⟨z.length-1,by have:=BE.2 r;omega⟩;have c3:k<z.length:=by omega
   have H:=D.o k p;have c4:wrap64 ((k:Int)+1-1)=(k:Int):=by unfold wrap64;omega
   clear r;rw[←H.1]at H;have a4:=AB H.2;clear H;cases so with
   |true=>
    go_wp2_with fail;go_meet;exact⟨by first|(rw[a4.o];done)|(rw[a4.o];simp),rfl⟩
   |false=>
    go_wp2_with fail;go_meet;exact⟨by first|(rw[a4.o];done)|(rw[a4.o];rfl),rfl⟩
  case rest=>
  obtain⟨rfl,f⟩:=hcut;obtain rfl:=f.symm;clear f R D c6;go_upto_block 4 with fail;go_cut[5] (fun v m=>∃d:Bs,v=.string ⟨(o++d).toArray⟩∧Hid (Cp E=some d)∧d.length≤x.length∧Below wr.heap.size wr m)
  case first=>
   go_wp2_with fail;go_loopw[5,7] (fun v u wq=>∃A y:Bs,v=.string ⟨A.toArray⟩∧u=.string ⟨y.toArray⟩∧A.length+y.length≤o.length+x.length∧Hid ((Cp y).map (A++·)=(Cp E).map (o++·))∧Below wr.heap.size wr wq) (fun _ u _=>I9 u)
   case atStart=>exact⟨o,E,rfl,rfl,by omega,AB rfl,AD _ _⟩
   obtain⟨A,y,rfl,rfl,b3,U,n⟩:=hrel;have g:=B.trans (n.mono B.size);cases y with
   |nil=>
    obtain⟨d,hd⟩:∃d,Cp E=some d:=by
     have:=U.o;cases h:Cp E with
     |none=>rw[h]at this;simp[Cp,It]at this
     |some d=>exact⟨d,rfl⟩
    have T:A=o++d:=by
     have:=U.o;rw[hd]at this;simpa[Cp,It]using this
    have HD:=AB hd;have HA:=AB T;have f0:A.length=o.length+d.length:=by rw[T];simp
    clear hd T U;go_wp2_with fail;go_meet;exact⟨d,by rw[HA.o],HD,by simp at b3;omega,n⟩
   |cons c l=>
    have HC:=AB (Rt (FM c l));have M:=AB (show I8 (c::l)=none→E6 s=none from fun h=>b0.o (by
     have:=U.o;rw[HC.o,h]at this;cases h2:Cp E with
     |none=>rfl
     |some d=>rw[h2]at this;cases this))
    have a2:=AB (show∀d y',I8 (c::l)=some (d,y')→(Cp y').map ((A++[d])++·)=(Cp E).map (o++·)from fun d y' h=>by
     have e:=U.o;rw[HC.o,h]at e;rw[←e];show _=((Cp y').map (d::·)).map (A++·);cases Cp y' with
     |none=>rfl
     |some z=>simp)
    have c5:(c.toNat:Int)<256:=by have:=c.toNat_lt;omega
    clear U HC;cases G:((c.toNat:Int)==61)with
    |true=>
     obtain rfl:c=61:=BJ.1 (by have:=BG.1 G;simp;omega);clear G;cases l with
     |nil=>
      have N:=AB (M.o (Vm (by decide)));go_wp2_with fail;go_ret2;exact⟨by rw[N.o];rfl,g⟩
     |cons a l=>
      cases l with
      |nil=>
       have N:=AB (M.o (Vm (by simp)));go_wp2_with fail;go_ret2;exact⟨by rw[N.o];rfl,g⟩
      |cons b l=>
       have H3:=AB (uX a b l);have f1:(a.toNat:Int)<256:=by have:=a.toNat_lt;omega
       have f2:(b.toNat:Int)<256:=by have:=b.toNat_lt;omega
       have c7:=Rs a;have c8:=Rs b;have b7:=AB (cY a);have b8:=AB (cY b);have O:=fun W h=>cZ a W h
       have V:=fun W h=>cZ b W h
       have P:=AB (show Du a<0∨Du b<0→E6 s=none from fun h=>M.o (by rw[H3.o,AI (by omega)]));generalize d9:Du a=X at c7 b7 O P H3;generalize e0:Du b=db at c8 b8 V P H3;clear d9 e0 M;by_cases T:a.toNat<127
       ·have e1:¬(126:Int)<(a.toNat:Int):=by omega
        have O:=fun W=>O W T
        by_cases hb:b.toNat<127
        ·have e2:¬(126:Int)<(b.toNat:Int):=by omega
         have V:=fun W=>V W hb
         clear T hb b7 b8;by_cases e3:X<0
         ·have N:=AB (P.o (Or.inl e3));go_wp2_with fail;with_reducible refine(O _).mono ?_
          rintro e Z⟨rfl,j⟩;have B3:=g.trans (j.mono g.size);clear j;go_wp2_with fail;go_ret2;exact⟨by rw[N.o];rfl,B3⟩
         have c9:0≤X:=by omega
         by_cases e4:db<0
         ·have N:=AB (P.o (Or.inr e4));go_wp2_with fail;with_reducible refine(O _).mono ?_
          rintro e Z⟨rfl,j⟩;have B3:=g.trans (j.mono g.size);clear j;go_wp2_with fail;with_reducible refine(V _).mono ?_
          rintro e w4⟨rfl,b4⟩;have B4:=B3.trans (b4.mono B3.size);clear b4;go_wp2_with fail;go_ret2;exact⟨by rw[N.o];rfl,B4⟩
         have d0:0≤db:=by omega
         have a5:=AB (a2.o _ l (by rw[H3.o,AM ⟨c9,d0⟩]));have d1:=AB (vC c9 c7.2 d0 c8.2);generalize(X*16+db).toNat.toUInt8=Q at a5 d1;clear H3 P a2;have f3:=Q.toNat_lt;have f4:X*16+db=((Q.toNat:Nat):Int):=d1.o.symm;have z1:IntKind.i64.wrap (X*16)=X*16:=CI _ (by omega);have z2:IntKind.i64.wrap ((Q.toNat:Nat):Int)=((Q.toNat:Nat):Int):=CI _ (by omega);have z3:IntKind.u8.wrap ((Q.toNat:Nat):Int)=((Q.toNat:Nat):Int):=IntWalk.u8_in _ (by omega);have g1:¬9223372036854775807<A.length+1:=by omega
         have e5:=n.drew;go_upto_region 17 with(first|(with_reducible refine(O _).mono ?_;rintro e Z⟨rfl,j⟩;have j:=n.trans (j.mono n.size))|(with_reducible refine(V _).mono ?_;rintro e w4⟨rfl,b4⟩;have b4:=j.trans (b4.mono j.size)));have d2:=b4.drew;clear e5;go_region_law((first
          |(go_simp;with_reducible refine(O _).mono ?_;rintro e w5⟨rfl,b5⟩;have b5:=d2.trans (b5.mono d2.size))
          |(go_simp;with_reducible refine(V _).mono ?_;rintro e w6⟨rfl,b6⟩;have b6:=b5.trans (b6.mono b5.size))))
         all_goals
          go_wp2_with fail;go_roundw
          case rel=>exact⟨A++[Q],l,by simp,by simp,by simp at b3⊢;omega,a5,b6.alloc b6.size _⟩
          simp;omega
        have N:=AB (P.o (Or.inr (b8.o (by omega))));have e2:(126:Int)<(b.toNat:Int):=by omega
        go_wp2_with fail;go_ret2;exact⟨by rw[N.o];rfl,g⟩
       have N:=AB (P.o (Or.inl (b7.o (by omega))));have e1:(126:Int)<(a.toNat:Int):=by omega
       go_wp2_with fail;go_ret2;exact⟨by rw[N.o];rfl,g⟩
    |false=>
     have b9:c≠61:=fun h=>by rw[h]at G;simp at G
     have a6:=AB (Zx (l:=l) b9);have a0:=AB (vB c b9);have hI:=fun W=>Jh (c.toNat:Int) 33 126 W
     clear b9;go_upto_region 19 with fail;go_cut[105] (fun t m=>t=.bool (Jq c)∧m=wr)
     case first=>
      generalize(decide (33≤(c.toNat:Int))&&decide ((c.toNat:Int)≤126))=q at hI a0;cases q with
      |true=>
       go_wp2_with fail;with_reducible refine(hI _).mono ?_
       rintro e Z⟨rfl,rfl⟩;go_wp2_with fail;go_meet;exact⟨by rw[a0.o];rfl,rfl⟩
      |false=>
       cases J:((c.toNat:Int)==32)with
       |true=>
        have C:=AB J;go_wp2_with fail;with_reducible refine(hI _).mono ?_
        rintro e Z⟨rfl,rfl⟩;go_wp2_with fail;go_meet;exact⟨by rw[a0.o,C.o];rfl,rfl⟩
       |false=>
        have C:=AB J;cases h9:((c.toNat:Int)==9)with
        |true=>
         have K:=AB h9;go_wp2_with fail;with_reducible refine(hI _).mono ?_
         rintro e Z⟨rfl,rfl⟩;go_wp2_with fail;go_meet;exact⟨by rw[a0.o,C.o,K.o];rfl,rfl⟩
        |false=>
         have K:=AB h9;go_wp2_with fail;with_reducible refine(hI _).mono ?_
         rintro e Z⟨rfl,rfl⟩;go_wp2_with fail;go_meet;exact⟨by rw[a0.o,C.o,K.o];rfl,rfl⟩
     case rest=>
     obtain⟨rfl,f⟩:=hcut;obtain rfl:=f.symm;clear f a0 hI G;cases a7:Jq c with
     |true=>
      have a5:=AB (a2.o c l (by rw[a6.o,a7];rfl));have j:=n.alloc n.size (.cells #[.int .u8 (c.toNat:Int)] 5);clear a7 a6 M a2;go_wp2_with fail;go_roundw
      case rel=>exact⟨A++[c],l,by simp,by simp,by simp at b3⊢;omega,a5,j⟩
      simp
     |false=>
      have N:=AB (M.o (by rw[a6.o,a7];rfl));clear a7 a6 M a2;go_wp2_with fail;go_ret2;exact⟨by rw[N.o];rfl,g⟩
  case rest=>
  obtain⟨d,rfl,HD,f5,n⟩:=hcut;obtain⟨w2,rfl⟩:∃x:World,x=wc:=⟨_,rfl⟩;have F:=F.next n F.lt;have g:=B.trans (n.mono B.size);have a1:=AB (by rw[←I.o,HD.o]:(Df (L.drop (k+1))).map (o++(d++(if so||c2 then[]else[13,10]))++·)=E6 s);clear I b0 HD n B;have f6:wrap64 ((L.length:Int)-1)=(L.length:Int)-1:=by unfold wrap64;omega
  have e6:(o++d).length≤k*1000002+1000000:=by simp;omega
  cases so with
  |true=>
   have a3:=AB (by rw[←a1.o];simp:(Df (L.drop (k+1))).map ((o++d)++·)=E6 s);clear a1 S;go_wp2_with fail;go_roundw
   case rel=>exact⟨k+1,o++d,rfl,by go_num,by omega,by omega,F,a3,g⟩
   simp[intOf];omega
  |false=>
   cases c2 with
   |true=>
    have a3:=AB (by rw[←a1.o];simp:(Df (L.drop (k+1))).map ((o++d)++·)=E6 s);have e7:¬((k:Int)<(L.length:Int)-1):=by have:=S.o;simpa using this.symm
    clear a1 S;go_wp2_with fail;go_roundw
    case rel=>exact⟨k+1,o++d,rfl,by go_num,by omega,by omega,F,a3,g⟩
    simp[intOf];omega
   |false=>
    have a3:=AB (by rw[←a1.o];simp:(Df (L.drop (k+1))).map (((o++d)++[13,10])++·)=E6 s);have e7:((k:Int)<(L.length:Int)-1):=by have:=S.o;simpa using this.symm
    clear a1 S;go_wp2_with fail;go_roundw
    case rel=>exact⟨k+1,(o++d)++[13,10],by simp,by go_num,by omega,by simp at e6⊢;omega,F,a3,g⟩
    simp[intOf];omega
 obtain rfl:k=L.length:=by omega
 have N:=AB (by rw[←a9.o,AQ];simp[Df]:E6 s=some o);go_wp2_with fail;go_ret2;exact⟨by rw[N.o];rfl,B⟩
end Go.Proofs.YtignjjnflcpiiaaGreatDoor
