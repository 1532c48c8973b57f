/- text.Unquote reads quoted-printable. Condition: the text -/
import Derived.Test.YtignjjnflcpiiaaGreatDoorS03
set_option maxHeartbeats 4000000
set_option maxRecDepth 100000
namespace Go.Proofs.YtignjjnflcpiiaaGreatDoor
open Go Go.RowKit Proofs.Tryz Lib
def Dy:Option Bs→Value
 |none=>.tuple #[.string ⟨#[]⟩,.iface 30 (.int .i64 3)]
 |some l=>.tuple #[.string ⟨l.toArray⟩,.nilIface]
theorem Zw(c:UInt8):Jq c=(Gj c||((c.toNat:Int)==32)||((c.toNat:Int)==9)):=by
 have h:∀d:UInt8,(c==d)=((c.toNat:Int)==(d.toNat:Int)):=fun d=>by
  by_cases e:c=d
  ·subst e;simp
  rw[AG.2 e,eq_comm,AG];intro h;exact e (BJ.1 (by omega))
 unfold Jq;rw[h 32,h 9];rfl
variable {l o:Bs}{c:UInt8}{v n p k q v' n' p':Nat}
theorem Vm(h:l.length<2):I8 (61::l)=none:=by
 match l,h with
 |[],_=>rfl
 |[_],_=>rfl
theorem Zx(h:c≠61):I8 (c::l)=if Jq c then some (c,l)else none:=by
 unfold I8;split
 ·rename_i e;injection e with e _;exact absurd e h
 ·rename_i e;injection e with E a;rw[E,a]
 rename_i e;cases e
theorem qF(h:c≠61):Cp (c::l)=if Jq c then(Cp l).map (c::·)else none:=by
 rw[Rt (FM _ _),Zx h];cases Jq c<;>rfl
theorem qG(s:Bs)(w:World)(hl:s.length≤1000000)(hg:Cb w):Calls prog 253 #[.string ⟨s.toArray⟩] w fun e m=>e=.returned (Dy (E6 s))∧Below w.heap.size w m:=by
 have hS:=Uz s [13,10] w (by omega) (by decide) hg;have b5:(Lib.split s [13,10]).length≤1000001:=by rw[Q8 _ _ (by decide)];have:=S6 s [13,10] (by decide);omega
 have V:∀x∈Lib.split s [13,10],x.length≤1000000:=fun x X=>BC (Ul _ _ _ _ X) hl
 have Z:Hid (E6 s=Df (Lib.split s [13,10])):=AB rfl;generalize Lib.split s [13,10]=l at hS b5 V Z;have b6:=AB V;clear V;go_enter func253,ntmps253;go_wp2_with fail;refine hS.mono ?_;rintro e K⟨rfl,rfl⟩;go_wp2_with fail;go_loopw[4,15] (fun v i wr=>∃(k:Nat)(f:Bs),i=.int .i64 k∧k≤l.length∧Cs wr (w.heap.size+1) v f∧f.length≤k*1000002∧A1 wr w.heap.size (Fk l) 9∧(Df (l.drop k)).map (f++·)=Df l∧Below w.heap.size w wr) (fun _ i _=>l.length-(intOf i).toNat)
 case atStart=>exact⟨0,[],rfl,by omega,A0.nil _ _ _ _ _,by simp,A1.new _ _ _,by simp,by go_grown⟩
 obtain⟨k,f,rfl,hk,H,c5,b,a5,B⟩:=hrel;have a0:=AB a5;clear a5;have a6:=b.lt;by_cases a7:k<l.length
 ·have X:=b6.o l[k] (AN _);have hy:=Um l[k];have HL:=AB (show l.drop k=l[k]::l.drop (k+1)from AE a7);have hc:wr.cell? ⟨w.heap.size,k,none⟩=some (.string ⟨(l[k]).toArray⟩):=by rw[b.cell];simp[Fk,a7]
  have L:=AB (by rw[←HL.o];exact a0.o:(Df (l[k]::l.drop (k+1))).map (f++·)=Df l);have a8:(!(l.drop (k+1)).isEmpty)=decide ((k:Int)+1<l.length):=by
   by_cases h:k+1<l.length
   ·rw[BD (by omega)];simp;exact h
   rw[AX (by omega),show l.drop (k+1)=[]from GL.2 (by omega)];rfl
  have b7:=AB a8;clear a8 HL a0;generalize l[k]=x at hc X hy L;generalize hr:l.drop (k+1)=r at L b7;have Hr:=AB hr;clear hr;go_wp2_with fail;refine(Yr x [32,9] _ (by omega) (by decide) (by decide)).mono ?_;rintro e M⟨rfl,g⟩;have b:=b.next g b.lt;have H:=H.next g;have B:=B.trans (g.mono B.size);clear g hc;have u:(trimRightS x [32,9]).length≤9223372036854775807:=by have:=Q4 x [32,9];omega
  go_wp2_with fail;refine(Yq _ [61] _ u).mono ?_;rintro e m⟨rfl,rfl⟩;go_wp2_with fail;refine(nP _ [61] _ u).mono ?_;rintro e m⟨rfl,rfl⟩;rw[(by rfl:hasSuffix (trimRightS x [32,9]) [61]=Kf x),(by rfl:trimSuffix (trimRightS x [32,9]) [61]=Hv x)];clear u;have O:=AB (by rfl:Df (x::r)=match Cp (Hv x)with|none=>none|some a=>(Df r).map (a++(if Kf x||r.isEmpty then[]else[13,10])++·));generalize Kf x=a9 at O⊢;generalize Hv x=y at hy O⊢;obtain⟨K,rfl⟩:∃K:World,K=M:=⟨_,rfl⟩;have P:=AB (show Cp y=none→E6 s=none from fun h=>by rw[Z.o,←L.o,O.o,h];rfl);go_wp2_with fail;obtain⟨w0,rfl⟩:∃w0:World,w0=K:=⟨_,rfl⟩;go_loopw[4,9] (fun v i n=>∃(j:Nat)(d:Bs),i=.int .i64 j∧j≤y.length∧Cs n (w.heap.size+1) v (f++d)∧d.length≤j∧A1 n w.heap.size (Fk l) 9∧(Cp (y.drop j)).map (d++·)=Cp y∧Below w.heap.size w n) (fun _ i _=>y.length-(intOf i).toNat)
  case atStart=>exact⟨0,[],rfl,by omega,by rw[BM];exact H,by simp,b,by simp,B⟩
  clear H b B a6;obtain⟨j,d,rfl,hj,H,c6,b,b0,B⟩:=hrel;have o:=AB b0;clear b0;have a6:=b.lt;have u:(f++d).length≤1000010000000:=by simp;omega
  by_cases b8:j<y.length
  ·have Y:=AB (show y.drop j=y[j]::y.drop (j+1)from AE b8);by_cases C:y[j]=61
   ·by_cases h2:j+2<y.length
    ·have a1:=AB (by rw[Y.o,C,AE (show j+1<y.length by omega),AE (show j+1+1<y.length by omega)]:y.drop j=61::y[j+1]::y[j+2]::y.drop (j+3));have i1:(j:Int)+1<y.length:=by omega
     have i2:(j:Int)+2<y.length:=by omega
     have gA:=Rs y[j+1];have gB:=Rs y[j+2];have S:=AB (by rfl:I8 (61::y[j+1]::y[j+2]::y.drop (j+3))=if 0≤Du y[j+1]∧0≤Du y[j+2]then some ((Du y[j+1]*16+Du y[j+2]).toNat.toUInt8,y.drop (j+3))else none);have a2:=fun W=>Yt y[j+1] W
     have a3:=fun W=>Yt y[j+2] W
     generalize b9:Du y[j+1]=A at gA S a2;generalize c0:Du y[j+2]=Q at gB S a3;clear b9 c0;have a4:=AB (show Cp (y.drop j)=match I8 (y.drop j)with|none=>none|some (c,z)=>(Cp z).map (c::·)from Rt (by rw[Y.o];exact FM _ _));go_wp2_with fail;refine(a2 _).mono ?_;rintro e m⟨rfl,rfl⟩;by_cases hA:0≤A
     ·go_wp2_with fail;refine(a3 _).mono ?_;rintro e m⟨rfl,rfl⟩;by_cases hB:0≤Q
      ·obtain⟨D,b1,c1⟩:∃D:UInt8,(A*16+Q).toNat.toUInt8=D∧A*16+Q=(D.toNat:Int):=⟨_,rfl,by simp;omega⟩;have b2:Cp (y.drop j)=(Cp (y.drop (j+3))).map (D::·):=by rw[a4.o,a1.o,S.o,AM ⟨hA,hB⟩,b1]
       have c2:=AB b2;clear b2 b1;have o4:=nY A Q hA (by omega) hB (by omega);have c7:(D.toNat:Int)<256:=by have:=D.toNat_lt;omega
       have z1:IntKind.i64.wrap (A*16)=A*16:=CI _ (by omega);have z2:IntKind.u8.wrap (D.toNat:Int)=(D.toNat:Int):=IntWalk.u8_in _ (by omega);have s1:IntKind.i64.wrap ((j:Int)+1)=(j:Int)+1:=CI _ (by omega);have s2:IntKind.i64.wrap ((j:Int)+2)=(j:Int)+2:=CI _ (by omega);have s3:0≤(j:Int)+1:=by omega
       have s4:0≤(j:Int)+2:=by omega
       have s5:((j:Int)+1).toNat=j+1:=by omega
       have s6:((j:Int)+2).toNat=j+2:=by omega
       go_upto_region 15 with fail;go_cut[4] (fun v n=>Cs n (w.heap.size+1) v (f++d++[D])∧A1 n w.heap.size (Fk l) 9∧Below w.heap.size w n)
       case first=>
        go_region_law((first
         |(refine nR (by rfl) _ _ (by rfl) (w.heap.size+1) _ (f++d) [D] wr.heap.size 1 1 rfl (by decide) (by rfl) (by first|exact(H.alloc _).drew|exact Cs.alloc H.drew _) (by rfl) (nQ wr D _) (by simp;omega) (by simp;omega) ?_;intro v' M F g)
         |(go_simp;(first|(with_reducible refine(a2 _).mono ?_)|(with_reducible refine(a3 _).mono ?_));rintro e m⟨rfl,rfl⟩)))
        all_goals
         go_wp2_with fail;go_meet;exact⟨F,(b.alloc _).drew.next g (DT _),(B.alloc B.size _).drew.trans (g.mono (GJ _))⟩
       clear H b B s1 s2 z1 z2 o4 c1;obtain⟨H,b,B⟩:=hcut;go_wp2_with fail;go_roundw
       case rel=>exact⟨j+3,d++[D],by go_num,by omega,by rw[←AJ];exact H,by simp;omega,b,by rw[←o.o,c2.o];cases Cp (y.drop (j+3))<;>simp,B⟩
       simp[intOf];omega
      have N:=AB (P.o (by rw[←o.o,a4.o,a1.o,S.o,AI (fun h=>hB h.2)];rfl));go_wp2_with fail;refine(Qa 61 _).mono ?_;rintro e m⟨rfl,rfl⟩;rw[(by rfl:Gj 61=false)];go_wp2_with fail;refine AL (v:=Dy none) (by simp[results,results253,go_sem,Dy]) rfl ⟨by rw[N.o],B⟩
     have N:=AB (P.o (by rw[←o.o,a4.o,a1.o,S.o,AI (fun h=>hA h.1)];rfl));go_wp2_with fail;refine(Qa 61 _).mono ?_;rintro e m⟨rfl,rfl⟩;rw[(by rfl:Gj 61=false)];go_wp2_with fail;refine AL (v:=Dy none) (by simp[results,results253,go_sem,Dy]) rfl ⟨by rw[N.o],B⟩
    have N:=AB (P.o (by rw[←o.o,Rt (by rw[Y.o];exact FM _ _),Y.o,C,Vm (by simp;omega)];rfl));have i2:(y.length:Int)≤(j:Int)+2:=by omega
    go_wp2_with fail;refine(Qa 61 _).mono ?_;rintro e m⟨rfl,rfl⟩;rw[(by rfl:Gj 61=false)];go_wp2_with fail;refine AL (v:=Dy none) (by simp[results,results253,go_sem,Dy]) rfl ⟨by rw[N.o],B⟩
   have U:=AB (by rw[Y.o];exact qF C:Cp (y.drop j)=if Jq y[j]then(Cp (y.drop (j+1))).map (y[j]::·)else none);have p:=AB (Zw y[j]);have b3:((y[j].toNat:Int)==61)=false:=by rw[AG];intro h;exact C (BJ.1 (by simp;omega))
   have c3:(y[j].toNat:Int)<256:=by have:=y[j].toNat_lt;omega
   clear C Y;go_upto_region 14 with fail;generalize y[j]=c at U p b3 c3⊢;go_upto_region 17 with fail;go_cut[80] (fun t n=>t=.bool (Jq c)∧n=wr)
   case first=>
    go_wp2_with fail;refine(Qa c _).mono ?_;rintro e m⟨rfl,rfl⟩;generalize Gj c=pc at p⊢;cases pc with
    |true=>
     go_wp2_with fail;go_meet;exact⟨by rw[p.o];rfl,rfl⟩
    |false=>
     by_cases G:((c.toNat:Int)==32)=true
     ·go_wp2_with fail;go_meet;exact⟨by rw[p.o,G];rfl,rfl⟩
     have G:=AP.2 G;by_cases T:((c.toNat:Int)==9)=true
     ·go_wp2_with fail;go_meet;exact⟨by rw[p.o,G,T];rfl,rfl⟩
     have T:=AP.2 T;go_wp2_with fail;go_meet;exact⟨by rw[p.o,G,T];rfl,rfl⟩
   obtain⟨rfl,rfl⟩:=hcut;clear p b3;obtain⟨wr,rfl⟩:∃x:World,x=wc:=⟨_,rfl⟩;generalize Jq c=st at U⊢;cases st with
   |false=>
    have N:=AB (P.o (by rw[←o.o,U.o];rfl));go_wp2_with fail;refine AL (v:=Dy none) (by simp[results,results253,go_sem,Dy]) rfl ⟨by rw[N.o],B⟩
   |true=>
    go_wp2_with(at_builtin;refine Na rfl _ _ rfl (w.heap.size+1) _ (f++d) [c] wr.heap.size 1 1 rfl rfl (H.alloc _) rfl (Q7 wr c _) (by simp;omega) (by simp;omega) ?_;intro v' M F g);go_wp2_with fail;go_roundw
    case rel=>exact⟨j+1,d++[c],by go_num,by omega,by rw[←AJ];exact F,by simp;omega,(b.alloc _).next g (by omega),by rw[←o.o,U.o,AM rfl];cases Cp (y.drop (j+1))<;>simp,(B.alloc B.size _).trans (g.mono (by omega))⟩
    simp[intOf];omega
  obtain rfl:j=y.length:=by omega
  have b4:Cp y=some d:=by rw[←o.o,AQ];simp[Cp,It]
  have E:=AB (by rw[←L.o,O.o,b4];cases Df r<;>simp:Df l=(Df r).map (f++d++(if a9||r.isEmpty then[]else[13,10])++·));clear b4;have c4:(f++d).length≤k*1000002+1000000:=by simp;omega
  generalize f++d=q at H c4 u E;have R:=AB (show r=l.drop (k+1)from Hr.o.symm);cases a9 with
  |true=>
   have I:=AB (by rw[E.o];cases Df r<;>simp:(Df r).map (q++·)=Df l);clear E;go_wp2_with fail;go_roundw
   case rel=>exact⟨k+1,q,by go_num,by omega,H,by omega,b,by rw[←R.o];exact I.o,B⟩
   simp[intOf];omega
  |false=>
   by_cases c8:k+1<l.length
   ·have J:r.isEmpty=false:=by rw[R.o];simp;omega
    have I:=AB (by rw[E.o,J];cases Df r<;>simp:(Df r).map ((q++[13,10])++·)=Df l);clear E J;go_wp2_with(at_builtin;refine nS rfl _ _ rfl (w.heap.size+1) _ q [13,10] rfl H rfl (by simp;omega) (by omega) ?_;intro v' M F g);go_wp2_with fail;go_roundw
    case rel=>exact⟨k+1,q++[13,10],by go_num,by omega,F,by simp;omega,b.next g (by omega),by rw[←R.o];exact I.o,B.trans (g.mono (by omega))⟩
    simp[intOf];omega
   have J:r.isEmpty=true:=by rw[R.o];simp;omega
   have I:=AB (by rw[E.o,J];cases Df r<;>simp:(Df r).map (q++·)=Df l);clear E J;go_wp2_with fail;go_roundw
   case rel=>exact⟨k+1,q,by go_num,by omega,H,by omega,b,by rw[←R.o];exact I.o,B⟩
   simp[intOf];omega
 obtain rfl:k=l.length:=by omega
 have hd:E6 s=some f:=by rw[Z.o,←a0.o];simp[Df]
 have Hd:=AB hd;clear hd;have c9:=H.text;obtain⟨va,vc,rfl,_⟩:=H.shape;go_wp2_with fail;refine AL (v:=Dy (some f)) (by simp[results,results253,go_sem,Dy]) rfl ⟨by rw[Hd.o],B⟩
theorem qH(h:Rq v n p)(H:Ff c n p=some (k,q))(b:Ax c<64):k<64∧q≤2∧((n+1)%4=1→q=0)∧((n+1)%4=2→q=0)∧((n+1)%4=3→q≤1):=by
 obtain⟨a,d,e,f,_⟩:=h;unfold Ff at H;split at H
 ·simp at H;omega
 split at H
 ·cases H
 simp at H;omega
theorem qI(f:v<262144*64)(d:n%4=1→v<64)(e:n%4=2→v<4096)(g:n%4=3→v<262144)(H:p≤2)(a:n%4=1→p=0)(b:n%4=2→p=0)(c:n%4=3→p≤1)(h:Ek v n p=some (o,v',n',p')):Rq v' n' p'∧o.length≤3:=by
 unfold Ek at h;split at h
 ·simp at h;obtain⟨rfl,rfl,rfl,rfl⟩:=h;refine⟨⟨H,a,b,c,?_,?_,d,e⟩,by simp⟩<;>omega
 split at h
 ·cases h
 simp at h;obtain⟨rfl,rfl,rfl,rfl⟩:=h;refine⟨⟨H,a,b,c,?_,?_,?_,?_⟩,by simp⟩<;>omega
theorem qJ:((List.range 256).all fun n=>Al n.toUInt8==decide (0≤indexByte [13,10,32,9] n.toUInt8))=true:=by kernel_rfl
theorem qK(c:UInt8):Al c=decide (0≤indexByte [13,10,32,9] c):=by
 have:=AW.1 qJ c.toNat (BY.2 c.toNat_lt);rw[show c.toNat.toUInt8=c by simp]at this;exact BG.1 this
theorem Vn(n:Nat):IntKind.u8.wrap (n:Int)=(n.toUInt8.toNat:Int):=by
 rw[IntKind.wrap_u8];simp
theorem qL(w:World)(a b c:UInt8)(t:TypeId)(i:Nat)(h:i<3):(w.alloc (.cells #[.int .u8 (a.toNat:Int),.int .u8 (b.toNat:Int),.int .u8 (c.toNat:Int)] t)).cell? ⟨w.heap.size,i,none⟩=some (.int .u8 (([a,b,c]:Bs)[i].toNat:Int)):=by
 rw[(A1.new w #[.int .u8 (a.toNat:Int),.int .u8 (b.toNat:Int),.int .u8 (c.toNat:Int)] t).cell]
 match i,h with
 |0,_=>rfl
 |1,_=>rfl
 |2,_=>rfl
theorem qM(w:World)(a b c:UInt8)(t:TypeId)(i:Nat)(h:i<[a,b].length):(w.alloc (.cells #[.int .u8 (a.toNat:Int),.int .u8 (b.toNat:Int),.int .u8 (c.toNat:Int)] t)).cell? ⟨w.heap.size,i,none⟩=some (.int .u8 ([a,b][i].toNat:Int)):=by
 rw[(A1.new w #[.int .u8 (a.toNat:Int),.int .u8 (b.toNat:Int),.int .u8 (c.toNat:Int)] t).cell]
 match i,h with
 |0,_=>rfl
 |1,_=>rfl
theorem qO(w:World)(a b c:UInt8)(t:TypeId)(i:Nat)(h:i<[a].length):(w.alloc (.cells #[.int .u8 (a.toNat:Int),.int .u8 (b.toNat:Int),.int .u8 (c.toNat:Int)] t)).cell? ⟨w.heap.size,i,none⟩=some (.int .u8 ([a][i].toNat:Int)):=by
 rw[(A1.new w #[.int .u8 (a.toNat:Int),.int .u8 (b.toNat:Int),.int .u8 (c.toNat:Int)] t).cell]
 match i,h with
 |0,_=>rfl
theorem qP(s:Bs)(w:World)(hl:s.length≤1000000000000):Calls prog 252 #[.string ⟨s.toArray⟩] w fun e W=>e=.returned (Dy (Ef s))∧Below w.heap.size w W:=by
 have hT:Hid (Ef s=C6 s 0 0 0):=AB rfl;go_enter func252,ntmps252;go_wp2_with fail;go_loopw[4,5,6,7,13] (fun o v n p i wr=>∃(k V N P:Nat)(d:Bs),i=.int .i64 k∧k≤s.length∧v=.int .i64 V∧n=.int .i64 N∧p=.int .i64 P∧N≤k∧Rq V N P∧Cs wr w.heap.size o d∧d.length≤3*k∧(C6 (s.drop k) V N P).map (d++·)=Ef s∧Below w.heap.size w wr) (fun _ _ _ _ i _=>s.length-(intOf i).toNat)
 case atStart=>exact⟨0,0,0,0,[],rfl,by omega,rfl,rfl,rfl,by omega,⟨by omega,by omega,by omega,by omega,by omega,by omega,by omega,by omega⟩,A0.nil _ _ _ _ _,by simp,by simp[Ef],AD _ _⟩
 obtain⟨k,V,N,P,d,rfl,hk,rfl,rfl,rfl,c1,J,g,c2,a3,B⟩:=hrel;have U:=AB a3;clear a3;have r:=AB J;have hV:V<262144:=J.2.2.2.2.1;have hP:P≤2:=J.1;clear J;by_cases b4:k<s.length
 ·have HL:=AB (show s.drop k=s[k]::s.drop (k+1)from AE b4);have f:=AB (by rw[←U.o,HL.o];rfl:(match Hu s[k] V N P with|none=>none|some (o,v',n',p')=>(C6 (s.drop (k+1)) v' n' p').map (o++·)).map (d++·)=Ef s);clear HL U;go_upto_region 7 with fail;have X:=AB (qK s[k]);have L:=Uh s[k];have b5:(s[k].toNat:Int)<256:=by have:=s[k].toNat_lt;omega
  generalize s[k]=c at f X L b5⊢;have hU:c.toNat.toUInt8=c:=by simp
  have HU:=AB hU;clear hU;go_wp2_with fail;refine(Mi [13,10,32,9] _ c (by rw[←HU.o];simp) _).mono ?_;rintro e W⟨rfl,rfl⟩;by_cases M:0≤indexByte [13,10,32,9] c
  ·have E:=AB (by unfold Hu;rw[AM (by rw[X.o];exact BD M)]:Hu c V N P=some ([],V,N,P));generalize indexByte [13,10,32,9] c=q at M⊢;go_wp2_with fail;go_roundw
   case rel=>exact⟨k+1,V,N,P,d,by go_num,by omega,rfl,rfl,rfl,by omega,r.o,g,by omega,by rw[←f.o,E.o];show _=((C6 (s.drop (k+1)) V N P).map ([]++·)).map (d++·);cases C6 (s.drop (k+1)) V N P<;>simp,B⟩
   simp[intOf];omega
  have E:=AB (by unfold Hu;rw[AI (by rw[X.o];simpa using M)];rfl:Hu c V N P=match Ff c N P with|none=>none|some (k,p)=>Ek (V*64+k) (N+1) p);generalize indexByte [13,10,32,9] c=q at M⊢;go_wp2_with fail;refine(Mi N4 _ c (by rw[←HU.o];simp) _).mono ?_;rintro e W⟨rfl,rfl⟩;rw[(by rfl:indexByte N4 c=Ax c)];have t:=AB (by rfl:Ff c N P=if c=61∧2≤N%4 then some (0,P+1)else if Ax c<0∨0<P then none else some ((Ax c).toNat,P));have a4:c=61→Ax c=-1:=fun h=>by rw[h];rfl
  have Y:=AB a4;clear a4;generalize O:Ax c=I at L t Y⊢;have a5:=AB O;clear O;have Z:=AB (show Ff c N P=none→Ef s=none from fun h=>by rw[←f.o,E.o,h];rfl);go_upto_block 2 with fail;go_cut[7,10] (fun p x wx=>∃K q:Nat,x=.int .i64 K∧p=.int .i64 q∧Ff c N P=some (K,q)∧wx=wr)
  case first=>
   by_cases j:c=61
   ·have O:I=-1:=Y.o j;subst j;by_cases R:2≤N%4
    ·have b6:(2:Int)≤(N:Int)%4:=by omega
     have a0:=AB (by rw[t.o,AM ⟨rfl,R⟩]:Ff 61 N P=some (0,P+1));go_wp2_with fail;go_meet;exact⟨0,P+1,rfl,by go_num,a0.o,rfl⟩
    have b6:(N:Int)%4<2:=by omega
    have H:=AB (Z.o (by rw[t.o,AI (fun h=>R h.2),AM (Or.inl (by omega))]));subst O;go_wp2_with fail;refine AL (v:=Dy none) (by simp[results,results252,go_sem,Dy]) rfl ⟨by rw[H.o],B⟩
   have c3:((c.toNat:Int)==61)=false:=by rw[AG];intro h;exact j (BJ.1 (by simp;omega))
   by_cases S:I<0∨0<P
   ·have H:=AB (Z.o (by rw[t.o,AI (fun h=>j h.1),AM S]));clear j;by_cases hi:I<0
    ·go_wp2_with fail;refine AL (v:=Dy none) (by simp[results,results252,go_sem,Dy]) rfl ⟨by rw[H.o],B⟩
    have a6:(0:Int)<P:=by omega
    clear S;go_wp2_with fail;refine AL (v:=Dy none) (by simp[results,results252,go_sem,Dy]) rfl ⟨by rw[H.o],B⟩
   have a0:=AB (by rw[t.o,AI (fun h=>j h.1),AI S]:Ff c N P=some (I.toNat,P));have hi:0≤I:=by omega
   have a6:P=0:=by omega
   clear j S;obtain⟨m,rfl⟩:∃m:Nat,I=m:=⟨I.toNat,by omega⟩;subst a6;go_wp2_with fail;go_meet;exact⟨m,0,rfl,rfl,by rw[a0.o];simp,rfl⟩
  obtain⟨K,Q,rfl,rfl,a1,rfl⟩:=hcut;obtain⟨wr,rfl⟩:∃x:World,x=wc:=⟨_,rfl⟩;have b7:=qH r.o a1 (by rw[a5.o];exact L.2);have u:=AB (by rw[←f.o,E.o,a1]:(match Ek (V*64+K) (N+1) Q with|none=>none|some (o,v',n',p')=>(C6 (s.drop (k+1)) v' n' p').map (o++·)).map (d++·)=Ef s);clear f E a1 Z t Y a5 L;obtain⟨c4,hQ,a7,a8,a9⟩:=b7;have b0:(N+1)%4=1→V*64+K<64:=fun h=>by have:=r.o.2.2.2.2.2.1 (by omega);omega
  have b2:(N+1)%4=2→V*64+K<4096:=fun h=>by have:=r.o.2.2.2.2.2.2.1 (by omega);omega
  have b3:(N+1)%4=3→V*64+K<262144:=fun h=>by have:=r.o.2.2.2.2.2.2.2 (by omega);omega
  obtain⟨a,z⟩:∃a:Nat,V*64+K=a:=⟨_,rfl⟩;have o6:bits .or .i64 ((V:Int)*64) K=(a:Int):=(nW V K (by omega) (by omega) (by omega) (by omega)).trans (by omega);have c5:a<16777216:=by omega
  have T:=AB (fun(o:Bs)(v' n' p':Nat)(h:Ek a (N+1) Q=some (o,v',n',p'))=>qI (o:=o) (v':=v') (n':=n') (p':=p') (show a<262144*64 by omega) (by rw[←z];exact b0) (by rw[←z];exact b2) (by rw[←z];exact b3) hQ a7 a8 a9 h);rw[z]at u;clear a7 a8 a9 b0 b2 b3 z r hP;have E:=AB (by rfl:Ek a (N+1) Q=if 0<(N+1)%4 then some ([],a,N+1,Q)else if Q=1∧a%256≠0∨Q=2∧a%65536≠0 then none else some ([(a/65536).toUInt8,(a/256).toUInt8,a.toUInt8].take (3-Q),0,N+1,Q));by_cases A:0<(N+1)%4
  ·have b8:(0:Int)<((N:Int)+1)%4:=by omega
   have a2:=AB (by rw[E.o,AM A]:Ek a (N+1) Q=some ([],a,N+1,Q));have b:=AB (T.o _ _ _ _ a2.o).1;have b9:=AB (by rw[←u.o,a2.o];show _=((C6 (s.drop (k+1)) a (N+1) Q).map ([]++·)).map (d++·);cases C6 (s.drop (k+1)) a (N+1) Q<;>simp:(C6 (s.drop (k+1)) a (N+1) Q).map (d++·)=Ef s);clear E a2 u T A;go_wp2_with fail;go_roundw
   case rel=>exact⟨k+1,a,N+1,Q,d,by go_num,by omega,rfl,by go_num,rfl,by omega,b.o,g,by omega,b9.o,B⟩
   simp[intOf];omega
  have b8:((N:Int)+1)%4=0:=by omega
  have HX:=AB (show(Q=1∧a%256≠0∨Q=2∧a%65536≠0)→Ef s=none from fun h=>by rw[←u.o,E.o,AI A,AM h];rfl);have y:=AB (show¬(Q=1∧a%256≠0∨Q=2∧a%65536≠0)→Rq 0 (N+1) Q∧(C6 (s.drop (k+1)) 0 (N+1) Q).map ((d++[(a/65536).toUInt8,(a/256).toUInt8,a.toUInt8].take (3-Q))++·)=Ef s from fun h=>by
   have he:Ek a (N+1) Q=some ([(a/65536).toUInt8,(a/256).toUInt8,a.toUInt8].take (3-Q),0,N+1,Q):=by rw[E.o,AI A,AI h]
   refine⟨(T.o _ _ _ _ he).1,?_⟩;rw[←u.o,he];show _=((C6 (s.drop (k+1)) 0 (N+1) Q).map (_++·)).map (d++·);cases C6 (s.drop (k+1)) 0 (N+1) Q<;>simp)
  have z1:=Vn (a/65536);have z2:=Vn (a/256);have z3:=Vn a;rw[(by omega:((a/65536:Nat):Int)=(a:Int)/65536)]at z1;rw[(by omega:((a/256:Nat):Int)=(a:Int)/256)]at z2;have c6:=nZ a (by omega) (by omega);have c7:=oA a (by omega) (by omega);clear E u T A;generalize(a/65536).toUInt8=D at z1 y;generalize(a/256).toUInt8=l at z2 y;generalize a.toUInt8=C at z3 y;obtain rfl|rfl|rfl:Q=0∨Q=1∨Q=2:=by omega
  ·have b:=AB (y.o (by simp[*]));go_wp2_with(at_builtin;refine Na rfl _ _ rfl w.heap.size _ d [D,l,C] wr.heap.size 3 3 rfl rfl (g.alloc _) rfl (fun i hi=>qL wr D l C _ i hi) (by simp;omega) (by have:=B.size;simp;omega) ?_;intro v' w2 F G);go_wp2_with fail;go_roundw
   case rel=>exact⟨k+1,0,N+1,0,d++[D,l,C],by go_num,by omega,rfl,by go_num,rfl,by omega,b.o.1,F,by simp;omega,b.o.2,(B.alloc B.size _).trans G⟩
   simp[intOf];omega
  ·by_cases R:a%256=0
   ·have b1:((a:Int)%256 !=0)=false:=by rw[FV];omega
    have b:=AB (y.o (by simp[*]));go_wp2_with(at_builtin;refine Na rfl _ _ rfl w.heap.size _ d [D,l] wr.heap.size 2 3 rfl rfl (g.alloc _) rfl (qM wr D l C _) (by simp;omega) (by have:=B.size;simp;omega) ?_;intro v' w2 F G);go_wp2_with fail;go_roundw
    case rel=>exact⟨k+1,0,N+1,1,d++[D,l],by go_num,by omega,rfl,by go_num,rfl,by omega,b.o.1,F,by simp;omega,b.o.2,(B.alloc B.size _).trans G⟩
    simp[intOf];omega
   have b1:((a:Int)%256 !=0)=true:=by rw[CZ];omega
   have H:=AB (HX.o (by simp[*]));go_wp2_with fail;refine AL (v:=Dy none) (by simp[results,results252,go_sem,Dy]) rfl ⟨by rw[H.o],B⟩
  by_cases R:a%65536=0
  ·have b1:((a:Int)%65536 !=0)=false:=by rw[FV];omega
   have b:=AB (y.o (by simp[*]));go_wp2_with(at_builtin;refine Na rfl _ _ rfl w.heap.size _ d [D] wr.heap.size 1 3 rfl rfl (g.alloc _) rfl (qO wr D l C _) (by simp;omega) (by have:=B.size;simp;omega) ?_;intro v' w2 F G);go_wp2_with fail;go_roundw
   case rel=>exact⟨k+1,0,N+1,2,d++[D],by go_num,by omega,rfl,by go_num,rfl,by omega,b.o.1,F,by simp;omega,b.o.2,(B.alloc B.size _).trans G⟩
   simp[intOf];omega
  have b1:((a:Int)%65536 !=0)=true:=by rw[CZ];omega
  have H:=AB (HX.o (by simp[*]));go_wp2_with fail;refine AL (v:=Dy none) (by simp[results,results252,go_sem,Dy]) rfl ⟨by rw[H.o],B⟩
 obtain rfl:k=s.length:=by omega
 have f:=AB (by rw[←U.o,AQ];unfold C6;split<;>simp:(if 0<N%4 then none else some d)=Ef s);by_cases hN:0<N%4
 ·have c0:(0:Int)<(N:Int)%4:=by omega
  have H:=AB (by rw[←f.o,AM hN]:Ef s=none);go_wp2_with fail;refine AL (v:=Dy none) (by simp[results,results252,go_sem,Dy]) rfl ⟨by rw[H.o],B⟩
 have c0:(N:Int)%4=0:=by omega
 have H:=AB (by rw[←f.o,AI hN]:Ef s=some d);have c8:=g.text;obtain⟨va,vc,rfl,_⟩:=g.shape;go_wp2_with fail;refine AL (v:=Dy (some d)) (by simp[results,results252,go_sem,Dy]) rfl ⟨by rw[H.o],B⟩
end Go.Proofs.YtignjjnflcpiiaaGreatDoor
