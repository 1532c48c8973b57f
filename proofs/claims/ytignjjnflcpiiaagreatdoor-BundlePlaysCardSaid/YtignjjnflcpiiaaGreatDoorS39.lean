/- The links of a page, by the document's answer: as the pro -/
import Derived.Test.YtignjjnflcpiiaaGreatDoorS35
import Derived.Test.YtignjjnflcpiiaaGreatDoorS36
set_option linter.all false
set_option maxHeartbeats 8000000
set_option maxRecDepth 100000
namespace Go.Proofs.YtignjjnflcpiiaaGreatDoor
open Go Go.RowKit Proofs.Tryz Lib
theorem WC(s:Bs)(i:Nat)(n:Int)(h:n=i)(w:World)(H:s.length≤1000000000)(a:i≤s.length):Calls prog 124 #[.string ⟨s.toArray⟩,.int .i64 n] w fun e W=>∃v,e=.returned (.tuple #[v,.int .i64 ((Cu s i).1:Int)])∧G9 W w.heap.size v (Cu s i).2∧Below w.heap.size w W:=by
 subst h;exact UV s i w H a
theorem iX(s:Bs):Iw s s.length=[]:=Oh (by
 have:=Mg s [60] s.length (AC _);exact BK (by omega))
theorem Xt(s p:Bs)(i:Nat)(a:i≤s.length):(D4 s p i+p.length<s.length∧Cc s p i=D4 s p i+p.length)∨(s.length≤D4 s p i+p.length∧Cc s p i=s.length):=by
 unfold D4 Cc;rcases Lp (s.drop i) p with h|⟨b,H⟩
 ·rw[AM h,AM h];exact Or.inr ⟨by omega,rfl⟩
 rw[AI (by omega),AI (by omega)];simp at H;omega
def az(c:UInt8):Bool:=(Dv.take 52).contains c
theorem WD:((List.range 256).all fun n=>(decide (97≤((Bw n.toUInt8).toNat:Int))&&decide (((Bw n.toUInt8).toNat:Int)≤122))==az n.toUInt8&&(Kb (Bw n.toUInt8)==Kb n.toUInt8))=true:=by kernel_rfl
theorem WE(c:UInt8):(decide (97≤((Bw c).toNat:Int))&&decide (((Bw c).toNat:Int)≤122))=az c∧Kb (Bw c)=Kb c:=by
 have:=AW.1 WD c.toNat (BY.2 c.toNat_lt);rw[show c.toNat.toUInt8=c by simp]at this;rw[BL]at this;exact⟨BG.1 this.1,BG.1 this.2⟩
theorem Xu(s:Bs)(w:World)(hs:s.length≤1000000000):Calls prog 69 #[.string ⟨s.toArray⟩] w fun e w'=>∃v,e=.returned v∧G9 w' w.heap.size v (Bf s)∧Below w.heap.size w w':=by
 have HL:=AB (by rfl:[]++Iw s 0=Bf s);go_enter func69,ntmps69;go_wp2_with fail;go_loopw[3,4] (fun v x wr=>∃(i:Nat)(o:List Aj),x=.int .i64 i∧i≤s.length∧o.length≤i∧G9 wr w.heap.size v o∧Hid (o++Iw s i=Bf s)∧Below w.heap.size w wr) (fun _ x _=>s.length-(intOf x).toNat)
 case atStart=>exact⟨0,[],rfl,CX _,AC _,A0.nil _ _ _ _ _,HL,AD _ _⟩
 clear HL;obtain⟨i,o,rfl,hi,c8,n,P,B⟩:=hrel;have hF:=Wn s [60] i wr (by omega) (by omega) (by decide);have b:=Xt s [60] i hi;have c4:=T4 s [60] i hi;have S:=AB (fun c l h=>Rz (s:=s) (l:=l) (c:=c) hi h);have R:=AB (Oh (s:=s) (i:=i));have a5:=Og s [60] i;generalize Cc s [60] i=a at b S R a5;generalize D4 s [60] i=f at hF b c4;simp only[AO,BN]at b;rcases b with⟨h1,p⟩|⟨h1,p⟩
 ·obtain rfl:a=f+1:=by omega
  clear p R a5;have T:=AE h1;have b8:=S.o _ _ T;have hl:=N8 T;have d:=hl.1.le;have H:=AB (by rw[←P.o,b8,AJ]:(o++(Ey s (f+1) s[f+1]).2)++Iw s (Ey s (f+1) s[f+1]).1=Bf s);clear b8 S P hl;have j:=(N8 T).2;have c9:wrap64 ((f:Int)+1)=(f:Int)+1:=by unfold wrap64;omega
  have d0:wrap64 ((f:Int)+1+1)=(f:Int)+1+1:=by unfold wrap64;omega
  have U:=fun W=>I1 [s[f+1]] W (by simp)
  have Z:=AB (WE s[f+1]);have V:=AB (fun(h:hasPrefix (s.drop (f+1)) [33,45,45]=true)=>fA (s:=s) (a:=f+1) (c:=s[f+1]) h);have X:=AB (fun(h:hasPrefix (s.drop (f+1)) [33,45,45]=false)(p:s[f+1]=47∨s[f+1]=33∨s[f+1]=63)=>fB (s:=s) (a:=f+1) (c:=s[f+1]) h p);have Y:=AB (fun(h:hasPrefix (s.drop (f+1)) [33,45,45]=false)(p:¬(s[f+1]=47∨s[f+1]=33∨s[f+1]=63))(h3:(Dv.take 52).contains s[f+1]=true)=>fC (s:=s) (a:=f+1) (c:=s[f+1]) h p h3);have a0:=AB (fun(h:hasPrefix (s.drop (f+1)) [33,45,45]=false)(p:¬(s[f+1]=47∨s[f+1]=33∨s[f+1]=63))(h3:(Dv.take 52).contains s[f+1]=false)=>fD (s:=s) (a:=f+1) (c:=s[f+1]) h p h3);have D:=AB (fE s[f+1]);have hP:=fun W=>Jc (s.drop (f+1)) [33,45,45] W
  clear T;go_upto_region 6 with(go_at_call 123;with_reducible refine hF.mono ?_;rintro e w1⟨rfl,hw⟩;obtain rfl:=hw.symm);have b9:=AB (by rfl:A2 [s[f+1]]=[Bw s[f+1]]);rw[b9.o]at U;have H1:=AB (by rw[AE h1];rfl:(s.drop (f+1)).take 1=[s[f+1]]);generalize c5:Bw s[f+1]=k at U Z;have d1:(k.toNat:Int)<256:=by have:=k.toNat_lt;omega
  have d2:(f:Int)+1+1≤(s.length:Int):=by omega
  clear b9 c5 hF;go_cut[5] (fun t E=>t=.int .u8 (k.toNat:Int)∧Below wr.heap.size wr E)
  case first=>
   go_wp2_with fail
   (try rw[H1.o])
   refine(U _).mono ?_;rintro e w2⟨rfl,G⟩;go_wp2_with fail;go_meet;exact⟨rfl,G⟩
  case rest=>
  obtain⟨rfl,G⟩:=hcut;obtain⟨w2,rfl⟩:∃x:World,x=wc:=⟨_,rfl⟩;have n:=A0.next n G;have r:=B.trans (G.mono B.size);clear G B U H1;generalize c0:hasPrefix (s.drop (f+1)) [33,45,45]=cm at hP V X Y a0;have a6:=AB c0;clear c0;cases cm with
  |true=>
   have N:=V.o rfl;have c1:f+1+3≤s.length:=by
    have h:=a6.o;have:=(BR.1 (by unfold hasPrefix at h;exact h)).length_le;rw[AS]at this;simp at this;omega
   rw[N]at H j d;simp only[BM]at H d j;have hF:=fun W=>Wz s [45,45,62] (f+1+3) ((f:Int)+1+3) (by omega) W (by omega) (by omega) (by decide)
   have b:=Xt s [45,45,62] (f+1+3) c1;have u:=T4 s [45,45,62] (f+1+3) c1;clear N V X Y a0 D Z a6;generalize Cc s [45,45,62] (f+1+3)=C at H j d b;generalize D4 s [45,45,62] (f+1+3)=F at hF b u;have c6:wrap64 ((F:Int)+3)=(F:Int)+3:=by unfold wrap64;omega
   have y:=AB u;clear u;simp only[AO,BN]at b;go_wp2_with fail;with_reducible refine(hP _).mono ?_
   rintro e w3⟨rfl,rfl⟩;go_wp2_with fail;with_reducible refine(hF _).mono ?_
   rintro e w3⟨rfl,rfl⟩;rcases b with⟨g1,g⟩|⟨g1,g⟩
   ·have m:=AB g;clear g;have a1:¬(s.length:Int)≤(F:Int)+3:=by omega
    go_wp2_with fail;go_roundw
    case rel=>exact⟨F+3,o,by go_num,by have:=m.o;have:=y.o;omega,by have:=m.o;have:=y.o;omega,n,by rw[←m.o];exact H,r⟩
    simp[intOf];have:=m.o;have:=y.o;omega
   have a1:(s.length:Int)≤(F:Int)+3:=by omega
   have A:=AB (show Bf s=o from by rw[←H.o,g,Oh (by
    have:=Mg s [60] s.length (AC _);rw[show Cc s [60] s.length=s.length by omega,AQ]),BM])
   clear g H;go_wp2_with fail;go_ret;exact⟨_,rfl,by rw[A.o];exact n,r⟩
  |false=>
   have a7:=AB (X.o rfl);have a8:=AB (Y.o rfl);have a9:=AB (a0.o rfl);clear X Y a0;have I:=AB (fF k);have q:=Z.o;have b0:=AB q.2;have J:=AB q.1;clear q Z V a6;go_upto_region 9 with(go_at_call 17;with_reducible refine(hP _).mono ?_;rintro e w3⟨rfl,rfl⟩);clear hP;go_cut[33] (fun t E=>t=.bool (Kb k)∧E=w2)
   case first=>
    cases q1:((k.toNat:Int)==47)with
    |true=>
     have Q:=AB q1;go_wp2_with fail;go_meet;exact⟨by rw[I.o,Q.o];rfl,rfl⟩
    |false=>
     have Q:=AB q1;cases q2:((k.toNat:Int)==33)with
     |true=>
      have Q2:=AB q2;go_wp2_with fail;go_meet;exact⟨by rw[I.o,Q.o,Q2.o];rfl,rfl⟩
     |false=>
      have Q2:=AB q2;cases q3:((k.toNat:Int)==63)with
      |true=>
       have Q3:=AB q3;go_wp2_with fail;go_meet;exact⟨by rw[I.o,Q.o,Q2.o,Q3.o];rfl,rfl⟩
      |false=>
       have Q3:=AB q3;go_wp2_with fail;go_meet;exact⟨by rw[I.o,Q.o,Q2.o,Q3.o];rfl,rfl⟩
   case rest=>
   obtain⟨rfl,K⟩:=hcut;obtain rfl:=K.symm;clear K I;rw[b0.o];cases M:Kb s[f+1]with
   |true=>
    have N:=a7.o (D.o.1 M);rw[N]at H j d;simp only[BM]at H d j;have hF:=fun W=>Wz s [62] (f+1) ((f:Int)+1) (by omega) W (by omega) (by omega) (by decide)
    have b:=Xt s [62] (f+1) (by omega);have u:=T4 s [62] (f+1) (by omega);clear N a7 a8 a9 D M J b0;generalize Cc s [62] (f+1)=C at H j d b;generalize D4 s [62] (f+1)=F at hF b u;have c6:wrap64 ((F:Int)+1)=(F:Int)+1:=by unfold wrap64;omega
    have y:=AB u;clear u;simp only[AO,BN]at b;go_wp2_with fail;with_reducible refine(hF _).mono ?_
    rintro e w3⟨rfl,rfl⟩;rcases b with⟨g1,g⟩|⟨g1,g⟩
    ·have m:=AB g;clear g;have a1:¬(s.length:Int)≤(F:Int)+1:=by omega
     go_wp2_with fail;go_roundw
     case rel=>exact⟨F+1,o,by go_num,by have:=m.o;have:=y.o;omega,by have:=m.o;have:=y.o;omega,n,by rw[←m.o];exact H,r⟩
     simp[intOf];have:=m.o;have:=y.o;omega
    have a1:(s.length:Int)≤(F:Int)+1:=by omega
    have A:=AB (by rw[←H.o,g,iX,BM]:Bf s=o);clear g H;go_wp2_with fail;go_ret;exact⟨_,rfl,by rw[A.o];exact n,r⟩
   |false=>
    have b1:¬(s[f+1]=47∨s[f+1]=33∨s[f+1]=63):=fun h=>by rw[D.o.2 h]at M;cases M
    have b2:=AB (a8.o b1);have b3:=AB (a9.o b1);clear M b1 D a7 a8 a9 b0;go_upto_region 11 with fail;go_cut[48] (fun t E=>t=.bool (az s[f+1])∧E=w2)
    case first=>
     by_cases r1:97≤(k.toNat:Int)
     ·have V1:=AB (BD r1);by_cases r2:(k.toNat:Int)≤122
      ·have V2:=AB (BD r2);go_wp2_with fail;go_meet;exact⟨by rw[←J.o,V1.o,V2.o];rfl,rfl⟩
      have V2:=AB (AX r2);go_wp2_with fail;go_meet;exact⟨by rw[←J.o,V1.o,V2.o];rfl,rfl⟩
     have V1:=AB (AX r1);go_wp2_with fail;go_meet;exact⟨by rw[←J.o,V1.o];rfl,rfl⟩
    case rest=>
    obtain⟨rfl,K⟩:=hcut;obtain rfl:=K.symm;clear K J;cases q:az s[f+1]with
    |true=>
     have N:=b2.o q;rw[N]at H j d;have hT:=fun W=>WC s (f+1) ((f:Int)+1) (by omega) W hs (by omega)
     have c7:=r.size;clear N b2 b3 q;generalize(Cu s (f+1)).1=C at H j d hT;generalize(Cu s (f+1)).2=L at H j d hT;go_upto_region 14 with(go_at_call 124;with_reducible refine(hT _).mono ?_;rintro e w3⟨v3,rfl,c2,b4⟩);have a2:=A0.next n b4;have B3:=r.trans (b4.mono c7);obtain⟨ta,a3,rfl,a4⟩:=A0.rd (by decide) Gq c2;clear c2 b4 hT n;by_cases g1:(s.length:Int)≤(C:Int)
     ·have c3:C=s.length:=by omega
      have A:=AB (by rw[←H.o,c3,iX,BM]:Bf s=o++L);clear c3;go_wp2_with(at_builtin;refine Xh (α:=Aj) (cs:=Hm) (size:=3) (z:=.agg #[.int .i64 0,.int .i64 0,.string ByteArray.empty]) Gq T9 Ta rfl (by decide) underlying93 rfl _ _ rfl w.heap.size _ o L ta L.length a3 rfl a2 rfl ⟨ta,a3,rfl,a4⟩ (by omega) (by unfold maxLen;omega) (by have:=B3.size;omega) ?_;intro v4 w4 b5 b6 O b7);have B4:=B3.trans O;clear b6 b7 O a4 a2;go_ret;exact⟨_,rfl,by rw[A.o];exact b5,B4⟩
     have g:=AB (by omega:C<s.length);go_wp2_with(at_builtin;refine Xh (α:=Aj) (cs:=Hm) (size:=3) (z:=.agg #[.int .i64 0,.int .i64 0,.string ByteArray.empty]) Gq T9 Ta rfl (by decide) underlying93 rfl _ _ rfl w.heap.size _ o L ta L.length a3 rfl a2 rfl ⟨ta,a3,rfl,a4⟩ (by omega) (by unfold maxLen;omega) (by have:=B3.size;omega) ?_;intro v4 w4 b5 b6 O b7);have B4:=B3.trans O;clear b6 b7 O a4 a2;go_roundw
     case rel=>exact⟨C,o++L,rfl,by omega,by simp;omega,b5,H,B4⟩
     simp[intOf];have:=g.o;omega
    |false=>
     have N:=b3.o q;rw[N]at H j d;simp only[BM]at H d j;have a1:¬(s.length:Int)≤(f:Int)+1:=by omega
     clear N b2 b3 q;go_wp2_with fail;go_roundw
     case rel=>exact⟨f+1,o,by go_num,by omega,by omega,n,H,r⟩
     simp[intOf];omega
 obtain rfl:a=s.length:=by omega
 have A:=AB (by rw[←P.o,R.o (by rw[AQ]),BM]:Bf s=o);clear R S P a5;have d3:(s.length:Int)≤(f:Int)+1:=by omega
 go_wp2_with fail;with_reducible refine hF.mono ?_
 rintro e w1⟨rfl,rfl⟩;go_wp2_with fail;go_ret;exact⟨_,rfl,by rw[A.o];exact n,B⟩
def Xv:Option Bs→Value
 |none=>.tuple #[.string ⟨#[]⟩,.int .i64 1]
 |some l=>.tuple #[.string ⟨l.toArray⟩,.int .i64 0]
theorem WG(s:Bs)(v:List Bs)(m:Nat)(n:(Bf s).length=v.length)(H:m<(Bf s).length)(f:m<v.length):Jn s (((Bf s).zip v).drop m)=Nz ((Bf s)[m],v[m]) (Jn s (((Bf s).zip v).drop (m+1)))∧(Bf s)[m].1+(Bf s)[m].2.1≤(Jn s (((Bf s).zip v).drop (m+1))).length∧1≤(Bf s)[m].1:=by
 have h:Io ((Bf s).zip v)=Bf s:=gO (by omega);have d:Io (((Bf s).zip v).drop (m+1))=(Bf s).drop (m+1):=by
  unfold Io at h⊢;rw[List.map_drop,h]
 have a:=(Bt.at m H (Jb s).1).2;have e:=a.le;have p:∀x∈((Bf s).zip v).drop (m+1),1≤x.1.1:=fun x c=>by
  have b:x.1∈Io ((Bf s).zip v):=List.mem_map_of_mem (IK c);rw[h]at b;exact Tj s _ b
 refine⟨?_,(X9 _ _ (by rw[d];exact a) e p).2.2,Tj s _ (AN H)⟩;rw[AE (show m<((Bf s).zip v).length by simp;omega),GI];rfl
theorem WH(s:Bs)(V:List Bs)(vv:Value)(w:World)(hs:s.length≤1000000000)(hv:E7 1 Bi w vv V)(c3:V.length≤1000000)(a0:∀x∈V,x.length≤1000000):Calls prog 74 #[.string ⟨s.toArray⟩,vv] w fun e w'=>e=.returned (Xv (Gt s V))∧Below w.heap.size w w':=by
 obtain⟨va,c4,rfl,a1⟩:=hv.opens Cw;have b3:=AB a1;have b4:=AB a0;have D:=fun W=>Xu s W hs
 have T:=AB (WG s V);have E:=AB (TU s V);have f:=AB (show(Bf s).length≠V.length→Gt s V=none from fun h=>by unfold Gt;rw[AI h]);clear a1 a0 hv;generalize Bf s=L at D T E f;go_enter func74,ntmps74;go_upto_region 2 with(go_at_call 69;with_reducible refine(D _).mono ?_;rintro e w1⟨v,rfl,a2,j⟩);obtain⟨la,c5,rfl,a3⟩:=(A0.rd (by decide) Gq a2).opens Gq;have HC:=AB a3;have a4:=j.size;clear a3 a2 D;by_cases n:L.length=V.length
 case neg=>
  have N:=AB (f.o n);have a5:((L.length:Int)!=(V.length:Int))=true:=by rw[CZ];omega
  clear n E f T;go_wp2_with fail;go_ret2;exact⟨by rw[N.o];rfl,j⟩
 have F:=AB (E.o n);have a5:((L.length:Int)!=(V.length:Int))=false:=by rw[FV];omega
 have b5:wrap64 ((L.length:Int)-1)=(L.length:Int)-1:=by unfold wrap64;omega
 have o:=AB n;clear f E n;go_wp2_with fail;go_loopw[0,7] (fun x y wr=>∃(k:Nat)(i:Int)(t:Bs),x=.string ⟨t.toArray⟩∧y=.int .i64 i∧i+1=k∧k≤L.length∧Hid (t=Jn s ((L.zip V).drop k))∧t.length≤1000000000+(1000000-k)*6000002∧Below w1.heap.size w1 wr) (fun _ y _=>(intOf y+1).toNat)
 case atStart=>exact⟨L.length,_,s,rfl,rfl,by omega,by omega,AB (by rw[BK (by simp;omega)];rfl),by omega,AD _ _⟩
 obtain⟨k,i,t,rfl,rfl,b6,hk,r,c6,B⟩:=hrel;clear b5 a5;cases k with
 |zero=>
  obtain rfl:i=-1:=by omega
  have N:=AB (by rw[F.o,r.o];rfl:Gt s V=some t);clear F r T;go_wp2_with fail;go_ret2;exact⟨by rw[N.o];rfl,j.trans (B.mono a4)⟩
 |succ m=>
  obtain rfl:i=(m:Int):=by omega
  clear b6;have a6:m<L.length:=by omega
  have I:m<V.length:=by have:=o.o;omega
  obtain⟨g,rfl,J,u⟩:=HC.o m a6;obtain⟨G,rfl,a7,e2⟩:=b3.o m I;have M:=(B.cell (p:=⟨g,m*3,none⟩) J).trans (u 0 (by decide));have O:=(B.cell (p:=⟨g,m*3+1,none⟩) J).trans (u 1 (by decide));have P:=(B.cell (p:=⟨g,m*3+2,none⟩) J).trans (u 2 (by decide));have R:=(B.cell (p:=⟨G,m,none⟩) (CG a7 a4)).trans ((j.cell (p:=⟨G,m,none⟩) a7).trans (by have:=e2 0 (by decide);simpa using this));have z:=T.o m o.o a6 I;rw[←r.o]at z;have b7:=b4.o _ (AN I);clear u e2 r T F;generalize L[m]=x at M O P z;generalize V[m]=v at R b7 z;obtain⟨x1,X,b⟩:=x;obtain⟨h1,S,U⟩:=z;obtain⟨y,rfl⟩:∃y,x1=y+1:=⟨x1-1,by simp only at U;omega⟩;simp only at S U;have b8:y<t.length:=by omega
  have a8:=AB (by unfold Kv;rw[AK];simp[b8]:Kv t (y+1,X,b)=t[y]);have H:=AB (by rw[h1];unfold Nz;rw[←a8.o]:Jn s ((L.zip V).drop m)=t.take (y+1)++(J5 t[y] v++t.drop (y+1+X)));have l:=fG t[y] v;have c:=AB (by rfl:J5 t[y] v=if Eu t[y]then Ej v else 34::(Ej v++[34]));have hE:=fun W=>yB v W (by omega)
  have a9:=A1.new wr #[.int .i64 ((y:Int)+1),.int .i64 (X:Int),.string ⟨b.toArray⟩] 96;have A:=B.alloc B.size (.cells #[.int .i64 ((y:Int)+1),.int .i64 (X:Int),.string ⟨b.toArray⟩] 96);have k0:wr.cell? ⟨g,m*3,none⟩=some (.int .i64 (((y+1:Nat)):Int)):=M;have k1:wr.cell? ⟨g,m*3+1,none⟩=some (.int .i64 (X:Int)):=O;have k2:wr.cell? ⟨g,m*3+2,none⟩=some (.string ⟨b.toArray⟩):=P;have b0:wr.cell? ⟨G,m,none⟩=some (.string ⟨v.toArray⟩):=R;have Y:G<wr.heap.size:=by have:=B.size;omega
  have K:=(((AD wr.heap.size wr).alloc (AC _) (.cells #[.int .i64 ((y:Int)+1),.int .i64 (X:Int),.string ⟨b.toArray⟩] 96)).cell (p:=⟨G,m,none⟩) Y).trans b0;have KD:=AB K;have HR:=AB Y;clear h1 a8 U M O P R b0 K Y;go_upto_region 8 with fail;have K:=KD.o;clear k0 k1 k2 KD;generalize World.alloc _ _=W at a9 A K⊢;have kc:=a9.cell;go_upto_region 9 with(go_at_call 126;with_reducible refine(hE _).mono ?_;rintro e w3⟨rfl,hw⟩;obtain rfl:=hw.symm;clear hw);clear K hE;have d:=AB (show Eu t[y]=(!((t[y].toNat:Int)!=34)||!((t[y].toNat:Int)!=39))from by
   unfold Eu;rw[Ei,Ei];simp only[bne,Bool.not_not];rfl)
  have b9:(t[y].toNat:Int)<256:=by have:=t[y].toNat_lt;omega
  go_upto_region 10 with fail;generalize t[y]=q at d c b9 H l⊢;go_cut[44] (fun x wx=>x=.bool (!Eu q)∧wx=W)
  case first=>
   cases q1:((q.toNat:Int)!=34)with
   |false=>
    have Q:=AB q1;go_wp2_with fail;go_meet;exact⟨by rw[d.o,Q.o];rfl,rfl⟩
   |true=>
    have Q:=AB q1;cases q2:((q.toNat:Int)!=39)with
    |false=>
     have Q2:=AB q2;go_wp2_with fail;go_meet;exact⟨by rw[d.o,Q.o,Q2.o];rfl,rfl⟩
    |true=>
     have Q2:=AB q2;go_wp2_with fail;go_meet;exact⟨by rw[d.o,Q.o,Q2.o];rfl,rfl⟩
  case rest=>
  obtain⟨rfl,b1⟩:=hcut;obtain rfl:=b1.symm;clear b1 d;have b2:=Wy v;cases C:Eu q with
  |true=>
   rw[ED];have HZ:=AB (by rw[c.o,C];rfl:J5 q v=Ej v);rw[HZ.o]at H l;clear C c;generalize Ej v=Z at H l b2⊢;have c0:y+1+X≤t.length:=S;have c1:(y:Int)+1≤(t.length:Int):=by omega
   have c2:(y:Int)+1+(X:Int)≤(t.length:Int):=by omega
   go_upto_region 12 with fail;go_quiet(fail);have a:=CB (AD W.heap.size W) nq;generalize W.drewN nq=W2 at a⊢;have B5:=A.trans (a.mono A.size);clear a kc;go_wp2_with fail;go_roundw
   case rel=>exact⟨m,(m:Int)-1,_,rfl,by go_num,by omega,by omega,AB (by rw[H.o]),by have:=o.o;simp;omega,B5⟩
   simp[intOf]
  |false=>
   rw[EH];have HZ:=AB (by rw[c.o,C];rfl:J5 q v=34::(Ej v++[34]));rw[HZ.o]at H l;clear C c;generalize Ej v=Z at H l b2⊢;have c0:y+1+X≤t.length:=S;have c1:(y:Int)+1≤(t.length:Int):=by omega
   have c2:(y:Int)+1+(X:Int)≤(t.length:Int):=by omega
   go_upto_region 12 with fail;go_quiet(fail);have a:=CB (AD W.heap.size W) nq;generalize W.drewN nq=W2 at a⊢;have B5:=A.trans (a.mono A.size);clear a kc;go_wp2_with fail;go_roundw
   case rel=>exact⟨m,(m:Int)-1,_,rfl,by go_num,by omega,by omega,AB (by rw[H.o];simp),by have:=o.o;simp;omega,B5⟩
   simp[intOf]
end Go.Proofs.YtignjjnflcpiiaaGreatDoor
