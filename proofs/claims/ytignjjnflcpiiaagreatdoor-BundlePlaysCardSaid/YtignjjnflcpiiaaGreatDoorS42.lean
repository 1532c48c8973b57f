/- What stands between boundary lines, by the document's ans -/
import Derived.Test.YtignjjnflcpiiaaGreatDoorS37
import Derived.Test.YtignjjnflcpiiaaGreatDoorS38
set_option linter.all false
set_option maxHeartbeats 16000000
set_option maxRecDepth 100000
namespace Go.Proofs.YtignjjnflcpiiaaGreatDoor
open Go Go.RowKit Proofs.Tryz Lib
def I7(x b:Bs):Bs:=if hasPrefix x (45::45::b)then trimS (x.drop (2+b.length)) [32,9]else[110,111,110,101]
theorem Xy(x b:Bs):(match Hx x b with|none=>I7 x b=[110,111,110,101]|some t=>I7 x b=t):=by
 unfold Hx I7;cases h:hasPrefix x (45::45::b)with
 |false=>simp
 |true=>
  simp only[DC];have:trimPrefix x (45::45::b)=x.drop (2+b.length):=by
   unfold trimPrefix;rw[h,AM rfl];congr 1;simp only[AO];omega
  rw[this]
variable {acc out xs:List Bs}{begun:Bool}{b x:Bs}{B e size:Nat}
theorem WQ(h:I7 x b≠[]∧I7 x b≠[45,45]):I2 b (x::xs) begun acc out=I2 b xs begun (acc++[x]) out:=by
 have H:=Xy x b;conv=>lhs;unfold I2
 cases o:Hx x b with
 |none=>rfl
 |some t=>
  rw[o]at H;simp only at H⊢;rw[H]at h;rw[AI h.2,AI h.1]
theorem WR(h:I7 x b=[45,45]):I2 b (x::xs) begun acc out=some (if begun then out++[join acc [13,10]]else out):=by
 have H:=Xy x b;conv=>lhs;unfold I2
 cases o:Hx x b with
 |none=>rw[o]at H;simp only at H;rw[H]at h;simp at h
 |some t=>
  rw[o]at H;simp only at H⊢;rw[H]at h;rw[AM h]
theorem WS(h:I7 x b=[]):I2 b (x::xs) begun acc out=I2 b xs true [] (if begun then out++[join acc [13,10]]else out):=by
 have H:=Xy x b;conv=>lhs;unfold I2
 cases o:Hx x b with
 |none=>rw[o]at H;simp only at H;rw[H]at h;simp at h
 |some t=>
  rw[o]at H;simp only at H⊢;rw[H]at h;subst h;rfl
def WT(B n:Nat)(r:Option (List Bs))(e:Ending)(w':World):Prop:=(∃o v,r=some o∧o.length≤n+2∧(∀x∈o,x.length≤n)∧e=.returned (.tuple #[v,.bool true])∧E9 w' B v o)∨(r=none∧e=.returned (.tuple #[.slice none 0 0,.bool false]))
theorem WU(x:Bs)(l:List Bs):Da (x::l)=x++[13,10]++Da l:=by simp[Da]
theorem iZ:∀(n:Nat)(x:Bs),x.length≤n→Da (split x [13,10])=x++[13,10]
 |n,x,h=>by
  rw[bU];cases H:Ab [13,10] x with
  |none=>simp[Da]
  |some y=>
   obtain⟨a,r⟩:=y;have e:=Ee H;have b:r.length<x.length:=by rw[e];simp;omega
   match n,h with
   |0,h=>omega
   |n+1,h=>
    have ih:=iZ n r (by omega);show Da (a::split r [13,10])=_;have E:Da (a::split r [13,10])=a++[13,10]++Da (split r [13,10]):=by simp[Da]
    rw[E,ih,e];simp
theorem jA(l:List Bs):∀x∈l,x.length+2≤(Da l).length:=by
 induction l with
 |nil=>intro x h;cases h
 |cons y l ih=>
  intro x h;have e:Da (y::l)=y++[13,10]++Da l:=by simp[Da]
  rw[e];rcases CF.1 h with rfl|h
  ·simp<;>omega
  have:=ih x h;simp<;>omega
theorem jB(B:Nat)(v:Value)(l:List Bs)(p:Bs)(w:World)(h:E9 w B v l)(q:l.length≤1000000000)(i:(join l p).length≤140737488355328):Calls prog 155 #[v,.string ⟨p.toArray⟩] w fun e W=>e=.returned (.string ⟨(join l p).toArray⟩)∧Below w.heap.size w W:=by
 obtain⟨a,C,c,k⟩:=A0.rd (by decide) Cw h;cases l with
 |nil=>
  subst c;refine(Uy a C p w).mono ?_;rintro e W⟨rfl,rfl⟩;exact⟨rfl,AD _ _⟩
 |cons x l=>
  obtain⟨b,m,t,n⟩:=k (by simp);subst m;rcases h.2 with⟨H,_⟩|⟨g,r,s,H,_,_,u,_⟩
  ·rw[c]at H;cases H
  rw[c]at H;injection H with z A E;subst E;subst c;refine Ux b 0 C (x::l) p w (fun j y f=>?_) t (by omega) (by omega) i;rw[EX];have o:=(CM.1 f).1;have:=n j (by omega);rw[this];have d:=Kg (cs:=Bi) Cw (x::l) j o 0 (by decide);rw[IJ,BI]at d;obtain⟨_,e⟩:=CM.1 f;first|(rw[d];done)|(rw[d,←e];rfl)
theorem A0.other{α:Type}{cs:α→List Value}{w w':World}{v:Value}{r:Option Nat}{xs:List α}(h:A0 e size cs w B v xs)(a:w.grownBy w' r)(b:∀g,v.ownBlock=some g→r≠some g):A0 e size cs w' B v xs:=A0.Ll h fun g H=>a.block g (A0.Do h g H) (fun e=>b g H e.symm)
theorem WV(s b:Bs)(w:World)(hs:s.length≤1000000)(hb:b.length≤1000000)(A:Cb w):Calls prog 207 #[.string ⟨s.toArray⟩,.string ⟨b.toArray⟩] w fun e w'=>WT w.heap.size s.length (Dm s b) e w'∧Below w.heap.size w w':=by
 have V:=Uz s [13,10] w (by omega) (by decide) A;have a7:(split s [13,10]).length≤s.length+1:=by rw[Q8 _ _ (by decide)];have:=S6 s [13,10] (by decide);omega
 have Y:=AB (tD s b);have F:=AB (by rw[DP,iZ _ s (AC _)];simp[Da]:(Da []).length+(Da ((split s [13,10]).drop 0)).length≤s.length+2);generalize split s [13,10]=L at V a7 Y F;go_enter func207,ntmps207;go_wp2_with fail;with_reducible refine V.mono ?_
 rintro e w1⟨rfl,rfl⟩;clear V;have Z:=A1.new w (Fk L) 9;have B1:=(AD w.heap.size w).alloc (AC _) (.cells (Fk L) 9);generalize w.alloc (.cells (Fk L) 9)=w1 at Z B1⊢;go_wp2_with fail;go_loopw[6,7,8,15] (fun ov lv bv iv wr=>∃(k:Nat)(acc out:List Bs)(begun:Bool),bv=.bool begun∧iv=.int .i64 k∧k≤L.length∧E9 wr (w.heap.size+1) ov out∧E9 wr (w.heap.size+1) lv acc∧Hid (∀g,lv.ownBlock=some g→ov.ownBlock≠some g)∧out.length≤k∧acc.length≤k∧Hid ((Da acc).length+(Da (L.drop k)).length≤s.length+2)∧Hid (∀x∈out,x.length≤s.length)∧A1 wr w.heap.size (Fk L) 9∧Hid (I2 b (L.drop k) begun acc out=Dm s b)∧Below w.heap.size w wr) (fun _ _ _ iv _=>L.length-(intOf iv).toNat)
 case atStart=>exact⟨0,[],[],false,rfl,rfl,by omega,A0.nil _ _ _ _ _,A0.nil _ _ _ _ _,AB (fun g h=>by cases h),by simp,by simp,F,AB (fun x hx=>by cases hx),Z,AB (by rw[DP];exact Y.o),B1⟩
 clear Z B1 Y F;obtain⟨k,acc,out,begun,rfl,rfl,hk,n,i,E,b2,b3,F,X,H,C,B⟩:=hrel;by_cases a2:k<L.length
 ·have hc:wr.cell? ⟨w.heap.size,k,none⟩=some (.string ⟨(L[k]).toArray⟩):=by rw[H.cell];simp[Fk,a2]
  have l:=AE a2;have a8:L[k].length≤s.length:=by
   have h:=F.o;have:=jA (L.drop k) L[k] (by rw[l];exact CD ..);omega
  have D:=AB (show(Da (acc++[L[k]])).length+(Da (L.drop (k+1))).length≤s.length+2 from by
   have h:=F.o;rw[l]at h;rw[WU]at h;rw[Wc];simp only[AH,AO,BN]at h⊢;omega)
  have S:=AB (show(Da []).length+(Da (L.drop (k+1))).length≤s.length+2 from by
   have h:=D.o;simp only[Da,List.flatMap_nil,BN]at h⊢;omega)
  have J:=AB (show(join acc [13,10]).length≤s.length from by
   by_cases h:acc=[]
   ·subst h;simp[join_nil]
   have h1:=AF List.length (bW h);have h2:=F.o;have h3:2≤(Da (L.drop k)).length:=by
    have:=jA (L.drop k) L[k] (by rw[l];exact CD ..);omega
   simp at h1;omega)
  have q:=AB (fun(h:I7 L[k] b≠[]∧I7 L[k] b≠[45,45])=>(WQ (b:=b) (x:=L[k]) (xs:=L.drop (k+1)) (begun:=begun) (acc:=acc) (out:=out) h).symm.trans (l▸C.o));have r:=AB (fun(h:I7 L[k] b=[45,45])=>(WR (b:=b) (x:=L[k]) (xs:=L.drop (k+1)) (begun:=begun) (acc:=acc) (out:=out) h).symm.trans (l▸C.o));have u:=AB (fun(h:I7 L[k] b=[])=>(WS (b:=b) (x:=L[k]) (xs:=L.drop (k+1)) (begun:=begun) (acc:=acc) (out:=out) h).symm.trans (l▸C.o));clear C F l;generalize L[k]=x at hc a8 D q r u;have R:=AB (by rfl:I7 x b=if hasPrefix x (45::45::b)then trimS (x.drop (2+b.length)) [32,9]else[110,111,110,101]);have P:=fun W=>Jc x (45::45::b) W
  generalize G:hasPrefix x (45::45::b)=p at P R;have T:=AB G;clear G;go_upto_if 22 with(with_reducible refine(P _).mono ?_;rintro e w2⟨rfl,rfl⟩);go_cut[11] (fun t wx=>t=.string ⟨(I7 x b).toArray⟩∧wx=wr)
  case first=>
   cases p with
   |true=>
    have b4:2+b.length≤x.length:=by
     have G:=T.o;have:=(BR.1 (by unfold hasPrefix at G;exact G)).length_le;simp at this;omega
    have a0:=AB (by rw[R.o];rfl:I7 x b=trimS (x.drop (2+b.length)) [32,9]);clear R P T;have hT:=fun W=>Sy (x.drop (2+b.length)) W (by simp;omega)
    have z1:wrap64 (2+(b.length:Int))=2+(b.length:Int):=by unfold wrap64;omega
    have z2:(2+(b.length:Int)).toNat=2+b.length:=by omega
    go_wp2_with fail;with_reducible refine(hT _).mono ?_
    rintro e U⟨rfl,rfl⟩;go_wp2_with fail;go_meet;exact⟨by rw[a0.o],rfl⟩
   |false=>
    have a0:=AB (by rw[R.o];rfl:I7 x b=[110,111,110,101]);clear R P T;go_wp2_with fail;go_meet;exact⟨by rw[a0.o],rfl⟩
  case rest=>
  obtain⟨rfl,a3⟩:=hcut;obtain rfl:=a3.symm;clear a3 R P T;generalize I7 x b=m at q r u;by_cases o:m=[]
  ·have N:=AB (u.o o);have e0:m.isEmpty=true:=by rw[o];rfl
   subst o;clear q r u D;cases begun with
   |true=>
    have I:=fun W(h:E9 W (w.heap.size+1) u7 acc)=>jB (w.heap.size+1) u7 acc [13,10] W h (by omega) (by have:=J.o;omega)
    go_wp2_with fail;with_reducible refine(I _ i).mono ?_
    rintro e U⟨rfl,c⟩;have n:=A0.next n c;have H:=H.next c H.lt;have v:=B.trans (c.mono B.size);have K:=J.o;generalize join acc [13,10]=j at N K;have a1:=AB (show∀y∈out++[j],y.length≤s.length from fun y a=>by
     rcases BP.1 a with a|a
     ·exact X.o y a
     simp at a;subst a;exact K)
    clear i E J I c;go_wp2_with(at_builtin;refine L0 rfl _ _ rfl (w.heap.size+1) _ out j U.heap.size 1 rfl (A0.alloc n _) rfl (Kz _ _ _) (by omega) (by have:=v.size;have:=H.lt;simp;omega) ?_;intro v' w4 M d f z);have H:=(H.alloc (.cells #[.string ⟨j.toArray⟩] 9)).grown d (fun g A=>by have:=A0.Fp n g A;omega);have O:=(v.alloc v.size (.cells #[.string ⟨j.toArray⟩] 9)).trans (f.mono (by omega));clear d f z;go_wp2_with fail;go_roundw
    case rel=>exact⟨k+1,[],out++[j],true,rfl,by go_num,by omega,M,A0.nil _ _ _ _ _,AB (fun g h=>by cases h),by simp;omega,by simp,S,a1,H,N,O⟩
    simp[intOf];omega
   |false=>
    go_wp2_with fail;go_roundw
    case rel=>exact⟨k+1,[],out,true,rfl,by go_num,by omega,n,A0.nil _ _ _ _ _,AB (fun g h=>by cases h),by omega,by simp,S,X,H,N,B⟩
    simp[intOf];omega
  by_cases Q:m=[45,45]
  ·have N:=AB (r.o Q);subst Q;clear q r u D S o;cases begun with
   |true=>
    have a4:=AB (show Dm s b=some (out++[join acc [13,10]])from N.o.symm);clear N;have I:=fun W(h:E9 W (w.heap.size+1) u7 acc)=>jB (w.heap.size+1) u7 acc [13,10] W h (by omega) (by have:=J.o;omega)
    go_wp2_with fail;with_reducible refine(I _ i).mono ?_
    rintro e U⟨rfl,c⟩;have n:=A0.next n c;have v:=B.trans (c.mono B.size);have K:=J.o;generalize join acc [13,10]=j at a4 K;have a1:=AB (show∀y∈out++[j],y.length≤s.length from fun y a=>by
     rcases BP.1 a with a|a
     ·exact X.o y a
     simp at a;subst a;exact K)
    have a9:=(H.next c H.lt).lt;clear i E J I c;go_wp2_with(at_builtin;refine L0 rfl _ _ rfl (w.heap.size+1) _ out j U.heap.size 1 rfl (A0.alloc n _) rfl (Kz _ _ _) (by omega) (by simp;omega) ?_;intro v' w4 M d f z);have O:=(v.alloc v.size (.cells #[.string ⟨j.toArray⟩] 9)).trans (f.mono (by omega));clear d f z;go_wp2_with fail;go_ret2;exact⟨Or.inl ⟨_,_,a4.o,by simp;omega,a1.o,rfl,M.mono (by omega)⟩,O⟩
   |false=>
    have N:=AB (show Dm s b=some out from N.o.symm);go_wp2_with fail;go_ret2;exact⟨Or.inl ⟨_,_,N.o,by omega,X.o,rfl,n.mono (by omega)⟩,B⟩
  have N:=AB (q.o ⟨o,Q⟩);have e0:m.isEmpty=false:=by rw[AP];simpa using o
  have b5:(m==[45,45])=false:=by rw[AG];exact Q
  have a9:=H.lt;clear q r u S o Q J;go_wp2_with(at_builtin;refine L0 rfl _ _ rfl (w.heap.size+1) _ acc x wr.heap.size 1 rfl (A0.alloc i _) rfl (Kz _ _ _) (by omega) (by simp;omega) ?_;intro v' w4 M d f z);have H:=(H.alloc (.cells #[.string ⟨x.toArray⟩] 9)).grown d (fun g A=>by have:=A0.Fp i g A;omega);have O:=(B.alloc B.size (.cells #[.string ⟨x.toArray⟩] 9)).trans (f.mono (by omega));have a5:=A0.alloc n (.cells #[.string ⟨x.toArray⟩] 9);have b0:=A0.other a5 d (fun g h e=>E.o g e h);have a6:=fun g h=>A0.Do n g h
  have b1:=AB (show∀g,v'.ownBlock=some g→_≠some g from fun g h e=>by
   rcases z with ho|ho
   ·exact E.o g (ho▸h) e
   rw[ho]at h;injection h with h;have:=a6 g e;simp at h;omega)
  clear d f z E a6 a5 n i;go_wp2_with fail;go_roundw
  case rel=>exact⟨k+1,acc++[x],out,begun,rfl,by go_num,by omega,b0,M,b1,by omega,by simp;omega,D,X,H,N,O⟩
  simp[intOf];omega
 obtain rfl:k=L.length:=by omega
 have N:=AB (by rw[←C.o,AQ];rfl:Dm s b=none);go_wp2_with fail;go_ret2;exact⟨Or.inr ⟨N.o,rfl⟩,B⟩
theorem Xz(i k:Int)(c:Nat)(w:World)(a:-9223372036854775808≤i)(b:i≤9223372036854775807)(d:-9223372036854775808≤k)(e:k≤9223372036854775807)(f:w.cell? ⟨c,0,none⟩=some (.int .i64 k))(g:Gz w):Calls prog 72 #[.int .i64 i,.pointer (some ⟨c,0,none⟩)] w fun r q=>r=.returned (.string ⟨(Ce (64::98::itoa k) i).toArray⟩)∧Below w.heap.size w q:=by
 have j:c<w.heap.size:=AY w _ f;have l:=fun W h=>Mz i a b W h
 have s:=CJ i a b;have m:=fun W h=>Mz k d e W h
 have t:=CJ k d e;have H:=AB (by rfl:Ce (64::98::itoa k) i=112::97::114::116::(itoa i++64::98::itoa k));generalize u:itoa i=I at l s H;generalize v:itoa k=x at m t H;have y:=g.next ((AD w.heap.size w).drew);have G:=AB g;have z:=AB (show c<w.drew.heap.size from j);have A:=AB j;have Z:¬9223372036854775807<4+I.length:=by omega
 have E:¬9223372036854775807<I.length+1+1+1+1+2:=by omega
 have F:¬9223372036854775807<I.length+1+1+1+1+2+x.length:=by omega
 have B:w.drew.cell? ⟨c,0,none⟩=some (.int .i64 k):=f;clear u v;go_enter func72,ntmps72;go_upto_region 1 with fail;go_region_law((first
  |(go_simp;with_reducible refine(m _ (G.o.next K.o)).mono ?_;rintro r J⟨rfl,n⟩;have C:=AB (C4 n (w0:=w) K.o);have L:=(n.cell (p:=⟨c,0,none⟩) (CG A.o K.o.size)).trans D)
  |(go_simp;with_reducible refine(l _ y).mono ?_;rintro r M⟨rfl,o⟩;have K:=AB (C4 o (w0:=w) ((AD w.heap.size w).drew));have D:=(o.cell (p:=⟨c,0,none⟩) z.o).trans B)))
 all_goals
  go_wp2_with fail;go_ret;exact⟨Gx (by rw[H.o]),C.o⟩
theorem WW(P:Nat→Prop)(bp M:Nat)(b:Aw)(s:Bs)(w:World)(h:F5 P w bp b)(a0:Fe 4 b.whole)(a5:b.whole.parts≠[])(hc:w.cell? ⟨M,0,none⟩=some (.pointer (some ⟨bp,0,none⟩)))(hg:Gr w):Calls prog 71 #[.string ⟨s.toArray⟩,.pointer (some ⟨M,0,none⟩)] w fun e w'=>e=.returned (.bool ((b.whole::b.whole.parts).any (Gu s)))∧Below w.heap.size w w':=by
 have hb:=F5.Ad (Q:=fun _=>True) (fun _ _ _=>trivial) h;obtain⟨E,sa,si,_,t,hr,_,_⟩:=hb;have a6:=AB (Xl a0);generalize b.whole=p at hr a6 a0 a5⊢;obtain⟨r,b3,a1,b4⟩:=hr.parts;have d3:=a0.head.2.2;have Z:=AB (show∀k(h1:k<(E::r).length)(h2:k<(p::p.parts).length),A7 (fun _=>True) 4 w (E::r)[k] (p::p.parts)[k]from fun k h1 h2=>by
  cases k with
  |zero=>exact hr
  |succ k=>exact(b4 k (by simp at h1;omega) (by simp at h2;omega)).up)
 have hL:(E::r).length=(p::p.parts).length:=by simp[a1]
 have g0:r.length≤20002:=by omega
 have b5:=AB (by rw[a1];exact BE.2 a5:0<r.length);have O:(p::p.parts).length=r.length+1:=by simp[a1]
 generalize p::p.parts=L at a6 Z hL O⊢;unfold Gi at t;have b6:=t.cell;clear h hr b4 a0 a1 d3 a5;obtain⟨⟨a,n,c⟩,l,m,⟨g1,g2,R⟩⟩:=E;simp only[A9]at b3 t b6;have d4:M<w.heap.size:=AY w _ hc;go_enter func71,ntmps71;obtain⟨g3,g4,d5,b7⟩:=b3;injection d5 with e1 e2 e3;subst e1 e2 e3;obtain⟨g,rfl,_,d6,b8⟩:=b7 b5.o;have A:=((AD w.heap.size w).alloc (AC _) (.cells #[.slice a n c,.string ⟨l.toArray⟩,.bool m,.slice (some ⟨g,0,none⟩) r.length R] 44)).drew;have d7:=AB (A0.next (iH w a (some ⟨g,0,none⟩) n c r.length R l m) ((AD _ _).drew));have v:=AB (show∀j u,(r.flatMap D5)[j]?=some u→(w.alloc (.cells #[.slice a n c,.string ⟨l.toArray⟩,.bool m,.slice (some ⟨g,0,none⟩) r.length R] 44)).drew.cell? ((⟨g,0,none⟩:Go.Addr).add j)=some u from fun j u hj=>by
  have F:=(CM.1 hj).1;rw[Ix Db]at F;rw[Dz];exact(A.cell (p:=⟨g,j,none⟩) d6).trans ((b8 j F).trans hj))
 have q1:=AB (by simp;omega:([((a,n,c),l,m,((some ⟨g,0,none⟩:Option Go.Addr),r.length,R))].length+r.length)*72≤140737488355328);have q2:=AB (by unfold maxLen;simp;omega:[((a,n,c),l,m,((some ⟨g,0,none⟩:Option Go.Addr),r.length,R))].length+r.length≤maxLen);have d8:=AB A.size;have d9:=AB A;have e0:=(A1.drew t).cell;have e4:w.drew.cell? ⟨M,0,none⟩=some (.pointer (some ⟨bp,0,none⟩)):=hc;have e5:=(t.next A t.lt).cell;have e6:=(A.cell (p:=⟨M,0,none⟩) d4).trans hc;have e7:=AB hg;have e8:=AB Z;clear A b8 b7 Z hg;go_upto_region 1 with fail;go_cut[18,19,20] (fun x y z wx=>∃(V:Option Go.Addr)(S:Nat),x=.slice V L.length S∧y=.int .i64 L.length∧z=.int .i64 0∧Aq 4 D5 (fun _=>True) wx (.slice V L.length S) (((a,n,c),l,m,((some ⟨g,0,none⟩:Option Go.Addr),r.length,R))::r)∧Below w.heap.size w wx)
 case first=>
  go_region_law((refine Ns (α:=Ao) (cs:=D5) (size:=4) (z:=.agg #[.slice none 0 0,.string ByteArray.empty,.bool false,.slice none 0 0]) Db Wp Wq rfl (by decide) underlying33 rfl _ _ rfl w.heap.size _ [((a,n,c),l,m,((some ⟨g,0,none⟩:Option Go.Addr),r.length,R))] r ⟨g,0,none⟩ r.length R rfl b5.o rfl d7.o rfl v.o q1.o q2.o d8.o ?_;intro v' a7 a8 g5 e9;obtain⟨V,S,a9,_⟩:=A0.rd (by decide) Db a8;rw[IE]at a9 a8;rw[AO]at a9;subst a9));all_goals
   go_wp2_with fail;go_meet;exact⟨V,S,by rw[O],by rw[O];first|rfl|simp,rfl,by rw[O];exact(A0.Dn (by decide) Db a8).Ad (fun _ _ _=>trivial),d9.o.trans e9⟩
 case rest=>
 obtain⟨V,S,rfl,rfl,rfl,f0,G⟩:=hcut;obtain⟨a7,rfl⟩:∃x:World,x=wc:=⟨_,rfl⟩;have f3:=e7.o.next G;have Z:=AB (fun k h1 h2=>(e8.o k h1 h2).next G);have HL:=AB hL;have g6:L.length≤1000000:=by omega
 clear hL O;have b0:=G.size;clear e5 e6 e0 e4 b6 t hc;go_wp2_with fail;go_loopw[20] (fun i wr=>∃k:Nat,i=.int .i64 k∧k≤L.length∧Hid (L.any (Gu s)=(L.drop k).any (Gu s))∧Below a7.heap.size a7 wr) (fun i _=>L.length-(intOf i).toNat)
 case atStart=>exact⟨0,rfl,by omega,AB (by simp),AD _ _⟩
 obtain⟨k,rfl,hk,o,B⟩:=hrel;by_cases F:k<L.length
 ·have a2:k<(((a,n,c),l,m,((some ⟨g,0,none⟩:Option Go.Addr),r.length,R))::r).length:=by have:=HL.o;simp only[AO]at this⊢;omega
  obtain⟨pb,rfl,_,a3,v⟩:=f0.at Db k a2;have T:=(Z.o k a2 F).next B;have U:=a6.o _ (AN F);have H:=AB (by rw[AE F];rfl:(L.drop k).any (Gu s)=((contains (L[k]).body s||(L[k]).head.any fun f=>contains f.2 s)||(L.drop (k+1)).any (Gu s)));have c0:=(B.cell (p:=⟨pb,k*4+0,none⟩) a3).trans (v 0 (by decide));have c1:=(B.cell (p:=⟨pb,k*4+1,none⟩) a3).trans (v 1 (by decide));have c2:=(B.cell (p:=⟨pb,k*4+2,none⟩) a3).trans (v 2 (by decide));have c3:=(B.cell (p:=⟨pb,k*4+3,none⟩) a3).trans (v 3 (by decide));clear v;generalize L[k]=q at T U H;generalize(((a,n,c),l,m,((some ⟨g,0,none⟩:Option Go.Addr),r.length,R))::r)[k]'a2=E at T c0 c1 c2 c3;have b9:=T.body;have C:=T.hd.rd;obtain⟨⟨qa,qn,qc⟩,qb,qm,⟨c4,c5,c6⟩⟩:=E;simp only at b9;subst b9;simp only[D5,A9,BI,AR,AT]at c0 c1 c2 c3 C;clear T a2;have f4:=U.2;have c7:=AB U.1.2;have f5:=U.1.1;generalize q.body=a4 at H c1 f4;generalize q.head=d at H C c7 f5;have kt:=A1.new wr #[.slice qa qn qc,.string ⟨a4.toArray⟩,.bool qm,.slice c4 c5 c6] 44;have A:=(AD wr.heap.size wr).alloc (AC _) (.cells #[.slice qa qn qc,.string ⟨a4.toArray⟩,.bool qm,.slice c4 c5 c6] 44);have I:=B.trans (A.mono B.size);have b1:=f3.next I;have C:=C.next A;have D:=fun W hW=>Nm a4 s W (by omega) hW
  have f6:=kt.cell;generalize contains a4 s=q1 at D H;clear A U;go_wp2_with fail;generalize World.alloc _ _=w2 at kt I b1 C f6⊢;with_reducible refine(D _ b1.g).mono ?_
  rintro e w3⟨rfl,X⟩;obtain rfl:=X.symm;clear X D;cases q1 with
  |true=>
   have N:=AB (by rw[o.o,H.o];rfl:L.any (Gu s)=true);clear H o;go_wp2_with fail;go_ret;exact⟨Ba N.o.symm,G.trans (I.mono b0)⟩
  |false=>
   obtain⟨g7,g8,f7,c8⟩:=C7.open C;injection f7 with e1 e2 e3;subst e1 e2 e3;have f8:=AB c8;have c9:=I.size;obtain⟨wo,rfl⟩:∃x:World,x=wr:=⟨_,rfl⟩;clear c8 C c0 c1 c2 c3;go_wp2_with fail;go_loopw[31] (fun i wr=>∃j:Nat,i=.int .i64 j∧j≤d.length∧Hid ((d.any fun f=>contains f.2 s)=(d.drop j).any fun f=>contains f.2 s)∧Below w3.heap.size w3 wr) (fun i _=>d.length-(intOf i).toNat)
   case atStart=>exact⟨0,rfl,by omega,AB (by simp),AD _ _⟩
   obtain⟨j,rfl,hj,K,Y⟩:=hrel;by_cases b2:j<d.length
   ·obtain⟨fb,rfl,d0,f1,f2⟩:=f8.o j b2;have f1:=(Y.cell (p:=⟨fb,j*2,none⟩) d0).trans f1;have f2:=(Y.cell (p:=⟨fb,j*2+1,none⟩) d0).trans f2;have d1:=(c7.o _ (AN b2)).2;have J:=AB (by rw[AE b2];rfl:((d.drop j).any fun f=>contains f.2 s)=(contains (d[j]).2 s||(d.drop (j+1)).any fun f=>contains f.2 s));generalize d[j]=f at f1 f2 d1 J;obtain⟨x,y⟩:=f;simp only at f1 f2 d1 J;have kf:=A1.new wr #[.string ⟨x.toArray⟩,.string ⟨y.toArray⟩] 92;have B4:=Y.alloc Y.size (.cells #[.string ⟨x.toArray⟩,.string ⟨y.toArray⟩] 92);have d2:=b1.next B4;have D:=fun W hW=>Nm y s W (by omega) hW
    have f9:=kf.cell;generalize contains y s=q2 at D J;go_wp2_with fail;generalize World.alloc _ _=w4 at kf B4 d2 f9⊢;with_reducible refine(D _ d2.g).mono ?_
    rintro e w5⟨rfl,X⟩;obtain rfl:=X.symm;clear X D;cases q2 with
    |true=>
     have N:=AB (by rw[o.o,H.o,K.o,J.o];rfl:L.any (Gu s)=true);clear H o K J;go_wp2_with fail;go_ret;exact⟨Ba N.o.symm,G.trans ((I.trans (B4.mono c9)).mono b0)⟩
    |false=>
     have N:=AB (K.o.trans J.o);clear K J;go_wp2_with fail;go_roundw
     case rel=>exact⟨j+1,by go_num,by omega,N,B4⟩
     simp[intOf];omega
   obtain rfl:j=d.length:=by omega
   have N:=AB (show L.any (Gu s)=(L.drop (k+1)).any (Gu s)from by
    rw[o.o,H.o,K.o,AQ];rfl)
   clear K H o;go_wp2_with fail;go_roundw
   case rel=>exact⟨k+1,by go_num,by omega,N,I.trans (Y.mono c9)⟩
   simp[intOf];omega
 obtain rfl:k=L.length:=by omega
 have N:=AB (by rw[o.o,AQ];rfl:L.any (Gu s)=false);clear o;go_wp2_with fail;go_ret;exact⟨Ba N.o.symm,G.trans (B.mono b0)⟩
end Go.Proofs.YtignjjnflcpiiaaGreatDoor
