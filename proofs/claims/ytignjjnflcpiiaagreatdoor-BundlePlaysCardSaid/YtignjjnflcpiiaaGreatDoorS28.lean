/- A head read, by the document's answer: as the program rea -/
import Derived.Test.YtignjjnflcpiiaaGreatDoorS22
import Derived.Test.YtignjjnflcpiiaaGreatDoorS23
set_option linter.all false
set_option maxHeartbeats 4000000
set_option maxRecDepth 100000
namespace Go.Proofs.YtignjjnflcpiiaaGreatDoor
open Go Go.RowKit Proofs.Tryz Lib
abbrev X0(w:World)(b:Nat):Prop:=A1 w b #[.int .i64 0,.int .i64 0] 113
theorem fK(s p:Bs):(index s p=-1∧cut s p=(s,[],false))∨∃a b,index s p=(a.length:Int)∧cut s p=(a,b,true)∧s.take a.length=a∧s.drop (a.length+p.length)=b∧a.length+p.length+b.length=s.length:=by
 rw[He,Fx];cases h:Ab p s with
 |none=>exact Or.inl ⟨rfl,rfl⟩
 |some x=>
  obtain⟨a,b⟩:=x;have e:=Ee h;refine Or.inr ⟨a,b,rfl,rfl,?_,?_,?_⟩
  ·rw[e,AJ,List.take_left]
  ·rw[e,JJ (by simp),BK (by simp),DK]
  rw[e];simp;omega
theorem RM(out:List A4)(x:UInt8)(l:Bs):J8 out (x::l)=if Hk x&&!out.isEmpty then(match out.getLast? with
  |none=>none
  |some f=>some (out.dropLast++[(f.1,f.2++x::l)]))
 else match Ab [58] (x::l)with
  |none=>none
  |some (a,b)=>if Eg a then some (out++[(a,b)])else none:=by
 have g:Ob (x::l)=Hk x:=rfl;unfold J8;rw[g];cases h:Hk x with
 |false=>rfl
 |true=>
  cases out with
  |cons f out=>rfl
  |nil=>
   simp only[FB,List.isEmpty_nil,ED,BU,DJ,DC,List.getLast?_nil];cases d:Ab [58] (x::l)with
   |none=>rfl
   |some y=>
    obtain⟨a,b⟩:=y;have e:=Ee d;have H:Iv x=false∧x≠58:=by
     unfold Hk at h;simp at h;rcases h with rfl|rfl<;>decide
    cases a with
    |nil=>simp at e;exact absurd e.1 H.2
    |cons c a=>
     simp at e;obtain⟨rfl,_⟩:=e;have:Eg (x::a)=false:=by simp[Eg,H.1]
     simp[this]
def RN(B:Nat)(r:Option (List A4×Bs))(e:Ending)(w':World):Prop:=(∃o rest v,r=some (o,rest)∧o.length≤1000000000∧Qg 0 o∧rest.length≤1000000000∧e=.returned (.tuple #[v,.string ⟨rest.toArray⟩,.agg #[.int .i64 0,.int .i64 (-1)]])∧Bk w' B v o)∨(r=none∧∃n:Int,e=.returned (.tuple #[.slice none 0 0,.string ⟨#[]⟩,.agg #[.int .i64 3,.int .i64 n]]))
theorem RO(s:Bs)(w:World)(hl:s.length≤1000000000)(X:Cb w):Calls prog 204 #[.string ⟨s.toArray⟩] w fun e w'=>RN w.heap.size (Dj s) e w'∧Below w.heap.size w w':=by
 have K:=A1.new w #[.int .i64 0,.int .i64 0] 113;have B:=(AD w.heap.size w).alloc (AC _) (.cells #[.int .i64 0,.int .i64 0] 113);have b1:=fun W=>P4 0 W
 go_enter func204,ntmps204;go_wp2_with fail;generalize w.alloc (.cells #[.int .i64 0,.int .i64 0] 113)=w1 at K B⊢;go_loopw[0,5,6] (fun t o i wr=>∃(rest:Bs)(out:List A4)(n F:Nat),t=.string ⟨rest.toArray⟩∧i=.int .i64 n∧n+rest.length≤1000000000∧out.length≤n∧Bk wr (w.heap.size+1) o out∧rest.length<F∧Hid (Gb F out rest=Dj s)∧Qg rest.length out∧X0 wr w.heap.size∧Below w.heap.size w wr) (fun t _ _ _=>I9 t)
 case atStart=>exact⟨s,[],0,s.length+1,rfl,rfl,by omega,by simp,A0.nil _ _ _ _ _,by omega,AB rfl,fun f Y=>by simp at Y,K,B⟩
 clear K B;obtain⟨rest,out,n,F,rfl,rfl,d5,c2,d,d6,Z,b2,K,B⟩:=hrel;have J:=AB b2;clear b2;obtain⟨F,rfl⟩:∃m,F=m+1:=⟨F-1,by omega⟩;by_cases P:rest=[]
 ·subst P;have N:=AB (by rw[←Z.o];rfl:Dj s=some (out,[]));clear Z;go_wp2_with fail;with_reducible refine(b1 _).mono ?_
  rintro e C⟨rfl,p⟩;have K:=K.next p K.lt;have d:=A0.next d p;have B:=B.trans (p.mono B.size);have kc:=K.cell;have b3:=K.free;clear p;go_wp2_with fail;refine AL (v:=.tuple #[u5,.string ⟨#[]⟩,.agg #[.int .i64 0,.int .i64 (-1)]]) (by simp[results,results204,go_sem,kc]) rfl ⟨Or.inl ⟨out,[],_,N.o,by omega,J.o,by simp,rfl,((d.A6 (DT _) _).A6 (DT _) _).mono (by omega)⟩,(B.setCell (AC _) _).setCell (AC _) _⟩
 have a4:=Qf P [13,10] (by decide);have hu:=Vb (k:=F) (out:=out) P;rw[Z.o]at hu;have U:=AB hu;clear hu Z;have d7:rest.isEmpty=false:=by rw[AP];simpa using P
 have a5:=AB (fK rest [13,10]);clear P;have E:=Uv rest [13,10] wr (by omega) (X.next B);generalize cut rest [13,10]=c at a4 U a5;obtain⟨l,r,ok⟩:=c;simp only at a4 U;obtain⟨b4,d8,a0⟩:=a4;go_upto_if 21 with(go_at_call 66;with_reducible refine E.mono ?_;rintro e C⟨rfl,rfl⟩);clear E;go_cut[7,8,9] (fun _ x y wx=>x=.string ⟨l.toArray⟩∧y=.string ⟨r.toArray⟩∧Below wr.heap.size wr wx)
 case first=>
  rcases a5.o with⟨D,A⟩|⟨a,b,D,A,Q,R,S⟩
  ·rw[D];have H2:=AB A;clear D A;go_wp2_with fail;go_meet;have h:=H2.o;simp only[EC]at h;obtain⟨rfl,rfl,_⟩:=h;exact⟨rfl,rfl,AD _ _⟩
  rw[D];have H2:=AB A;have T:=AB Q;have H4:=AB R;simp only[AO,BN]at S;have c3:a.length+2≤rest.length:=by omega
  have c4:wrap64 ((a.length:Int)+2)=(a.length:Int)+2:=by unfold wrap64;omega
  clear D A Q R S;go_wp2_with fail;go_quiet(fail);go_wp2_with fail;go_meet;have h:=H2.o;simp only[EC]at h;obtain⟨rfl,rfl,_⟩:=h;exact⟨by rw[T.o],by rw[←H4.o];rfl,CB (AD _ _) _⟩
 case rest=>
 clear a5;obtain⟨rfl,rfl,p⟩:=hcut;obtain⟨C,rfl⟩:∃x:World,x=wc:=⟨_,rfl⟩;have K:=K.next p K.lt;have d:=A0.next d p;have B:=B.trans (p.mono B.size);clear p;cases l with
 |nil=>
  have a0:=a0 rfl;subst a0;have N:=AB (by rw[U.o,AM ⟨rfl,rfl⟩]:Dj s=some (out,r));have c5:=AB (show Qg 0 out from fun f Y=>⟨(J.o f Y).1,by have:=(J.o f Y).2;omega⟩);go_wp2_with fail;with_reducible refine(b1 _).mono ?_
  rintro e G⟨rfl,p⟩;have K:=K.next p K.lt;have d:=A0.next d p;have B:=B.trans (p.mono B.size);have kc:=K.cell;have b3:=K.free;clear p;go_wp2_with fail;refine AL (v:=.tuple #[u5,.string ⟨r.toArray⟩,.agg #[.int .i64 0,.int .i64 (-1)]]) (by simp[results,results204,go_sem,kc]) rfl ⟨Or.inl ⟨out,r,_,N.o,by omega,c5.o,by omega,rfl,((d.A6 (DT _) _).A6 (DT _) _).mono (by omega)⟩,(B.setCell (AC _) _).setCell (AC _) _⟩
 |cons x L=>
  clear a0;have M:=AB (by rw[U.o,AI (fun h=>by cases h.1)];rfl:Dj s=match J8 out (x::L)with|none=>none|some o=>Gb F o r);clear U;have O:=AB (RM out x L);have a1:=fun W=>Sx x W
  obtain⟨va,vc,rfl,_⟩:=C7.open (A0.rd (by decide) Ah d);go_upto_region 13 with fail;go_cut[42] (fun t wx=>t=.bool (Hk x&&!out.isEmpty)∧wx=C)
  case first=>
   generalize H:Hk x=q at a1;have Hq:=AB H;clear H;cases q with
   |false=>
    go_wp2_with fail;with_reducible refine(a1 _).mono ?_
    rintro e G⟨rfl,rfl⟩;go_wp2_with fail;go_meet;exact⟨by rw[Hq.o];rfl,rfl⟩
   |true=>
    have HE:=AB (show decide (0<out.length)=!out.isEmpty by cases out<;>simp);go_wp2_with fail;with_reducible refine(a1 _).mono ?_
    rintro e G⟨rfl,rfl⟩;go_wp2_with fail;go_meet;exact⟨by rw[HE.o,Hq.o];rfl,rfl⟩
  case rest=>
  clear a1;obtain⟨rfl,hw⟩:=hcut;obtain rfl:=hw.symm;clear hw;have a2:=Qf (FM x L) [58] (by decide);have I:=AB (Fx [58] (x::L));have V:=AB (fK (x::L) [58]);have c6:(x::L).length≤1000000000:=by omega
  have a3:=AB (show(Hk x&&!out.isEmpty)=true→out≠[]from fun h=>by cases out<;>simp at h⊢);generalize(Hk x&&!out.isEmpty)=go at O a3⊢;have c7:(x::L).length+r.length≤rest.length:=b4;generalize x::L=l at M O c6 a2 I V c7⊢;clear b4;cases go with
  |true=>
   rcases DE out with ho|⟨a6,f,ho⟩
   ·exact absurd ho (a3.o rfl)
   rw[DF]at ho;subst ho;have N:=AB (by rw[M.o,O.o];simp:Gb F (a6++[(f.1,f.2++l)]) r=Dj s);obtain⟨g,d9,a7,e0,e1,e2,e3⟩:=Bk.last d;simp only[AH,AO,BN]at c2 a7 d⊢;obtain⟨rfl,_,rfl⟩:=Value.slice.inj a7;have c8:=J.o f (by simp);have c9:=fun y=>Bk.setLast (n:=a6.length+1) rfl d y
   clear a3 V I a2 a7;go_wp2_with fail;go_roundw
   case rel=>exact⟨r,a6++[(f.1,f.2++l)],n+1,F,rfl,by go_num,by omega,by simp;omega,c9 (f.2++l),by omega,N,fun q H=>by
    rcases BP.1 H with H|H
    ·have:=J.o q (by simp[H]);exact⟨this.1,by omega⟩
    simp at H;subst H;exact⟨c8.1,by simp;omega⟩,K.A6 (DX (show w.heap.size<g by omega)) _,B.setCell (show w.heap.size≤g by omega) _⟩
   simp;omega
  |false=>
   clear a3;have E:=Uv l [58] C (by omega) (X.next B);have b5:=K.cell 0;have b6:=K.cell 1;have b3:=K.free;rcases V.o with⟨D,A⟩|⟨a,b,D,A,Q,R,S⟩
   ·rw[D]at E;have N:=AB (show Dj s=none from by
     rw[M.o,O.o];cases hc:Ab [58] l with
     |none=>rfl
     |some q=>have:=I.o;rw[hc,A]at this;simp at this)
    clear M O I V D A a2;go_wp2_with fail;with_reducible refine E.mono ?_
    rintro e G⟨rfl,rfl⟩;go_wp2_with fail;refine AL (v:=.tuple #[.slice none 0 0,.string ⟨#[]⟩,.agg #[.int .i64 3,.int .i64 n]]) (by simp[results,results204,go_sem,b5,b6]) rfl ⟨Or.inr ⟨N.o,_,rfl⟩,(B.setCell (AC _) _).setCell (AC _) _⟩
   rw[D]at E;have N:=AB (show Dj s=match(if Eg a then some (out++[(a,b)])else none)with|none=>none|some o=>Gb F o r from by
    rw[M.o,O.o];cases hc:Ab [58] l with
    |none=>have:=I.o;rw[hc,A]at this;simp at this
    |some q=>have:=I.o;rw[hc,A]at this;simp at this;rw[this.1,this.2];rfl)
   have T:=AB Q;have H4:=AB R;simp only[AO,BN]at S;have c3:a.length+1+b.length≤l.length:=by omega
   have c4:wrap64 ((a.length:Int)+1)=(a.length:Int)+1:=by unfold wrap64;omega
   clear M O I V D A Q R S a2;have a8:=fun W=>bK (l.take a.length) W (by rw[T.o];omega)
   have e4:a.length≤l.length:=by omega
   have e5:a.length+1≤l.length:=by omega
   have a9:=AB (show Eg (l.take a.length)=Eg a by rw[T.o]);generalize Eg (l.take a.length)=nb at a8 a9;rw[←a9.o]at N;clear a9;cases nb with
   |false=>
    have b0:=AB (by rw[N.o];rfl:Dj s=none);go_wp2_with fail;with_reducible refine E.mono ?_
    rintro e G⟨rfl,rfl⟩;go_wp2_with fail;with_reducible refine(a8 _).mono ?_
    rintro e G⟨rfl,rfl⟩;go_wp2_with fail;refine AL (v:=.tuple #[.slice none 0 0,.string ⟨#[]⟩,.agg #[.int .i64 3,.int .i64 n]]) (by simp[results,results204,go_sem,b5,b6]) rfl ⟨Or.inr ⟨b0.o,_,rfl⟩,(B.setCell (AC _) _).setCell (AC _) _⟩
   |true=>
    have b0:=AB (by rw[N.o];rfl:Gb F (out++[(a,b)]) r=Dj s);go_wp2_with fail;with_reducible refine E.mono ?_
    rintro e G⟨rfl,rfl⟩;go_wp2_with fail;with_reducible refine(a8 _).mono ?_
    rintro e G⟨rfl,rfl⟩;go_wp2_with fail;have i1:(a.length:Int)≤l.length:=by omega
    have i2:(0:Int)≤a.length:=by omega
    have i3:(a.length:Int)+1≤l.length:=by omega
    have i4:(0:Int)≤(a.length:Int)+1:=by omega
    have z1:IntKind.i64.wrap ((a.length:Int)+1)=(a.length:Int)+1:=CI _ (by omega);have z3:((a.length:Int)+1).toNat=a.length+1:=by omega
    have d0:=B.size;have b7:Bk ((C.alloc (.cells #[.string ⟨(l.take a.length).toArray⟩,.string ⟨(l.drop (a.length+1)).toArray⟩] 92)).drew) (w.heap.size+1) (.slice va out.length vc) out:=A0.alloc d _;have b8:∀j u,([(l.take a.length,l.drop (a.length+1))].flatMap Au)[j]?=some u→((C.alloc (.cells #[.string ⟨(l.take a.length).toArray⟩,.string ⟨(l.drop (a.length+1)).toArray⟩] 92)).drew).cell? ((⟨C.heap.size,0,none⟩:Go.Addr).add j)=some u:=Gl C (l.take a.length,l.drop (a.length+1)) _;have q1:=AB (by simp;omega:(out.length+[(l.take a.length,l.drop (a.length+1))].length)*32≤140737488355328);have q2:=AB (by unfold maxLen;simp;omega:out.length+[(l.take a.length,l.drop (a.length+1))].length≤maxLen);have b9:=AB (by have:=K.lt;show _≤(C.alloc _).heap.size;simp;omega:w.heap.size+1≤((C.alloc (.cells #[.string ⟨(l.take a.length).toArray⟩,.string ⟨(l.drop (a.length+1)).toArray⟩] 92)).drew).heap.size);go_region_law((refine Ns (α:=A4) (cs:=Au) (size:=2) (z:=.agg #[.string ByteArray.empty,.string ByteArray.empty]) Ah Ju Kj rfl (by decide) underlying42 rfl _ _ rfl (w.heap.size+1) _ out [(l.take a.length,l.drop (a.length+1))] ⟨C.heap.size,0,none⟩ 1 1 rfl (by decide) rfl b7 rfl b8 q1.o q2.o b9.o ?_;intro v' e6 d1 c0 c1));all_goals
     have d2:=((K.alloc (.cells #[.string ⟨(l.take a.length).toArray⟩,.string ⟨(l.drop (a.length+1)).toArray⟩] 92)).drew).grown c0 (fun g X=>by have:=A0.Fp d g X;omega);have d3:=((B.alloc d0 (.cells #[.string ⟨(l.take a.length).toArray⟩,.string ⟨(l.drop (a.length+1)).toArray⟩] 92)).drew).trans (c1.mono (GJ _));have d4:=AB (by rw[T.o,show l.drop (a.length+1)=b from H4.o];exact b0.o:Gb F (out++[(l.take a.length,l.drop (a.length+1))]) r=Dj s);have Hl:=AB (by simp;omega:(l.take a.length).length+(l.drop (a.length+1)).length≤l.length);clear c0 c1 b8 b7 q1 q2 b9;go_wp2_with fail;go_roundw
     case rel=>exact⟨r,out++[(l.take a.length,l.drop (a.length+1))],n+1,F,rfl,by go_num,by omega,by simp;omega,d1,by omega,d4,fun q H=>by
      have:=Hl.o;rcases BP.1 H with H|H
      ·have:=J.o q H;exact⟨this.1,by omega⟩
      simp at H;subst H;exact⟨by simp only;omega,by simp only;omega⟩,d2,d3⟩
     simp;omega
def RQ(B:Nat)(r:Option (List A4))(e:Ending)(w':World):Prop:=(∃o v,r=some o∧e=.returned (.tuple #[v,.agg #[.int .i64 0,.int .i64 (-1)]])∧Bk w' B v o)∨(r=none∧∃n:Int,e=.returned (.tuple #[.slice none 0 0,.agg #[.int .i64 1,.int .i64 n]]))
theorem RR(v:Value)(l:List A4)(w:World)(s:C7 w v l)(n:L7 l):Calls prog 205 #[v] w fun e t=>RQ w.heap.size (Cq l) e t∧Below w.heap.size w t:=by
 have a7:=n.1;have U:=AB n.2;clear n;obtain⟨a,a8,rfl,A⟩:=s.open;have X:=AB A;clear A s;have K:=A1.new w #[.int .i64 0,.int .i64 0] 113;have B:=(AD w.heap.size w).alloc (AC _) (.cells #[.int .i64 0,.int .i64 0] 113);have Y:=fun W=>P4 0 W
 go_enter func205,ntmps205;go_wp2_with fail;generalize w.alloc (.cells #[.int .i64 0,.int .i64 0] 113)=w1 at K B⊢;go_loopw[4,9] (fun o i wr=>∃(k:Nat)(O:List A4),i=.int .i64 k∧k≤l.length∧O.length=k∧Bk wr (w.heap.size+1) o O∧Hid ((Cq (l.drop k)).map (O++·)=Cq l)∧X0 wr w.heap.size∧Below w.heap.size w wr) (fun _ i _=>l.length-(intOf i).toNat)
 case atStart=>exact⟨0,[],rfl,by omega,rfl,A0.nil _ _ _ _ _,AB (by simp),K,B⟩
 clear K B;obtain⟨k,O,rfl,hk,a9,h,m,K,B⟩:=hrel;by_cases E:k<l.length
 ·obtain⟨b,rfl,F,G,I⟩:=X.o k E;have q:=U.o l[k] (AN _);have D:=AB (by rw[AE E];rfl:Cq (l.drop k)=if Fi (trimS l[k].2 [32,9])then(Cq (l.drop (k+1))).map ((l[k].1,trimS l[k].2 [32,9])::·)else none);have C:=(B.cell (p:=⟨b,k*2,none⟩) F).trans G;have r:=(B.cell (p:=⟨b,k*2+1,none⟩) F).trans I;clear G I;generalize l[k]=f at q D C r;obtain⟨x,y⟩:=f;simp only at q D C r;obtain⟨hx,hy⟩:=q;have d:=A1.new wr #[.string ⟨x.toArray⟩,.string ⟨y.toArray⟩] 92;have B:=B.alloc B.size (.cells #[.string ⟨x.toArray⟩,.string ⟨y.toArray⟩] 92);have h:=h.alloc (.cells #[.string ⟨x.toArray⟩,.string ⟨y.toArray⟩] 92);have K:=K.alloc (.cells #[.string ⟨x.toArray⟩,.string ⟨y.toArray⟩] 92);have T:=fun W=>Sy y W (by omega)
  have Z:=Oc y [32,9];generalize trimS y [32,9]=z at T Z D;have V:=fun W=>cR z W (by omega)
  generalize Fi z=bz at V D;go_wp2_with fail;generalize World.alloc _ _=w2 at d B h K⊢;with_reducible refine(T _).mono ?_
  rintro e w3⟨rfl,rfl⟩;go_wp2_with fail;with_reducible refine(V _).mono ?_
  rintro e c⟨rfl,H⟩;have d:=d.next H d.lt;have K:=K.next H K.lt;have h:=A0.next h H;have B:=B.trans (H.mono B.size);clear H C r V;cases bz with
  |false=>
   have N:=AB (by rw[←m.o,D.o];rfl:Cq l=none);have a0:=K.cell 0;have a1:=K.cell 1;have a2:=K.free;go_wp2_with fail;refine AL (v:=.tuple #[.slice none 0 0,.agg #[.int .i64 1,.int .i64 k]]) (by simp[results,results205,go_sem,a0,a1]) rfl ⟨Or.inr ⟨N.o,_,rfl⟩,(B.setCell (AC _) _).setCell (AC _) _⟩
  |true=>
   have N:=AB (by rw[←m.o,D.o];simp only[DC];cases Cq (l.drop (k+1))<;>simp:(Cq (l.drop (k+1))).map ((O++[(x,z)])++·)=Cq l);clear D m;have kd:=(A1.drew d).cell;have a3:=B.size;have b0:=K.lt;have J:Bk ((c.alloc (.cells #[.string ⟨x.toArray⟩,.string ⟨z.toArray⟩] 92)).drew) (w.heap.size+1) _ O:=A0.alloc h _;have L:∀j u,([(x,z)].flatMap Au)[j]?=some u→((c.alloc (.cells #[.string ⟨x.toArray⟩,.string ⟨z.toArray⟩] 92)).drew).cell? ((⟨c.heap.size,0,none⟩:Go.Addr).add j)=some u:=Gl c (x,z) _;have Q:=AB (by simp;omega:(O.length+[(x,z)].length)*32≤140737488355328);have M:=AB (by unfold maxLen;simp;omega:O.length+[(x,z)].length≤maxLen);have P:=AB (by show _≤(c.alloc _).heap.size;simp;omega:w.heap.size+1≤((c.alloc (.cells #[.string ⟨x.toArray⟩,.string ⟨z.toArray⟩] 92)).drew).heap.size);go_upto_region 7 with fail;go_region_law((first
    |(refine Ns (α:=A4) (cs:=Au) (size:=2) (z:=.agg #[.string ByteArray.empty,.string ByteArray.empty]) Ah Ju Kj rfl (by decide) underlying42 rfl _ _ rfl (w.heap.size+1) _ O [(x,z)] ⟨c.heap.size,0,none⟩ 1 1 rfl (by decide) rfl J rfl L Q.o M.o P.o ?_;intro v' b1 a4 R S)
    |(go_simp;with_reducible refine(T _).mono ?_;rintro e b2⟨rfl,rfl⟩)))
   all_goals
    have a5:=((K.alloc (.cells #[.string ⟨x.toArray⟩,.string ⟨z.toArray⟩] 92)).drew).grown R (fun g hg=>by have:=A0.Fp h g hg;omega);have a6:=((B.alloc a3 (.cells #[.string ⟨x.toArray⟩,.string ⟨z.toArray⟩] 92)).drew).trans (S.mono (GJ _));clear R S L J Q M P;go_wp2_with fail;go_roundw
    case rel=>exact⟨k+1,O++[(x,z)],by go_num,by omega,by simp;omega,a4,N,a5,a6⟩
    simp[intOf];omega
 obtain rfl:k=l.length:=by omega
 have N:=AB (by rw[←m.o,AQ];simp[Cq]:Cq l=some O);go_wp2_with fail;with_reducible refine(Y _).mono ?_
 rintro e w2⟨rfl,H⟩;have K:=K.next H K.lt;have h:=A0.next h H;have B:=B.trans (H.mono B.size);have kc:=K.cell;have a2:=K.free;clear H;go_wp2_with fail;refine AL (v:=.tuple #[u4,.agg #[.int .i64 0,.int .i64 (-1)]]) (by simp[results,results205,go_sem,kc]) rfl ⟨Or.inl ⟨O,_,N.o,rfl,((h.A6 (DT _) _).A6 (DT _) _).mono (by omega)⟩,(B.setCell (AC _) _).setCell (AC _) _⟩
end Go.Proofs.YtignjjnflcpiiaaGreatDoor
