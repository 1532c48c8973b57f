/- (*strings.byteStringReplacer).Replace, strings.NewReplace -/
import Derived.Laws.CopyOwn
import Derived.Test.YtignjjnflcpiiaaGreatDoorS10
set_option linter.all false
set_option maxHeartbeats 4000000
set_option maxRecDepth 100000
namespace Go.Proofs.YtignjjnflcpiiaaGreatDoor
open Go Go.RowKit Proofs.Tryz Lib
def Ci(f:UInt8→Option Bs)(s:Bs):Bs:=s.flatMap fun c=>(f c).getD [c]
def Fo(f:UInt8→Option Bs)(s:Bs):Bool:=s.any fun c=>(f c).isSome
def F8(f:UInt8→Option Bs)(l:Bs)(c:UInt8):Option Bs:=if c∈l then f c else none
theorem P6(f:UInt8→Option Bs)(c:UInt8)(s:Bs):Ci f (c::s)=(f c).getD [c]++Ci f s:=by unfold Ci;rw[BT]
theorem Wk(f:UInt8→Option Bs):∀s:Bs,Fo f s=false→Ci f s=s
 |[],_=>rfl
 |c::s,h=>by
  unfold Fo at h;rw[FH,Bool.or_eq_false_iff]at h;rw[P6,Wk f s h.2];cases H:f c with
  |none=>rfl
  |some n=>rw[H]at h;simp at h
theorem cL(f:UInt8→Option Bs)(s:Bs)(k:Nat)(h:k<s.length):Ci f (s.take (k+1))=Ci f (s.take k)++(f s[k]).getD [s[k]]:=by
 unfold Ci;rw[AU h,CR];simp
theorem tP(f:UInt8→Option Bs)(s:Bs)(k:Nat)(h:k<s.length):Fo f (s.take (k+1))=(Fo f (s.take k)||(f s[k]).isSome):=by
 unfold Fo;rw[AU h,List.any_append];simp
theorem T3(f:UInt8→Option Bs)(H:∀c n,f c=some n→n.length≤100):∀s:Bs,(Ci f s).length≤100*s.length
 |[]=>by simp[Ci]
 |c::s=>by
  have ih:=T3 f H s;rw[P6,AH,AO];have:((f c).getD [c]).length≤100:=by
   cases h:f c with
   |none=>simp
   |some n=>simpa using H c n h
  omega
theorem cM(f:UInt8→Option Bs)(l:Bs)(k:UInt8)(n:Bs)(h:k∉l)(H:f k=some n)(b:1≤n.length):∀s:Bs,(Ci (F8 f (l++[k])) s).length=(Ci (F8 f l) s).length+s.count k*(n.length-1)∧Fo (F8 f (l++[k])) s=(Fo (F8 f l) s||decide (s.count k≠0))
 |[]=>by simp[Ci,Fo]
 |c::s=>by
  obtain⟨d,i⟩:=cM f l k n h H b s;rw[P6,P6,AH,AH,d];have a:∀g,Fo g (c::s)=((g c).isSome||Fo g s):=fun g=>by unfold Fo;rw[FH]
  rw[a,a,i];by_cases e:c=k
  ·subst e;have E:F8 f (l++[c]) c=some n:=by unfold F8;rw[AM (by simp),H]
   have j:F8 f l c=none:=by unfold F8;rw[AI h]
   rw[E,j,List.count_cons_self];constructor
   ·simp only[CT,EP,ES];rw[DN];omega
   simp
  have E:F8 f (l++[k]) c=F8 f l c:=by unfold F8;simp[e]
  rw[E,List.count_cons_of_ne e];constructor
  ·omega
  rw[Bool.or_assoc]
theorem cN(f:UInt8→Option Bs):F8 f []=fun _=>none:=by funext c;simp[F8]
theorem tQ(s:Bs):Ci (fun _=>none) s=s:=Wk _ _ (by simp[Fo])
theorem tR(f:UInt8→Option Bs)(k:Bs)(h:∀c,(f c).isSome=true→c∈k):F8 f k=f:=by
 funext c;unfold F8;by_cases e:c∈k
 ·rw[AM e]
 rw[AI e];cases H:f c with
 |none=>rfl
 |some n=>exact absurd (h c (by rw[H];rfl)) e
structure cO(f:UInt8→Option Bs)(kb:Bs):Prop where
 nodup:kb.Nodup
 few:kb.length≤100
 some:∀k∈kb,∃n,f k=some n∧1≤n.length
 all:∀c,(f c).isSome=true→c∈kb
 bd:∀c n,f c=.some n→n.length≤100
theorem tS(l:Bs)(c:UInt8)(w:World):Calls prog 243 #[.string ⟨l.toArray⟩,.string ⟨#[c]⟩] w fun e W=>e=.returned (.int .i64 ((l.count c:Nat):Int))∧w=W:=by
 refine(Tryz.strings_Count_one ⟨l.toArray⟩ c w).mono ?_;rintro e W⟨rfl,rfl⟩;exact⟨rfl,rfl⟩
theorem tT(K:Bs)(j:Nat)(h:j<K.length):((K.map fun k=>[k]).flatMap Bi)[j]?=some (.string ⟨#[K[j]]⟩):=by
 have e:∀K:Bs,(K.map fun k=>[k]).flatMap Bi=K.map fun k=>Value.string ⟨#[k]⟩:=fun K=>by
  induction K with
  |nil=>rfl
  |cons k l ih=>rw[DM,BT,ih];rfl
 rw[e];simp[h]
theorem tU(l:Bs)(c:UInt8):l.count c≤l.length:=GM
theorem tV(R B0:Nat)(f:UInt8→Option Bs)(K:Bs)(ok:cO f K)(s:Bs)(w:World)(hr:Lb w R B0 f (K.map fun k=>[k]))(hs:s.length≤1000000000):Calls prog 405 #[.pointer (some ⟨R,0,none⟩),.string ⟨s.toArray⟩] w fun e w'=>e=.returned (.string ⟨(Ci f s).toArray⟩)∧Below w.heap.size w w':=by
 obtain⟨e4,v,J,c6,c7,b0,c8⟩:=hr;obtain⟨kn,kf,ks,ka,b1⟩:=ok;obtain⟨va,g4,rfl,b2⟩:=A0.rd (by decide) Cw c8;rw[DS]at b0 b2;have g5:=(J.cell 256).trans b0;have a0:=J.lt;have e5:=T3 f b1 s;have Kn:=AB kn;clear kn;have Ks:=AB ks;clear ks;have Ka:=AB ka;clear ka;have a1:=AB b1;clear b1;have b3:=AB c7;clear c7;have e6:=AB b2;clear b2;have g6:=AB c6;clear c6 b0;clear c8;have qN:∀(w:World)(a:Option Go.Addr)(n c n' c':Nat),(binOp .neq 126 (.slice a n c) (.slice none n' c')).run prog w=.ok (.bool (!a.isNone)) w:=fun w a n c n' c'=>run_neq_slice_nil_any w _ _ a n c n' c' underlying126
 go_enter func405,ntmps405;go_upto_if 26 with fail;go_cut[5,6] (fun t u wx=>t=.int .i64 (Ci f s).length∧u=.bool (Fo f s)∧Below w.heap.size w wx)
 case first=>
  by_cases h8:K.length*8≤s.length
  ·have b4:(K.length:Int)*8≤s.length:=by omega
   rw[BD b4];go_wp2_with fail;go_loopw[5,6,32] (fun t u i wr=>∃(j S:Nat)(h:Bool),i=.int .i64 j∧j≤K.length∧t=.int .i64 S∧u=.bool h∧Hid (S=(Ci (F8 f (K.take j)) s).length∧h=Fo (F8 f (K.take j)) s)∧S≤100000000000∧Below w.heap.size w wr) (fun _ _ i _=>K.length-(intOf i).toNat)
   case atStart=>exact⟨0,s.length,false,rfl,by omega,rfl,rfl,AB ⟨by rw[GP,cN,tQ],by simp[cN,Fo]⟩,by omega,AD _ _⟩
   obtain⟨j,S,h,rfl,M,rfl,rfl,D,b5,B⟩:=hrel;by_cases I:j<K.length
   ·obtain⟨b,rfl,e7,c9⟩:=e6.o (by omega);have ck:=c9 j (by simp;omega);rw[tT K j I]at ck;have ck:=(B.cell (p:=⟨b,j,none⟩) e7).trans ck;clear c9;have d0:K[j]∈K:=AN _;obtain⟨n,a2,b6⟩:=Ks.o K[j] d0;have d1:K[j]∉K.take j:=by
     intro hm;have H:=Kn.o;rw[←BQ j K,List.nodup_append]at H;exact H.2.2 K[j] hm K[j] (by have E:=CD (a:=K[j]) (l:=K.drop (j+1));rwa[←AE I]at E) rfl
    have b7:=cM f (K.take j) K[j] n d1 a2 b6 s;have d2:K.take j++[K[j]]=K.take (j+1):=(AU I).symm;rw[d2]at b7;have F:=AB b7;clear b7 d2 d1 d0;have d3:=T3 (F8 f (K.take (j+1))) (fun c m Q=>a1.o c m (by unfold F8 at Q;split at Q;exact Q;cases Q)) s;have e8:=a1.o _ _ a2;have A:=tU s K[j];have e9:∃g T,e4[K[j].toNat]?=some (.slice (some ⟨g,0,none⟩) n.length T):=by
     rcases b3.o K[j]with⟨q,_⟩|⟨m,g,T,H,E,_⟩
     ·rw[a2]at q;cases q
     rw[a2]at H;injection H with H;subst H;exact⟨g,T,E⟩
    obtain⟨g,g7,hg⟩:=e9;have U:=(B.cell (p:=⟨R,K[j].toNat,none⟩) a0).trans ((J.cell _).trans hg);have b8:(K[j].toNat:Int)<256:=by have:=K[j].toNat_lt;omega
    clear hg a2;have a5:=fun W=>tS s K[j] W
    generalize K[j]=k at ck F A U b8 a5;generalize n.length=N at b6 e8 F U;generalize s.count k=d at F A a5;by_cases q:d=0
    ·subst q;have r:=AB (show S=(Ci (F8 f (K.take (j+1))) s).length∧h=Fo (F8 f (K.take (j+1))) s from by
      rw[F.o.1,F.o.2,D.o.1,D.o.2];simp)
     clear F;go_wp2_with fail;refine(a5 _).mono ?_;rintro e w'⟨rfl,rfl⟩;go_wp2_with fail;go_roundw
     case rel=>exact⟨j+1,S,h,by go_num,by omega,rfl,rfl,r,b5,B⟩
     simp[intOf];omega
    have g8:((d:Int)!=0)=true:=by rw[CZ];omega
    have a6:(d:Int)*((N:Int)-1)=((d*(N-1):Nat):Int):=by rw[Int.natCast_mul,Int.natCast_sub b6];rfl
    have a7:=F.o.1;rw[←D.o.1]at a7;have r:=AB (show S+d*(N-1)=(Ci (F8 f (K.take (j+1))) s).length∧true=Fo (F8 f (K.take (j+1))) s from⟨a7.symm,by rw[F.o.2];simp[q]⟩);have b9:S+d*(N-1)≤100000000000:=by rw[←a7];omega
    have z1:IntKind.i64.wrap ((N:Int)-1)=(N:Int)-1:=CI _ (by omega);have z2:IntKind.i64.wrap ((d:Int)*((N:Int)-1))=(d:Int)*((N:Int)-1):=CI _ (by rw[a6];omega);have z3:IntKind.i64.wrap ((S:Int)+(d:Int)*((N:Int)-1))=(S:Int)+(d:Int)*((N:Int)-1):=CI _ (by rw[a6];omega);have HV:=AB (by rw[a6,Int.natCast_add]:(S:Int)+(d:Int)*((N:Int)-1)=((S+d*(N-1):Nat):Int));clear F a7 a6 q d3;go_wp2_with fail;refine(a5 _).mono ?_;rintro e w'⟨rfl,rfl⟩;go_wp2_with fail;go_quiet(fail);go_wp2_with fail;rw[HV.o];go_roundw
    case rel=>exact⟨j+1,S+d*(N-1),true,by go_num,by omega,rfl,rfl,r,b9,CB B _⟩
    simp[intOf];omega
   obtain rfl:j=K.length:=by omega
   have y:=D.o;rw[CQ,tR f K Ka.o]at y;have a3:=AB y;clear y;go_wp2_with fail;go_meet;exact⟨by rw[a3.o.1],by rw[a3.o.2],B⟩
  have b4:¬(K.length:Int)*8≤s.length:=by omega
  rw[AX b4];go_wp2_with fail;go_loop[5,6,10] (fun t u i=>∃(j S:Nat)(h:Bool),i=.int .i64 j∧j≤s.length∧t=.int .i64 S∧u=.bool h∧Hid (S=(Ci f (s.take j)).length+(s.length-j)∧h=Fo f (s.take j))∧S≤200000000000) (fun _ _ i=>s.length-(intOf i).toNat)
  case atStart=>exact⟨0,s.length,false,rfl,by omega,rfl,rfl,AB ⟨by simp[Ci],by simp[Fo]⟩,by omega⟩
  obtain⟨j,S,h,rfl,M,rfl,rfl,D,b5⟩:=hrel;by_cases I:j<s.length
  ·have G:=AB (cL f s j I);have Hh:=AB (tP f s j I);have d3:=T3 f a1.o (s.take (j+1));have b8:(s[j].toNat:Int)<256:=by have:=s[j].toNat_lt;omega
   rcases b3.o s[j]with⟨q,H⟩|⟨m,g,T,H,E,h3,h4,V⟩
   ·have U:=(J.cell _).trans H;have r:=AB (show S=(Ci f (s.take (j+1))).length+(s.length-(j+1))∧h=Fo f (s.take (j+1))from by
     rw[G.o,Hh.o,q,D.o.1,D.o.2];simp;omega)
    clear G Hh q H;go_wp2_with fail
    go_round
    case rel=>exact⟨j+1,S,h,by go_num,by omega,rfl,rfl,r,b5⟩
    simp[intOf];omega
   have U:=(J.cell _).trans E;have f0:=a1.o _ _ H;have r:=AB (show S+(m.length-1)=(Ci f (s.take (j+1))).length+(s.length-(j+1))∧true=Fo f (s.take (j+1))from by
    rw[G.o,Hh.o,H,D.o.1];simp;omega)
   have b9:S+(m.length-1)≤200000000000:=by
    rw[r.o.1];have:(s.take (j+1)).length≤s.length:=List.length_take_le' _ _;omega
   clear G Hh H E h3 V;go_wp2_with fail
   go_round
   case rel=>exact⟨j+1,S+(m.length-1),true,by go_num,by omega,by go_num,rfl,r,b9⟩
   simp[intOf];omega
  obtain rfl:j=s.length:=by omega
  have y:=D.o;rw[CQ,Nat.sub_self,BI]at y;have a3:=AB y;clear y;go_wp2_with fail;go_meet;exact⟨by rw[a3.o.1],by rw[a3.o.2],AD _ _⟩
 obtain⟨rfl,rfl,B⟩:=hcut;obtain⟨z,rfl⟩:∃x:World,x=wc:=⟨_,rfl⟩;have c0:=AB (Wk f s);generalize Fo f s=h at c0⊢;cases h with
 |false=>
  have r:=AB (c0.o rfl);rw[r.o];go_wp2_with fail;go_ret;exact⟨by rw[r.o];rfl,B⟩
 |true=>
  clear c0;have HL:=AB (by rfl:(Ci f s).length=(Ci f s).length);generalize hL:(Ci f s).length=L at e5;have a8:=AB hL;clear HL;clear hL;have g9:L≤100000000000:=by omega
  have f1:=fun W=>run_make_row' (P:=prog) 126 5 (.int .u8 0) 1 underlying126 S5 rfl .i64 .i64 L (by omega) (by omega) W
  have d4:=AB (size_madeCells #[Value.int .u8 0] L);generalize madeCells #[Value.int .u8 0] L=C0 at f1 d4;have d5:=A1.new z C0 5;have f2:=AB d5;clear d5;go_wp2_with fail;go_loopw[13,14] (fun t i wr=>∃(j o:Nat)(C:List Value),i=.int .i64 j∧j≤s.length∧t=.int .i64 o∧Hid (o=(Ci f (s.take j)).length)∧o≤L∧A1 wr z.heap.size C.toArray 5∧Hid (C.length=L)∧Hid (C.take o=byteCells (Ci f (s.take j)))∧Below (z.heap.size) z wr) (fun _ i _=>s.length-(intOf i).toNat)
  case atStart=>exact⟨0,0,C0.toList,rfl,by omega,rfl,AB rfl,by omega,f2.o,AB (by simpa using d4.o),AB rfl,(AD _ _).alloc (AC _) _⟩
  obtain⟨j,o,C,rfl,M,rfl,ho,h0,X,A,c1,Y⟩:=hrel;have h1:=X.lt;by_cases I:j<s.length
  ·have G:=AB (cL f s j I);have b8:(s[j].toNat:Int)<256:=by have:=s[j].toNat_lt;omega
   have y:(Ci f s).length=(Ci f (s.take (j+1))).length+(Ci f (s.drop (j+1))).length:=by
    conv=>lhs;rw[←BQ (j+1) s]
    unfold Ci;rw[CR,AH]
   rw[a8.o]at y;rcases b3.o s[j]with⟨q,H⟩|⟨m,g,T,H,E,h3,h4,V⟩
   ·have U:=(Y.cell (p:=⟨R,s[j].toNat,none⟩) (CG a0 B.size)).trans ((B.cell (p:=⟨R,s[j].toNat,none⟩) a0).trans ((J.cell _).trans H));have O:Ci f (s.take (j+1))=Ci f (s.take j)++[s[j]]:=by rw[G.o,q];rfl
    have a4:o+1=(Ci f (s.take (j+1))).length:=by rw[O,ho.o];simp
    have c2:=AB O;clear O;have Z:o<L:=by omega
    have c3:=AB a4;clear a4 y G q H;have d6:=X.cell o;have h2:=X.free o;have d7:C.toArray[o]?=some (C[o]'(by rw[A.o];exact Z)):=by simp
    have co:=d6.trans d7;clear d7 d6;generalize(C[o]'(by rw[A.o];exact Z))=old at co;go_wp2_with fail;have f3:=X.set o (.int .u8 (s[j].toNat:Int));go_roundw
    case rel=>exact⟨j+1,o+1,C.set o (.int .u8 (s[j].toNat:Int)),by go_num,by omega,by go_num,AB c3.o,by omega,by simpa using f3,AB (by simpa using A.o),AB (by
     rw[c2.o];rw[AU (by simp;rw[A.o];exact Z),List.take_set_of_le (AC _),c1.o];simp[byteCells]),Y.setCell (AC _) _⟩
    simp[intOf];omega
   have U:=(Y.cell (p:=⟨R,s[j].toNat,none⟩) (CG a0 B.size)).trans ((B.cell (p:=⟨R,s[j].toNat,none⟩) a0).trans ((J.cell _).trans E));have f0:=a1.o _ _ H;have d8:=(V.below B V.lt).below Y (CG V.lt B.size);have f4:=AB d8;clear d8;have O:Ci f (s.take (j+1))=Ci f (s.take j)++m:=by rw[G.o,H];rfl
   have a4:o+m.length=(Ci f (s.take (j+1))).length:=by rw[O,ho.o];simp
   have c2:=AB O;clear O;have Z:o+m.length≤L:=by omega
   have c3:=AB a4;clear a4 y G H E V;have z1:IntKind.i64.wrap ((o:Int)+(m.length:Int))=(o:Int)+(m.length:Int):=CI _ (by omega);have i1:(o:Int)≤L:=by omega
   have i2:(0:Int)≤o:=by omega
   have i3:o<L:=by omega
   have d9:wr.heap[z.heap.size]?=some (.cells C.toArray 5 (0,0)):=X;have f5:=AB d9;clear d9;have e0:∀j v,(byteCells m)[j]?=some v→wr.cell? ((⟨g,0,none⟩:Go.Addr).add j)=some v:=fun j v M=>by
    rw[Dz];have e1:j<m.length:=by
     have:=(CM.1 M).1;simpa[byteCells]using this
    rw[f4.o.cell e1,←M];simp[byteCells,e1]
   have f6:=AB e0;clear e0;have a9:=FU m;have q1:=AB (by rw[a9];exact(EN (by omega)).symm:(byteCells m).length=Nat.min m.length (L-o));have q2:=AB (by rw[a9,A.o];exact Z:o+(byteCells m).length≤C.length);have q3:=AB (by intro v hv;simp[byteCells]at hv;obtain⟨x,_,rfl⟩:=hv;rfl:∀v∈byteCells m,v.oneCell'=true);have e2:=AB a9;clear a9;have e3:(prog.info? 5).map (·.size)=some 1:=by kernel_rfl
   have f7:=AB e3;clear e3;have f8:=Y.drew;have h5:¬L=o:=by omega
   go_upto_region 28 with fail;go_region_law((refine step_copy_splice rfl _ _ 126 126 rfl 5 underlying126 f7.o (some ⟨z.heap.size,o,none⟩) (some ⟨g,0,none⟩) (L-o) (L-o) m.length T rfl rfl z.heap.size o C 5 f5.o (byteCells m) q1.o (fun _=>⟨rfl,_,rfl,f6.o⟩) q2.o q3.o z.heap.size z f8 (AC _) ?_;intro w4 f9 g0;rw[e2.o]));all_goals
    go_wp2_with fail;have g1:w4.heap[z.heap.size]?=some (.cells (splice C o (byteCells m)).toArray 5 (0,0)):=f9;go_roundw
    case rel=>exact⟨j+1,o+m.length,splice C o (byteCells m),by go_num,by omega,by go_num,AB c3.o,Z,g1,AB (by rw[length_splice _ _ _ q2.o];exact A.o),AB (by
     rw[c2.o];have e:(C.take o).length=o:=by rw[BV,A.o];omega
     unfold splice;rw[←AJ,←e2.o,CY (by simp only[AH];omega),CH (by simp only[AH];omega),c1.o];simp[byteCells]),g0⟩
    simp[intOf];omega
  obtain rfl:j=s.length:=by omega
  have c4:=ho.o;have c5:=c1.o;rw[CQ]at c4 c5;rw[a8.o]at c4;have g2:=AB c5;clear c5;obtain rfl:o=L:=c4;have g3:=EI (P:=prog) wr 126 9 5 ⟨z.heap.size,0,none⟩ o (Ci f s) underlying126 underlying5 underlying9
   (fun j M=>by
    have Q:=X.cell j;rw[Dz,Q];have H:(C.take o)[j]?=(byteCells (Ci f s))[j]?:=by rw[g2.o]
    rw[EA,AM (by have:=a8.o;omega)]at H;rw[List.getElem?_toArray,H];simp[byteCells,M])
  rw[a8.o]at g3;go_wp2_with fail;go_ret;exact⟨rfl,B.trans (Y.mono B.size)⟩
variable {p P:List Pr}{w:World}{b R B:Nat}
theorem Ko.set{v:Value}(h:Ko w v p){a:Go.Addr}(c:∀g,v.ownBlock=some g→g≠a.block)(x:Value):Ko (w.setCell a x) v p:=by
 obtain⟨b,C,H,t,d⟩:=h;have f:b≠a.block:=c b (by rw[H];rfl);refine⟨b,C,H,by rw[EL];exact t,fun k i=>?_⟩;have e:∀j,(w.setCell a x).cell? ⟨b,j,none⟩=w.cell? ⟨b,j,none⟩:=fun j=>World.cell?_setCell_other w a ⟨b,j,none⟩ x (fun h=>f (by rw[h]))
 rw[e,e];exact d k i
def tW(b B:Nat)(w0:World)(P:List Pr)(w:World):Prop:=∃R,w.cell? ⟨b,3,none⟩=some (.iface 378 (.pointer (some ⟨R,0,none⟩)))∧B≤R∧R≠b∧Lb w R B (Ea P) ((P.map fun p=>[p.1]).reverse)∧Below b w0 w
theorem Lb.keep{w w':World}{R B:Nat}{f:UInt8→Option Bs}{k:List Bs}(h:Lb w R B f k)(H:w'.heap[R]?=w.heap[R]?)(a:Lu w w')(o:∀v,E9 w B v k→E9 w' B v k):Lb w' R B f k:=by
 obtain⟨c,v,b,d,e,g,i⟩:=h;exact⟨c,v,H.trans b,d,e.keep a,g,o v i⟩
theorem Lb.set{f:UInt8→Option Bs}{K:List Bs}(h:Lb w R B f K){c:Array Value}(H:A1 w b c 327)(e:R≠b)(k:Nat)(x:Value):Lb (w.setCell ⟨b,k,none⟩ x) R B f K:=h.keep (DB w ⟨b,k,none⟩ x R e) (W0 H k x) (fun v a=>Qt a fun g d=>DB w ⟨b,k,none⟩ x g (P2 a H (by decide) g d))
theorem tX(b:Nat)(v:Value)(P:List Pr)(ok:Lc P)(w:World)(a:A1 w b #[.int .u32 0,.int .i32 1,.int .u32 0,.nilIface,v] 327)(r:Ko w v P):Calls prog 266 #[.pointer (some ⟨b,0,none⟩)] w fun e W=>e=.returned (.tuple #[])∧So b (tW b w.heap.size w P) W:=by
 have t:=a.lt;have C:=sE b _ _ _ _ v P ok w a r;clear r;go_enter func266,ntmps266;go_wp2_with fail;refine C.mono ?_;rintro e l⟨R,rfl,g,i,d⟩;have h:=a.next d t;have K:=h.cell 3;have F:=h.free 3;have H:=h.set 3 (.iface 378 (.pointer (some ⟨R,0,none⟩)));have m:=H.cell 4;have n:=H.free 4;have f:=H.set 4 (.slice none 0 0);have c:R≠b:=by omega
 have j:=(i.set h c 3 (.iface 378 (.pointer (some ⟨R,0,none⟩)))).set H c 4 (.slice none 0 0);have k:=((d.mono (GD t)).setCell (p:=⟨b,3,none⟩) (AC _) (.iface 378 (.pointer (some ⟨R,0,none⟩)))).setCell (p:=⟨b,4,none⟩) (AC _) (.slice none 0 0);go_wp2_with fail
 go_end0
 exact⟨rfl,_,_,f,R,f.cell 3,g,c,j,k⟩
theorem tY(ok:Lc P):cO (Ea P) ((P.map (·.1)).reverse):=by
 have m:∀c n,Ea P c=some n→∃p∈P,p.1=c∧p.2=n:=fun c n h=>by
  unfold Ea at h;rw[BH]at h;obtain⟨p,d,a⟩:=h;have f:=List.find?_some d;exact⟨p,List.mem_of_find?_eq_some d,by simpa using f,a⟩
 refine⟨(List.pairwise_reverse.2 (ok.nodup.imp fun h=>h.symm)),by simp;exact ok.few,fun k e=>?_,fun c h=>?_,fun c n h=>?_⟩
 ·rw[JE,DY]at e;obtain⟨p,d,rfl⟩:=e;cases H:Ea P p.1 with
  |none=>
   unfold Ea at H;rw[Option.map_eq_none_iff,List.find?_eq_none]at H;exact absurd (by simp) (H p d)
  |some n=>
   obtain⟨q,b,_,a⟩:=m _ _ H;exact⟨n,rfl,a▸(ok.fit q b).1⟩
 ·cases H:Ea P c with
  |none=>rw[H]at h;cases h
  |some n=>
   obtain⟨q,b,g,_⟩:=m _ _ H;rw[JE,DY];exact⟨q,b,g⟩
 obtain⟨q,b,_,a⟩:=m _ _ h;exact a▸(ok.fit q b).2
theorem cP(b:Nat)(v:Value)(P:List Pr)(ok:Lc P)(s:Bs)(w:World)(H:A1 w b #[.int .u32 0,.int .i32 0,.int .u32 0,.nilIface,v] 327)(r:Ko w v P)(f:∀g,v.ownBlock=some g→g≠b)(A:s.length≤1000000000):Calls prog 190 #[.pointer (some ⟨b,0,none⟩),.string ⟨s.toArray⟩] w fun e i=>e=.returned (.string ⟨(Ci (Ea P) s).toArray⟩)∧Below b w i:=by
 have j:A1 (w.setCell ⟨b,1,none⟩ (.int .i32 1)) b #[.int .u32 0,.int .i32 1,.int .u32 0,.nilIface,v] 327:=H.set 1 (.int .i32 1);have O:=tX b v P ok (w.setCell ⟨b,1,none⟩ (.int .i32 1)) j (r.set f _);have D:=rY b _ _ _ w H O;have M:=H.lt;have l:=tY ok;have E:=AB l;clear l;clear O j r f;have N:∀(F:Fn)(first C:Array Value)(w:World),(Instr.makeFunc F first C).run prog w=.ok (.func F first C) w:=fun _ _ _ _=>rfl
 go_enter func190,ntmps190;go_wp2_with fail;refine D.mono ?_;rintro e i⟨W,⟨G,V,m,R,n,I,a,o,B⟩,rfl,rfl⟩;have q:Below b w W.drew:=(((AD b w).setCell (p:=⟨b,1,none⟩) (AC _) (.int .i32 1)).trans B).drew;have c:=(q.setCell (p:=⟨b,0,none⟩) (AC _) (.int .u32 1)).setCell (p:=⟨b,1,none⟩) (AC _) (.int .i32 0);have h:=m.drew;have t:=(h.set 0 (.int .u32 1)).set 1 (.int .i32 0);have u:W.drew.cell? ⟨b,3,none⟩=some (.iface 378 (.pointer (some ⟨R,0,none⟩))):=n;have x:G=.iface 378 (.pointer (some ⟨R,0,none⟩)):=by
  have:=h.cell 3;rw[u]at this;simpa using this.symm
 have K:=t.cell 3;rw[x]at K;have y:Lb W.drew R _ (Ea P) ((P.map fun p=>[p.1]).reverse):=o;have d:=(y.set h a 0 (.int .u32 1)).set (h.set 0 (.int .u32 1)) a 1 (.int .i32 0);have e:(P.map fun p=>[p.1]).reverse=((P.map (·.1)).reverse).map fun k=>[k]:=by rw[List.map_reverse,IB];rfl
 rw[e]at d;have z:=AB d;generalize(W.drew.setCell ⟨b,0,none⟩ (.int .u32 1)).setCell ⟨b,1,none⟩ (.int .i32 0)=J at K z c⊢;clear e d y x u t h q B o n m D I a;go_wp2_with fail;refine(tV R _ (Ea P) _ E.o s J z.o A).mono ?_;rintro e Q⟨rfl,L⟩;go_wp2_with fail;go_ret;exact⟨rfl,c.trans (L.mono (by have:=c.size;omega))⟩
theorem Lc.of(h:(decide (2≤P.length)&&decide (P.length≤100)&&decide ((P.map (·.1)).Nodup)&&P.all (fun p=>decide (1≤p.2.length)&&decide (p.2.length≤100))&&P.any (fun p=>decide (p.2.length≠1)))=true):Lc P:=by
 simp only[BL,EF,AW,JF]at h;obtain⟨⟨⟨⟨H,a⟩,b⟩,c⟩,d⟩:=h;exact⟨H,a,b,c,d⟩
end Go.Proofs.YtignjjnflcpiiaaGreatDoor
