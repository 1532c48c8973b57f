/- (*strings.byteStringReplacer).Replace, strings.NewReplace -/
import Derived.Laws.CopyOwn
import Derived.Test.YtignjjnflcpiiaaGreatDoorV07
set_option maxHeartbeats 4000000
set_option maxRecDepth 100000 set_option linter.all false
namespace Go.Proofs.YtignjjnflcpiiaaGreatDoor
open Go Go.RowKit Proofs.Tryz Lib
def Ct(f:UInt8->Option Bs)(s:Bs):Bs:=s.flatMap fun c=>(f c).getD [c]
def Gh(f:UInt8->Option Bs)(s:Bs):Bool:=s.any fun c=>(f c).isSome
def G2(f:UInt8->Option Bs)(l:Bs)(c:UInt8):Option Bs:=if c∈l then f c else none
def Se(f:UInt8->Option Bs)(c:UInt8)(s:Bs):Ct f (c::s)=(f c).getD [c]++Ct f s:=by unfold Ct;rw[BV]
theorem aG(f:UInt8->Option Bs):∀s:Bs,Gh f s=false->Ct f s=s
 |[],_=>rfl
 |c::s,h=>by
  unfold Gh at h;rw[GB,JP]at h;rw[Se,aG f s h.2];cases H:f c with
  |none=>rfl
  |some n=>rw[H]at h;simp at h
def jE(f:UInt8->Option Bs)(s:Bs)(k:Nat)(h:k<s.length):Ct f (s.take (k+1))=Ct f (s.take k)++(f s[k]).getD [s[k]]:=by
 unfold Ct;rw[AZ h,CZ];simp
def zI(f:UInt8->Option Bs)(s:Bs)(k:Nat)(h:k<s.length):Gh f (s.take (k+1))=(Gh f (s.take k)||(f s[k]).isSome):=by
 unfold Gh;rw[AZ h,List.any_append];simp
theorem Wj(f:UInt8->Option Bs)(H:∀c n,f c=some n->n.length<=100):∀s:Bs,(Ct f s).length<=100*s.length
 |[]=>by simp[Ct]
 |c::s=>by
  have ih:=Wj f H s;rw[Se,AJ,AK];have:((f c).getD [c]).length<=100:=by
   cases h:f c with
   |none=>simp
   |some n=>simpa using H c n h
  omega
theorem jF(f:UInt8->Option Bs)(l:Bs)(k:UInt8)(n:Bs)(h:k∉l)(H:f k=some n)(b:1<=n.length):∀s:Bs,(Ct (G2 f (l++[k])) s).length=(Ct (G2 f l) s).length+s.count k*(n.length-1)/\Gh (G2 f (l++[k])) s=(Gh (G2 f l) s||decide (s.count k≠0))
 |[]=>by simp[Ct,Gh]
 |c::s=>by
  obtain⟨d,i⟩:=jF f l k n h H b s;rw[Se,Se,AJ,AJ,d];have a:∀g,Gh g (c::s)=((g c).isSome||Gh g s):=fun g=>by unfold Gh;rw[GB]
  rw[a,a,i];by_cases e:c=k
  ·subst e;have E:G2 f (l++[c]) c=some n:=by unfold G2;rw[AN ah,H]
   have j:G2 f l c=none:=by unfold G2;rw[AL h]
   rw[E,j,List.count_cons_self];constructor
   ·simp only[DA,EH,FF];rw[DL];omega
   simp
  have E:G2 f (l++[k]) c=G2 f l c:=by unfold G2;simp[e]
  rw[E,List.count_cons_of_ne e];constructor
  ·omega
  rw[Bool.or_assoc]
def jG(f:UInt8->Option Bs):G2 f []=fun _=>none:=by funext c;simp[G2]
def zJ(s:Bs):Ct (fun _=>none) s=s:=aG _ _ (by simp[Gh])
def zK(f:UInt8->Option Bs)(k:Bs)(h:∀c,(f c).isSome=true->c∈k):G2 f k=f:=by
 funext c;unfold G2;by_cases e:c∈k
 ·rw[AN e]
 rw[AL e];cases H:f c with
 |none=>rfl
 |some n=>exact absurd (h c uq) e
structure jH(f:UInt8->Option Bs)(kb:Bs):Prop where
 nodup:kb.Nodup
 few:kb.length<=100
 some:∀k∈kb,∃n,f k=some n/\1<=n.length
 all:∀c,(f c).isSome=true->c∈kb
 bd:∀c n,f c=.some n->n.length<=100
def zL(l:Bs)(c:UInt8)(w:World):Calls prog 243 #[l,.string ⟨#[c]⟩] w fun e W=>e=.returned (.int .i64 ((l.count c:Nat):Int))/\w=W:=by
 refine(Tryz.strings_Count_one ⟨l.toArray⟩ c w).mono ?_;rintro e W⟨rfl,rfl⟩;exact⟨rfl,rfl⟩
def zM(K:Bs)(j:Nat)(h:j<K.length):((K.map fun k=>[k]).flatMap Bl)[j]?=some (.string ⟨#[K[j]]⟩):=by
 have e:∀K:Bs,(K.map fun k=>[k]).flatMap Bl=K.map fun k=>Value.string ⟨#[k]⟩:=fun K=>by
  induction K with
  |nil=>rfl
  |cons k l ih=>rw[CD,BV,ih];rfl
 rw[e];simp[h]
def zN(l:Bs)(c:UInt8):l.count c<=l.length:=II
def zO(R B0:Nat)(f:UInt8->Option Bs)(K:Bs)(ok:jH f K)(s:Bs)(w:World)(hr:Ns w R B0 f (K.map fun k=>[k]))(hs:s.length<=1000000000):Calls prog 405 #[.pointer (some ⟨R,0,none⟩),s] w fun e w'=>e=.returned (Ct f s)/\Below w.heap.size w w':=by
 obtain⟨e3,v,I,c5,c6,a9,c7⟩:=hr;obtain⟨kn,kf,ks,ka,b0⟩:=ok;obtain⟨va,g3,rfl,b1⟩:=A1.rd ae By c7;rw[DQ]at a9 b1;have g4:=(I.cell 256).trans a9;have Z:=I.lt;have e4:=Wj f b0 s;have Kn:=AE kn;clear kn;have Ks:=AE ks;clear ks;have Ka:=AE ka;clear ka;have a0:=AE b0;clear b0;have b2:=AE c6;clear c6;have e5:=AE b1;clear b1;have g5:=AE c5;clear c5 a9;clear c7;have qN:∀(w:World)(a:Option Go.Addr)(n c n' c':Nat),(binOp .neq 126 (.slice a n c) (.slice none n' c')).run prog w=.ok (.bool (!a.isNone)) w:=fun w a n c n' c'=>run_neq_slice_nil_any w _ _ a n c n' c' underlying126
 go_enter func405,ntmps405;go_upto_if 26 with fail;go_cut[5,6] (fun t u wx=>t=.int .i64 (Ct f s).length/\u=.bool (Gh f s)/\Below w.heap.size w wx)
 case first=>
  by_cases h8:K.length*8<=s.length
  ·have b3:(K.length:Int)*8<=s.length:=by omega
   rw[BH b3];go_wp2_with fail;go_loopw[5,6,32] (fun t u i wr=>∃(j S:Nat)(h:Bool),i=j/\j<=K.length/\t=S/\u=h/\Hid (S=(Ct (G2 f (K.take j)) s).length/\h=Gh (G2 f (K.take j)) s)/\S<=100000000000/\Below w.heap.size w wr) (fun _ _ i _=>K.length-(intOf i).toNat)
   case atStart=>exact⟨0,s.length,false,rfl,aa,rfl,rfl,AE ⟨by rw[IR,jG,zJ],by simp[jG,Gh]⟩,aa,AG _ _⟩
   obtain⟨j,S,h,rfl,J,rfl,rfl,A,b4,B⟩:=hrel;by_cases G:j<K.length
   ·obtain⟨b,rfl,e6,c8⟩:=e5.o aa;have ck:=c8 j ag;rw[zM K j G]at ck;have ck:=(B.cell (p:=⟨b,j,none⟩) e6).trans ck;clear c8;have c9:K[j]∈K:=AQ _;obtain⟨n,a1,b5⟩:=Ks.o K[j] c9;have d0:K[j]∉K.take j:=by
     intro hm;have H:=Kn.o;rw[<-CE j K,List.nodup_append]at H;exact H.2.2 K[j] hm K[j] (by have D:=CN (a:=K[j]) (l:=K.drop (j+1));rwa[<-AH G]at D) rfl
    have b6:=jF f (K.take j) K[j] n d0 a1 b5 s;have d1:K.take j++[K[j]]=K.take (j+1):=(AZ G).symm;rw[d1]at b6;have E:=AE b6;clear b6 d1 d0 c9;have d2:=Wj (G2 f (K.take (j+1))) (fun c m O=>a0.o c m (by unfold G2 at O;split at O;exact O;cases O)) s;have e7:=a0.o _ _ a1;have z:=zN s K[j];have e8:∃g Q,e3[K[j].toNat]?=some (.slice (some ⟨g,0,none⟩) n.length Q):=by
     rcases b2.o K[j]with⟨h0,_⟩|⟨m,g,Q,H,D,_⟩
     ·rw[a1]at h0;cases h0
     rw[a1]at H;injection H with H;subst H;exact⟨g,Q,D⟩
    obtain⟨g,g6,hg⟩:=e8;have T:=(B.cell (p:=⟨R,K[j].toNat,none⟩) Z).trans ((I.cell _).trans hg);have b7:(K[j].toNat:Int)<256:=by have:=K[j].toNat_lt;omega
    clear hg a1;have a4:=fun W=>zL s K[j] W
    generalize K[j]=k at ck E z T b7 a4;generalize n.length=N at b5 e7 E T;generalize s.count k=d at E z a4;by_cases h0:d=0
    ·subst h0;have q:=AE (show S=(Ct (G2 f (K.take (j+1))) s).length/\h=Gh (G2 f (K.take (j+1))) s from by
      rw[E.o.1,E.o.2,A.o.1,A.o.2];simp)
     clear E;go_wp2_with fail;refine(a4 _).mono ?_;rintro e w'⟨rfl,rfl⟩;go_wp2;go_roundw
     case rel=>exact⟨j+1,S,h,aj,aa,rfl,rfl,q,b4,B⟩
     simp[intOf];omega
    have g7:((d:Int)!=0)=true:=gi
    have a5:(d:Int)*((N:Int)-1)=((d*(N-1):Nat):Int):=by rw[Int.natCast_mul,Int.natCast_sub b5];rfl
    have a6:=E.o.1;rw[<-A.o.1]at a6;have q:=AE (show S+d*(N-1)=(Ct (G2 f (K.take (j+1))) s).length/\true=Gh (G2 f (K.take (j+1))) s from⟨a6.symm,by rw[E.o.2];simp[h0]⟩);have b8:S+d*(N-1)<=100000000000:=by rw[<-a6];omega
    have z1:IntKind.i64.wrap ((N:Int)-1)=(N:Int)-1:=CQ _ aa;have z2:IntKind.i64.wrap ((d:Int)*((N:Int)-1))=(d:Int)*((N:Int)-1):=CQ _ (by rw[a5];omega);have z3:IntKind.i64.wrap ((S:Int)+(d:Int)*((N:Int)-1))=(S:Int)+(d:Int)*((N:Int)-1):=CQ _ (by rw[a5];omega);have HV:=AE (by rw[a5,Int.natCast_add]:(S:Int)+(d:Int)*((N:Int)-1)=((S+d*(N-1):Nat):Int));clear E a6 a5 h0 d2;go_wp2_with fail;refine(a4 _).mono ?_;rintro e w'⟨rfl,rfl⟩;go_wp2_with fail;go_quiet(fail);go_wp2_with fail;rw[HV.o];go_roundw
    case rel=>exact⟨j+1,S+d*(N-1),true,aj,aa,rfl,rfl,q,b8,CO B _⟩
    simp[intOf];omega
   obtain rfl:j=K.length:=aa
   have r:=A.o;rw[CY,zK f K Ka.o]at r;have a2:=AE r;clear r;go_wp2;go_meet;exact⟨by rw[a2.o.1],by rw[a2.o.2],B⟩
  have b3:¬(K.length:Int)*8<=s.length:=aa
  rw[AY b3];go_wp2_with fail;go_loop[5,6,10] (fun t u i=>∃(j S:Nat)(h:Bool),i=j/\j<=s.length/\t=S/\u=h/\Hid (S=(Ct f (s.take j)).length+(s.length-j)/\h=Gh f (s.take j))/\S<=200000000000) (fun _ _ i=>s.length-(intOf i).toNat)
  case atStart=>exact⟨0,s.length,false,rfl,aa,rfl,rfl,AE ⟨by simp[Ct],by simp[Gh]⟩,aa⟩
  obtain⟨j,S,h,rfl,J,rfl,rfl,A,b4⟩:=hrel;by_cases G:j<s.length
  ·have F:=AE (jE f s j G);have Hh:=AE (zI f s j G);have d2:=Wj f a0.o (s.take (j+1));have b7:(s[j].toNat:Int)<256:=by have:=s[j].toNat_lt;omega
   rcases b2.o s[j]with⟨h0,H⟩|⟨m,g,Q,H,D,h3,h4,U⟩
   ·have T:=(I.cell _).trans H;have q:=AE (show S=(Ct f (s.take (j+1))).length+(s.length-(j+1))/\h=Gh f (s.take (j+1))from by
     rw[F.o,Hh.o,h0,A.o.1,A.o.2];simp;omega)
    clear F Hh h0 H;go_wp2_with fail
    go_round
    case rel=>exact⟨j+1,S,h,aj,aa,rfl,rfl,q,b4⟩
    simp[intOf];omega
   have T:=(I.cell _).trans D;have e9:=a0.o _ _ H;have q:=AE (show S+(m.length-1)=(Ct f (s.take (j+1))).length+(s.length-(j+1))/\true=Gh f (s.take (j+1))from by
    rw[F.o,Hh.o,H,A.o.1];simp;omega)
   have b8:S+(m.length-1)<=200000000000:=by
    rw[q.o.1];have:(s.take (j+1)).length<=s.length:=List.length_take_le' _ _;omega
   clear F Hh H D h3 U;go_wp2_with fail
   go_round
   case rel=>exact⟨j+1,S+(m.length-1),true,aj,aa,aj,rfl,q,b8⟩
   simp[intOf];omega
  obtain rfl:j=s.length:=aa
  have r:=A.o;rw[CY,Nat.sub_self,BI]at r;have a2:=AE r;clear r;go_wp2;go_meet;exact⟨by rw[a2.o.1],by rw[a2.o.2],AG _ _⟩
 obtain⟨rfl,rfl,B⟩:=hcut;obtain⟨y,rfl⟩:∃x:World,x=wc:=⟨_,rfl⟩;have b9:=AE (aG f s);generalize Gh f s=h at b9|-;cases h with
 |false=>
  have q:=AE (b9.o rfl);rw[q.o];go_wp2;go_ret;exact⟨by rw[q.o];rfl,B⟩
 |true=>
  clear b9;have HL:=AE (ca:(Ct f s).length=(Ct f s).length);generalize hL:(Ct f s).length=L at e4;have a7:=AE hL;clear HL;clear hL;have g8:L<=100000000000:=aa
  have f0:=fun W=>run_make_row' (P:=prog) 126 5 (.int .u8 0) 1 underlying126 Te rfl .i64 .i64 L aa aa W
  have d3:=AE (size_madeCells #[Value.int .u8 0] L);generalize madeCells #[Value.int .u8 0] L=C0 at f0 d3;have d4:=A0.new y C0 5;have f1:=AE d4;clear d4;go_wp2_with fail;go_loopw[13,14] (fun t i wr=>∃(j o:Nat)(C:List Value),i=j/\j<=s.length/\t=o/\Hid (o=(Ct f (s.take j)).length)/\o<=L/\A0 wr y.heap.size C.toArray 5/\Hid (C.length=L)/\Hid (C.take o=byteCells (Ct f (s.take j)))/\Below (y.heap.size) y wr) (fun _ i _=>s.length-(intOf i).toNat)
  case atStart=>exact⟨0,0,C0.toList,rfl,aa,rfl,AE rfl,aa,f1.o,AE (by simpa using d3.o),AE rfl,(AG _ _).alloc (AF _) _⟩
  obtain⟨j,o,C,rfl,J,rfl,ho,g9,V,z,c0,X⟩:=hrel;have h1:=V.lt;by_cases G:j<s.length
  ·have F:=AE (jE f s j G);have b7:(s[j].toNat:Int)<256:=by have:=s[j].toNat_lt;omega
   have r:(Ct f s).length=(Ct f (s.take (j+1))).length+(Ct f (s.drop (j+1))).length:=by
    conv=>lhs;rw[<-CE (j+1) s]
    unfold Ct;rw[CZ,AJ]
   rw[a7.o]at r;rcases b2.o s[j]with⟨h0,H⟩|⟨m,g,Q,H,D,h3,h4,U⟩
   ·have T:=(X.cell (p:=⟨R,s[j].toNat,none⟩) (BN Z B.size)).trans ((B.cell (p:=⟨R,s[j].toNat,none⟩) Z).trans ((I.cell _).trans H));have M:Ct f (s.take (j+1))=Ct f (s.take j)++[s[j]]:=by rw[F.o,h0];rfl
    have a3:o+1=(Ct f (s.take (j+1))).length:=by rw[M,ho.o];simp
    have c1:=AE M;clear M;have Y:o<L:=aa
    have c2:=AE a3;clear a3 r F h0 H;have d5:=V.cell o;have h2:=V.free o;have d6:C.toArray[o]?=some (C[o]'(by rw[z.o];exact Y)):=ah
    have co:=d5.trans d6;clear d6 d5;generalize(C[o]'(by rw[z.o];exact Y))=old at co;go_wp2_with fail;have f2:=V.set o (.int .u8 (s[j].toNat:Int));go_roundw
    case rel=>exact⟨j+1,o+1,C.set o (.int .u8 (s[j].toNat:Int)),aj,aa,aj,AE c2.o,aa,by simpa using f2,AE (by simpa using z.o),AE (by
     rw[c1.o];rw[AZ (by simp;rw[z.o];exact Y),List.take_set_of_le (AF _),c0.o];simp[byteCells]),X.setCell (AF _) _⟩
    simp[intOf];omega
   have T:=(X.cell (p:=⟨R,s[j].toNat,none⟩) (BN Z B.size)).trans ((B.cell (p:=⟨R,s[j].toNat,none⟩) Z).trans ((I.cell _).trans D));have e9:=a0.o _ _ H;have d7:=(U.below B U.lt).below X (BN U.lt B.size);have f3:=AE d7;clear d7;have M:Ct f (s.take (j+1))=Ct f (s.take j)++m:=by rw[F.o,H];rfl
   have a3:o+m.length=(Ct f (s.take (j+1))).length:=by rw[M,ho.o];simp
   have c1:=AE M;clear M;have Y:o+m.length<=L:=aa
   have c2:=AE a3;clear a3 r F H D U;have z1:IntKind.i64.wrap ((o:Int)+(m.length:Int))=(o:Int)+(m.length:Int):=CQ _ aa;have i1:(o:Int)<=L:=aa
   have i2:(0:Int)<=o:=aa
   have i3:o<L:=aa
   have d8:wr.heap[y.heap.size]?=some (.cells C.toArray 5 (0,0)):=V;have f4:=AE d8;clear d8;have d9:∀j v,(byteCells m)[j]?=some v->wr.cell? ((⟨g,0,none⟩:Go.Addr).add j)=some v:=fun j v J=>by
    rw[Er];have e0:j<m.length:=by
     have:=(CB.1 J).1;simpa[byteCells]using this
    rw[f3.o.cell e0,<-J];simp[byteCells,e0]
   have f5:=AE d9;clear d9;have a8:=GR m;have q1:=AE (by rw[a8];exact(EX aa).symm:(byteCells m).length=Nat.min m.length (L-o));have q2:=AE (by rw[a8,z.o];exact Y:o+(byteCells m).length<=C.length);have q3:=AE (by intro v hv;simp[byteCells]at hv;obtain⟨x,_,rfl⟩:=hv;rfl:∀v∈byteCells m,v.oneCell'=true);have e1:=AE a8;clear a8;have e2:(prog.info? 5).map (·.size)=some 1:=af
   have f6:=AE e2;clear e2;have f7:=X.drew;have h5:¬L=o:=aa
   go_upto_region 28 with fail;go_region_law((refine step_copy_splice rfl _ _ 126 126 rfl 5 underlying126 f6.o (some ⟨y.heap.size,o,none⟩) (some ⟨g,0,none⟩) (L-o) (L-o) m.length Q rfl rfl y.heap.size o C 5 f4.o (byteCells m) q1.o (fun _=>⟨rfl,_,rfl,f5.o⟩) q2.o q3.o y.heap.size y f7 (AF _) ?_;intro w4 f8 f9;rw[e1.o]));all_goals
    go_wp2_with fail;have g0:w4.heap[y.heap.size]?=some (.cells (splice C o (byteCells m)).toArray 5 (0,0)):=f8;go_roundw
    case rel=>exact⟨j+1,o+m.length,splice C o (byteCells m),aj,aa,aj,AE c2.o,Y,g0,AE (by rw[length_splice _ _ _ q2.o];exact z.o),AE (by
     rw[c1.o];have e:(C.take o).length=o:=by rw[CH,z.o];omega
     unfold splice;rw[<-AP,<-e1.o,FW (by simp only[AJ];omega),CM (by simp only[AJ];omega),c0.o];simp[byteCells]),f9⟩
    simp[intOf];omega
  obtain rfl:j=s.length:=aa
  have c3:=ho.o;have c4:=c0.o;rw[CY]at c3 c4;rw[a7.o]at c3;have g1:=AE c4;clear c4;obtain rfl:o=L:=c3;have g2:=EP (P:=prog) wr 126 9 5 ⟨y.heap.size,0,none⟩ o (Ct f s) underlying126 underlying5 underlying9
   (fun j J=>by
    have O:=V.cell j;rw[Er,O];have H:(C.take o)[j]?=(byteCells (Ct f s))[j]?:=by rw[g1.o]
    rw[EF,AN (by have:=a7.o;omega)]at H;rw[List.getElem?_toArray,H];simp[byteCells,J])
  rw[a7.o]at g2;go_wp2;go_ret;exact⟨rfl,B.trans (X.mono B.size)⟩
variable {p P:List Pr}{w:World}{b R B:Nat}
def N3.set{v:Value}(h:N3 w v p){a:Go.Addr}(c:∀g,v.ownBlock=some g->g≠a.block)(x:Value):N3 (w.setCell a x) v p:=by
 obtain⟨b,C,H,t,d⟩:=h;have f:b≠a.block:=c b uq;refine⟨b,C,H,by rw[ER];exact t,fun k i=>?_⟩;have e:∀j,(w.setCell a x).cell? ⟨b,j,none⟩=w.cell? ⟨b,j,none⟩:=fun j=>World.cell?_setCell_other w a ⟨b,j,none⟩ x (fun h=>f (by rw[h]))
 rw[e,e];exact d k i
def zP(b B:Nat)(w0:World)(P:List Pr)(w:World):Prop:=∃R,w.cell? ⟨b,3,none⟩=some (.iface 378 (.pointer (some ⟨R,0,none⟩)))/\B<=R/\R≠b/\Ns w R B (Ex P) ((P.map fun p=>[p.1]).reverse)/\Below b w0 w
def Ns.keep{w w':World}{R B:Nat}{f:UInt8->Option Bs}{k:List Bs}(h:Ns w R B f k)(H:w'.heap[R]?=w.heap[R]?)(a:Og w w')(o:∀v,Do w B v k->Do w' B v k):Ns w' R B f k:=by
 obtain⟨c,v,b,d,e,g,i⟩:=h;exact⟨c,v,H.trans b,d,e.keep a,g,o v i⟩
def Ns.set{f:UInt8->Option Bs}{K:List Bs}(h:Ns w R B f K){c:Array Value}(H:A0 w b c 327)(e:R≠b)(k:Nat)(x:Value):Ns (w.setCell ⟨b,k,none⟩ x) R B f K:=h.keep (DJ w ⟨b,k,none⟩ x R e) (Zp H k x) (fun v a=>U0 a fun g d=>DJ w ⟨b,k,none⟩ x g (Sb a H ae g d))
def zQ(b:Nat)(v:Value)(P:List Pr)(ok:Nt P)(w:World)(a:A0 w b #[.int .u32 0,.int .i32 1,.int .u32 0,.nilIface,v] 327)(r:N3 w v P):Calls prog 266 #[.pointer (some ⟨b,0,none⟩)] w fun e W=>e=.returned (.tuple #[])/\Wg b (zP b w.heap.size w P) W:=by
 have t:=a.lt;have hC:=yH b _ _ _ _ v P ok w a r;clear r;go_enter func266,ntmps266;go_wp2_with fail;refine hC.mono ?_;rintro e l⟨R,rfl,g,i,d⟩;have h:=a.next d t;have K:=h.cell 3;have F:=h.free 3;have H:=h.set 3 (.iface 378 (.pointer (some ⟨R,0,none⟩)));have m:=H.cell 4;have n:=H.free 4;have f:=H.set 4 (.slice none 0 0);have c:R≠b:=aa
 have j:=(i.set h c 3 (.iface 378 (.pointer (some ⟨R,0,none⟩)))).set H c 4 (.slice none 0 0);have k:=((d.mono (HJ t)).setCell (p:=⟨b,3,none⟩) (AF _) (.iface 378 (.pointer (some ⟨R,0,none⟩)))).setCell (p:=⟨b,4,none⟩) (AF _) (.slice none 0 0);go_wp2_with fail
 go_end0
 exact⟨rfl,_,_,f,R,f.cell 3,g,c,j,k⟩
def zR(ok:Nt P):jH (Ex P) ((P.map (·.1)).reverse):=by
 have m:∀c n,Ex P c=some n->∃p∈P,p.1=c/\p.2=n:=fun c n h=>by
  unfold Ex at h;rw[BM]at h;obtain⟨p,d,a⟩:=h;have f:=List.find?_some d;exact⟨p,List.mem_of_find?_eq_some d,by simpa using f,a⟩
 refine⟨(List.pairwise_reverse.2 (ok.nodup.imp fun h=>h.symm)),by simp;exact ok.few,fun k e=>?_,fun c h=>?_,fun c n h=>?_⟩
 ·rw[KP,DN]at e;obtain⟨p,d,rfl⟩:=e;cases H:Ex P p.1 with
  |none=>
   unfold Ex at H;rw[Option.map_eq_none_iff,List.find?_eq_none]at H;exact absurd ah (H p d)
  |some n=>
   obtain⟨q,b,_,a⟩:=m _ _ H;exact⟨n,rfl,a▸(ok.fit q b).1⟩
 ·cases H:Ex P c with
  |none=>rw[H]at h;cases h
  |some n=>
   obtain⟨q,b,g,_⟩:=m _ _ H;rw[KP,DN];exact⟨q,b,g⟩
 obtain⟨q,b,_,a⟩:=m _ _ h;exact a▸(ok.fit q b).2
def jI(b:Nat)(v:Value)(P:List Pr)(ok:Nt P)(s:Bs)(w:World)(H:A0 w b #[.int .u32 0,.int .i32 0,.int .u32 0,.nilIface,v] 327)(r:N3 w v P)(f:∀g,v.ownBlock=some g->g≠b)(A:s.length<=1000000000):Calls prog 190 #[.pointer (some ⟨b,0,none⟩),s] w fun e i=>e=.returned (Ct (Ex P) s)/\Below b w i:=by
 have j:A0 (w.setCell ⟨b,1,none⟩ (.int .i32 1)) b #[.int .u32 0,.int .i32 1,.int .u32 0,.nilIface,v] 327:=H.set 1 (.int .i32 1);have O:=zQ b v P ok (w.setCell ⟨b,1,none⟩ (.int .i32 1)) j (r.set f _);have D:=yB b _ _ _ w H O;have M:=H.lt;have l:=zR ok;have E:=AE l;clear l;clear O j r f;have N:∀(F:Fn)(first C:Array Value)(w:World),(Instr.makeFunc F first C).run prog w=.ok (.func F first C) w:=fun _ _ _ _=>rfl
 go_enter func190,ntmps190;go_wp2_with fail;refine D.mono ?_;rintro e i⟨W,⟨G,V,m,R,n,I,a,o,B⟩,rfl,rfl⟩;have q:Below b w W.drew:=(((AG b w).setCell (p:=⟨b,1,none⟩) (AF _) (.int .i32 1)).trans B).drew;have c:=(q.setCell (p:=⟨b,0,none⟩) (AF _) (.int .u32 1)).setCell (p:=⟨b,1,none⟩) (AF _) (.int .i32 0);have h:=m.drew;have t:=(h.set 0 (.int .u32 1)).set 1 (.int .i32 0);have u:W.drew.cell? ⟨b,3,none⟩=some (.iface 378 (.pointer (some ⟨R,0,none⟩))):=n;have x:G=.iface 378 (.pointer (some ⟨R,0,none⟩)):=by
  have:=h.cell 3;rw[u]at this;simpa using this.symm
 have K:=t.cell 3;rw[x]at K;have y:Ns W.drew R _ (Ex P) ((P.map fun p=>[p.1]).reverse):=o;have d:=(y.set h a 0 (.int .u32 1)).set (h.set 0 (.int .u32 1)) a 1 (.int .i32 0);have e:(P.map fun p=>[p.1]).reverse=((P.map (·.1)).reverse).map fun k=>[k]:=by rw[List.map_reverse,IQ];rfl
 rw[e]at d;have z:=AE d;generalize(W.drew.setCell ⟨b,0,none⟩ (.int .u32 1)).setCell ⟨b,1,none⟩ (.int .i32 0)=J at K z c|-;clear e d y x u t h q B o n m D I a;go_wp2_with fail;refine(zO R _ (Ex P) _ E.o s J z.o A).mono ?_;rintro e Q⟨rfl,L⟩;go_wp2;go_ret;exact⟨rfl,c.trans (L.mono (by have:=c.size;omega))⟩
def Nt.of(h:(decide (2<=P.length)&&decide (P.length<=100)&&decide ((P.map (·.1)).Nodup)&&P.all (fun p=>decide (1<=p.2.length)&&decide (p.2.length<=100))&&P.any (fun p=>decide (p.2.length≠1)))=true):Nt P:=by
 simp only[BR,EL,AW,KQ]at h;obtain⟨⟨⟨⟨H,a⟩,b⟩,c⟩,d⟩:=h;exact⟨H,a,b,c,d⟩
end Go.Proofs.YtignjjnflcpiiaaGreatDoor
