/- strings.IndexRune finds no rune from 128 on in a text of -/
import Derived.Deep.RegionHeld3
import Derived.Lib.SpaceUEq
import Derived.Test.YtignjjnflcpiiaaGreatDoorS03
set_option maxHeartbeats 4000000
set_option maxRecDepth 100000
namespace Go.Proofs.YtignjjnflcpiiaaGreatDoor
open Go Go.RowKit Proofs.Tryz Lib
theorem pO(r:Int)(w:World):Calls prog 293 #[.int .i32 r] w fun e W=>e=.returned (.bool (validRune r))∧w=W:=by
 by_cases h:0≤r∧r<55296
 ·obtain⟨a,b⟩:=h;have H:=AB (by unfold validRune;rw[BD];omega:validRune r=true);go_enter func293,ntmps293;go_wp2_with fail;go_ret;exact⟨Ba H.o.symm,rfl⟩
 by_cases f:57343<r∧r≤1114111
 ·obtain⟨a,b⟩:=f;have c:¬r<55296:=by omega
  have d:0≤r:=by omega
  have H:=AB (by unfold validRune;rw[BD];omega:validRune r=true);clear h;go_enter func293,ntmps293;go_wp2_with fail;go_ret;exact⟨Ba H.o.symm,rfl⟩
 have H:=AB (by unfold validRune;rw[AX];omega:validRune r=false);have g:=AB h;clear h;have i:=AB f;clear f;go_enter func293,ntmps293;go_wp2_with fail;all_goals
  go_ret;exact⟨Ba (by have a:=H.o;have b:=g.o;have c:=i.o;first|exact a.symm|(rw[a];done)|(rw[a];simp;omega)),rfl⟩
theorem Qj(c:UInt8):((c.toNat:Int)).toNat.toUInt8=c:=by simp
theorem Vg(l:List UInt8)(c:Int)(d:UInt8)(H:c.toNat.toUInt8=d)(w:World):Calls prog 100 #[.string ⟨l.toArray⟩,.int .u8 c] w fun e W=>e=.returned (.int .i64 (indexByte l d))∧W=w:=(Mi l c d H w).mono fun _ _ h=>⟨h.1,h.2.symm⟩
theorem pP(l:List UInt8)(r:Int)(h:128≤r)(s:r≤1114111)(a:∀c∈l,c.toNat<128)(u:l.length≤100)(w:World):Calls prog 257 #[.string ⟨l.toArray⟩,.int .i32 r] w fun e W=>e=.returned (.int .i64 (-1))∧Below w.heap.size w W:=by
 have N:¬r<128:=by omega
 have y:(0:Int)≤r:=by omega
 have H:=AB a;clear a;go_enter func257,ntmps257;by_cases b:r=65533
 ·subst b;go_wp2_with fail
  go_loopg [] l.length (fun g x=>∃i:Nat,i+g=l.length∧x=w.iter ⟨l.toArray⟩ i)
  case atStart=>exact⟨0,by omega,rfl⟩
  obtain⟨i,z,rfl⟩:=hrel;cases gk with
  |zero=>
   obtain rfl:i=l.length:=by omega
   have j:=run_next_end (P:=prog) w ⟨l.toArray⟩ l.length;go_wp2_with fail;go_ret;exact⟨rfl,(AD _ _).alloc (AC _) _⟩
  |succ g=>
   have m:i<l.length:=by omega
   have n:l[i].toNat<128:=H.o l[i] (AN _);have j:=fun t=>run_next_ascii (P:=prog) w ⟨l.toArray⟩ i t m n
   have A:((l[i].toNat:Int)==65533)=false:=by rw[AG];omega
   go_wp2_with fail
   go_roundg g
   case measure=>omega
   exact⟨i+1,by omega,rfl⟩
 have C:(r==65533)=false:=by rw[AG];exact b
 go_wp2_with fail;refine(pO r _).mono ?_;rintro e D⟨rfl,rfl⟩;cases v:validRune r with
 |false=>
  clear v;go_wp2_with fail;go_ret;exact⟨rfl,AD _ _⟩
 |true=>
  obtain⟨o,p,f⟩:=encode_facts r (by rw[validRune_eq];exact v) h;have F:=AB f;clear f v;go_wp2_with fail
  go_step3
  go_wp2_with fail;refine wp_loop_rounds 1 ?_;rw[rounds_succ];generalize Utf8.encode r=E at o p F⊢;obtain⟨k,d⟩:∃k:Nat,(E.size:Int)-1=(k:Int):=⟨E.size-1,by omega⟩;simp only[d];have X:k<E.size:=by omega
  have G:128≤(E[k].toNat:Int):=by
   obtain rfl:k=E.size-1:=by omega
   have:=F.o (by omega);omega
  clear d F;by_cases I:k<l.length
  ·go_wp2_with fail
   go_step3
   go_wp2_with fail;have J:((l[k].toNat:Int)!=(E[k].toNat:Int))=true:=by
    have:=H.o l[k] (AN _);rw[CZ];omega
   have K:indexByte (l.drop (k+1)) E[k]=-1:=by
    rw[Ud,Ke.2];intro q;have:=H.o _ (IK q);omega
   go_quiet(fail);go_wp2_with fail;have Y:IntKind.i64.wrap ((k:Int)+1)=(k:Int)+1:=CI _ (by omega);have L:(0:Int)≤(k:Int)+1:=by omega
   have M:((k:Int)+1).toNat=k+1:=by omega
   have B:=CB (AD w.heap.size w) nq;generalize w.drewN nq=O at B⊢;go_quiet((go_at_call 100;exact FZ (Vg (l.drop (k+1)) (E[k].toNat:Int) E[k] (Qj E[k]) _)));go_wp2_with fail;rw[Exit.noGoto_ret];go_simp;go_ret;exact⟨rfl,CB B _⟩
  go_wp2_with fail;rw[Exit.noGoto_ret];go_ret;exact⟨rfl,AD _ _⟩
theorem Qk(l:Bs)(j:Nat)(h:j<l.length):(⟨l.toArray⟩:ByteArray).get! j=l[j]:=by
 show(l.toArray)[j]! =_;simp[h]
theorem Zk(l:Bs)(pos:Nat)(h:pos<l.length)(b:128≤l[pos].toNat):128≤(Utf8.decode ⟨l.toArray⟩ pos).1∧pos+(Utf8.decode ⟨l.toArray⟩ pos).2≤l.length∧∀j(H:j<l.length),pos≤j→j<pos+(Utf8.decode ⟨l.toArray⟩ pos).2→128≤l[j].toNat:=by
 have s:(⟨l.toArray⟩:ByteArray).size=l.length:=by simp[ByteArray.size]
 rw[decode_at,s,Qk l pos h];have k:=decodeN_conts (l.length-pos) l[pos].toNat ((⟨l.toArray⟩:ByteArray).get! (pos+1)).toNat ((⟨l.toArray⟩:ByteArray).get! (pos+2)).toNat ((⟨l.toArray⟩:ByteArray).get! (pos+3)).toNat;have c:=decodeN_cases (l.length-pos) l[pos].toNat ((⟨l.toArray⟩:ByteArray).get! (pos+1)).toNat ((⟨l.toArray⟩:ByteArray).get! (pos+2)).toNat ((⟨l.toArray⟩:ByteArray).get! (pos+3)).toNat;have G:=decodeN_ge1 (l.length-pos) l[pos].toNat ((⟨l.toArray⟩:ByteArray).get! (pos+1)).toNat ((⟨l.toArray⟩:ByteArray).get! (pos+2)).toNat ((⟨l.toArray⟩:ByteArray).get! (pos+3)).toNat;obtain⟨K,d,e,q⟩:=k;refine⟨?_,by omega,?_⟩
 ·rcases c with c|⟨f,g,i,C,a⟩|⟨f,g,i,C,a,m⟩|c|c
  ·omega
  ·rw[a];exact C
  ·rw[m];simp only;omega
  ·omega
  rw[c];decide
 intro j H r t;by_cases E:j=pos
 ·subst E;exact b
 by_cases n:j=pos+1
 ·subst n;have:=(K (by omega)).1;rw[Qk l _ H]at this;omega
 by_cases o:j=pos+2
 ·subst o;have:=(d (by omega)).1;rw[Qk l _ H]at this;omega
 have p:j=pos+3:=by omega
 subst p;have:=(e (by omega)).1;rw[Qk l _ H]at this;omega
theorem Zl(l:Bs)(pos:Nat)(h:pos<l.length)(H:l[pos].toNat<128):Utf8.decode ⟨l.toArray⟩ pos=(l[pos].toNat,1):=by
 rw[decode_at,Qk l pos h];unfold decodeN;rw[AM H]
theorem Zm(p:Nat→Bool)(a:∀r,128≤r→p r=true)(l:Bs):∀(f pos:Nat),l.length≤pos+f→decide (0≤idxFuncFrom p true ⟨l.toArray⟩ f pos)=(l.drop pos).any fun c=>p c.toNat
 |0,pos,h=>by
  rw[BK (by omega)];simp[idxFuncFrom]
 |f+1,pos,h=>by
  unfold idxFuncFrom;have s:(⟨l.toArray⟩:ByteArray).size=l.length:=by simp[ByteArray.size]
  rw[s];by_cases H:pos<l.length
  ·rw[AM H,AE H,FH];by_cases b:l[pos].toNat<128
   ·rw[Zl l pos H b];simp only;cases q:p l[pos].toNat with
    |true=>simp
    |false=>
     simp only[BU,DJ,IV];exact Zm p a l f (pos+1) (by omega)
   have d:=(Zk l pos H (by omega)).1;rw[AM (a _ d),a l[pos].toNat (by omega)];simp
  rw[AI H,BK (by omega)];simp
theorem Vh(g:Nat)(E:∀a w,(callFunc g a).run prog w=.ok (.enter g a) w)(p:Nat→Bool)(h:∀r,128≤r→p r=true)(l:Bs)(lb:Array Value)(w:World)(H:PredGrows prog g lb p w):Calls prog 175 #[.string ⟨l.toArray⟩,.func (.func g) #[] lb] w fun e W=>e=.returned (.bool (l.any fun c=>p c.toNat))∧Below w.heap.size w W:=by
 refine(Tryz.strings_ContainsFunc_grows g lb E p ⟨l.toArray⟩ w H).mono ?_;rintro e W⟨rfl,b⟩;unfold idxFunc;rw[Zm p h l _ 0 (by simp[ByteArray.size])];exact⟨rfl,b⟩
theorem pQ(l cs:Bs)(z:cs.all (fun b=>decide (b.toNat<128))=true)(S:2≤cs.length)(T:cs.length≤100)(h8:l.length≤8)(w:World):Calls prog 178 #[.string ⟨l.toArray⟩,.string ⟨cs.toArray⟩] w fun e f=>e=.returned (.int .i64 (indexAny l cs))∧Below w.heap.size w f:=by
 have A:∀c∈cs,c.toNat<128:=fun c r=>by
  have:=AW.1 z c r;simpa using this
 have B:=AB A;clear A z;have a0:cs.isEmpty=false:=by
  cases cs with
  |nil=>simp at S
  |cons _ _=>rfl
 have a1:((cs.length:Int)==1)=false:=AG.2 (by omega);have a2:decide ((8:Int)<(l.length:Int))=false:=AX (by omega);go_enter func178,ntmps178;go_wp2_with fail;refine(Tryz.strings_shouldUseASCIISet _ _).mono ?_;rintro e f⟨rfl,m⟩;obtain rfl:=m.symm;go_wp2_with fail
 go_loopg [9,10] l.length (fun g _ _ C=>∃i:Nat,i+g≥l.length∧i≤l.length∧C.heap[w.heap.size]?=some (.stringIter ⟨l.toArray⟩ i)∧Below w.heap.size w C∧NoAny l cs i)
 case atStart=>exact⟨0,by omega,by omega,World.iter_heap w _ 0,(AD _ w).alloc (AC _) _,NoAny.zero _ _⟩
 obtain⟨i,a3,a4,E,F,G⟩:=hrel;have N:=AB G;clear G;have u:=AB E;clear E;by_cases o:i<l.length
 ·have s:i<(⟨l.toArray⟩:ByteArray).size:=by simpa[ByteArray.size]using o
  have a:∀t,(Instr.next (.pointer (some ⟨w.heap.size,0,none⟩)) true t).run prog wr=_:=fun t=>run_next_any_at wr w.heap.size ⟨l.toArray⟩ i t u.o s
  have h:=below_iterAt F (k:=w.heap.size) (AC _) ⟨l.toArray⟩ (i+(Utf8.decode ⟨l.toArray⟩ i).2);have H:=AB (iterAt_heap wr w.heap.size ⟨l.toArray⟩ i (i+(Utf8.decode ⟨l.toArray⟩ i).2) u.o);obtain⟨g,rfl⟩:∃g,gk=g+1:=⟨gk-1,by omega⟩;by_cases r:l[i].toNat<128
  ·have I:=Zl l i o r;rw[I]at a h H;simp only at a h H;have v:=AB (show l[i]?=some l[i]from AZ o);clear I;generalize wr.iterAt w.heap.size ⟨l.toArray⟩ (i+1)=W at a h H;generalize l[i]=x at a r v;have n:=contains_iff_indexByte cs x;have J:((x.toNat:Int)).toNat.toUInt8=x:=Qj x;cases d:cs.contains x
   ·rw[d]at n;have a5:¬((0:Int)≤indexByte cs x):=of_decide_eq_false n.symm;clear n;have y:=AB d;clear d;go_wp2_with fail;refine(Tryz.strings_IndexRune_ascii _ _ _ (by omega) (by omega)).mono ?_;rintro e f⟨rfl,m⟩;obtain rfl:=m.symm;rw[J];go_wp2_with fail
    go_roundg g
    case measure=>omega
    exact⟨i+1,by omega,by omega,H.o,h,N.o.succ v.o y.o⟩
   rw[d]at n;have a6:(0:Int)≤indexByte cs x:=EE n.symm;clear n;have y:=AB d;clear d;go_wp2_with fail;refine(Tryz.strings_IndexRune_ascii _ _ _ (by omega) (by omega)).mono ?_;rintro e f⟨rfl,m⟩;obtain rfl:=m.symm;rw[J];go_wp2_with fail;go_ret;exact⟨by rw[indexAny_hit N.o v.o y.o];rfl,h⟩
  obtain⟨L,M,O⟩:=Zk l i o (by omega);have P:=decode_width_pos ⟨l.toArray⟩ i s;have Q:=rune_le ⟨l.toArray⟩ i;have p:NoAny l cs (i+(Utf8.decode ⟨l.toArray⟩ i).2):=fun j b U q=>by
   by_cases V:j<i
   ·exact N.o j b V q
   obtain⟨X,rfl⟩:=CM.1 q;have a7:=O j X (by omega) U;rw[AP];intro Y;have:=B.o l[j] (GF.1 Y);omega
  have p:=AB p;clear O;generalize Utf8.decode ⟨l.toArray⟩ i=D at a h H L M P Q p;obtain⟨R,K⟩:=D;simp only at a h H L M P Q p;generalize wr.iterAt w.heap.size ⟨l.toArray⟩ (i+K)=W at a h H;have Z:w.heap.size<W.heap.size:=(Array.getElem?_eq_some_iff.1 H.o).1;go_wp2_with fail;refine(pP cs (R:Int) (by omega) (by omega) B.o T _).mono ?_;rintro e f⟨rfl,q⟩;go_wp2_with fail
  go_roundg g
  case measure=>omega
  exact⟨i+K,by omega,by omega,(q.block _ Z).trans H.o,h.trans (q.mono h.size),p.o⟩
 have s:¬i<(⟨l.toArray⟩:ByteArray).size:=by simpa[ByteArray.size]using o
 have a:∀t,(Instr.next (.pointer (some ⟨w.heap.size,0,none⟩)) true t).run prog wr=_:=fun t=>run_next_end_at wr w.heap.size ⟨l.toArray⟩ i t u.o s
 obtain rfl:i=l.length:=by omega
 go_wp2_with fail;go_ret;exact⟨by rw[indexAny_none N.o];rfl,F⟩
theorem Vi(l cs:Bs)(h:cs.all (fun b=>decide (b.toNat<128))=true)(H:2≤cs.length)(a:cs.length≤100)(c:l.length<4294967281)(w:World):Calls prog 178 #[.string ⟨l.toArray⟩,.string ⟨cs.toArray⟩] w fun e W=>e=.returned (.int .i64 (indexAny l cs))∧Below w.heap.size w W:=by
 by_cases d:l.length≤8
 ·exact pQ l cs h H a d w
 have v:∀w,(zeroValue 235).run prog w=.ok (.agg (Array.replicate 256 (.bool false))) w:=fun w=>by kernel_rfl
 refine(Tryz.strings_IndexAny_long v ⟨l.toArray⟩ ⟨cs.toArray⟩ w (by simpa[ByteArray.size]using H) (by simp[ByteArray.size];omega) (by simpa[ByteArray.size]using c) (by simp[ByteArray.size];omega) (fun j b f=>?_)).mono ?_
 ·have:=AW.1 h b (DD f);simpa using this
 rintro e W⟨rfl,rfl⟩;exact⟨rfl,((AD _ _).alloc (AC _) _).alloc (by simp) _⟩
theorem pR(r:Nat)(c:r≤1114111)(w:World):Calls prog 176 #[.int .i32 (r:Int)] w fun e W=>e=.returned (.bool (Fj r))∧w=W:=by
 by_cases h:r<33
 ·have H:=AB (by unfold Fj;rw[BD h];rfl:Fj r=true);go_enter func176,ntmps176;go_wp2_with fail;go_ret;exact⟨Ba H.o.symm,rfl⟩
 by_cases a:126<r
 ·have H:=AB (by unfold Fj;rw[BD a];simp:Fj r=true);go_enter func176,ntmps176;go_wp2_with fail;go_ret;exact⟨Ba H.o.symm,rfl⟩
 have H:=AB (by unfold Fj;rw[AX h,AX a,contains_iff_indexByte];rfl:Fj r=decide (0≤indexByte Od r.toUInt8));have d:(0:Int)≤r:=by omega
 go_enter func176,ntmps176;go_wp2_with fail;refine(Tryz.strings_ContainsRune_ascii _ _ _ (by omega) (by omega)).mono ?_;rintro e W⟨rfl,b⟩;obtain rfl:=b.symm;go_wp2_with fail;go_ret;exact⟨Ba (by rw[H.o,AX (show¬(r:Int)<33 by omega),AX (show¬(126:Int)<r by omega)];rfl),rfl⟩
theorem pS(w:World):PredGrows prog 176 #[] Fj w:=fun W x h _=>
 (pR x h W).mono fun _ _⟨H,a⟩=>⟨H,a▸AD _ _⟩
theorem Mr(s:Bs)(w:World)(l:s.length≤1000000000000):Calls prog 90 #[.string ⟨s.toArray⟩] w fun e b=>e=.returned (.bool (Ae s))∧Below w.heap.size w b:=by
 have h:=fun W=>Vh 176 (enters_of func176 (by kernel_rfl) rfl) Fj mB s #[] W (pS W)
 have H:=AB (by rfl:Ae s=(!s.isEmpty&&!(s.any fun c=>Fj c.toNat)));generalize(s.any fun c=>Fj c.toNat)=q at h H;by_cases a:s=[]
 ·subst a;go_enter func90,ntmps90;go_wp2_with fail;go_ret;exact⟨Ba (by rw[H.o];rfl),AD _ _⟩
 have d:s.isEmpty=false:=by rw[AP];simpa using a
 go_enter func90,ntmps90;go_wp2_with fail;refine(h _).mono ?_;rintro e g⟨rfl,f⟩;go_wp2_with fail;go_ret;exact⟨Ba (by rw[H.o,d];rfl),f⟩
theorem pT:((List.range 256).all fun n=>Bx n.toUInt8==(decide (32≤(n.toUInt8.toNat:Int))&&decide ((n.toUInt8.toNat:Int)≤126)))=true:=by kernel_rfl
theorem Ni(c:UInt8):Bx c=(decide (32≤(c.toNat:Int))&&decide ((c.toNat:Int)≤126)):=by
 have:=AW.1 pT c.toNat (BY.2 c.toNat_lt);rw[show c.toNat.toUInt8=c by simp]at this;exact BG.1 this
theorem Ou{c d:UInt8}(h:c≠d):((c.toNat:Int)==(d.toNat:Int))=false:=by
 rw[AG];intro e;exact h (BJ.1 (by omega))
def Hz(x:Bs×Bs×Bool):Value:=.tuple #[.string ⟨x.1.toArray⟩,.string ⟨x.2.1.toArray⟩,.bool x.2.2]
theorem pU(s:Bs)(w:World)(l:s.length≤1000000000)(p:hasPrefix s [34]=false):Calls prog 93 #[.string ⟨s.toArray⟩] w fun e b=>e=.returned (Hz (Cy s))∧Below w.heap.size w b:=by
 have T:=AB (by unfold Cy;rw[AI (by rw[p];decide),Rv,Up]:Cy s=(s.take (s.takeWhile fun c=>!Eh c).length,s.drop (s.takeWhile fun c=>!Eh c).length,Ae (s.take (s.takeWhile fun c=>!Eh c).length)));have d:=Oe (fun c=>!Eh c) s;have I:=Of [59,32,9] s;change indexAny s [59,32,9]=if(s.takeWhile fun c=>!Eh c).length=s.length then-1 else((s.takeWhile fun c=>!Eh c).length:Int)at I
 generalize(s.takeWhile fun c=>!Eh c).length=K at T d I;have f:=AB I;clear I;have P:=AB p;clear p;go_enter func93,ntmps93;go_wp2_with fail;refine(Jc s [34] _).mono ?_;rintro e b⟨rfl,rfl⟩;rw[P.o];go_wp2_with fail;refine(Vi s [59,32,9] (by decide) (by decide) (by decide) (by omega) _).mono ?_;rintro e j⟨rfl,H⟩;rw[f.o];have k:=fun W=>Mr (s.take K) W (by simp;omega)
 by_cases h:K=s.length
 ·subst h;rw[AM rfl];rw[CQ]at k;have g:=AB (by rw[T.o,CQ,AQ]:Cy s=(s,[],Ae s));clear T;go_wp2_with fail
  go_region_with ((go_at_call 90;refine(k _).mono ?_;rintro e i⟨rfl,a⟩))
  all_goals
   go_wp2_with fail;refine AL (v:=Hz (s,[],Ae s)) (by simp[results,results93,go_sem,Hz];rfl) rfl ⟨by rw[g.o],by first|exact H.trans (a.mono H.size)|exact H.drew.trans (a.mono H.drew.size)⟩
 rw[AI h];have t:K<s.length:=by omega
 go_wp2_with fail
 go_region_with ((go_at_call 90;refine(k _).mono ?_;rintro e i⟨rfl,a⟩))
 all_goals
  go_wp2_with fail;refine AL (v:=Hz (s.take K,s.drop K,Ae (s.take K))) (by simp[results,results93,go_sem,Hz]) rfl ⟨by rw[T.o],by first|exact H.trans (a.mono H.size)|exact H.drew.trans (a.mono H.drew.size)⟩
theorem pV(s:Bs)(w:World)(hl:s.length≤1000000000)(p:hasPrefix s [34]=true):Calls prog 93 #[.string ⟨s.toArray⟩] w fun e n=>e=.returned (Hz (Cy s))∧Below w.heap.size w n:=by
 have T:=AB (by unfold Cy;rw[AM p];rfl:Cy s=match Bc (s.drop 1)with|none=>([],[],false)|some x=>(x.1,x.2,true));have P:=AB p;have a1:1≤s.length:=by
  cases s with
  |nil=>simp[hasPrefix]at p
  |cons _ _=>simp
 clear p;have D:=N9 w;go_enter func93,ntmps93;go_wp2_with fail;refine(Jc s [34] _).mono ?_;rintro e n⟨rfl,rfl⟩;rw[P.o];go_wp2_with fail;go_loopw[7] (fun i wr=>∃(k:Nat)(o:Bs),i=.int .i64 k∧1≤k∧k≤s.length∧o.length≤k∧Dc w.heap.size w.heap.size o wr∧(Bc (s.drop k)).map (fun x=>(o++x.1,x.2))=Bc (s.drop 1)∧Below w.heap.size w wr) (fun i _=>s.length-(intOf i).toNat)
 case atStart=>exact⟨1,[],rfl,by omega,by omega,by simp,D,by simp,by go_grown⟩
 obtain⟨k,o,rfl,a2,hk,a3,f,q,B⟩:=hrel;have l:=AB q;clear q;by_cases g:k<s.length
 ·by_cases a:s[k]=34
  ·have N:=AB (show Cy s=(o,s.drop (k+1),true)from by
    rw[T.o,←l.o,AE g,a];cases hd:s.drop (k+1)<;>simp[Bc])
   have a4:((s[k].toNat:Int)==34)=true:=by rw[a];rfl
   clear a;go_wp2_with fail;have y1:IntKind.i64.wrap ((k:Int)+1)=(k:Int)+1:=CI _ (by omega);have y2:(0:Int)≤(k:Int)+1:=by omega
   have y3:((k:Int)+1).toNat=k+1:=by omega
   have y4:(k:Int)+1≤s.length:=by omega
   have S:=fun W(E:Dc w.heap.size w.heap.size o W)(F:w.heap.size≤W.heap.size)=>Oi w.heap.size w.heap.size o W E F
   have G:=f.drew;have r:=B.drew;have K:=r.size;go_region_law((go_simp;refine(S _ (by first|exact G|exact f) (by first|exact K|exact B.size)).mono ?_;rintro e L⟨rfl,b⟩));all_goals
    go_wp2_with fail;refine AL (v:=Hz (o,s.drop (k+1),true)) (by simp[results,results93,go_sem,Hz]) rfl ⟨by rw[N.o],by first|exact r.trans b|exact B.trans b⟩
  obtain⟨j,hj,a5,u,y,z⟩:=mG s k g a;have M:((s[k].toNat:Int)==34)=false:=Ou a;have c:=AB z;clear z;have A:=AB u;clear u;have m:=AB y;clear y a;go_upto_block 2 with fail;go_cut[7] (fun t O=>t=.int .i64 j∧O=wr)
  case first=>
   by_cases H:s[k]=92
   ·have Q:((s[k].toNat:Int)==92)=true:=by rw[H];rfl
    by_cases C:k+1<s.length
    ·have J:=AB (A.o ⟨H,C⟩);have R:(k:Int)+1<s.length:=by omega
     clear H;go_wp2_with fail;go_meet;exact⟨by rw[J.o];go_num,rfl⟩
    have J:=AB (m.o (fun h=>C h.2));have R:(s.length:Int)≤(k:Int)+1:=by omega
    clear H;go_wp2_with fail;go_meet;exact⟨by rw[J.o],rfl⟩
   have J:=AB (m.o (fun h=>H h.1));have Q:((s[k].toNat:Int)==92)=false:=Ou H;clear H;go_wp2_with fail;go_meet;exact⟨by rw[J.o],rfl⟩
  obtain⟨rfl,rfl⟩:=hcut;obtain⟨wr,rfl⟩:∃x:World,x=wc:=⟨_,rfl⟩;clear M A m g;have I:=AB (Ni s[j]);have a6:(s[j].toNat:Int)<256:=by have:=s[j].toNat_lt;omega
  by_cases d:32≤(s[j].toNat:Int)∧(s[j].toNat:Int)≤126
  ·obtain⟨U,V⟩:=d;have X:=AB (show(Bc (s.drop (j+1))).map (fun x=>((o++[s[j]])++x.1,x.2))=Bc (s.drop 1)from by
    rw[←l.o,c.o,I.o,BD U,BD V];cases Bc (s.drop (j+1))<;>simp)
   clear c I;go_wp2_with fail;refine(Mj w.heap.size w.heap.size o _ s[j] rfl _ f (by omega) B.size).mono ?_;rintro e L⟨rfl,b,Y⟩;go_wp2_with fail;go_roundw
   case rel=>exact⟨j+1,o++[s[j]],by go_num,by omega,by omega,by simp;omega,b,X.o,B.trans Y⟩
   simp[intOf];omega
  have N:=AB (show Cy s=([],[],false)from by
   have Z:Bx s[j]=false:=by
    rw[I.o,AP];intro h;simp at h;exact d h
   rw[T.o,←l.o,c.o,Z];rfl)
  have a0:=AB d;clear d c I;by_cases a7:(s[j].toNat:Int)<32
  ·go_wp2_with fail;refine AL (v:=Hz ([],[],false)) (by simp[results,results93,go_sem,Hz]) rfl ⟨by rw[N.o],B⟩
  have a8:126<(s[j].toNat:Int):=by have:=a0.o;omega
  go_wp2_with fail;refine AL (v:=Hz ([],[],false)) (by simp[results,results93,go_sem,Hz]) rfl ⟨by rw[N.o],B⟩
 obtain rfl:k=s.length:=by omega
 have N:=AB (by rw[T.o,←l.o,AQ];rfl:Cy s=([],[],false));go_wp2_with fail;refine AL (v:=Hz ([],[],false)) (by simp[results,results93,go_sem,Hz]) rfl ⟨by rw[N.o],B⟩
theorem pW(s:Bs)(w:World)(h:s.length≤1000000000):Calls prog 93 #[.string ⟨s.toArray⟩] w fun e W=>e=.returned (Hz (Cy s))∧Below w.heap.size w W:=by
 cases H:hasPrefix s [34]with
 |true=>exact pV s w h H
 |false=>exact pU s w h H
theorem Sg(n:Nat)(h:n<64):(⟨#[65,66,67,68,69,70,71,72,73,74,75,76,77,78,79,80,81,82,83,84,85,86,87,88,89,90,97,98,99,100,101,102,103,104,105,106,107,108,109,110,111,112,113,114,115,116,117,118,119,120,121,122,48,49,50,51,52,53,54,55,56,57,43,47]⟩:ByteArray)[n]'(by exact h)=Bp n:=by
 show _=N4.getD n 0;rw[AK,AZ (show n<N4.length from h)];rfl
def pv(l:Bs):Nat→Nat
 |0=>0
 |k+1=>pv l k*256+(l.getD k 0).toNat
theorem Zn(l:Bs)(k:Nat)(h:k≤3):pv l k<16777216:=by
 have H:=(l.getD 0 0).toNat_lt;have a:=(l.getD 1 0).toNat_lt;have b:=(l.getD 2 0).toNat_lt
 match k,h with
 |0,_=>simp[pv]
 |1,_=>simp only[pv];omega
 |2,_=>simp only[pv];omega
 |3,_=>simp only[pv];omega
theorem pX(rest:Bs)(line:Nat)(h:rest≠[]):∃N:Nat,1≤N∧N≤3∧N≤rest.length∧(N<3→N=rest.length)∧D9 rest line=Co (pv rest 3) N++(if line+4=76∨rest.drop N=[]then[13,10]++D9 (rest.drop N) 0 else D9 (rest.drop N) (line+4)):=by
 match rest,h with
 |[x],_=>
  have e:pv [x] 3=x.toNat*65536:=by simp[pv];omega
  exact⟨1,by omega,by omega,by simp,by simp,by rw[D9,e];simp[D9]⟩
 |[x,y],_=>
  have e:pv [x,y] 3=x.toNat*65536+y.toNat*256:=by simp[pv];omega
  exact⟨2,by omega,by omega,by simp,by simp,by rw[D9,e];simp[D9]⟩
 |x::y::z::l,_=>
  have e:pv (x::y::z::l) 3=x.toNat*65536+y.toNat*256+z.toNat:=by simp[pv];omega
  exact⟨3,by omega,by omega,by simp,by omega,by rw[D9,e];rfl⟩
theorem pY(b:Bs)(w:World)(J:b.length≤1000000000000):Calls prog 269 #[.string ⟨b.toArray⟩] w fun e K=>e=.returned (.string ⟨(Ew b).toArray⟩)∧Below w.heap.size w K:=by
 have X:=Ug b;have M:=N9 w;go_enter func269,ntmps269;go_wp2_with fail;go_loopw[0,4] (fun s n wr=>∃(rest:Bs)(l:Nat)(o:Bs),s=.string ⟨rest.toArray⟩∧n=.int .i64 l∧l≤72∧l%4=0∧rest.length≤1000000000000∧o++D9 rest l=Ew b∧Dc w.heap.size w.heap.size o wr∧Below w.heap.size w wr) (fun s _ _=>I9 s)
 case atStart=>exact⟨b,0,[],rfl,rfl,by decide,rfl,J,rfl,M,by go_grown⟩
 obtain⟨rest,l,o,rfl,rfl,Y,Z,hr,x,h,B⟩:=hrel;have t:=AB x;clear x;have y:o.length+(D9 rest l).length=(Ew b).length:=by rw[←t.o];simp
 by_cases m:rest=[]
 ·subst m;have z:Ew b=o:=by rw[←t.o];simp[D9]
  have Q:=AB z;clear z;go_wp2_with fail;refine(Oi _ _ _ _ h B.size).mono ?_;rintro e W⟨rfl,H⟩;go_wp2_with fail;go_ret;exact⟨Gx Q.o.symm,B.trans H⟩
 have a0:0<rest.length:=BE.2 m;obtain⟨N,a1,a2,a3,a4,p⟩:=pX rest l m;have R:=Zn rest 3 (by omega);have a5:o.length+4≤(Ew b).length:=by rw[←y,p];simp[Fy]
 have C:=AB p;clear p y;have m1:min (rest.length:Int) 3=N:=by omega
 go_wp2_with fail;obtain⟨D,rfl⟩:∃D:World,D=wr:=⟨_,rfl⟩;go_loop[6,15] (fun v i=>∃k:Nat,k≤3∧i=.int .i64 k∧v=.int .i64 (pv rest k)) (fun _ i=>3-(intOf i).toNat)
 case atStart=>exact⟨0,by omega,rfl,rfl⟩
 obtain⟨k,F,rfl,rfl⟩:=hrel;by_cases S:k<3
 ·have hp:=Zn rest k F;have P:=AB (by rfl:pv rest (k+1)=pv rest k*256+(rest.getD k 0).toNat);by_cases d:k<N
  ·have U:k<rest.length:=by omega
   have hx:(rest[k].toNat:Int)<256:=by have:=rest[k].toNat_lt;omega
   have O:=nX (pv rest k) rest[k].toNat (by omega) (by omega) (by omega) (by omega);have E:=AB (by rw[AK,AZ U];rfl:rest.getD k 0=rest[k]);go_wp2_with fail
   go_round
   case rel=>exact⟨k+1,by omega,by go_num,by rw[P.o,E.o];go_num⟩
   simp[intOf];omega
  have E:=AB (by rw[AK,CW (by omega)];rfl:rest.getD k 0=0);go_wp2_with fail
  go_round
  case rel=>exact⟨k+1,by omega,by go_num,by rw[P.o,E.o];go_num⟩
  simp[intOf];omega
 obtain rfl:k=3:=by omega
 generalize pv rest 3=V at R C;go_wp2_with fail;go_loopw[30] (fun i G=>∃k:Nat,k≤4∧i=.int .i64 k∧Dc w.heap.size w.heap.size (o++(Co V N).take k) G∧Below w.heap.size w G) (fun i _=>4-(intOf i).toNat)
 case atStart=>exact⟨0,by omega,rfl,by rw[GP,BM];exact h,B⟩
 clear h B;obtain⟨k,F,rfl,h,B⟩:=hrel;by_cases S:k<4
 ·obtain rfl|rfl|rfl|rfl:k=0∨k=1∨k=2∨k=3:=by omega
  ·have A:bits .and .i64 ((V:Int)/262144) 63=((V/262144%64:Nat):Int):=(S8 _ (by omega) (by omega)).trans (by omega);have a:V/262144%64<64:=by omega
   have L:=AB (Sg (V/262144%64) a);have T:=AB (by rfl:(Co V N).take 1=(Co V N).take 0++[Bp (V/262144%64)]);generalize V/262144%64=n at A a L T;go_wp2_with fail;refine(Mj _ _ _ _ (Bp n) (by rw[←L.o];rfl) _ h (by simp only[AH,BV,Fy];omega) B.size).mono ?_;rintro e W⟨rfl,h,H⟩;go_wp2_with fail;go_roundw
   case rel=>exact⟨1,by omega,by go_num,by rw[T.o,←AJ];exact h,B.trans H⟩
   simp[intOf]
  ·have A:bits .and .i64 ((V:Int)/4096) 63=((V/4096%64:Nat):Int):=(S8 _ (by omega) (by omega)).trans (by omega);have a:V/4096%64<64:=by omega
   have L:=AB (Sg (V/4096%64) a);have T:=AB (by rfl:(Co V N).take 2=(Co V N).take 1++[Bp (V/4096%64)]);generalize V/4096%64=n at A a L T;go_wp2_with fail;refine(Mj _ _ _ _ (Bp n) (by rw[←L.o];rfl) _ h (by simp only[AH,BV,Fy];omega) B.size).mono ?_;rintro e W⟨rfl,h,H⟩;go_wp2_with fail;go_roundw
   case rel=>exact⟨2,by omega,by go_num,by rw[T.o,←AJ];exact h,B.trans H⟩
   simp[intOf]
  ·by_cases d:2≤N
   ·have A:bits .and .i64 ((V:Int)/64) 63=((V/64%64:Nat):Int):=(S8 _ (by omega) (by omega)).trans (by omega);have a:V/64%64<64:=by omega
    have L:=AB (Sg (V/64%64) a);have T:=AB (by unfold Co;rw[AM d];rfl:(Co V N).take 3=(Co V N).take 2++[Bp (V/64%64)]);generalize V/64%64=n at A a L T;go_wp2_with fail;refine(Mj _ _ _ _ (Bp n) (by rw[←L.o];rfl) _ h (by simp only[AH,BV,Fy];omega) B.size).mono ?_;rintro e W⟨rfl,h,H⟩;go_wp2_with fail;go_roundw
    case rel=>exact⟨3,by omega,by go_num,by rw[T.o,←AJ];exact h,B.trans H⟩
    simp[intOf]
   have T:=AB (by unfold Co;rw[AI d];rfl:(Co V N).take 3=(Co V N).take 2++[61]);go_wp2_with fail;refine(Mj _ _ _ _ 61 rfl _ h (by simp only[AH,BV,Fy];omega) B.size).mono ?_;rintro e W⟨rfl,h,H⟩;go_wp2_with fail;go_roundw
   case rel=>exact⟨3,by omega,by go_num,by rw[T.o,←AJ];exact h,B.trans H⟩
   simp[intOf]
  by_cases d:3≤N
  ·have A:bits .and .i64 (V:Int) 63=((V%64:Nat):Int):=(S8 _ (by omega) (by omega)).trans (by omega);have a:V%64<64:=by omega
   have L:=AB (Sg (V%64) a);have T:=AB (by unfold Co;rw[AM d];rfl:(Co V N).take 4=(Co V N).take 3++[Bp (V%64)]);generalize V%64=n at A a L T;go_wp2_with fail;refine(Mj _ _ _ _ (Bp n) (by rw[←L.o];rfl) _ h (by simp only[AH,BV,Fy];omega) B.size).mono ?_;rintro e W⟨rfl,h,H⟩;go_wp2_with fail;go_roundw
   case rel=>exact⟨4,by omega,by go_num,by rw[T.o,←AJ];exact h,B.trans H⟩
   simp[intOf]
  have T:=AB (by unfold Co;rw[AI d];rfl:(Co V N).take 4=(Co V N).take 3++[61]);go_wp2_with fail;refine(Mj _ _ _ _ 61 rfl _ h (by simp only[AH,BV,Fy];omega) B.size).mono ?_;rintro e W⟨rfl,h,H⟩;go_wp2_with fail;go_roundw
  case rel=>exact⟨4,by omega,by go_num,by rw[T.o,←AJ];exact h,B.trans H⟩
  simp[intOf]
 obtain rfl:k=4:=by omega
 rw[CH (by simp[Fy])]at h;have g:(rest.drop N).length≤1000000000000:=by simp;omega
 have j:(rest.drop N).length<rest.length:=by simp;omega
 have E:=AB (by rw[C.o,AJ]:o++D9 rest l=o++Co V N++(if l+4=76∨rest.drop N=[]then[13,10]++D9 (rest.drop N) 0 else D9 (rest.drop N) (l+4)));have q:(o++Co V N).length+2≤140737488355328:=by simp[Fy];omega
 go_upto_region 22 with fail;generalize rest.drop N=r at g j E⊢;generalize o++Co V N=O at h E q;by_cases I:l=72
 ·subst I;have c:Ew b=O++[13,10]++D9 r 0:=by rw[←t.o,E.o];simp
  have f:=AB c;clear c E;go_wp2_with fail;refine(Jd _ _ _ [13,10] _ h (by simpa using q) B.size).mono ?_;rintro e W⟨rfl,h,H⟩;go_wp2_with fail;go_roundw
  case rel=>exact⟨r,0,_,rfl,rfl,by omega,rfl,g,f.o.symm,h,B.trans H⟩
  simpa using j
 have a6:((l:Int)+4==76)=false:=by rw[AG];omega
 by_cases u:r=[]
 ·subst u;have c:Ew b=O++[13,10]++D9 [] 0:=by rw[←t.o,E.o];simp
  have f:=AB c;clear c E;go_wp2_with fail;refine(Jd _ _ _ [13,10] _ h (by simpa using q) B.size).mono ?_;rintro e W⟨rfl,h,H⟩;go_wp2_with fail;go_roundw
  case rel=>exact⟨[],0,_,rfl,rfl,by omega,rfl,g,f.o.symm,h,B.trans H⟩
  simpa using j
 have c:Ew b=O++D9 r (l+4):=by rw[←t.o,E.o];simp[I,u]
 have f:=AB c;clear c E;have a7:r.isEmpty=false:=by rw[AP];simpa using u
 go_wp2_with fail;go_roundw
 case rel=>exact⟨r,l+4,_,rfl,by go_num,by omega,by omega,g,f.o.symm,h,B⟩
 simpa using j
def Kk:Bs:=[65,66,67,68,69,70,71,72,73,74,75,76,77,78,79,80,81,82,83,84,85,86,87,88,89,90,97,98,99,100,101,102,103,104,105,106,107,108,109,110,111,112,113,114,115,116,117,118,119,120,121,122]
def Nj:Bs:=Kk++[48,49,50,51,52,53,54,55,56,57,43,45,46]
def Ov:Bs→Bool
 |[]=>false
 |c::l=>Kk.contains c&&(c::l).all (Nj.contains ·)
theorem Zo(l:Bs)(c:UInt8):(0≤indexByte l c)↔l.contains c=true:=by
 rw[Ud];cases h:Ab [c] l with
 |none=>rw[Ke]at h;simp[h]
 |some x=>
  obtain⟨a,b⟩:=x;obtain⟨e,_⟩:=Oa h;simp[e]
theorem Sh{p:UInt8→Bool}:∀{l:Bs},l.dropWhile p=[]↔l.all p=true
 |[]=>by simp
 |x::l=>by
  rw[EO];by_cases h:p x=true
  ·simp[h,Sh (l:=l)]
  simp[h]
theorem Zp{p:UInt8→Bool}:∀{l:Bs}{x:UInt8}{t:Bs},l.dropWhile p=x::t→p x=false
 |[],_,_,h=>by simp at h
 |y::l,x,t,h=>by
  rw[EO]at h;by_cases H:p y=true
  ·rw[AM H]at h;exact Zp h
  rw[AI H]at h;injection h with a _;rw[←a];simpa using H
theorem pZ(l cs:Bs):trimS l cs=[]↔l.all (cs.contains ·)=true:=by
 unfold trimS trimLeftS trimRightS;rw[Sh];constructor
 ·intro h;rw[←JG];rw[JG]at h;rw[←Sh];cases H:List.dropWhile (fun x=>cs.contains x) l.reverse with
  |nil=>rfl
  |cons x t=>
   rw[H]at h;have:=Zp H;simp only[FA,BL]at h;rw[this]at h;exact absurd h.1 (by simp)
 intro h;rw[←JG,←Sh]at h;rw[h];rfl
theorem qA(l cs:Bs):(trimS l cs).isEmpty=l.all (cs.contains ·):=by
 rw[DZ,FL,pZ]
theorem qB(l:Bs)(w:World)(d:l.length≤140737488355328):Calls prog 102 #[.string ⟨l.toArray⟩] w fun e W=>e=.returned (.bool (Ov l))∧Below w.heap.size w W:=by
 cases l with
 |nil=>
  go_enter func102,ntmps102;go_wp2_with fail;go_ret;exact⟨rfl,AD _ _⟩
 |cons c l=>
  have I:=Mi Kk (c.toNat:Int) c (by simp) w;have T:=Q5 (c::l) Nj w (by omega) (by decide) (by decide);by_cases H:Kk.contains c=true
  ·have a:0≤indexByte Kk c:=(Zo _ _).2 H;go_enter func102,ntmps102;go_wp2_with fail;refine I.mono ?_;rintro e W⟨rfl,rfl⟩;go_wp2_with fail;refine T.mono ?_;rintro e W⟨rfl,b⟩;go_wp2_with fail;go_ret;exact⟨Ba (by rw[qA];show _=(Kk.contains c&&_);rw[H,FB]),b⟩
  have a:indexByte Kk c<0:=by
   rcases GE (indexByte Kk c) 0 with h|h
   ·exact h
   exact absurd ((Zo _ _).1 h) H
  go_enter func102,ntmps102;go_wp2_with fail;refine I.mono ?_;rintro e W⟨rfl,rfl⟩;go_wp2_with fail;go_ret;exact⟨Ba (by show _=(Kk.contains c&&_);rw[AP.2 H,Bool.false_and]),AD _ _⟩
structure A3 where
 scheme:Bs
 hasAuth:Bool
 auth:Bs
 path:Bs
 hasQuery:Bool
 query:Bs
 hasFrag:Bool
 frag:Bs
 deriving DecidableEq
def A3.zero:A3:=⟨[],false,[],[],false,[],false,[]⟩
abbrev A3.cells(a:A3):Array Value:=#[.string ⟨a.scheme.toArray⟩,.bool a.hasAuth,.string ⟨a.auth.toArray⟩,.string ⟨a.path.toArray⟩,.bool a.hasQuery,.string ⟨a.query.toArray⟩,.bool a.hasFrag,.string ⟨a.frag.toArray⟩]
abbrev Bb:Array Value:=#[.string ⟨#[]⟩,.bool false,.string ⟨#[]⟩,.string ⟨#[]⟩,.bool false,.string ⟨#[]⟩,.bool false,.string ⟨#[]⟩]
abbrev A3.val(a:A3):Value:=.agg a.cells
def Jf(c:UInt8):Bool:=decide (33≤c)&&decide (c≤126)
def H6(l:Bs):Bs×Bs:=match Ab [58] l with
 |some (a,b)=>if !a.isEmpty&&Ov a then(a,b)else([],l)
 |none=>([],l)
def Ih(l:Bs):Bool:=match Ab [58] l with
 |some (a,_)=>!a.isEmpty&&Ov a
 |none=>false
def L9(l:Bs):Bool×Bs×Bs:=if hasPrefix l [47,47]then(match Ab [47] (l.drop 2)with
 |some (a,b)=>(true,a,47::b)
 |none=>(true,l.drop 2,[]))else(false,[],l)
def Ls(l:Bs):A3:=let c:=cut l [35]
 let C:=cut c.1 [63];let s:=H6 C.1;let u:=L9 s.2
 ⟨s.1,u.1,u.2.1,u.2.2,C.2.2,C.2.1,c.2.2,c.2.1⟩
def Cl(l:Bs):Option A3:=if l.all Jf then some (Ls l)else none
def Kl(a:A3):Bs:=(if a.scheme=[]then[]else a.scheme++[58])++(if a.hasAuth then[47,47]++a.auth else[])++a.path++(if a.hasQuery then[63]++a.query else[])++(if a.hasFrag then[35]++a.frag else[])
def Dx(l:Bs)(c:UInt8)(k:Int):Prop:=(k=-1∧c∉l)∨∃a b,l=a++c::b∧c∉a∧k=a.length
theorem Vj(l:Bs)(c:UInt8):Dx l c (indexByte l c):=by
 rw[Ud];cases h:Ab [c] l with
 |none=>exact Or.inl ⟨rfl,Ke.1 h⟩
 |some x=>
  obtain⟨a,b⟩:=x;obtain⟨e,H⟩:=Oa h;exact Or.inr ⟨a,b,e,H,rfl⟩
variable {k:Int}{c:UInt8}{l s f S q h a A p:Bs}
theorem Dx.le(h:Dx l c k)(H:0<k):k+1≤l.length:=by
 rcases h with⟨rfl,_⟩|⟨a,b,rfl,_,rfl⟩
 ·omega
 simp;omega
theorem Dx.yes(h:Dx l 58 k)(H:0<k):Ih l=Ov (l.take k.toNat):=by
 rcases h with⟨rfl,_⟩|⟨a,b,rfl,n,rfl⟩
 ·omega
 unfold Ih;rw[Me n];cases a with
 |nil=>simp at H
 |cons x a=>simp
theorem Dx.no(h:Dx l 58 k)(c:k≤0):Ih l=false:=by
 rcases h with⟨rfl,H⟩|⟨a,b,rfl,H,rfl⟩
 ·unfold Ih;rw[Ke.2 H]
 unfold Ih;rw[Me H];cases a with
 |nil=>rfl
 |cons x a=>simp at c;omega
theorem Dx.pos(h:Dx l 58 k)(b:Ih l=true):0<k:=by
 rcases GE 0 k with H|H
 ·exact H
 rw[h.no H]at b;cases b
theorem Dx.parse(h:Dx l 58 k)(H:Ih l=true):H6 l=(l.take k.toNat,l.drop (k+1).toNat):=by
 have c:=h.pos H;rcases h with⟨rfl,n⟩|⟨a,b,rfl,n,rfl⟩
 ·omega
 unfold Ih at H;unfold H6;rw[Me n]at H⊢;simp only at H⊢;rw[AM H];have:((a.length:Int)+1).toNat=a.length+1:=by omega
 rw[this];simp
theorem Vk(h:Ih l=false):H6 l=([],l):=by
 unfold Ih at h;unfold H6;cases H:Ab [58] l with
 |none=>rfl
 |some x=>rw[H]at h;simp only at h⊢;rw[AI (by rw[h];simp)]
theorem Dx.qC(h:Dx l c k)(H:0≤k):k+1≤l.length:=by
 rcases h with⟨rfl,_⟩|⟨a,b,rfl,_,rfl⟩
 ·omega
 simp;omega
def Ms(r:Bs):Bool×Bs×Bs:=match Ab [47] r with
 |some (a,b)=>(true,a,47::b)
 |none=>(true,r,[])
theorem Zq(h:hasPrefix l [47,47]=true):L9 l=Ms (trimPrefix l [47,47]):=by
 unfold L9 trimPrefix;rw[AM h,AM h];rfl
theorem Zr(h:¬hasPrefix l [47,47]=true):L9 l=(false,[],l):=by
 unfold L9;rw[AI h]
theorem Dx.qD(h:Dx l 47 k)(c:k<0):Ms l=(true,l,[]):=by
 rcases h with⟨rfl,H⟩|⟨a,b,rfl,H,rfl⟩
 ·unfold Ms;rw[Ke.2 H]
 omega
theorem Dx.qE(h:Dx l 47 k)(c:0≤k):Ms l=(true,l.take k.toNat,l.drop k.toNat):=by
 rcases h with⟨rfl,H⟩|⟨a,b,rfl,H,rfl⟩
 ·omega
 unfold Ms;rw[Me H];simp
theorem Ql{H b c:Bool}(d:cut l [35]=(s,f,H))(e:cut s [63]=(S,q,b))(g:H6 S=(h,a))(i:L9 a=(c,A,p)):Ls l=⟨h,c,A,p,b,q,H,f⟩:=by
 simp only[Ls,d,e,g,i]
theorem Zs(h:¬((33:Int)≤c.toNat∧(c.toNat:Int)≤126)):Jf c=false:=by
 unfold Jf;rw[Bool.and_eq_false_iff];simp only[EB,ER];simp;omega
theorem Zt(h:(33:Int)≤c.toNat)(H:(c.toNat:Int)≤126):Jf c=true:=by
 unfold Jf;rw[BL];simp only[EF,ER];simp;omega
theorem Ow(l p:Bs):(cut l p).1.length≤l.length∧(cut l p).2.1.length≤l.length:=by
 rw[Fx];cases h:Ab p l with
 |none=>simp
 |some x=>
  obtain⟨a,b⟩:=x;have:=Ee h;rw[this];simp;omega
theorem Vl{k:Nat}(p:UInt8→Bool)(h:k<l.length)(H:(l.take k).all p=true)(a:p l[k]=true):(l.take (k+1)).all p=true:=by
 rw[AU h,GN,H];simp[a]
theorem Zu{k:Nat}(p:UInt8→Bool)(h:k<l.length)(H:p l[k]=false):l.all p=false:=by
 rw[AP];intro a;have:=AW.1 a l[k] (AN h);rw[this]at H;cases H
end Go.Proofs.YtignjjnflcpiiaaGreatDoor
namespace Go.Proofs.YtignjjnflcpiiaaGreatDoor
open Go Go.RowKit Proofs.Tryz Lib
def Cd(a:A3):A3:=⟨A2 a.scheme,a.hasAuth,A2 a.auth,a.path,a.hasQuery,a.query,false,[]⟩
theorem Zv(a:A3)(w:World)(i:a.scheme.length≤140737488355328)(j:a.auth.length≤140737488355328):Calls prog 62 #[a.val] w fun e k=>e=.returned (Cd a).val∧Below w.heap.size w k:=by
 obtain⟨s,H,u,p,b,q,d,f⟩:=a;simp only at i j;go_enter func62,ntmps62;go_upto_region 1 with fail;go_cut[2] (fun S W=>S=.pointer (some ⟨w.heap.size+1,0,none⟩)∧A1 W w.heap.size (A3.cells ⟨s,H,u,p,b,q,false,[]⟩) 36∧A1 W (w.heap.size+1) Bb 36∧Below w.heap.size w W)
 case first=>
  have r:=((((A1.new w (A3.cells ⟨s,H,u,p,b,q,d,f⟩) 36).alloc (.cells Bb 36)).set 6 (.bool false)).set 7 (.string ⟨#[]⟩));go_wp2_with fail;go_meet;refine⟨rfl,?_,?_,by go_grown⟩
  ·exact(A1.new w (A3.cells ⟨s,H,u,p,b,q,false,[]⟩) 36).alloc _
  have h:=A1.new (w.alloc (.cells (A3.cells ⟨s,H,u,p,b,q,false,[]⟩) 36)) Bb 36;rw[AV]at h;exact h
 obtain⟨rfl,r,R,B⟩:=hcut;obtain⟨c,rfl⟩:∃c:World,c=wc:=⟨_,rfl⟩;go_upto_region 2 with fail;go_cut[2] (fun S W=>S=.pointer (some ⟨w.heap.size+1,0,none⟩)∧A1 W w.heap.size (A3.cells ⟨A2 s,H,A2 u,p,b,q,false,[]⟩) 36∧A1 W (w.heap.size+1) Bb 36∧Below w.heap.size w W)
 case first=>
  have g:=r.cell;have l:=r.free;have t:=r.lt
  go_region_with ((refine(G0 _ _ (by assumption)).mono ?_);(rintro e o⟨rfl,m⟩);(have K:=C4 m (w0:=c) (by repeat(first|exact AD _ _|assumption|refine Below.drew ?_)));(have g:=(r.next K t).cell);(have l:=(r.next K t).free))
  all_goals go_wp2_with fail
  all_goals
   go_meet;refine⟨rfl,((r.next K t).set 0 (.string ⟨(A2 s).toArray⟩)).set 2 (.string ⟨(A2 u).toArray⟩),((R.next K R.lt).A6 (a:=⟨w.heap.size,0,none⟩) (by simp) (.string ⟨(A2 s).toArray⟩)).A6 (a:=⟨w.heap.size,2,none⟩) (by simp) (.string ⟨(A2 u).toArray⟩),?_⟩;have x:=B.trans (K.mono B.size);go_grown
 obtain⟨rfl,r,R,B⟩:=hcut;have g:=r.cell;have y:=R.free;have n:=R.cell;have t:=R.lt;go_wp2_with fail;refine AL (v:=(Cd ⟨s,H,u,p,b,q,d,f⟩).val) (by simp[results,results62,go_sem,Cd,n]) rfl ⟨rfl,by go_grown⟩
end Go.Proofs.YtignjjnflcpiiaaGreatDoor
