/- kind.Read reads a value with parameters; kind.Get finds o -/
import Derived.Test.YtignjjnflcpiiaaGreatDoorS06
import Derived.Test.YtignjjnflcpiiaaGreatDoorS07
set_option linter.all false
set_option maxHeartbeats 4000000
set_option maxRecDepth 100000
namespace Go.Proofs.YtignjjnflcpiiaaGreatDoor
open Go Go.RowKit Proofs.Tryz Lib
abbrev J2(w:World)(B:Nat)(v:Value)(l:List A4):Prop:=A0 119 2 Au w B v l
theorem aU:(prog.info? 119).map (fun i=>(i.zero,i.size,i.bytes))=some (some (.agg #[.string ByteArray.empty,.string ByteArray.empty]),2,32):=by kernel_rfl
variable {w w' b:World}{v x:Value}{B n k R g m:Nat}{xs:List Value}{e t:TypeId}{c C:Array Value}{f:UInt8 → Option Bs}
theorem Qs{Q:Exit→Act→World→Prop}{O:Array Oper}{rest:List Oper}{o:Oper}{a:Act}(H:o.guard=none)(s x:Operand)
  (d:o.op=.call {callee:=.builtin .append,args:=#[s,x],argTypes:=#[79,79]}) (B:Nat) (v:Value) (xs:List A4) (y:A4) (b c:Nat)
  (e:a.eval s=v) (n:J2 w B v xs) (f:a.eval x=.slice (some ⟨b,0,none⟩) 1 c) (g:∀j u,([y].flatMap Au)[j]?=some u→w.cell? ((⟨b,0,none⟩:Go.Addr).add j)=some u) (k:xs.length+1≤1000000000001) (i:B≤w.heap.size)
  (h:∀V W,J2 W B V (xs++[y])→w.grownBy W v.ownBlock→Below B w W→wpList prog O Q rest (a.put o.dst V) W):wpList prog O Q (o::rest) a w:=
 Mk (α:=A4) (cs:=Au) (size:=2) (z:=.agg #[.string ByteArray.empty,.string ByteArray.empty]) Ah Ju aU rfl (by decide) underlying79 H s x d B v xs [y] ⟨b,0,none⟩ 1 c rfl e n f g (by simp;omega) (by unfold maxLen;simp;omega) i h
def Vx(B:Nat)(r:Option (Bs×List A4))(e:Ending)(w':World):Prop:=(∃m l v,r=some (m,l)∧e=.returned (.tuple #[.string ⟨m.toArray⟩,v,.nilIface])∧J2 w' B v l)∨(r=none∧e=.returned (.tuple #[.string ⟨#[]⟩,.slice none 0 0,.iface 30 (.int .i64 3)]))
theorem Nm(l p:Bs)(w:World)(h:l.length<4294967281)(H:Cb w):Calls prog 31 #[.string ⟨l.toArray⟩,.string ⟨p.toArray⟩] w fun e W=>e=.returned (.bool (contains l p))∧w=W:=by
 obtain⟨m,a⟩:=H.maxLen;refine(Tryz.strings_Contains ⟨l.toArray⟩ ⟨p.toArray⟩ m w h a).mono ?_;rintro e W⟨rfl,rfl⟩;exact⟨rfl,rfl⟩
theorem aV(w:World)(f:A4)(t:TypeId)(n:Nat)(h:w.heap.size=n):∀j u,([f].flatMap Au)[j]?=some u→(w.alloc (.cells #[.string ⟨f.1.toArray⟩,.string ⟨f.2.toArray⟩] t)).cell? ((⟨n,0,none⟩:Go.Addr).add j)=some u:=h▸Gl w f t
def Vy:Value→Nat
 | .bool true=>1
 |_=>0
def Jy(ok:Bool)(fuel:Nat)(rest:Bs):Option (List A4):=if ok then Gy fuel rest else some []
theorem P0(s:Bs)(w:World)(hl:s.length≤1000000000)(D:Cb w):Calls prog 34 #[.string ⟨s.toArray⟩] w fun e M=>Vx w.heap.size (Ay s) e M∧Below w.heap.size w M:=by
 have R:=AB (by rfl:Ay s=if Ae (cut (A2 (trimS (cut s [59]).1 [32,9])) [47]).1&&(!(cut (A2 (trimS (cut s [59]).1 [32,9])) [47]).2.2||Ae (cut (A2 (trimS (cut s [59]).1 [32,9])) [47]).2.1)then(Jy (cut s [59]).2.2 ((cut s [59]).2.1.length+1) (cut s [59]).2.1).map fun l=>(A2 (trimS (cut s [59]).1 [32,9]),l)else none);have u:=Lo s [59];go_enter func34,ntmps34;go_wp2_with fail;refine(L3 s [59] _ (by omega) D).mono ?_;rintro e w1⟨rfl,B⟩;generalize cut s [59]=c at u R⊢;obtain⟨Q,C,ok⟩:=c;simp only at u R⊢;have E:=Oc Q [32,9];go_wp2_with fail;refine(Q5 Q [32,9] _ (by omega) (by decide) (by decide)).mono ?_;rintro e w2⟨rfl,H⟩;have B:=B.trans (H.mono B.size);clear H;generalize trimS Q [32,9]=t at E R⊢;go_wp2_with fail;refine(G0 t _ (by omega)).mono ?_;rintro e w3⟨rfl,H⟩;have B:=B.trans (H.mono B.size);have b5:(A2 t).length≤1000000000:=by simp[A2];omega
 clear H E;generalize A2 t=m at b5 R⊢;go_wp2_with fail;refine(L3 m [47] _ (by omega) (D.next B)).mono ?_;rintro e w4⟨rfl,H⟩;have B:=B.trans (H.mono B.size);clear H;have T:=Lo m [47];have G:=AB (mE m [47]);generalize cut m [47]=d at T G R⊢;obtain⟨I,U,V⟩:=d;simp only at T G R⊢;go_upto_region 4 with fail;go_cut[42] (fun t wx=>t=.bool (!(Ae I&&(!V||Ae U)))∧Below w.heap.size w wx)
 case first=>
  go_wp2_with fail;refine(Mr I _ (by omega)).mono ?_;rintro e w5⟨rfl,H⟩;have B:=B.trans (H.mono B.size);clear H;generalize a4:Ae I=b6;have X:=AB a4;clear a4;cases b6 with
  |false=>
   go_wp2_with fail;go_meet;exact⟨by rw[X.o];rfl,B⟩
  |true=>
   go_wp2_with fail;refine(Nm m [47] _ (by omega) (D.next B)).mono ?_;rintro e M⟨rfl,rfl⟩;rw[G.o];cases V with
   |false=>
    go_wp2_with fail;go_meet;exact⟨by rw[X.o];rfl,B⟩
   |true=>
    go_wp2_with fail;refine(Mr U _ (by omega)).mono ?_;rintro e w6⟨rfl,H⟩;have B:=B.trans (H.mono B.size);clear H;go_wp2_with fail;go_meet;exact⟨by rw[X.o];rfl,B⟩
 case rest=>
 clear B;obtain⟨rfl,B⟩:=hcut;obtain⟨w5,rfl⟩:∃x:World,x=wc:=⟨_,rfl⟩;clear G T;generalize(Ae I&&(!V||Ae U))=b7 at R⊢;cases b7 with
 |false=>
  have N:=AB (by rw[R.o];rfl:Ay s=none);go_wp2_with fail;go_ret3;exact⟨Or.inr ⟨N.o,rfl⟩,B⟩
 |true=>
  have N:=AB (by rw[R.o];rfl:Ay s=(Jy ok (C.length+1) C).map fun l=>(m,l));clear R;have HM:=AB (by rfl:Jy ok (C.length+1) C=Jy ok (C.length+1) C);generalize a5:Jy ok (C.length+1) C=Y at N;have b8:=AB a5;clear a5 HM;simp only[ED];go_wp2_with fail;go_loopw[6,7,11] (fun t b o wr=>∃(rest:Bs)(ok:Bool)(g:List A4)(F:Nat),t=.string ⟨rest.toArray⟩∧b=.bool ok∧J2 wr w.heap.size o g∧rest.length≤1000000000∧g.length+rest.length≤1000000000∧rest.length<F∧(Jy ok F rest).map (g++·)=Y∧Below w.heap.size w wr) (fun t b _ _=>I9 t+Vy b)
  case atStart=>exact⟨C,ok,[],C.length+1,rfl,rfl,A0.nil _ _ _ _ _,by omega,by simp;omega,by omega,by rw[b8.o];simp,B⟩
  clear B;obtain⟨rest,ok,g,F,rfl,rfl,a,d1,d2,d3,a6,B⟩:=hrel;have i:=AB a6;clear a6;cases ok with
  |false=>
   have Z:=AB (by rw[N.o,←i.o];simp[Jy]:Ay s=some (m,g));go_wp2_with fail;go_ret3;exact⟨Or.inl ⟨m,g,_,Z.o,rfl,a⟩,B⟩
  |true=>
   obtain⟨F,rfl⟩:∃n,F=n+1:=⟨F-1,by omega⟩;have P:=AB (by rfl:Jy true (F+1) rest=match Gc rest with|none=>none|some (f,r)=>match r with|[]=>some [f]|c::r'=>if c=59 then(Gy F r').map (f::·)else none);have O:=AB (by rfl:Gc rest=if(cut (trimLeftS rest [32,9]) [61]).2.2&&Ae (trimRightS (cut (trimLeftS rest [32,9]) [61]).1 [32,9])then(if(Cy (trimLeftS (cut (trimLeftS rest [32,9]) [61]).2.1 [32,9])).2.2 then some ((A2 (trimRightS (cut (trimLeftS rest [32,9]) [61]).1 [32,9]),(Cy (trimLeftS (cut (trimLeftS rest [32,9]) [61]).2.1 [32,9])).1),trimLeftS (Cy (trimLeftS (cut (trimLeftS rest [32,9]) [61]).2.1 [32,9])).2.1 [32,9])else none)else none);have J:=AB (show Gc rest=none→Ay s=none from fun h=>by rw[N.o,←i.o,P.o,h];rfl);have E:=N6 rest [32,9];have b9:=AB (fun(f:A4)(r:Bs)(h:Gc rest=some (f,r))=>Uo h);go_wp2_with fail;refine(S4 rest [32,9] _ (by decide) (by decide)).mono ?_;rintro e w6⟨rfl,H⟩;have a:=A0.next a H;have B:=B.trans (H.mono B.size);clear H;generalize trimLeftS rest [32,9]=t at E O⊢;have u:=Lo t [61];go_wp2_with fail;refine(L3 t [61] _ (by omega) (D.next B)).mono ?_;rintro e w7⟨rfl,H⟩;have a:=A0.next a H;have B:=B.trans (H.mono B.size);clear H;generalize cut t [61]=c at u O⊢;obtain⟨a1,a2,c0⟩:=c;simp only at u O⊢;have c1:=Q4 a1 [32,9];go_wp2_with fail;refine(Yr a1 [32,9] _ (by omega) (by decide) (by decide)).mono ?_;rintro e w8⟨rfl,H⟩;have a:=A0.next a H;have B:=B.trans (H.mono B.size);clear H;generalize trimRightS a1 [32,9]=y at c1 O⊢;cases c0 with
   |false=>
    have A:=AB (J.o (by rw[O.o];rfl));go_wp2_with fail;go_ret3;exact⟨Or.inr ⟨A.o,rfl⟩,B⟩
   |true=>
   go_wp2_with fail;refine(Mr y _ (by omega)).mono ?_;rintro e w9⟨rfl,H⟩;have a:=A0.next a H;have B:=B.trans (H.mono B.size);clear H;generalize Ae y=bt at O⊢;cases bt with
   |false=>
    have A:=AB (J.o (by rw[O.o];rfl));go_wp2_with fail;go_ret3;exact⟨Or.inr ⟨A.o,rfl⟩,B⟩
   |true=>
   have c2:(A2 y).length≤1000000000:=by simp[A2];omega
   go_wp2_with fail;refine(G0 y _ (by omega)).mono ?_;rintro e W⟨rfl,H⟩;have a:=A0.next a H;have B:=B.trans (H.mono B.size);clear H;generalize A2 y=L at c2 O⊢;have c3:=N6 a2 [32,9];have k:=A1.new W #[.string ⟨L.toArray⟩,.string ByteArray.empty] 119;have K:=(AD W.heap.size W).alloc (AC _) (.cells #[.string ⟨L.toArray⟩,.string ByteArray.empty] 119);have B0:=B.size;go_wp2_with fail;refine(S4 a2 [32,9] _ (by decide) (by decide)).mono ?_;rintro e d4⟨rfl,H⟩;have k:=k.next H k.lt;have K:=K.trans (H.mono K.size);clear H;generalize trimLeftS a2 [32,9]=t2 at c3 O⊢;have a7:=Yk t2;go_wp2_with fail;refine(pW t2 _ (by omega)).mono ?_;rintro e a8⟨rfl,H⟩;have k:=k.next H k.lt;have K:=K.trans (H.mono K.size);clear H;generalize Cy t2=x at a7 O⊢;obtain⟨v,r,a0⟩:=x;simp only at a7 O;rw[(by rfl:Hz (v,r,a0)=.tuple #[.string ⟨v.toArray⟩,.string ⟨r.toArray⟩,.bool a0])];have c4:=k.cell 0;have c5:=k.cell 1;have c6:=k.free 1;have KS:=K.setCell (p:=⟨W.heap.size,1,none⟩) (AC _) (.string ⟨v.toArray⟩);have a9:=A0.next a KS;have S:=B.trans (KS.mono B0);clear K k;cases a0 with
   |false=>
    have A:=AB (J.o (by rw[O.o];rfl));go_wp2_with fail;go_ret3;exact⟨Or.inr ⟨A.o,rfl⟩,S⟩
   |true=>
   have j:=AB (by rw[O.o];rfl:Gc rest=some ((L,v),trimLeftS r [32,9]));clear O J;have c7:=N6 r [32,9];have c8:=S.size;go_wp2_with(at_builtin;refine Qs rfl _ _ rfl w.heap.size _ g (L,v) a8.heap.size 1 rfl (A0.alloc a9 _) rfl (aV (a8.setCell ⟨W.heap.size,1,none⟩ (.string ⟨v.toArray⟩)) (L,v) _ _ (by simp)) (by omega) (by simp at c8⊢;omega) ?_;intro v' d5 b0 d6 c9);have b1:=(S.alloc S.size _).trans c9;go_wp2_with fail;refine(S4 r [32,9] _ (by decide) (by decide)).mono ?_;rintro e d7⟨rfl,H⟩;have b2:=A0.next b0 H;have a3:=b1.trans (H.mono b1.size);clear H b0 a9 c4 c5 c6;have b3:=AB (b9.o _ _ j.o);generalize trimLeftS r [32,9]=z at c7 j b3⊢;have b4:=b3.o;simp only at b4;cases z with
   |nil=>
    have HQ:=AB (by rw[←i.o,P.o,j.o];simp[Jy]:(Jy false F []).map ((g++[(L,v)])++·)=Y);clear i P j;go_wp2_with fail;go_roundw
    case rel=>exact⟨[],false,g++[(L,v)],F+1,rfl,rfl,b2,by simp,by simp;omega,by simp,HQ.o,a3⟩
    simp[Vy]
   |cons c z'=>
    by_cases q:c=59
    ·have HQ:=AB (show(Jy true F z').map ((g++[(L,v)])++·)=Y from by
      rw[←i.o,P.o,j.o];simp only[q,DC,Jy];cases Gy F z'<;>simp)
     have d0:((c.toNat:Int)!=59)=false:=by rw[q];rfl
     simp only[AO]at b4;clear i P j q;go_wp2_with fail;go_roundw
     case rel=>exact⟨z',true,g++[(L,v)],F,rfl,rfl,b2,by omega,by simp;omega,by omega,HQ.o,a3⟩
     simp[Vy];omega
    have Z:=AB (show Ay s=none from by
     rw[N.o,←i.o,P.o,j.o];simp only[q,DJ];rfl)
    have d0:((c.toNat:Int)!=59)=true:=by
     rw[CZ];intro h;exact q (BJ.1 (by simp;omega))
    clear i P j q;go_wp2_with fail;go_ret3;exact⟨Or.inr ⟨Z.o,rfl⟩,a3⟩
theorem aW(v:Value)(l:List A4)(s:Bs)(w:World)(r:C7 w v l)(z:l.length≤1000000000000):Calls prog 36 #[v,.string ⟨s.toArray⟩] w fun e W=>e=.returned (.tuple #[.string ⟨((C5 l s).getD []).toArray⟩,.bool (C5 l s).isSome])∧Below w.heap.size w W:=by
 obtain⟨a,A,rfl,d⟩:=r.open;have q:=AB d;clear d r;go_enter func36,ntmps36;go_wp2_with fail;go_loopw[10] (fun i wr=>∃k:Nat,i=.int .i64 k∧k≤l.length∧C5 l s=C5 (l.drop k) s∧Below w.heap.size w wr) (fun i _=>l.length-(intOf i).toNat)
 case atStart=>exact⟨0,rfl,by omega,by simp,AD _ _⟩
 obtain⟨k,rfl,E,g,B⟩:=hrel;have c:=AB g;clear g;by_cases t:k<l.length
 ·obtain⟨b,rfl,j,m,n⟩:=q.o k t;have D:=AB (by rw[AE t];rfl:C5 (l.drop k) s=if l[k].1=s then some l[k].2 else C5 (l.drop (k+1)) s);have C:=(B.cell (p:=⟨b,k*2,none⟩) j).trans m;have o:=(B.cell (p:=⟨b,k*2+1,none⟩) j).trans n;clear m n;generalize l[k]=f at D C o;obtain⟨x,y⟩:=f;simp only at D C o;have K:=(A1.new wr #[.string ⟨x.toArray⟩,.string ⟨y.toArray⟩] 119).cell;have B:=B.alloc B.size (.cells #[.string ⟨x.toArray⟩,.string ⟨y.toArray⟩] 119);by_cases h:x=s
  ·have u:(x==s)=true:=by rw[BG];exact h
   have H:=AB (by rw[c.o,D.o,AM h]:C5 l s=some y);clear h;go_wp2_with fail;go_ret2;exact⟨by rw[H.o];rfl,B⟩
  have u:(x==s)=false:=by rw[AG];exact h
  have H:=AB (by rw[c.o,D.o,AI h]:C5 l s=C5 (l.drop (k+1)) s);clear h;go_wp2_with fail;go_roundw
  case rel=>exact⟨k+1,by go_num,by omega,H.o,B⟩
  simp[intOf];omega
 obtain rfl:k=l.length:=by omega
 have H:=AB (by rw[c.o,AQ];rfl:C5 l s=none);go_wp2_with fail;go_ret2;exact⟨by rw[H.o];rfl,B⟩
theorem aX(w:World):(callFunc 137 #[]).run prog w=.ok (.value (.tuple #[])) w:=run_call_mark0 func137 (by kernel_rfl) (by kernel_rfl) (by kernel_rfl) .disable (by kernel_rfl) w
theorem aY(w:World):(callFunc 138 #[]).run prog w=.ok (.value (.tuple #[])) w:=run_call_mark0 func138 (by kernel_rfl) (by kernel_rfl) (by kernel_rfl) .enable (by kernel_rfl) w
theorem rS(a:Go.Addr)(w:World):(callFunc 149 #[.pointer (some a)]).run prog w=.ok (.value (.tuple #[])) w:=run_call_marked func149 (by kernel_rfl) (by kernel_rfl) (by kernel_rfl) .acquire (by kernel_rfl) a w
theorem rT(a:Go.Addr)(w:World):(callFunc 136 #[.pointer (some a)]).run prog w=.ok (.value (.tuple #[])) w:=run_call_marked func136 (by kernel_rfl) (by kernel_rfl) (by kernel_rfl) .releaseMerge (by kernel_rfl) a w
theorem rU(a:Go.Addr)(x:Value)(u:FrameMode)(w:World)(c:w.cell? a=some x)(z:w.frozen? a=false):CallsD prog 323 #[.pointer (some a),.bool true] u w fun e U W=>U=u∧(e=.returned (.tuple #[])∧W=w.drew.setCell a (.int .u32 1)):=by
 have h:w.drew.cell? a=some x:=by go_simp
 have H:w.drew.frozen? a=false:=by go_simp
 have t:=run_call_store (P:=prog) func338 (by kernel_rfl) (by kernel_rfl) (by kernel_rfl) (by kernel_rfl) (k:=.u32) (y:=1) h H
 go_enter_d func323,ntmps323
 go_wp2
 go_region_calls
 all_goals(go_end0;exact⟨rfl,rfl⟩)
theorem rV(a:Go.Addr)(u:FrameMode)(w:World)(h:w.cell? a=some (.int .i32 1))(H:w.frozen? a=false):CallsD prog 322 #[.pointer (some a)] u w fun e U W=>U=u∧(e=.returned (.tuple #[])∧W=w.setCell a (.int .i32 0)):=by
 have d:=aX;have b:=aY;have r:=rT;have c:=run_call_add (P:=prog) func346 (by kernel_rfl) (by kernel_rfl) (by kernel_rfl) .i32 (by kernel_rfl) (y:=-1) (s:=0) h H (by simp[go_sem];rfl);have v:=run_convert_to_unsafe (P:=prog) (src:=410) (dst:=174) underlying410 underlying174 (by kernel_rfl) h
 go_enter_d func322,ntmps322
 go_wp2
 go_end0
 all_goals go_wp2
 all_goals go_end0
 all_goals exact⟨rfl,rfl⟩
theorem rW(a:Go.Addr)(w:World)(h:w.cell? a=some (.int .i32 0))(H:w.frozen? a=false):Calls prog 321 #[.pointer (some a)] w fun e W=>e=.returned (.tuple #[])∧W=w.setCell a (.int .i32 1):=by
 have d:=aX;have c:=aY;have f:=rS;have s:=run_call_cas_hit (P:=prog) func344 (by kernel_rfl) (by kernel_rfl) (by kernel_rfl) .i32 (by kernel_rfl) (y:=1) h H;have b:(w.setCell a (.int .i32 1)).cell? a=some (.int .i32 1):=World.cell?_setCell_same w a _ h;have v:=run_convert_to_unsafe (P:=prog) (src:=410) (dst:=174) underlying410 underlying174 (by kernel_rfl) b;go_enter func321,ntmps321
 go_wp2
 first|go_end0|(simp only[Exit.inBlock,Exit.then];refine AL (II rfl _ _ _) rfl ?_)|refine AL (II rfl _ _ _) rfl ?_
 all_goals go_wp2
 all_goals go_end0
 all_goals exact⟨rfl,rfl⟩
def So(b:Nat)(R:World→Prop)(w:World):Prop:=∃r v,A1 w b #[.int .u32 0,.int .i32 1,.int .u32 0,r,v] 327∧R w
def aZ(b:Nat)(R:World→Prop)(e:Ending)(w':World):Prop:=∃w,So b R w∧e=.returned (.tuple #[])∧w'=(w.drew.setCell ⟨b,0,none⟩ (.int .u32 1)).setCell ⟨b,1,none⟩ (.int .i32 0)
theorem rX(b:Nat)(r v:Value)(R:World→Prop)(w:World)(H:A1 w b #[.int .u32 0,.int .i32 0,.int .u32 0,r,v] 327)
  (d:Calls prog 266 #[.pointer (some ⟨b,0,none⟩)] (w.setCell ⟨b,1,none⟩ (.int .i32 1)) fun e W=>e=.returned (.tuple #[])∧So b R W):
  Calls prog 302 #[.pointer (some ⟨b,0,none⟩),.func (.func 266) #[.pointer (some ⟨b,0,none⟩)] #[]] w fun e W=>aZ b R e W:=by
 have g:A1 (w.setCell ⟨b,1,none⟩ (.int .i32 1)) b #[.int .u32 0,.int .i32 1,.int .u32 0,r,v] 327:=H.set 1 (.int .i32 1);have o:=run_call_load (P:=prog) func320 (by kernel_rfl) (by kernel_rfl) (by kernel_rfl) .u32 (by kernel_rfl) (w:=w.setCell ⟨b,1,none⟩ (.int .i32 1)) (a:=⟨b,0,none⟩) (x:=0) (g.cell 0);have t:∀(x:Bool)(w:World),(Op.unary .not (.bool x)).run prog w=.ok (.bool (!x)) w:=fun _ _=>rfl
 have i:=H.cell 1;have F:=H.free 1
 go_enter_defers func302,ntmps302
 go_wp2_with(first|(go_at_call 321;refine(rW ⟨b,1,none⟩ _ i F).mono ?_;rintro e W⟨rfl,rfl⟩)|(go_at_call 301;go_in));refine d.mono ?_;rintro e j⟨rfl,k⟩;obtain⟨l,V,h,m⟩:=k
 go_wp2
 refine leaves_cons (f:=323) (args:=#[.pointer (some ⟨b,0,none⟩),.bool true]) (by simp) (by simp[go_sem]) ?_;refine(rU ⟨b,0,none⟩ (.int .u32 0) .returning _ (h.cell 0) (h.free 0)).mono ?_;rintro e u n⟨rfl,rfl,rfl⟩;have c:=h.drew.set 0 (.int .u32 1);refine leaves_cons (f:=322) (args:=#[.pointer (some ⟨b,1,none⟩)]) (by simp[settle]) (by simp[go_sem]) ?_;refine(rV ⟨b,1,none⟩ _ _ (c.cell 1) (c.free 1)).mono ?_;rintro e u n⟨rfl,rfl,rfl⟩;simp[Leaves,settle,results,results302];exact⟨j,⟨l,V,h,m⟩,rfl,rfl⟩
theorem rY(b:Nat)(r v:Value)(R:World→Prop)(w:World)(h:A1 w b #[.int .u32 0,.int .i32 0,.int .u32 0,r,v] 327)
  (H:Calls prog 266 #[.pointer (some ⟨b,0,none⟩)] (w.setCell ⟨b,1,none⟩ (.int .i32 1)) fun e W=>e=.returned (.tuple #[])∧So b R W):
  Calls prog 265 #[.pointer (some ⟨b,0,none⟩),.func (.func 266) #[.pointer (some ⟨b,0,none⟩)] #[]] w fun e W=>aZ b R e W:=by
 have l:=run_call_load (P:=prog) func320 (by kernel_rfl) (by kernel_rfl) (by kernel_rfl) .u32 (by kernel_rfl) (h.cell 0);have t:∀(x:Bool)(w:World),(Op.unary .not (.bool x)).run prog w=.ok (.bool (!x)) w:=fun _ _=>rfl
 go_enter func265,ntmps265;go_wp2_with(first|(go_at_call 302;refine(rX b r v R _ h H).mono ?_;rintro e W⟨a,c,rfl,rfl⟩)|(go_at_call 301;go_in))
 go_end0
 exact⟨a,c,rfl,rfl⟩
abbrev Pr:=UInt8×Bs
def P1(p:Pr):List Value:=[.string ⟨#[p.1]⟩,.string ⟨p.2.toArray⟩]
theorem bA(p:Pr):(P1 p).length=2:=rfl
def Bi(x:Bs):List Value:=[.string ⟨x.toArray⟩]
theorem Cw(x:Bs):(Bi x).length=1:=rfl
theorem Mu(x:Bs):∀u∈Bi x,u.oneCell'=true:=fun u h=>by simp[Bi]at h;rw[h];rfl
abbrev E9(w:World)(B:Nat)(v:Value)(l:List Bs):Prop:=A0 9 1 Bi w B v l
def G6(P:List Pr):List Bs:=P.flatMap fun p=>[[p.1],p.2]
theorem Sp(P:List Pr):(G6 P).flatMap Bi=P.flatMap P1:=by
 unfold G6;induction P with
 |nil=>rfl
 |cons p l ih=>rw[BT,CR,ih,BT];rfl
theorem Vz(P:List Pr):(G6 P).length=2*P.length:=by
 unfold G6;induction P with
 |nil=>rfl
 |cons p l ih=>rw[BT,AH,ih];simp;omega
def Ko(w:World)(v:Value)(p:List Pr):Prop:=∃b c,v=.slice (some ⟨b,0,none⟩) (2*p.length) c∧b<w.heap.size∧∀k(h:k<p.length),w.cell? ⟨b,2*k,none⟩=some (.string ⟨#[p[k].1]⟩)∧w.cell? ⟨b,2*k+1,none⟩=some (.string ⟨(p[k].2).toArray⟩)
theorem Ko.next{P:List Pr}(h:Ko w v P)(H:Below w.heap.size w w'):Ko w' v P:=by
 obtain⟨b,C,d,t,c⟩:=h;exact⟨b,C,d,CG t H.size,fun k a=>⟨(H.cell (p:=⟨b,_,none⟩) t).trans (c k a).1,(H.cell (p:=⟨b,_,none⟩) t).trans (c k a).2⟩⟩
theorem E9.pr{p:List Pr}(h:E9 w B v (G6 p))(i:0<p.length):Ko w v p:=by
 obtain⟨a,C,d,f⟩:=A0.rd (by decide) Cw h;have l:=Vz p;obtain⟨b,g,t,H⟩:=f (by omega);subst g;refine⟨b,C,by rw[d,l],t,fun k c=>?_⟩;rw[Sp]at H;have e:=Kg bA p k c 0 (by decide);have E:=Kg bA p k c 1 (by decide);rw[BI]at e;constructor
 ·rw[H (2*k) (by omega),Nat.mul_comm 2 k,e];rfl
 rw[H (2*k+1) (by omega),Nat.mul_comm 2 k,E];rfl
theorem Qt(h:w.ownsRow B e k v n xs)(b:∀g,v.ownBlock=some g→w'.heap[g]?=w.heap[g]?):w'.ownsRow B e k v n xs:=by
 rcases h with⟨c,H⟩;refine⟨c,?_⟩;rcases H with H|⟨g,C,d,a,f,i,r⟩
 ·exact Or.inl H
 exact Or.inr ⟨g,C,d,a,f,(b g (by rw[a];rfl)).trans i,r⟩
theorem P2(h:w.ownsRow B e k v n xs)(d:A1 w R c t)(f:t≠e):∀g,v.ownBlock=some g→g≠R:=by
 rintro g H rfl;rcases h.2 with⟨b,_⟩|⟨G,C,r,b,_,a,_⟩
 ·rw[b]at H;cases H
 rw[b]at H;injection H with H;simp at H;subst H;rw[d]at a;injection a with a;injection a with _ a;exact f a
theorem bB(h:w.ownsRow B e k v n xs):∀g,v.ownBlock=some g→g<w.heap.size:=by
 intro g H;rcases h.2 with⟨a,_⟩|⟨G,C,r,a,_,c,_⟩
 ·rw[a]at H;cases H
 rw[a]at H;injection H with H;simp at H;subst H;rcases CN G w.heap.size with b|b
 ·exact b
 rw[CL b]at c;cases c
def rZ(B:Nat)(p:List Pr)(w:World)(e:Ending)(w':World):Prop:=∃b v,e=.returned (.pointer (some ⟨b,0,none⟩))∧B≤b∧A1 w' b #[.int .u32 0,.int .i32 0,.int .u32 0,.nilIface,v] 327∧Ko w' v p∧(∀g,v.ownBlock=some g→g≠b)∧Below B w w'
theorem bC(b c:Nat)(p:List Pr)(w:World)(H:∀j u,(p.flatMap P1)[j]?=some u→w.cell? ((⟨b,0,none⟩:Go.Addr).add j)=some u)(k:0<p.length)(m:p.length≤100)(n:Nat)(f:n=2*p.length):Calls prog 189 #[.slice (some ⟨b,0,none⟩) n c] w (rZ w.heap.size p w):=by
 have o:((n:Int)%2==1)=false:=by rw[AG];omega
 have q:n≤200:=by omega
 have a:=AB f;clear f;have d:=AB (Vz p);rw[←Sp]at H;have l:=AB H;clear H;go_enter func189,ntmps189;go_wp2_with(at_builtin;refine Mk (α:=Bs) (cs:=Bi) (size:=1) (z:=.string ByteArray.empty) Cw Mu Q6 rfl (by decide) underlying55 rfl _ _ rfl w.heap.size _ [] (G6 p) ⟨b,0,none⟩ n c (a.o.trans d.o.symm) rfl (A0.nil _ _ _ _ _) rfl l.o (by have:=a.o;have:=d.o;simp;omega) (by have:=a.o;have:=d.o;unfold maxLen;simp;omega) (AC _) ?_;intro V W h i e;rw[DK]at h;obtain⟨A,C,v,r⟩:=A0.rd (by decide) Cw h;subst v);go_wp2_with fail;go_ret;refine⟨W.heap.size,_,rfl,e.size,A1.new _ _ _,?_,fun g i=>DX (bB h g i),e.alloc e.size _⟩;exact(E9.pr h k).next ((AD _ _).alloc (AC _) _)
def Lu(w w':World):Prop:=∀g l,1≤l.length→Ex w g l→Ex w' g l
theorem Lu.trans{a c:World}(h:Lu a b)(k:Lu b c):Lu a c:=fun g l H d=>k g l H (h g l H d)
theorem bD(h:Below w.heap.size w w'):Lu w w':=fun _ _ _ H=>H.below h H.lt
theorem Ex.bE{l:Bs}(h:Ex w g l)(b:1≤l.length)(a:A1 w R c t):g≠R:=by
 rintro rfl;obtain⟨C,T,L,i,H,o,_⟩:=h;rw[a]at H;injection H with H;injection H with _ _ H;injection H with H _;omega
theorem W0(H:A1 w R c t)(k:Nat)(x:Value):Lu w (w.setCell ⟨R,k,none⟩ x):=fun g _ a h=>
 h.of_block (DB w _ x g (h.bE a H))
theorem sA(h:w.ownsRow B e k v n xs)(c:w.grownBy w' v.ownBlock):Lu w w':=fun g _ d a=>by
 refine a.of_block (c.block g a.lt ?_);intro H;rcases h.2 with⟨b,_⟩|⟨G,C,r,b,_,f,_⟩
 ·rw[b]at H;cases H
 rw[b]at H;injection H with H;simp at H;subst H;exact a.bE d f rfl
theorem A1.grown{o:Option Nat}(h:A1 w R c t)(H:w.grownBy w' o)(a:∀g,o=some g→g≠R):A1 w' R c t:=by
 refine(H.block R h.lt ?_).trans h;intro e;exact a R e.symm rfl
theorem sB(w:World)(o:UInt8)(t T:TypeId):∀j u,([[o]].flatMap Bi)[j]?=some u→((w.alloc (.cells #[.int .u8 (o.toNat:Int)] t)).alloc (.cells #[.string ⟨#[o]⟩] T)).cell? ((⟨w.heap.size+1,0,none⟩:Go.Addr).add j)=some u:=fun j u h=>by
 rw[Dz];have:=(A1.new (w.alloc (.cells #[.int .u8 (o.toNat:Int)] t)) #[.string ⟨#[o]⟩] T).cell j;rw[AV]at this;rw[this]
 match j,h with
 |0,h=>exact h
 |j+1,h=>simp[Bi]at h
theorem A1.get{o:Nat}(h:A1 w R (c.setIfInBounds 256 v) t)(H:c[o]?=some x)(a:o<256):w.cell? ⟨R,o,none⟩=some x:=by
 rw[h.cell,CU,AI (by omega),H]
def Ea(P:List Pr)(c:UInt8):Option Bs:=(P.find? fun p=>p.1==c).map (·.2)
def Lv(w:World)(B:Nat)(C:Array Value)(f:UInt8→Option Bs):Prop:=∀c:UInt8,(f c=none∧C[c.toNat]?=some (.slice none 0 0))∨∃n g p,f c=some n∧C[c.toNat]?=some (.slice (some ⟨g,0,none⟩) n.length p)∧B≤g∧1≤n.length∧Ex w g n
def Lb(w:World)(R B:Nat)(f:UInt8→Option Bs)(k:List Bs):Prop:=∃c v,A1 w R c 377∧c.size=257∧Lv w B c f∧c[256]?=some v∧E9 w B v k
theorem Lv.keep(h:Lv w B C f)(k:Lu w w'):Lv w' B C f:=fun c=>by
 rcases h c with h|⟨n,g,p,a,b,d,H,e⟩
 ·exact Or.inl h
 exact Or.inr ⟨n,g,p,a,b,d,H,k g n H e⟩
theorem Lv.put(h:Lv w B C f)(t:C.size=257)(o:UInt8)(n:Bs)(g cap:Nat)(a:B≤g)(b:1≤n.length)(r:Ex w g n)(v:Value):Lv w B ((C.setIfInBounds 256 v).setIfInBounds o.toNat (.slice (some ⟨g,0,none⟩) n.length cap)) (fun c=>if c=o then some n else f c):=fun c=>by
 have u:=c.toNat_lt;have x:=o.toNat_lt;by_cases e:c=o
 ·subst e;refine Or.inr ⟨n,g,cap,by simp,?_,a,b,r⟩;rw[CU,AM rfl,AM (by simp;omega)]
 have d:¬o.toNat=c.toNat:=fun h=>e (BJ.1 h.symm)
 have l:((C.setIfInBounds 256 v).setIfInBounds o.toNat (.slice (some ⟨g,0,none⟩) n.length cap))[c.toNat]?=C[c.toNat]?:=by
  rw[CU,AI d,CU,AI (by omega)]
 rcases h c with⟨i,H⟩|⟨m,G,j,H,k,p,q,s⟩
 ·exact Or.inl ⟨by simp[e,i],by rw[l];exact H⟩
 exact Or.inr ⟨m,G,j,by simp[e,H],by rw[l];exact k,p,q,s⟩
theorem sC{p:List Pr}(H:m<p.length):Ea (p.drop m)=fun c=>if c=p[m].1 then some p[m].2 else Ea (p.drop (m+1)) c:=by
 funext c;rw[AE H];unfold Ea;rw[List.find?_cons];by_cases e:c=p[m].1
 ·simp[e]
 have:(p[m].1==c)=false:=by rw[AG];exact fun h=>e h.symm
 simp[this,e]
theorem sD{p:List Pr}(H:m<p.length)(d:(p.map (·.1)).Nodup):Ea (p.drop (m+1)) p[m].1=none:=by
 unfold Ea;rw[Option.map_eq_none_iff,List.find?_eq_none];intro q a;have h:=d.sublist ((List.drop_sublist m p).map (·.1));rw[AE H,DM,List.nodup_cons]at h;intro e;exact h.1 (DY.2 ⟨q,a,by simpa using e⟩)
structure Lc(prs:List Pr):Prop where
 two:2≤prs.length
 few:prs.length≤100
 nodup:(prs.map (·.1)).Nodup
 fit:∀p∈prs,1≤p.2.length∧p.2.length≤100
 long:∃p∈prs,p.2.length≠1
def Lw(P:List Pr):Bool:=P.all fun p=>p.2.length==1
theorem sE(b:Nat)(x0 x1 x2 x3 v:Value)(s:List Pr)(ok:Lc s)(w:World)(hb:A1 w b #[x0,x1,x2,x3,v] 327)(hr:Ko w v s):Calls prog 303 #[.pointer (some ⟨b,0,none⟩)] w fun e w'=>∃R,e=.returned (.iface 378 (.pointer (some ⟨R,0,none⟩)))∧w.heap.size≤R∧Lb w' R w.heap.size (Ea s) ((s.map fun p=>[p.1]).reverse)∧Below w.heap.size w w':=by
 have c5:=hb.cell 4;obtain⟨k2,d8,a2,a3,a4⟩:=ok;have c6:=AB a2;clear a2;have a5:=AB a3;clear a3;have c7:=AB a4;clear a4;obtain⟨bk,c8,rfl,a6,a7⟩:=hr;have HC:=AB a7;clear a7;obtain⟨n,V⟩:∃n,n=2*s.length:=⟨_,rfl⟩;rw[←V]at c5;have e2:((n:Int)==2)=false:=by rw[AG];omega
 have d9:n≤200:=by omega
 have e0:4≤n:=by omega
 have I:=AB V;clear V;go_enter func303,ntmps303;go_wp2_with fail;go_loop[4,5] (fun f i=>∃(j z:Nat),i=.int .i64 z∧Hid (z=2*j)∧j≤s.length∧f=.bool (Lw (s.take j))) (fun _ i=>n-(intOf i).toNat)
 case atStart=>exact⟨0,0,rfl,rfl,by omega,rfl⟩
 obtain⟨j,z,rfl,H,hj,rfl⟩:=hrel;by_cases a8:j<s.length
 ·obtain⟨l,q⟩:=HC.o j a8;have D:=a5.o s[j] (AN _);have c9:z+1<n:=by have:=H.o;have:=I.o;omega
  rw[←H.o]at l q;have T:=AB (show Lw (s.take (j+1))=(Lw (s.take j)&&(s[j].2.length==1))from by
   unfold Lw;rw[AU a8,GN];simp)
  generalize s[j]=p at l q D T;obtain⟨o,n⟩:=p;simp only at l q D T;by_cases t:n.length=1
  ·have q1:((n.length:Int)!=1)=false:=by rw[t];rfl
   have X:=AB (by rw[T.o,t];simp:Lw (s.take (j+1))=Lw (s.take j));clear t;go_wp2_with fail
   go_round
   case rel=>exact⟨j+1,z+2,by go_num,by have:=H.o;exact AB (by omega),by omega,by rw[X.o]⟩
   simp[intOf];omega
  have q1:((n.length:Int)!=1)=true:=by rw[CZ];omega
  have X:=AB (by rw[T.o];simp;intro _;exact t:Lw (s.take (j+1))=false);clear t;go_wp2_with fail
  go_round
  case rel=>exact⟨j+1,z+2,by go_num,by have:=H.o;exact AB (by omega),by omega,by rw[X.o]⟩
  simp[intOf];omega
 obtain rfl:j=s.length:=by omega
 have hA:Lw (s.take s.length)=false:=by
  rw[CQ];obtain⟨p,hp,t⟩:=c7.o;unfold Lw;rw[AP];intro h;have:=AW.1 h p hp;simp at this;exact t this
 have c9:¬z<n:=by have:=H.o;have:=I.o;omega
 rw[hA];clear hA;obtain⟨i0,a9,Y,b0,E⟩:=FQ Q6;have Z:=fun W=>Go.run_make (P:=prog) W 55 9 i0 (.string ByteArray.empty) underlying55 a9 Y .i64 .i64 0 ((n:Int)/2) (by omega) (by omega) (by rw[E];omega) (by omega)
 rw[b0]at Z;have b1:=AB (size_madeCells (Value.string ByteArray.empty).cells (((n:Int)/2).toNat*1));generalize madeCells (Value.string ByteArray.empty).cells (((n:Int)/2).toNat*1)=u at Z b1;clear a9 Y b0 E;go_wp2_with fail;have b2:(storeCells ⟨w.heap.size+1,0,none⟩ (zeroCells377.toList.set 256 (.slice (some ⟨w.heap.size,0,none⟩) 0 (n/2))) 0).run prog ((w.alloc (.cells u 9)).alloc (.cells zeroCells377 377))=.ok () ((w.alloc (.cells u 9)).alloc (.cells (zeroCells377.setIfInBounds 256 (.slice (some ⟨w.heap.size,0,none⟩) 0 (n/2))) 377)):=by
  have:=run_storeCells_new (P:=prog) (w.alloc (.cells u 9)) 377 zeroCells377 (zeroCells377.setIfInBounds 256 (.slice (some ⟨w.heap.size,0,none⟩) 0 (n/2))) (by kernel_rfl) (by kernel_rfl) (by kernel_rfl);rw[AV,Array.toList_setIfInBounds]at this;exact this
 simp only[b2,Result.andThen];rw[Oper.upon_skip];clear b2;go_wp2_with fail;have hZ:zeroCells377=Array.replicate 257 (.slice none 0 0):=by kernel_rfl
 rw[hZ];clear hZ Z e2;have b3:Lv w w.heap.size ((Array.replicate 257 (Value.slice none 0 0)).setIfInBounds 256 (.slice (some ⟨w.heap.size,0,none⟩) 0 (n/2))) (Ea (s.drop s.length)):=fun c=>by
  have hc:=c.toNat_lt;refine Or.inl ⟨by simp[Ea],?_⟩;rw[CU,AI (by omega),Array.getElem?_replicate,AM (by omega)]
 have b4:=AB b3;clear b3;have b5:=AB (show A1 ((w.alloc (.cells u 9)).alloc (.cells ((Array.replicate 257 (Value.slice none 0 0)).setIfInBounds 256 (.slice (some ⟨w.heap.size,0,none⟩) 0 (n/2))) 377)) (w.heap.size+1) ((Array.replicate 257 (Value.slice none 0 0)).setIfInBounds 256 (.slice (some ⟨w.heap.size,0,none⟩) 0 (n/2))) 377 from by
  have:=A1.new (w.alloc (.cells u 9)) ((Array.replicate 257 (Value.slice none 0 0)).setIfInBounds 256 (.slice (some ⟨w.heap.size,0,none⟩) 0 (n/2))) 377;rw[AV]at this;exact this)
 have b6:E9 ((w.alloc (.cells u 9)).alloc (.cells ((Array.replicate 257 (Value.slice none 0 0)).setIfInBounds 256 (.slice (some ⟨w.heap.size,0,none⟩) 0 (n/2))) 377)) w.heap.size (.slice (some ⟨w.heap.size,0,none⟩) 0 (n/2)) []:=by
  refine FY ?_ _;have h:=World.ownsRow_made (base:=w.heap.size) (e:=9) (size:=1) w u (n/2) (AC _) (by unfold maxLen;omega) (by rw[b1.o];omega);exact h
 have b7:=AB b6;clear b6;have qT:∀(w:World)(a:Option Go.Addr)(n c J c':Nat),(binOp .eql 126 (.slice a n c) (.slice none J c')).run prog w=.ok (.bool a.isNone) w:=fun w a n c J c'=>run_eql_slice_nil w _ _ a n c J c' underlying126
 go_loopw[12] (fun i wr=>∃(m:Nat)(z:Int)(r:Array Value)(v:Value),i=.int .i64 z∧Hid (z=2*m-2)∧m≤s.length∧A1 wr (w.heap.size+1) r 377∧Hid (r.size=257)∧Lv wr w.heap.size r (Ea (s.drop m))∧r[256]?=some v∧E9 wr w.heap.size v (((s.drop m).map fun p=>[p.1]).reverse)∧Below w.heap.size w wr) (fun i _=>(intOf i+2).toNat)
 case atStart=>exact⟨s.length,(n:Int)-2,(Array.replicate 257 (Value.slice none 0 0)).setIfInBounds 256 (.slice (some ⟨w.heap.size,0,none⟩) 0 (n/2)),.slice (some ⟨w.heap.size,0,none⟩) 0 (n/2),rfl,by have:=I.o;exact AB (by omega),AC _,b5.o,AB (by simp),fun c=>(b4.o c).imp id (fun⟨n,g,c8,h,_⟩=>by simp[Ea]at h),by rw[CU,AM rfl,AM (by simp)],by simpa using b7.o,((AD _ _).alloc (AC _) _).alloc (by simp) _⟩
 obtain⟨m,z,r,v,rfl,H,hm,F,K,G,a0,L,B⟩:=hrel;clear b4 b5 b7;cases m with
 |zero=>
  have Y:z<0:=by have:=H.o;omega
  go_wp2_with fail;go_ret;exact⟨w.heap.size+1,rfl,by omega,⟨r,v,F,K.o,by rw[DP]at G;exact G,a0,by rw[DP]at L;exact L⟩,B⟩
 |succ m=>
  obtain⟨z,rfl⟩:∃y:Nat,z=(y:Int):=⟨2*m,by have:=H.o;omega⟩;have E:=AB (show z=2*m by have:=H.o;omega);have e1:z+1<n:=by have:=E.o;have:=I.o;omega
  obtain⟨l,q⟩:=HC.o m (by omega);rw[←E.o]at l q;have l:=(B.cell (p:=⟨bk,z,none⟩) a6).trans l;have q:=(B.cell (p:=⟨bk,z+1,none⟩) a6).trans q;have D:=a5.o s[m] (AN _);have M:=AB (sC (show m<s.length by omega));have O:=AB (sD (show m<s.length by omega) c6.o);have Q:=AB (by rw[AE (show m<s.length by omega),DM,List.reverse_cons]:((s.drop m).map fun p=>[p.1]).reverse=((s.drop (m+1)).map fun p=>[p.1]).reverse++[[s[m].1]]);clear H;generalize s[m]=p at l q D M O Q;obtain⟨o,N⟩:=p;simp only at l q D M O Q;generalize d0:Ea (s.drop (m+1))=f1 at G M O;generalize b8:((s.drop (m+1)).map fun p=>[p.1]).reverse=k at L Q;have e3:k.length≤100:=by rw[←b8];simp;omega
  clear d0 b8;have b9:r[o.toNat]?=some (.slice none 0 0):=by
   rcases G o with h|⟨J,g,e4,h,_⟩
   ·exact h.2
   rw[O.o]at h;cases h
  have k1:=(F.cell o.toNat).trans b9;have e5:=(F.cell 256).trans a0;have e6:(o.toNat:Int)<256:=by have:=o.toNat_lt;omega
  have e7:=B.size;have e8:=F.lt;have a1:=A0.next L (((AD wr.heap.size wr).alloc (AC _) (.cells #[.int .u8 (o.toNat:Int)] 5)).alloc (by simp) (.cells #[.string ⟨#[o]⟩] 9));have c0:=(F.alloc (.cells #[.int .u8 (o.toNat:Int)] 5)).alloc (.cells #[.string ⟨#[o]⟩] 9);have d1:=AB (bD (((AD wr.heap.size wr).alloc (AC _) (.cells #[.int .u8 (o.toNat:Int)] 5)).alloc (by simp) (.cells #[.string ⟨#[o]⟩] 9)));have d2:=sB wr o 5 9;have e9:=fun w=>run_bytes_of_string (P:=prog) w 9 126 5 ⟨N.toArray⟩ underlying9 underlying126 underlying5
  have c1:=P2 a1 c0 (by decide);have d3:=AB c1;clear c1;go_wp2_with(at_builtin;refine Mk (α:=Bs) (cs:=Bi) (size:=1) (z:=.string ByteArray.empty) Cw Mu Q6 rfl (by decide) underlying55 rfl _ _ rfl w.heap.size _ k [[o]] ⟨wr.heap.size+1,0,none⟩ 1 1 rfl rfl a1 rfl d2 (by simp;omega) (by unfold maxLen;simp;omega) (by simp;omega) ?_;intro v' d S c2 d4;have x:=c0.grown c2 d3.o;have k4:=(x.cell 256).trans a0;have k5:=x.free 256;obtain⟨A,C,d5,_⟩:=A0.rd (by decide) Cw S;subst d5;have U:=x.set 256 (.slice A (k.length+1) C);have k6:=U.get (o:=o.toNat) b9 o.toNat_lt;have k7:=U.free o.toNat;have k8:=x.lt;have k9:=x.lt);have d6:=U.set o.toNat (.slice (some ⟨d.heap.size,0,none⟩) N.length (grownCap (d.setCell ⟨w.heap.size+1,256,none⟩ (.slice A (k.length+1) C)) N.length 0 5));have d7:=d1.o.trans ((sA a1 c2).trans ((W0 x 256 (.slice A (k.length+1) C)).trans (W0 U o.toNat (.slice (some ⟨d.heap.size,0,none⟩) N.length (grownCap (d.setCell ⟨w.heap.size+1,256,none⟩ (.slice A (k.length+1) C)) N.length 0 5)))));have c3:=P2 S x (by decide);have f0:=bB S;have B4:=((B.alloc B.size (.cells #[.int .u8 (o.toNat:Int)] 5)).alloc (B.alloc B.size _).size (.cells #[.string ⟨#[o]⟩] 9)).trans d4;have B6:=(B4.setCell (p:=⟨w.heap.size+1,256,none⟩) (GJ _) (.slice A (k.length+1) C)).setCell (p:=⟨w.heap.size+1,o.toNat,none⟩) (GJ _) (.slice (some ⟨d.heap.size,0,none⟩) N.length (grownCap (d.setCell ⟨w.heap.size+1,256,none⟩ (.slice A (k.length+1) C)) N.length 0 5));have c4:=Yf ((d.setCell ⟨w.heap.size+1,256,none⟩ (.slice A (k.length+1) C)).setCell ⟨w.heap.size+1,o.toNat,none⟩ (.slice (some ⟨d.heap.size,0,none⟩) N.length (grownCap (d.setCell ⟨w.heap.size+1,256,none⟩ (.slice A (k.length+1) C)) N.length 0 5))) N (grownCap (d.setCell ⟨w.heap.size+1,256,none⟩ (.slice A (k.length+1) C)) N.length 0 5) 5;rw[EL,EL]at c4;have f2:=E.o;go_roundw
  case rel=>
   refine⟨m,(z:Int)-2,(r.setIfInBounds 256 (.slice A (k.length+1) C)).setIfInBounds o.toNat (.slice (some ⟨d.heap.size,0,none⟩) N.length (grownCap (d.setCell ⟨w.heap.size+1,256,none⟩ (.slice A (k.length+1) C)) N.length 0 5)),.slice A (k.length+1) C,rfl,AB (by omega),by omega,(d6.alloc _).drew,AB (by simpa using K.o),?_,?_,?_,(B6.alloc B6.size _).drew⟩
   ·rw[M.o];exact((G.keep (d7.trans (bD (((AD _ _).alloc (AC _) _).drew)))).put K.o o N d.heap.size _ B4.size D.1 c4 _)
   ·rw[CU,AI (by omega),CU,AM rfl,AM (by rw[K.o];omega)]
   rw[Q.o];have h:=Qt (w':=((d.setCell ⟨w.heap.size+1,256,none⟩ (.slice A (k.length+1) C)).setCell ⟨w.heap.size+1,o.toNat,none⟩ (.slice (some ⟨d.heap.size,0,none⟩) N.length (grownCap (d.setCell ⟨w.heap.size+1,256,none⟩ (.slice A (k.length+1) C)) N.length 0 5)))) S (fun g hg=>(DB _ ⟨w.heap.size+1,o.toNat,none⟩ _ g (c3 g hg)).trans (DB _ ⟨w.heap.size+1,256,none⟩ _ g (c3 g hg)));rw[(by simp:Value.slice A (k++[[o]]).length C=.slice A (k.length+1) C)]at h;exact Jr h (((AD _ _).alloc (AC _) _).drew)
  simp[intOf];omega
end Go.Proofs.YtignjjnflcpiiaaGreatDoor
namespace Go.Proofs.YtignjjnflcpiiaaGreatDoor
open Go Go.RowKit Proofs.Tryz Lib
def Gn(first l:Bool)(out:List Bs)(s:Bs):List Bs:=
 if s=[46]∨(s=[]∧first=false∧l=false)then(if l then out++[[]]else out)
 else if s=[46,46]then(if l then(if 1<out.length∨(out.length=1∧out≠[[]])then out.dropLast else out)++[[]]else(if 1<out.length∨(out.length=1∧out≠[[]])then out.dropLast else out))
 else out++[s]
def F1(l:List Bs):Nat→List Bs
 |0=>[]
 |k+1=>Gn (k==0) (k+1==l.length) (F1 l k) (l.getD k [])
def bF(l:List Bs):List Bs:=F1 l l.length
def G7(p:Bs):Bs:=join (bF (Bo 47 p)) [47]
theorem sF(f l:Bool)(o:List Bs)(s:Bs):(Gn f l o s).length≤o.length+1:=by
 unfold Gn;repeat' split
 all_goals simp
 all_goals omega
theorem Qu(l:List Bs)(k:Nat):(F1 l k).length≤k:=by
 induction k with
 |zero=>simp[F1]
 |succ k ih=>have:=sF (k==0) (k+1==l.length) (F1 l k) (l.getD k []);unfold F1;omega
theorem W3{l:List Bs}{k:Nat}(h:k<l.length):F1 l (k+1)=Gn (k==0) (k+1==l.length) (F1 l k) l[k]:=by
 show Gn _ _ _ _=_;rw[AK,AZ h];rfl
theorem Sq(f l:Bool)(o:List Bs):Gn f l o [46]=if l then o++[[]]else o:=by simp[Gn]
theorem bG(o:List Bs):Gn false false o []=o:=by simp[Gn]
theorem Sr(f l:Bool)(o:List Bs)(h:f=true∨l=true):Gn f l o []=o++[[]]:=by
 rcases h with h|h<;>simp[Gn,h]
def Nn(o:List Bs):List Bs:=if 1<o.length∨(o.length=1∧o≠[[]])then o.dropLast else o
theorem I0(f l:Bool)(o:List Bs):Gn f l o [46,46]=if l then Nn o++[[]]else Nn o:=by simp[Gn,Nn]
theorem Ss:Nn []=[]:=rfl
theorem St:Nn [[]]=[[]]:=rfl
theorem Mv{o:List Bs}{y:Bs}(h:o≠[]∨y≠[]):Nn (o++[y])=o:=by
 unfold Nn;rw[AM,List.dropLast_concat];cases o with
 |nil=>right;simpa using h
 |cons x o=>left;simp
theorem Su(f l:Bool)(o:List Bs)(s:Bs)(h:s≠[46])(H:s≠[])(a:s≠[46,46]):Gn f l o s=o++[s]:=by simp[Gn,h,H,a]
theorem sG(f l:Bool)(o:List Bs)(s:Bs):lens (Gn f l o s)≤lens o+s.length:=by
 have d:lens o.dropLast≤lens o:=by rw[List.dropLast_eq_take];exact lens_take_le _ _
 have h:∀(x y:List Bs),lens (x++y)=lens x+lens y:=fun x y=>by simp[lens]
 have H:lens [([]:Bs)]=0:=rfl;have a:∀s:Bs,lens [s]=s.length:=fun s=>by simp[lens]
 unfold Gn;repeat' split
 all_goals try simp only[h,H,a]
 all_goals omega
theorem sH(l:List Bs)(k:Nat)(H:k≤l.length):lens (F1 l k)≤lens (l.take k):=by
 induction k with
 |zero=>simp[F1,lens]
 |succ k ih=>
  have h:=sG (k==0) (k+1==l.length) (F1 l k) (l[k]'(by omega));rw[W3 (by omega),lens_take_succ l k (l[k]'(by omega)) (AZ (by omega))];have:=ih (by omega);omega
theorem sI(c:UInt8)(l:Bs):lens (Bo c l)+(Bo c l).length=l.length+1:=by
 induction l with
 |nil=>rfl
 |cons x l ih=>
  unfold Bo;by_cases h:x=c
  ·subst h;simp[lens]at*;omega
  simp only[h,DJ];split
  ·rename_i e;exact absurd e (N3 c l)
  rename_i H t e;rw[e]at ih;simp[lens]at*;omega
theorem Sv(p:Bs):(G7 p).length≤2*p.length+2:=by
 unfold G7 bF;have H:=sH (Bo 47 p) _ (AC _);have b:=sI 47 p;have a:=Qu (Bo 47 p) (Bo 47 p).length;rw[CQ]at H;cases h:F1 (Bo 47 p) (Bo 47 p).length with
 |nil=>simp[join_nil]
 |cons x r=>
  rw[h]at H a;rw[join_length];simp at*;omega
def P3(p:Bs):Bs:=p.take (lastIndexByte ⟨p.toArray⟩ 47+1).toNat
def Jg(b:A3):Bs:=if b.hasAuth&&b.path.isEmpty then[47]else P3 b.path
def Be(b a:A3):A3:=
 if a.scheme≠[]then{a with path:=G7 a.path}
 else if a.hasAuth then{a with scheme:=b.scheme,path:=G7 a.path}
 else match a.path with
  |[]=>⟨b.scheme,b.hasAuth,b.auth,b.path,if a.hasQuery then true else b.hasQuery,if a.hasQuery then a.query else b.query,a.hasFrag,a.frag⟩
  |c::l=>if c=47 then⟨b.scheme,b.hasAuth,b.auth,G7 (c::l),a.hasQuery,a.query,a.hasFrag,a.frag⟩
   else⟨b.scheme,b.hasAuth,b.auth,G7 (Jg b++c::l),a.hasQuery,a.query,a.hasFrag,a.frag⟩
theorem bH(s:ByteArray)(c:Int):∀k:Nat,-1≤Lib.lastIdx s c k∧Lib.lastIdx s c k<k
 |0=>by simp[Lib.lastIdx]
 |k+1=>by
  unfold Lib.lastIdx;have:=bH s c k;split<;>omega
theorem bI(l:Bs)(c:Int):-1≤lastIndexByte ⟨l.toArray⟩ c∧lastIndexByte ⟨l.toArray⟩ c<l.length:=bH _ c l.length
theorem W4(b:A3):(Jg b).length≤b.path.length+1:=by
 unfold Jg P3;split
 ·simp
 simp;omega
end Go.Proofs.YtignjjnflcpiiaaGreatDoor
