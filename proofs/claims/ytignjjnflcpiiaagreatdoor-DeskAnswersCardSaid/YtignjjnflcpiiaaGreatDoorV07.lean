/- kind.token says whether a text may stand without quotes; -/
import Derived.Deep.RegionHeld3
import Derived.Shelf.Strings.BuilderK
import Derived.Test.YtignjjnflcpiiaaGreatDoorV02
import Derived.Test.YtignjjnflcpiiaaGreatDoorV03
set_option maxHeartbeats 4000000
set_option maxRecDepth 100000 set_option linter.all false
namespace Go.Proofs.YtignjjnflcpiiaaGreatDoor
open Go Go.RowKit Proofs.Tryz Lib
def xP(r:Nat)(c:r<=1114111)(w:World):Calls prog 176 #[.int .i32 (r:Int)] w fun e W=>e=.returned (.bool (Ge r))/\w=W:=by
 by_cases h:r<33
 ·have H:=AE (by unfold Ge;rw[BH h];rfl:Ge r=true);go_enter func176,ntmps176;go_wp2;go_ret;exact⟨Bm H.o.symm,rfl⟩
 by_cases a:126<r
 ·have H:=AE (by unfold Ge;rw[BH a];simp:Ge r=true);go_enter func176,ntmps176;go_wp2;go_ret;exact⟨Bm H.o.symm,rfl⟩
 have H:=AE (by unfold Ge;rw[AY h,AY a,contains_iff_indexByte];rfl:Ge r=decide (0<=indexByte Rq r.toUInt8));have d:(0:Int)<=r:=aa
 go_enter func176,ntmps176;go_wp2_with fail;refine(Tryz.strings_ContainsRune_ascii _ _ _ aa aa).mono ?_;rintro e W⟨rfl,b⟩;obtain rfl:=b.symm;go_wp2;go_ret;exact⟨Bm (by rw[H.o,AY (show¬(r:Int)<33 by omega),AY (show¬(126:Int)<r by omega)];rfl),rfl⟩
def xQ(w:World):PredGrows prog 176 #[] Ge w:=fun W x h _=>
 (xP x h W).mono fun _ _⟨H,a⟩=>⟨H,a▸AG _ _⟩
def Pm(s:Bs)(w:World)(l:s.length<=1000000000000):Calls prog 90 #[s] w fun e a=>e=.returned (.bool (Ag s))/\Below w.heap.size w a:=by
 have hC:=fun W=>Yr 176 (DU func176 af rfl) Ge uD s #[] W (xQ W)
 have H:=AE (ca:Ag s=(!s.isEmpty&&!(s.any fun c=>Ge c.toNat)));generalize(s.any fun c=>Ge c.toNat)=q at hC H;by_cases h0:s=[]
 ·subst h0;go_enter func90,ntmps90;go_wp2;go_ret;exact⟨Bm bu,AG _ _⟩
 have h:s.isEmpty=false:=ed
 go_enter func90,ntmps90;go_wp2_with fail;refine(hC _).mono ?_;rintro e d⟨rfl,b⟩;go_wp2;go_ret;exact⟨Bm (by rw[H.o,h];rfl),b⟩
def xR:((List.range 256).all fun n=>C6 n.toUInt8==(decide (32<=(n.toUInt8.toNat:Int))&&decide ((n.toUInt8.toNat:Int)<=126)))=true:=af
def Qp(c:UInt8):C6 c=(decide (32<=(c.toNat:Int))&&decide ((c.toNat:Int)<=126)):=by
 have:=AW.1 xR c.toNat (BT.2 c.toNat_lt);rw[show c.toNat.toUInt8=c by simp]at this;exact BL.1 this
def S8{c d:UInt8}(h:c≠d):((c.toNat:Int)==(d.toNat:Int))=false:=by
 rw[AI];intro e;exact h (BQ.1 aa)
def Jb(x:Bs×Bs×Bool):Value:=.tuple #[x.1,x.2.1,.bool x.2.2]
def xS(s:Bs)(w:World)(l:s.length<=1000000000)(p:hasPrefix s [34]=false):Calls prog 93 #[s] w fun e b=>e=.returned (Jb (D6 s))/\Below w.heap.size w b:=by
 have T:=AE (by unfold D6;rw[AL (by rw[p];decide),Vo,Yn]:D6 s=(s.take (s.takeWhile fun c=>!F0 c).length,s.drop (s.takeWhile fun c=>!F0 c).length,Ag (s.take (s.takeWhile fun c=>!F0 c).length)));have d:=Rr (fun c=>!F0 c) s;have hI:=Vn [59,32,9] s;change indexAny s [59,32,9]=if(s.takeWhile fun c=>!F0 c).length=s.length then-1 else((s.takeWhile fun c=>!F0 c).length:Int)at hI
 generalize(s.takeWhile fun c=>!F0 c).length=K at T d hI;have I:=AE hI;clear hI;have P:=AE p;clear p;go_enter func93,ntmps93;go_wp2_with fail;refine(L6 s [34] _).mono ?_;rintro e b⟨rfl,rfl⟩;rw[P.o];go_wp2_with fail;refine(Ys s [59,32,9] ae ae ae aa _).mono ?_;rintro e i⟨rfl,H⟩;rw[I.o];have k:=fun W=>Pm (s.take K) W ag
 by_cases h:K=s.length
 ·subst h;rw[AN rfl];rw[CY]at k;have f:=AE (by rw[T.o,CY,AS]:D6 s=(s,[],Ag s));clear T;go_wp2_with fail
  go_region_with ((go_at_call 90;refine(k _).mono ?_;rintro e g⟨rfl,a⟩))
  all_goals
   go_wp2_with fail;refine AO (v:=Jb (s,[],Ag s)) (by simp[results,results93,go_sem,Jb];rfl) rfl ⟨by rw[f.o],gy⟩
 rw[AL h];have t:K<s.length:=aa
 go_wp2_with fail
 go_region_with ((go_at_call 90;refine(k _).mono ?_;rintro e g⟨rfl,a⟩))
 all_goals
  go_wp2_with fail;refine AO (v:=Jb (s.take K,s.drop K,Ag (s.take K))) fy rfl ⟨by rw[T.o],gy⟩
def xT(s:Bs)(w:World)(hl:s.length<=1000000000)(p:hasPrefix s [34]=true):Calls prog 93 #[s] w fun e n=>e=.returned (Jb (D6 s))/\Below w.heap.size w n:=by
 have T:=AE (by unfold D6;rw[AN p]<;>rfl:D6 s=match Bj (s.drop 1)with|none=>([],[],false)|some x=>(x.1,x.2,true));have P:=AE p;have a0:1<=s.length:=by
  cases s with
  |nil=>simp[hasPrefix]at p
  |cons _ _=>simp
 clear p;have D:=P6 w;go_enter func93,ntmps93;go_wp2_with fail;refine(L6 s [34] _).mono ?_;rintro e n⟨rfl,rfl⟩;rw[P.o];go_wp2_with fail;go_loopw[7] (fun i wr=>∃(k:Nat)(o:Bs),i=k/\1<=k/\k<=s.length/\o.length<=k/\E6 w.heap.size w.heap.size o wr/\(Bj (s.drop k)).map (fun x=>(o++x.1,x.2))=Bj (s.drop 1)/\Below w.heap.size w wr) (fun i _=>s.length-(intOf i).toNat)
 case atStart=>exact⟨1,[],rfl,aa,aa,ah,D,ah,cu⟩
 obtain⟨k,o,rfl,a1,hk,a2,f,q,B⟩:=hrel;have l:=AE q;clear q;by_cases g:k<s.length
 ·by_cases a:s[k]=34
  ·have N:=AE (show D6 s=(o,s.drop (k+1),true)from by
    rw[T.o,<-l.o,AH g,a];cases hd:s.drop (k+1)<;>simp[Bj])
   have a3:((s[k].toNat:Int)==34)=true:=yd
   clear a;go_wp2_with fail;have y1:IntKind.i64.wrap ((k:Int)+1)=(k:Int)+1:=CQ _ aa;have y2:(0:Int)<=(k:Int)+1:=aa
   have y3:((k:Int)+1).toNat=k+1:=aa
   have y4:(k:Int)+1<=s.length:=aa
   have S:=fun W(E:E6 w.heap.size w.heap.size o W)(F:w.heap.size<=W.heap.size)=>Q5 w.heap.size w.heap.size o W E F
   have G:=f.drew;have r:=B.drew;have K:=r.size;go_region_law((go_simp;refine(S _ (by first|exact G|exact f) (by first|exact K|exact B.size)).mono ?_;rintro e L⟨rfl,b⟩));all_goals
    go_wp2_with fail;refine AO (v:=Jb (o,s.drop (k+1),true)) fy rfl ⟨fo,by first|exact r.trans b|exact B.trans b⟩
  obtain⟨j,hj,a4,u,y,z⟩:=uH s k g a;have M:((s[k].toNat:Int)==34)=false:=S8 a;have c:=AE z;clear z;have A:=AE u;clear u;have m:=AE y;clear y a;go_upto_block 2 with fail;go_cut[7] (fun t O=>t=j/\O=wr)
  case first=>
   by_cases H:s[k]=92
   ·have Q:((s[k].toNat:Int)==92)=true:=by rw[H];rfl
    by_cases C:k+1<s.length
    ·have J:=AE (A.o ⟨H,C⟩);have R:(k:Int)+1<s.length:=by omega
     clear H;go_wp2;go_meet;exact⟨by rw[J.o];go_num,rfl⟩
    have J:=AE (m.o (fun h=>C h.2));have R:(s.length:Int)<=(k:Int)+1:=aa
    clear H;go_wp2;go_meet;exact⟨by rw[J.o],rfl⟩
   have J:=AE (m.o (fun h=>H h.1));have Q:((s[k].toNat:Int)==92)=false:=S8 H;clear H;go_wp2;go_meet;exact⟨by rw[J.o],rfl⟩
  obtain⟨rfl,rfl⟩:=hcut;obtain⟨wr,rfl⟩:∃x:World,x=wc:=⟨_,rfl⟩;clear M A m g;have I:=AE (Qp s[j]);have a5:(s[j].toNat:Int)<256:=by have:=s[j].toNat_lt;omega
  by_cases d:32<=(s[j].toNat:Int)/\(s[j].toNat:Int)<=126
  ·obtain⟨U,V⟩:=d;have X:=AE (show(Bj (s.drop (j+1))).map (fun x=>((o++[s[j]])++x.1,x.2))=Bj (s.drop 1)from by
    rw[<-l.o,c.o,I.o,BH U,BH V];cases Bj (s.drop (j+1))<;>simp)
   clear c I;go_wp2_with fail;refine(Mx w.heap.size w.heap.size o _ s[j] rfl _ f aa B.size).mono ?_;rintro e L⟨rfl,b,Y⟩;go_wp2;go_roundw
   case rel=>exact⟨j+1,o++[s[j]],aj,aa,aa,ag,b,X.o,B.trans Y⟩
   simp[intOf];omega
  have N:=AE (show D6 s=([],[],false)from by
   have h0:C6 s[j]=false:=by
    rw[I.o,AT];intro h;simp at h;exact d h
   rw[T.o,<-l.o,c.o,h0];rfl)
  have Z:=AE d;clear d c I;by_cases a6:(s[j].toNat:Int)<32
  ·go_wp2_with fail;refine AO (v:=Jb ([],[],false)) fy rfl ⟨fo,B⟩
  have a7:126<(s[j].toNat:Int):=by have:=Z.o;omega
  go_wp2_with fail;refine AO (v:=Jb ([],[],false)) fy rfl ⟨fo,B⟩
 obtain rfl:k=s.length:=aa
 have N:=AE (by rw[T.o,<-l.o,AS];rfl:D6 s=([],[],false));go_wp2_with fail;refine AO (v:=Jb ([],[],false)) fy rfl ⟨fo,B⟩
def xU(s:Bs)(w:World)(h:s.length<=1000000000):Calls prog 93 #[s] w fun e W=>e=.returned (Jb (D6 s))/\Below w.heap.size w W:=by
 cases H:hasPrefix s [34]with
 |true=>exact xT s w h H
 |false=>exact xS s w h H
abbrev Kq(w:World)(B:Nat)(v:Value)(l:List A4):Prop:=A1 119 2 Bc w B v l
def gO:(prog.info? 119).map (fun i=>(i.zero,i.size,i.bytes))=some (some (.agg #[.string ByteArray.empty,.string ByteArray.empty]),2,32):=af
variable {w w':World}{v x:Value}{B n k R g m b:Nat}{xs:List Value}{e t:TypeId}{c C:Array Value}{l:Bs}{f:UInt8 → Option Bs}
def Tz{Q:Exit->Act->World->Prop}{O:Array Oper}{rest:List Oper}{o:Oper}{a:Act}(H:o.guard=none)(s x:Operand)
  (d:o.op=.call {callee:=.builtin .append,args:=#[s,x],argTypes:=#[79,79]}) (B:Nat) (v:Value) (xs:List A4) (y:A4) (b c:Nat)
  (e:a.eval s=v) (n:Kq w B v xs) (f:a.eval x=.slice (some ⟨b,0,none⟩) 1 c) (g:∀j u,([y].flatMap Bc)[j]?=some u->w.cell? ((⟨b,0,none⟩:Go.Addr).add j)=some u) (k:xs.length+1<=1000000000001) (i:B<=w.heap.size)
  (h:∀V W,Kq W B V (xs++[y])->w.grownBy W v.ownBlock->Below B w W->wpList prog O Q rest (a.put o.dst V) W):wpList prog O Q (o::rest) a w:=
 P7 (α:=A4) (cs:=Bc) (size:=2) (z:=.agg #[.string ByteArray.empty,.string ByteArray.empty]) Af M0 gO rfl ae underlying79 H s x d B v xs [y] ⟨b,0,none⟩ 1 c rfl e n f g ag ao i h
def Zm(B:Nat)(r:Option (Bs×List A4))(e:Ending)(w':World):Prop:=(∃m l v,r=some (m,l)/\e=.returned (.tuple #[.string ⟨m.toArray⟩,v,.nilIface])/\Kq w' B v l)\/(r=none/\e=.returned (.tuple #[.string ⟨#[]⟩,.slice none 0 0,.iface 30 (.int .i64 3)]))
def Qq(l p:Bs)(w:World)(h:l.length<4294967281)(H:Cj w):Calls prog 31 #[l,p] w fun e W=>e=.returned (.bool (contains l p))/\w=W:=by
 obtain⟨m,a⟩:=H.maxLen;refine(Tryz.strings_Contains ⟨l.toArray⟩ ⟨p.toArray⟩ m w h a).mono ?_;rintro e W⟨rfl,rfl⟩;exact⟨rfl,rfl⟩
def gP(w:World)(f:A4)(t:TypeId)(n:Nat)(h:w.heap.size=n):∀j u,([f].flatMap Bc)[j]?=some u->(w.alloc (.cells #[f.1,f.2] t)).cell? ((⟨n,0,none⟩:Go.Addr).add j)=some u:=h▸I0 w f t
def Zn:Value->Nat
 | true=>1
 |_=>0
def Mf(ok:Bool)(fuel:Nat)(rest:Bs):Option (List A4):=if ok then Ia fuel rest else some []
def Qr(s:Bs)(w:World)(hl:s.length<=1000000000)(D:Cj w):Calls prog 34 #[s] w fun e M=>Zm w.heap.size (Ay s) e M/\Below w.heap.size w M:=by
 have R:=AE (ca:Ay s=if Ag (cut (A2 (trimS (cut s [59]).1 [32,9])) [47]).1&&(!(cut (A2 (trimS (cut s [59]).1 [32,9])) [47]).2.2||Ag (cut (A2 (trimS (cut s [59]).1 [32,9])) [47]).2.1)then(Mf (cut s [59]).2.2 ((cut s [59]).2.1.length+1) (cut s [59]).2.1).map fun l=>(A2 (trimS (cut s [59]).1 [32,9]),l)else none);have u:=Oc s [59];go_enter func34,ntmps34;go_wp2_with fail;refine(Nj s [59] _ aa D).mono ?_;rintro e w1⟨rfl,B⟩;generalize cut s [59]=c at u R|-;obtain⟨Q,C,ok⟩:=c;simp only at u R|-;have E:=Ro Q [32,9];go_wp2_with fail;refine(Tc Q [32,9] _ aa ae ae).mono ?_;rintro e w2⟨rfl,H⟩;have B:=B.trans (H.mono B.size);clear H;generalize trimS Q [32,9]=t at E R|-;go_wp2_with fail;refine(Gw t _ aa).mono ?_;rintro e w3⟨rfl,H⟩;have B:=B.trans (H.mono B.size);have b5:(A2 t).length<=1000000000:=ot
 clear H E;generalize A2 t=m at b5 R|-;go_wp2_with fail;refine(Nj m [47] _ aa (D.next B)).mono ?_;rintro e w4⟨rfl,H⟩;have B:=B.trans (H.mono B.size);clear H;have T:=Oc m [47];have G:=AE (uG m [47]);generalize cut m [47]=d at T G R|-;obtain⟨I,U,V⟩:=d;simp only at T G R|-;go_upto_region 4 with fail;go_cut[42] (fun t wx=>t=.bool (!(Ag I&&(!V||Ag U)))/\Below w.heap.size w wx)
 case first=>
  go_wp2_with fail;refine(Pm I _ aa).mono ?_;rintro e w5⟨rfl,H⟩;have B:=B.trans (H.mono B.size);clear H;generalize a4:Ag I=b6;have X:=AE a4;clear a4;cases b6 with
  |false=>
   go_wp2;go_meet;exact⟨by rw[X.o];rfl,B⟩
  |true=>
   go_wp2_with fail;refine(Qq m [47] _ aa (D.next B)).mono ?_;rintro e M⟨rfl,rfl⟩;rw[G.o];cases V with
   |false=>
    go_wp2;go_meet;exact⟨by rw[X.o];rfl,B⟩
   |true=>
    go_wp2_with fail;refine(Pm U _ aa).mono ?_;rintro e w6⟨rfl,H⟩;have B:=B.trans (H.mono B.size);clear H;go_wp2;go_meet;exact⟨by rw[X.o];rfl,B⟩
 case rest=>
 clear B;obtain⟨rfl,B⟩:=hcut;obtain⟨w5,rfl⟩:∃x:World,x=wc:=⟨_,rfl⟩;clear G T;generalize(Ag I&&(!V||Ag U))=b7 at R|-;cases b7 with
 |false=>
  have N:=AE (uk:Ay s=none);go_wp2;go_ret3;exact⟨Or.inr ⟨N.o,rfl⟩,B⟩
 |true=>
  have N:=AE (uk:Ay s=(Mf ok (C.length+1) C).map fun l=>(m,l));clear R;have HM:=AE (ca:Mf ok (C.length+1) C=Mf ok (C.length+1) C);generalize a5:Mf ok (C.length+1) C=Y at N;have b8:=AE a5;clear a5 HM;simp only[EK];go_wp2_with fail;go_loopw[6,7,11] (fun t b o wr=>∃(rest:Bs)(ok:Bool)(g:List A4)(F:Nat),t=rest/\b=ok/\Kq wr w.heap.size o g/\rest.length<=1000000000/\g.length+rest.length<=1000000000/\rest.length<F/\(Mf ok F rest).map (g++·)=Y/\Below w.heap.size w wr) (fun t b _ _=>Jn t+Zn b)
  case atStart=>exact⟨C,ok,[],C.length+1,rfl,rfl,A1.nil _ _ _ _ _,aa,ag,aa,by rw[b8.o];simp,B⟩
  clear B;obtain⟨rest,ok,g,F,rfl,rfl,a,d1,d2,d3,a6,B⟩:=hrel;have i:=AE a6;clear a6;cases ok with
  |false=>
   have Z:=AE (by rw[N.o,<-i.o];simp[Mf]:Ay s=some (m,g));go_wp2;go_ret3;exact⟨Or.inl ⟨m,g,_,Z.o,rfl,a⟩,B⟩
  |true=>
   obtain⟨F,rfl⟩:∃n,F=n+1:=⟨F-1,aa⟩;have P:=AE (ca:Mf true (F+1) rest=match Hk rest with|none=>none|some (f,r)=>match r with|[]=>some [f]|c::r'=>if c=59 then(Ia F r').map (f::·)else none);have O:=AE (ca:Hk rest=if(cut (trimLeftS rest [32,9]) [61]).2.2&&Ag (trimRightS (cut (trimLeftS rest [32,9]) [61]).1 [32,9])then(if(D6 (trimLeftS (cut (trimLeftS rest [32,9]) [61]).2.1 [32,9])).2.2 then some ((A2 (trimRightS (cut (trimLeftS rest [32,9]) [61]).1 [32,9]),(D6 (trimLeftS (cut (trimLeftS rest [32,9]) [61]).2.1 [32,9])).1),trimLeftS (D6 (trimLeftS (cut (trimLeftS rest [32,9]) [61]).2.1 [32,9])).2.1 [32,9])else none)else none);have J:=AE (show Hk rest=none->Ay s=none from fun h=>by rw[N.o,<-i.o,P.o,h];rfl);have E:=Q9 rest [32,9];have b9:=AE (fun(f:A4)(r:Bs)(h:Hk rest=some (f,r))=>Ym h);go_wp2_with fail;refine(Vh rest [32,9] _ ae ae).mono ?_;rintro e w6⟨rfl,H⟩;have a:=A1.next a H;have B:=B.trans (H.mono B.size);clear H;generalize trimLeftS rest [32,9]=t at E O|-;have u:=Oc t [61];go_wp2_with fail;refine(Nj t [61] _ aa (D.next B)).mono ?_;rintro e w7⟨rfl,H⟩;have a:=A1.next a H;have B:=B.trans (H.mono B.size);clear H;generalize cut t [61]=c at u O|-;obtain⟨a1,a2,c0⟩:=c;simp only at u O|-;have c1:=T9 a1 [32,9];go_wp2_with fail;refine(dO a1 [32,9] _ aa ae ae).mono ?_;rintro e w8⟨rfl,H⟩;have a:=A1.next a H;have B:=B.trans (H.mono B.size);clear H;generalize trimRightS a1 [32,9]=y at c1 O|-;cases c0 with
   |false=>
    have A:=AE (J.o (by rw[O.o];rfl));go_wp2;go_ret3;exact⟨Or.inr ⟨A.o,rfl⟩,B⟩
   |true=>
   go_wp2_with fail;refine(Pm y _ aa).mono ?_;rintro e w9⟨rfl,H⟩;have a:=A1.next a H;have B:=B.trans (H.mono B.size);clear H;generalize Ag y=bt at O|-;cases bt with
   |false=>
    have A:=AE (J.o (by rw[O.o];rfl));go_wp2;go_ret3;exact⟨Or.inr ⟨A.o,rfl⟩,B⟩
   |true=>
   have c2:(A2 y).length<=1000000000:=ot
   go_wp2_with fail;refine(Gw y _ aa).mono ?_;rintro e W⟨rfl,H⟩;have a:=A1.next a H;have B:=B.trans (H.mono B.size);clear H;generalize A2 y=L at c2 O|-;have c3:=Q9 a2 [32,9];have k:=A0.new W #[L,.string ByteArray.empty] 119;have K:=(AG W.heap.size W).alloc (AF _) (.cells #[L,.string ByteArray.empty] 119);have B0:=B.size;go_wp2_with fail;refine(Vh a2 [32,9] _ ae ae).mono ?_;rintro e d4⟨rfl,H⟩;have k:=k.next H k.lt;have K:=K.trans (H.mono K.size);clear H;generalize trimLeftS a2 [32,9]=t2 at c3 O|-;have a7:=eD t2;go_wp2_with fail;refine(xU t2 _ aa).mono ?_;rintro e a8⟨rfl,H⟩;have k:=k.next H k.lt;have K:=K.trans (H.mono K.size);clear H;generalize D6 t2=x at a7 O|-;obtain⟨v,r,a0⟩:=x;simp only at a7 O;rw[(ca:Jb (v,r,a0)=.tuple #[v,r,a0])];have c4:=k.cell 0;have c5:=k.cell 1;have c6:=k.free 1;have KS:=K.setCell (p:=⟨W.heap.size,1,none⟩) (AF _) v;have a9:=A1.next a KS;have S:=B.trans (KS.mono B0);clear K k;cases a0 with
   |false=>
    have A:=AE (J.o (by rw[O.o];rfl));go_wp2;go_ret3;exact⟨Or.inr ⟨A.o,rfl⟩,S⟩
   |true=>
   have j:=AE (by rw[O.o];rfl:Hk rest=some ((L,v),trimLeftS r [32,9]));clear O J;have c7:=Q9 r [32,9];have c8:=S.size;go_wp2_with(at_builtin;refine Tz rfl _ _ rfl w.heap.size _ g (L,v) a8.heap.size 1 rfl (A1.alloc a9 _) rfl (gP (a8.setCell ⟨W.heap.size,1,none⟩ v) (L,v) _ _ ah) aa (by simp at c8|-;omega) ?_;intro v' d5 b0 d6 c9);have b1:=(S.alloc S.size _).trans c9;go_wp2_with fail;refine(Vh r [32,9] _ ae ae).mono ?_;rintro e d7⟨rfl,H⟩;have b2:=A1.next b0 H;have a3:=b1.trans (H.mono b1.size);clear H b0 a9 c4 c5 c6;have b3:=AE (b9.o _ _ j.o);generalize trimLeftS r [32,9]=z at c7 j b3|-;have b4:=b3.o;simp only at b4;cases z with
   |nil=>
    have HQ:=AE (by rw[<-i.o,P.o,j.o];simp[Mf]:(Mf false F []).map ((g++[(L,v)])++·)=Y);clear i P j;go_wp2;go_roundw
    case rel=>exact⟨[],false,g++[(L,v)],F+1,rfl,rfl,b2,ah,ag,ah,HQ.o,a3⟩
    simp[Zn]
   |cons c z'=>
    by_cases q:c=59
    ·have HQ:=AE (show(Mf true F z').map ((g++[(L,v)])++·)=Y from by
      rw[<-i.o,P.o,j.o];simp only[q,DK,Mf];cases Ia F z'<;>simp)
     have d0:((c.toNat:Int)!=59)=false:=by rw[q];rfl
     simp only[AK]at b4;clear i P j q;go_wp2;go_roundw
     case rel=>exact⟨z',true,g++[(L,v)],F,rfl,rfl,b2,aa,ag,aa,HQ.o,a3⟩
     simp[Zn];omega
    have Z:=AE (show Ay s=none from by
     rw[N.o,<-i.o,P.o,j.o];simp only[q,DM];rfl)
    have d0:((c.toNat:Int)!=59)=true:=by
     rw[DD];intro h;exact q (BQ.1 ag)
    clear i P j q;go_wp2;go_ret3;exact⟨Or.inr ⟨Z.o,rfl⟩,a3⟩
def gQ(v:Value)(l:List A4)(s:Bs)(w:World)(r:Cq w v l)(z:l.length<=1000000000000):Calls prog 36 #[v,s] w fun e W=>e=.returned (.tuple #[(Cc l s).getD [],.bool (Cc l s).isSome])/\Below w.heap.size w W:=by
 obtain⟨a,A,rfl,d⟩:=r.open;have q:=AE d;clear d r;go_enter func36,ntmps36;go_wp2_with fail;go_loopw[10] (fun i wr=>∃k:Nat,i=k/\k<=l.length/\Cc l s=Cc (l.drop k) s/\Below w.heap.size w wr) (fun i _=>l.length-(intOf i).toNat)
 case atStart=>exact⟨0,rfl,aa,ah,AG _ _⟩
 obtain⟨k,rfl,E,g,B⟩:=hrel;have c:=AE g;clear g;by_cases t:k<l.length
 ·obtain⟨b,rfl,j,m,n⟩:=q.o k t;have D:=AE (ir:Cc (l.drop k) s=if l[k].1=s then some l[k].2 else Cc (l.drop (k+1)) s);have C:=(B.cell (p:=⟨b,k*2,none⟩) j).trans m;have o:=(B.cell (p:=⟨b,k*2+1,none⟩) j).trans n;clear m n;generalize l[k]=f at D C o;obtain⟨x,y⟩:=f;simp only at D C o;have K:=(A0.new wr #[x,y] 119).cell;have B:=B.alloc B.size (.cells #[x,y] 119);by_cases h:x=s
  ·have u:(x==s)=true:=by rw[BL];exact h
   have H:=AE (by rw[c.o,D.o,AN h]:Cc l s=some y);clear h;go_wp2;go_ret2;exact⟨bu,B⟩
  have u:(x==s)=false:=su
  have H:=AE (by rw[c.o,D.o,AL h]:Cc l s=Cc (l.drop (k+1)) s);clear h;go_wp2;go_roundw
  case rel=>exact⟨k+1,aj,aa,H.o,B⟩
  simp[intOf];omega
 obtain rfl:k=l.length:=aa
 have H:=AE (by rw[c.o,AS];rfl:Cc l s=none);go_wp2;go_ret2;exact⟨bu,B⟩
def gR(w:World):(callFunc 137 #[]).run prog w=.ok (.value (.tuple #[])) w:=run_call_mark0 func137 af af af .disable af w
def gS(w:World):(callFunc 138 #[]).run prog w=.ok (.value (.tuple #[])) w:=run_call_mark0 func138 af af af .enable af w
def xV(a:Go.Addr)(w:World):(callFunc 149 #[.pointer (some a)]).run prog w=.ok (.value (.tuple #[])) w:=run_call_marked func149 af af af .acquire af a w
def xW(a:Go.Addr)(w:World):(callFunc 136 #[.pointer (some a)]).run prog w=.ok (.value (.tuple #[])) w:=run_call_marked func136 af af af .releaseMerge af a w
def xX(a:Go.Addr)(x:Value)(u:FrameMode)(w:World)(c:w.cell? a=some x)(z:w.frozen? a=false):CallsD prog 323 #[.pointer (some a),true] u w fun e U W=>U=u/\(e=.returned (.tuple #[])/\W=w.drew.setCell a (.int .u32 1)):=by
 have h:w.drew.cell? a=some x:=by go_simp
 have H:w.drew.frozen? a=false:=by go_simp
 have t:=run_call_store (P:=prog) func338 af af af af (k:=.u32) (y:=1) h H
 go_enter_d func323,ntmps323
 go_wp2
 go_region_calls
 all_goals(go_end0;exact⟨rfl,rfl⟩)
def xY(a:Go.Addr)(u:FrameMode)(w:World)(h:w.cell? a=some (.int .i32 1))(H:w.frozen? a=false):CallsD prog 322 #[.pointer (some a)] u w fun e U W=>U=u/\(e=.returned (.tuple #[])/\W=w.setCell a (.int .i32 0)):=by
 have d:=gR;have b:=gS;have r:=xW;have c:=run_call_add (P:=prog) func346 af af af .i32 af (y:=-1) (s:=0) h H (by simp[go_sem];rfl);have v:=run_convert_to_unsafe (P:=prog) (src:=410) (dst:=174) underlying410 underlying174 af h
 go_enter_d func322,ntmps322
 go_wp2
 go_end0
 all_goals go_wp2
 all_goals go_end0
 all_goals exact⟨rfl,rfl⟩
def xZ(a:Go.Addr)(w:World)(h:w.cell? a=some (.int .i32 0))(H:w.frozen? a=false):Calls prog 321 #[.pointer (some a)] w fun e W=>e=.returned (.tuple #[])/\W=w.setCell a (.int .i32 1):=by
 have d:=gR;have c:=gS;have f:=xV;have s:=run_call_cas_hit (P:=prog) func344 af af af .i32 af (y:=1) h H;have b:(w.setCell a (.int .i32 1)).cell? a=some (.int .i32 1):=World.cell?_setCell_same w a _ h;have v:=run_convert_to_unsafe (P:=prog) (src:=410) (dst:=174) underlying410 underlying174 af b;go_enter func321,ntmps321
 go_wp2
 first|go_end0|(simp only[Exit.inBlock,Exit.then];refine AO (JK rfl _ _ _) rfl ?_)|refine AO (JK rfl _ _ _) rfl ?_
 all_goals go_wp2
 all_goals go_end0
 all_goals exact⟨rfl,rfl⟩
def Wg(b:Nat)(R:World->Prop)(w:World):Prop:=∃r v,A0 w b #[.int .u32 0,.int .i32 1,.int .u32 0,r,v] 327/\R w
def gT(b:Nat)(R:World->Prop)(e:Ending)(w':World):Prop:=∃w,Wg b R w/\e=.returned (.tuple #[])/\w'=(w.drew.setCell ⟨b,0,none⟩ (.int .u32 1)).setCell ⟨b,1,none⟩ (.int .i32 0)
def yA(b:Nat)(r v:Value)(R:World->Prop)(w:World)(H:A0 w b #[.int .u32 0,.int .i32 0,.int .u32 0,r,v] 327)
  (d:Calls prog 266 #[.pointer (some ⟨b,0,none⟩)] (w.setCell ⟨b,1,none⟩ (.int .i32 1)) fun e W=>e=.returned (.tuple #[])/\Wg b R W):
  Calls prog 302 #[.pointer (some ⟨b,0,none⟩),.func (.func 266) #[.pointer (some ⟨b,0,none⟩)] #[]] w fun e W=>gT b R e W:=by
 have g:A0 (w.setCell ⟨b,1,none⟩ (.int .i32 1)) b #[.int .u32 0,.int .i32 1,.int .u32 0,r,v] 327:=H.set 1 (.int .i32 1);have o:=run_call_load (P:=prog) func320 af af af .u32 af (w:=w.setCell ⟨b,1,none⟩ (.int .i32 1)) (a:=⟨b,0,none⟩) (x:=0) (g.cell 0);have t:∀(x:Bool)(w:World),(Op.unary .not x).run prog w=.ok (.bool (!x)) w:=fun _ _=>rfl
 have i:=H.cell 1;have F:=H.free 1
 go_enter_defers func302,ntmps302
 go_wp2_with(first|(go_at_call 321;refine(xZ ⟨b,1,none⟩ _ i F).mono ?_;rintro e W⟨rfl,rfl⟩)|(go_at_call 301;go_in));refine d.mono ?_;rintro e j⟨rfl,k⟩;obtain⟨l,V,h,m⟩:=k
 go_wp2
 refine leaves_cons (f:=323) (args:=#[.pointer (some ⟨b,0,none⟩),true]) ah yc ?_;refine(xX ⟨b,0,none⟩ (.int .u32 0) .returning _ (h.cell 0) (h.free 0)).mono ?_;rintro e u n⟨rfl,rfl,rfl⟩;have c:=h.drew.set 0 (.int .u32 1);refine leaves_cons (f:=322) (args:=#[.pointer (some ⟨b,1,none⟩)]) (by simp[settle]) yc ?_;refine(xY ⟨b,1,none⟩ _ _ (c.cell 1) (c.free 1)).mono ?_;rintro e u n⟨rfl,rfl,rfl⟩;simp[Leaves,settle,results,results302];exact⟨j,⟨l,V,h,m⟩,rfl,rfl⟩
def yB(b:Nat)(r v:Value)(R:World->Prop)(w:World)(h:A0 w b #[.int .u32 0,.int .i32 0,.int .u32 0,r,v] 327)
  (H:Calls prog 266 #[.pointer (some ⟨b,0,none⟩)] (w.setCell ⟨b,1,none⟩ (.int .i32 1)) fun e W=>e=.returned (.tuple #[])/\Wg b R W):
  Calls prog 265 #[.pointer (some ⟨b,0,none⟩),.func (.func 266) #[.pointer (some ⟨b,0,none⟩)] #[]] w fun e W=>gT b R e W:=by
 have l:=run_call_load (P:=prog) func320 af af af .u32 af (h.cell 0);have t:∀(x:Bool)(w:World),(Op.unary .not x).run prog w=.ok (.bool (!x)) w:=fun _ _=>rfl
 go_enter func265,ntmps265;go_wp2_with(first|(go_at_call 302;refine(yA b r v R _ h H).mono ?_;rintro e W⟨a,c,rfl,rfl⟩)|(go_at_call 301;go_in))
 go_end0
 exact⟨a,c,rfl,rfl⟩
abbrev Pr:=UInt8×Bs
def S9(p:Pr):List Value:=[.string ⟨#[p.1]⟩,p.2]
theorem gU(p:Pr):(S9 p).length=2:=rfl
def Bl(x:Bs):List Value:=[x]
theorem By(x:Bs):(Bl x).length=1:=rfl
def Pn(x:Bs):∀u∈Bl x,u.oneCell'=true:=fun u h=>by simp[Bl]at h;rw[h];rfl
abbrev Do(w:World)(B:Nat)(v:Value)(l:List Bs):Prop:=A1 9 1 Bl w B v l
def H7(P:List Pr):List Bs:=P.flatMap fun p=>[[p.1],p.2]
def Wh(P:List Pr):(H7 P).flatMap Bl=P.flatMap S9:=by
 unfold H7;induction P with
 |nil=>rfl
 |cons p l ih=>rw[BV,CZ,ih,BV];rfl
def Zo(P:List Pr):(H7 P).length=2*P.length:=by
 unfold H7;induction P with
 |nil=>rfl
 |cons p l ih=>rw[BV,AJ,ih];simp;omega
def N3(w:World)(v:Value)(p:List Pr):Prop:=∃b c,v=.slice (some ⟨b,0,none⟩) (2*p.length) c/\b<w.heap.size/\∀k(h:k<p.length),w.cell? ⟨b,2*k,none⟩=some (.string ⟨#[p[k].1]⟩)/\w.cell? ⟨b,2*k+1,none⟩=some (p[k].2)
def N3.next{P:List Pr}(h:N3 w v P)(H:Below w.heap.size w w'):N3 w' v P:=by
 obtain⟨b,C,d,t,c⟩:=h;exact⟨b,C,d,BN t H.size,fun k a=>⟨(H.cell (p:=⟨b,_,none⟩) t).trans (c k a).1,(H.cell (p:=⟨b,_,none⟩) t).trans (c k a).2⟩⟩
def Do.pr{p:List Pr}(h:Do w B v (H7 p))(h0:0<p.length):N3 w v p:=by
 obtain⟨a,C,d,f⟩:=A1.rd ae By h;have l:=Zo p;obtain⟨b,g,t,H⟩:=f aa;subst g;refine⟨b,C,by rw[d,l],t,fun k c=>?_⟩;rw[Wh]at H;have e:=L8 gU p k c 0 ae;have E:=L8 gU p k c 1 ae;rw[BI]at e;constructor
 ·rw[H (2*k) aa,Nat.mul_comm 2 k,e];rfl
 rw[H (2*k+1) aa,Nat.mul_comm 2 k,E];rfl
def U0(h:w.ownsRow B e k v n xs)(b:∀g,v.ownBlock=some g->w'.heap[g]?=w.heap[g]?):w'.ownsRow B e k v n xs:=by
 rcases h with⟨c,H⟩;refine⟨c,?_⟩;rcases H with H|⟨g,C,d,a,f,i,r⟩
 ·exact Or.inl H
 exact Or.inr ⟨g,C,d,a,f,(b g yd).trans i,r⟩
def Sb(h:w.ownsRow B e k v n xs)(d:A0 w R c t)(f:t≠e):∀g,v.ownBlock=some g->g≠R:=by
 rintro g H rfl;rcases h.2 with⟨b,_⟩|⟨G,C,r,b,_,a,_⟩
 ·rw[b]at H;cases H
 rw[b]at H;injection H with H;simp at H;subst H;rw[d]at a;injection a with a;injection a with _ a;exact f a
def gV(h:w.ownsRow B e k v n xs):∀g,v.ownBlock=some g->g<w.heap.size:=by
 intro g H;rcases h.2 with⟨a,_⟩|⟨G,C,r,a,_,c,_⟩
 ·rw[a]at H;cases H
 rw[a]at H;injection H with H;simp at H;subst H;rcases CL G w.heap.size with b|b
 ·exact b
 rw[CA b]at c;cases c
def yC(B:Nat)(p:List Pr)(w:World)(e:Ending)(w':World):Prop:=∃b v,e=.returned (.pointer (some ⟨b,0,none⟩))/\B<=b/\A0 w' b #[.int .u32 0,.int .i32 0,.int .u32 0,.nilIface,v] 327/\N3 w' v p/\(∀g,v.ownBlock=some g->g≠b)/\Below B w w'
def gW(b c:Nat)(p:List Pr)(w:World)(H:∀j u,(p.flatMap S9)[j]?=some u->w.cell? ((⟨b,0,none⟩:Go.Addr).add j)=some u)(h0:0<p.length)(l:p.length<=100)(n:Nat)(f:n=2*p.length):Calls prog 189 #[.slice (some ⟨b,0,none⟩) n c] w (yC w.heap.size p w):=by
 have m:((n:Int)%2==1)=false:=di
 have o:n<=200:=aa
 have a:=AE f;clear f;have d:=AE (Zo p);rw[<-Wh]at H;have k:=AE H;clear H;go_enter func189,ntmps189;go_wp2_with(at_builtin;refine P7 (α:=Bs) (cs:=Bl) (size:=1) (z:=.string ByteArray.empty) By Pn Td rfl ae underlying55 rfl _ _ rfl w.heap.size _ [] (H7 p) ⟨b,0,none⟩ n c (a.o.trans d.o.symm) rfl (A1.nil _ _ _ _ _) rfl k.o (by have:=a.o;have:=d.o;simp;omega) (by have:=a.o;have:=d.o;unfold maxLen;simp;omega) (AF _) ?_;intro V W h i e;rw[CT]at h;obtain⟨A,C,v,q⟩:=A1.rd ae By h;subst v);go_wp2;go_ret;refine⟨W.heap.size,_,rfl,e.size,A0.new _ _ _,?_,fun g i=>ED (gV h g i),e.alloc e.size _⟩;exact(Do.pr h h0).next ((AG _ _).alloc (AF _) _)
def Og(w w':World):Prop:=∀g l,1<=l.length->Fo w g l->Fo w' g l
def Og.trans{a b c:World}(h:Og a b)(k:Og b c):Og a c:=fun g l H d=>k g l H (h g l H d)
def gX(h:Below w.heap.size w w'):Og w w':=fun _ _ _ H=>H.below h H.lt
def Fo.gY(h:Fo w g l)(b:1<=l.length)(a:A0 w R c t):g≠R:=by
 rintro rfl;obtain⟨C,T,L,i,H,o,_⟩:=h;rw[a]at H;injection H with H;injection H with _ _ H;injection H with H _;omega
def Zp(H:A0 w R c t)(k:Nat)(x:Value):Og w (w.setCell ⟨R,k,none⟩ x):=fun g _ a h=>
 h.of_block (DJ w _ x g (h.gY a H))
def yD(h:w.ownsRow B e k v n xs)(c:w.grownBy w' v.ownBlock):Og w w':=fun g _ d a=>by
 refine a.of_block (c.block g a.lt ?_);intro H;rcases h.2 with⟨b,_⟩|⟨G,C,r,b,_,f,_⟩
 ·rw[b]at H;cases H
 rw[b]at H;injection H with H;simp at H;subst H;exact a.gY d f rfl
def A0.grown{o:Option Nat}(h:A0 w R c t)(H:w.grownBy w' o)(a:∀g,o=some g->g≠R):A0 w' R c t:=by
 refine(H.block R h.lt ?_).trans h;intro e;exact a R e.symm rfl
def yE(w:World)(o:UInt8)(t T:TypeId):∀j u,([[o]].flatMap Bl)[j]?=some u->((w.alloc (.cells #[.int .u8 (o.toNat:Int)] t)).alloc (.cells #[.string ⟨#[o]⟩] T)).cell? ((⟨w.heap.size+1,0,none⟩:Go.Addr).add j)=some u:=fun j u h=>by
 rw[Er];have:=(A0.new (w.alloc (.cells #[.int .u8 (o.toNat:Int)] t)) #[.string ⟨#[o]⟩] T).cell j;rw[AX]at this;rw[this]
 match j,h with
 |0,h=>exact h
 |j+1,h=>simp[Bl]at h
def A0.get{o:Nat}(h:A0 w R (c.setIfInBounds 256 v) t)(H:c[o]?=some x)(a:o<256):w.cell? ⟨R,o,none⟩=some x:=by
 rw[h.cell,CW,AL aa,H]
def Ex(P:List Pr)(c:UInt8):Option Bs:=(P.find? fun p=>p.1==c).map (·.2)
def Oh(w:World)(B:Nat)(C:Array Value)(f:UInt8->Option Bs):Prop:=∀c:UInt8,(f c=none/\C[c.toNat]?=some (.slice none 0 0))\/∃n g p,f c=some n/\C[c.toNat]?=some (.slice (some ⟨g,0,none⟩) n.length p)/\B<=g/\1<=n.length/\Fo w g n
def Ns(w:World)(R B:Nat)(f:UInt8->Option Bs)(k:List Bs):Prop:=∃c v,A0 w R c 377/\c.size=257/\Oh w B c f/\c[256]?=some v/\Do w B v k
def Oh.keep(h:Oh w B C f)(k:Og w w'):Oh w' B C f:=fun c=>by
 rcases h c with h|⟨n,g,p,a,b,d,H,e⟩
 ·exact Or.inl h
 exact Or.inr ⟨n,g,p,a,b,d,H,k g n H e⟩
def Oh.put(h:Oh w B C f)(s:C.size=257)(o:UInt8)(n:Bs)(g cap:Nat)(a:B<=g)(b:1<=n.length)(r:Fo w g n)(v:Value):Oh w B ((C.setIfInBounds 256 v).setIfInBounds o.toNat (.slice (some ⟨g,0,none⟩) n.length cap)) (fun c=>if c=o then some n else f c):=fun c=>by
 have t:=c.toNat_lt;have u:=o.toNat_lt;by_cases e:c=o
 ·subst e;refine Or.inr ⟨n,g,cap,ah,?_,a,b,r⟩;rw[CW,AN rfl,AN ag]
 have d:¬o.toNat=c.toNat:=fun h=>e (BQ.1 h.symm)
 have l:((C.setIfInBounds 256 v).setIfInBounds o.toNat (.slice (some ⟨g,0,none⟩) n.length cap))[c.toNat]?=C[c.toNat]?:=by
  rw[CW,AL d,CW,AL aa]
 rcases h c with⟨h0,H⟩|⟨m,G,i,H,j,k,p,q⟩
 ·exact Or.inl ⟨by simp[e,h0],by rw[l];exact H⟩
 exact Or.inr ⟨m,G,i,by simp[e,H],by rw[l];exact j,k,p,q⟩
def yF{p:List Pr}(H:m<p.length):Ex (p.drop m)=fun c=>if c=p[m].1 then some p[m].2 else Ex (p.drop (m+1)) c:=by
 funext c;rw[AH H];unfold Ex;rw[List.find?_cons];by_cases e:c=p[m].1
 ·simp[e]
 have:(p[m].1==c)=false:=by rw[AI];exact fun h=>e h.symm
 simp[this,e]
def yG{p:List Pr}(H:m<p.length)(d:(p.map (·.1)).Nodup):Ex (p.drop (m+1)) p[m].1=none:=by
 unfold Ex;rw[Option.map_eq_none_iff,List.find?_eq_none];intro q a;have h:=d.sublist ((List.drop_sublist m p).map (·.1));rw[AH H,CD,List.nodup_cons]at h;intro e;exact h.1 (DN.2 ⟨q,a,by simpa using e⟩)
structure Nt(prs:List Pr):Prop where
 two:2<=prs.length
 few:prs.length<=100
 nodup:(prs.map (·.1)).Nodup
 fit:∀p∈prs,1<=p.2.length/\p.2.length<=100
 long:∃p∈prs,p.2.length≠1
def Oi(P:List Pr):Bool:=P.all fun p=>p.2.length==1
def yH(b:Nat)(x0 x1 x2 x3 v:Value)(s:List Pr)(ok:Nt s)(w:World)(hb:A0 w b #[x0,x1,x2,x3,v] 327)(hr:N3 w v s):Calls prog 303 #[.pointer (some ⟨b,0,none⟩)] w fun e w'=>∃R,e=.returned (.iface 378 (.pointer (some ⟨R,0,none⟩)))/\w.heap.size<=R/\Ns w' R w.heap.size (Ex s) ((s.map fun p=>[p.1]).reverse)/\Below w.heap.size w w':=by
 have c5:=hb.cell 4;obtain⟨k2,d8,a2,a3,a4⟩:=ok;have c6:=AE a2;clear a2;have a5:=AE a3;clear a3;have c7:=AE a4;clear a4;obtain⟨bk,c8,rfl,a6,a7⟩:=hr;have HC:=AE a7;clear a7;obtain⟨n,V⟩:∃n,n=2*s.length:=⟨_,rfl⟩;rw[<-V]at c5;have e2:((n:Int)==2)=false:=di
 have d9:n<=200:=aa
 have e0:4<=n:=aa
 have I:=AE V;clear V;go_enter func303,ntmps303;go_wp2_with fail;go_loop[4,5] (fun f i=>∃(j z:Nat),i=z/\Hid (z=2*j)/\j<=s.length/\f=.bool (Oi (s.take j))) (fun _ i=>n-(intOf i).toNat)
 case atStart=>exact⟨0,0,rfl,rfl,aa,rfl⟩
 obtain⟨j,z,rfl,H,hj,rfl⟩:=hrel;by_cases a8:j<s.length
 ·obtain⟨l,q⟩:=HC.o j a8;have D:=a5.o s[j] (AQ _);have c9:z+1<n:=by have:=H.o;have:=I.o;omega
  rw[<-H.o]at l q;have T:=AE (show Oi (s.take (j+1))=(Oi (s.take j)&&(s[j].2.length==1))from by
   unfold Oi;rw[AZ a8,IL];simp)
  generalize s[j]=p at l q D T;obtain⟨o,n⟩:=p;simp only at l q D T;by_cases t:n.length=1
  ·have q1:((n.length:Int)!=1)=false:=by rw[t];rfl
   have X:=AE (by rw[T.o,t];simp:Oi (s.take (j+1))=Oi (s.take j));clear t;go_wp2_with fail
   go_round
   case rel=>exact⟨j+1,z+2,aj,by have:=H.o;exact AE aa,aa,by rw[X.o]⟩
   simp[intOf];omega
  have q1:((n.length:Int)!=1)=true:=gi
  have X:=AE (by rw[T.o];simp;intro _;exact t:Oi (s.take (j+1))=false);clear t;go_wp2_with fail
  go_round
  case rel=>exact⟨j+1,z+2,aj,by have:=H.o;exact AE aa,aa,by rw[X.o]⟩
  simp[intOf];omega
 obtain rfl:j=s.length:=aa
 have hA:Oi (s.take s.length)=false:=by
  rw[CY];obtain⟨p,hp,t⟩:=c7.o;unfold Oi;rw[AT];intro h;have:=AW.1 h p hp;simp at this;exact t this
 have c9:¬z<n:=by have:=H.o;have:=I.o;omega
 rw[hA];clear hA;obtain⟨i0,a9,Y,b0,E⟩:=GC Td;have Z:=fun W=>Go.run_make (P:=prog) W 55 9 i0 (.string ByteArray.empty) underlying55 a9 Y .i64 .i64 0 ((n:Int)/2) aa aa (by rw[E];omega) aa
 rw[b0]at Z;have b1:=AE (size_madeCells (Value.string ByteArray.empty).cells (((n:Int)/2).toNat*1));generalize madeCells (Value.string ByteArray.empty).cells (((n:Int)/2).toNat*1)=u at Z b1;clear a9 Y b0 E;go_wp2_with fail;have b2:(storeCells ⟨w.heap.size+1,0,none⟩ (zeroCells377.toList.set 256 (.slice (some ⟨w.heap.size,0,none⟩) 0 (n/2))) 0).run prog ((w.alloc (.cells u 9)).alloc (.cells zeroCells377 377))=.ok () ((w.alloc (.cells u 9)).alloc (.cells (zeroCells377.setIfInBounds 256 (.slice (some ⟨w.heap.size,0,none⟩) 0 (n/2))) 377)):=by
  have:=run_storeCells_new (P:=prog) (w.alloc (.cells u 9)) 377 zeroCells377 (zeroCells377.setIfInBounds 256 (.slice (some ⟨w.heap.size,0,none⟩) 0 (n/2))) af af af;rw[AX,Array.toList_setIfInBounds]at this;exact this
 simp only[b2,Result.andThen];rw[Oper.upon_skip];clear b2;go_wp2_with fail;have hZ:zeroCells377=Array.replicate 257 (.slice none 0 0):=af
 rw[hZ];clear hZ Z e2;have b3:Oh w w.heap.size ((Array.replicate 257 (Value.slice none 0 0)).setIfInBounds 256 (.slice (some ⟨w.heap.size,0,none⟩) 0 (n/2))) (Ex (s.drop s.length)):=fun c=>by
  have hc:=c.toNat_lt;refine Or.inl ⟨by simp[Ex],?_⟩;rw[CW,AL aa,Array.getElem?_replicate,AN aa]
 have b4:=AE b3;clear b3;have b5:=AE (show A0 ((w.alloc (.cells u 9)).alloc (.cells ((Array.replicate 257 (Value.slice none 0 0)).setIfInBounds 256 (.slice (some ⟨w.heap.size,0,none⟩) 0 (n/2))) 377)) (w.heap.size+1) ((Array.replicate 257 (Value.slice none 0 0)).setIfInBounds 256 (.slice (some ⟨w.heap.size,0,none⟩) 0 (n/2))) 377 from by
  have:=A0.new (w.alloc (.cells u 9)) ((Array.replicate 257 (Value.slice none 0 0)).setIfInBounds 256 (.slice (some ⟨w.heap.size,0,none⟩) 0 (n/2))) 377;rw[AX]at this;exact this)
 have b6:Do ((w.alloc (.cells u 9)).alloc (.cells ((Array.replicate 257 (Value.slice none 0 0)).setIfInBounds 256 (.slice (some ⟨w.heap.size,0,none⟩) 0 (n/2))) 377)) w.heap.size (.slice (some ⟨w.heap.size,0,none⟩) 0 (n/2)) []:=by
  refine GV ?_ _;have h:=World.ownsRow_made (base:=w.heap.size) (e:=9) (size:=1) w u (n/2) (AF _) mi (by rw[b1.o];omega);exact h
 have b7:=AE b6;clear b6;have qT:∀(w:World)(a:Option Go.Addr)(n c J c':Nat),(binOp .eql 126 (.slice a n c) (.slice none J c')).run prog w=.ok (.bool a.isNone) w:=fun w a n c J c'=>run_eql_slice_nil w _ _ a n c J c' underlying126
 go_loopw[12] (fun i wr=>∃(m:Nat)(z:Int)(r:Array Value)(v:Value),i=z/\Hid (z=2*m-2)/\m<=s.length/\A0 wr (w.heap.size+1) r 377/\Hid (r.size=257)/\Oh wr w.heap.size r (Ex (s.drop m))/\r[256]?=some v/\Do wr w.heap.size v (((s.drop m).map fun p=>[p.1]).reverse)/\Below w.heap.size w wr) (fun i _=>(intOf i+2).toNat)
 case atStart=>exact⟨s.length,(n:Int)-2,(Array.replicate 257 (Value.slice none 0 0)).setIfInBounds 256 (.slice (some ⟨w.heap.size,0,none⟩) 0 (n/2)),.slice (some ⟨w.heap.size,0,none⟩) 0 (n/2),rfl,by have:=I.o;exact AE aa,AF _,b5.o,AE ah,fun c=>(b4.o c).imp id (fun⟨n,g,c8,h,_⟩=>by simp[Ex]at h),by rw[CW,AN rfl,AN ah],by simpa using b7.o,((AG _ _).alloc (AF _) _).alloc ah _⟩
 obtain⟨m,z,r,v,rfl,H,hm,F,K,G,a0,L,B⟩:=hrel;clear b4 b5 b7;cases m with
 |zero=>
  have Y:z<0:=iw
  go_wp2;go_ret;exact⟨w.heap.size+1,rfl,aa,⟨r,v,F,K.o,by rw[DR]at G;exact G,a0,by rw[DR]at L;exact L⟩,B⟩
 |succ m=>
  obtain⟨z,rfl⟩:∃y:Nat,z=(y:Int):=⟨2*m,iw⟩;have E:=AE (show z=2*m by have:=H.o;omega);have e1:z+1<n:=by have:=E.o;have:=I.o;omega
  obtain⟨l,q⟩:=HC.o m aa;rw[<-E.o]at l q;have l:=(B.cell (p:=⟨bk,z,none⟩) a6).trans l;have q:=(B.cell (p:=⟨bk,z+1,none⟩) a6).trans q;have D:=a5.o s[m] (AQ _);have M:=AE (yF (show m<s.length by omega));have O:=AE (yG (show m<s.length by omega) c6.o);have Q:=AE (by rw[AH (show m<s.length by omega),CD,List.reverse_cons]:((s.drop m).map fun p=>[p.1]).reverse=((s.drop (m+1)).map fun p=>[p.1]).reverse++[[s[m].1]]);clear H;generalize s[m]=p at l q D M O Q;obtain⟨o,N⟩:=p;simp only at l q D M O Q;generalize d0:Ex (s.drop (m+1))=f1 at G M O;generalize b8:((s.drop (m+1)).map fun p=>[p.1]).reverse=k at L Q;have e3:k.length<=100:=by rw[<-b8];simp;omega
  clear d0 b8;have b9:r[o.toNat]?=some (.slice none 0 0):=by
   rcases G o with h|⟨J,g,e4,h,_⟩
   ·exact h.2
   rw[O.o]at h;cases h
  have k1:=(F.cell o.toNat).trans b9;have e5:=(F.cell 256).trans a0;have e6:(o.toNat:Int)<256:=by have:=o.toNat_lt;omega
  have e7:=B.size;have e8:=F.lt;have a1:=A1.next L (((AG wr.heap.size wr).alloc (AF _) (.cells #[.int .u8 (o.toNat:Int)] 5)).alloc ah (.cells #[.string ⟨#[o]⟩] 9));have c0:=(F.alloc (.cells #[.int .u8 (o.toNat:Int)] 5)).alloc (.cells #[.string ⟨#[o]⟩] 9);have d1:=AE (gX (((AG wr.heap.size wr).alloc (AF _) (.cells #[.int .u8 (o.toNat:Int)] 5)).alloc ah (.cells #[.string ⟨#[o]⟩] 9)));have d2:=yE wr o 5 9;have e9:=fun w=>run_bytes_of_string (P:=prog) w 9 126 5 ⟨N.toArray⟩ underlying9 underlying126 underlying5
  have c1:=Sb a1 c0 ae;have d3:=AE c1;clear c1;go_wp2_with(at_builtin;refine P7 (α:=Bs) (cs:=Bl) (size:=1) (z:=.string ByteArray.empty) By Pn Td rfl ae underlying55 rfl _ _ rfl w.heap.size _ k [[o]] ⟨wr.heap.size+1,0,none⟩ 1 1 rfl rfl a1 rfl d2 ag ao ag ?_;intro v' d S c2 d4;have x:=c0.grown c2 d3.o;have k4:=(x.cell 256).trans a0;have k5:=x.free 256;obtain⟨A,C,d5,_⟩:=A1.rd ae By S;subst d5;have U:=x.set 256 (.slice A (k.length+1) C);have k6:=U.get (o:=o.toNat) b9 o.toNat_lt;have k7:=U.free o.toNat;have k8:=x.lt;have k9:=x.lt);have d6:=U.set o.toNat (.slice (some ⟨d.heap.size,0,none⟩) N.length (grownCap (d.setCell ⟨w.heap.size+1,256,none⟩ (.slice A (k.length+1) C)) N.length 0 5));have d7:=d1.o.trans ((yD a1 c2).trans ((Zp x 256 (.slice A (k.length+1) C)).trans (Zp U o.toNat (.slice (some ⟨d.heap.size,0,none⟩) N.length (grownCap (d.setCell ⟨w.heap.size+1,256,none⟩ (.slice A (k.length+1) C)) N.length 0 5)))));have c3:=Sb S x ae;have f0:=gV S;have B4:=((B.alloc B.size (.cells #[.int .u8 (o.toNat:Int)] 5)).alloc (B.alloc B.size _).size (.cells #[.string ⟨#[o]⟩] 9)).trans d4;have B6:=(B4.setCell (p:=⟨w.heap.size+1,256,none⟩) (IF _) (.slice A (k.length+1) C)).setCell (p:=⟨w.heap.size+1,o.toNat,none⟩) (IF _) (.slice (some ⟨d.heap.size,0,none⟩) N.length (grownCap (d.setCell ⟨w.heap.size+1,256,none⟩ (.slice A (k.length+1) C)) N.length 0 5));have c4:=dK ((d.setCell ⟨w.heap.size+1,256,none⟩ (.slice A (k.length+1) C)).setCell ⟨w.heap.size+1,o.toNat,none⟩ (.slice (some ⟨d.heap.size,0,none⟩) N.length (grownCap (d.setCell ⟨w.heap.size+1,256,none⟩ (.slice A (k.length+1) C)) N.length 0 5))) N (grownCap (d.setCell ⟨w.heap.size+1,256,none⟩ (.slice A (k.length+1) C)) N.length 0 5) 5;rw[ER,ER]at c4;have f2:=E.o;go_roundw
  case rel=>
   refine⟨m,(z:Int)-2,(r.setIfInBounds 256 (.slice A (k.length+1) C)).setIfInBounds o.toNat (.slice (some ⟨d.heap.size,0,none⟩) N.length (grownCap (d.setCell ⟨w.heap.size+1,256,none⟩ (.slice A (k.length+1) C)) N.length 0 5)),.slice A (k.length+1) C,rfl,AE aa,aa,(d6.alloc _).drew,AE (by simpa using K.o),?_,?_,?_,(B6.alloc B6.size _).drew⟩
   ·rw[M.o];exact((G.keep (d7.trans (gX (((AG _ _).alloc (AF _) _).drew)))).put K.o o N d.heap.size _ B4.size D.1 c4 _)
   ·rw[CW,AL aa,CW,AN rfl,AN (by rw[K.o];omega)]
   rw[Q.o];have h:=U0 (w':=((d.setCell ⟨w.heap.size+1,256,none⟩ (.slice A (k.length+1) C)).setCell ⟨w.heap.size+1,o.toNat,none⟩ (.slice (some ⟨d.heap.size,0,none⟩) N.length (grownCap (d.setCell ⟨w.heap.size+1,256,none⟩ (.slice A (k.length+1) C)) N.length 0 5)))) S (fun g hg=>(DJ _ ⟨w.heap.size+1,o.toNat,none⟩ _ g (c3 g hg)).trans (DJ _ ⟨w.heap.size+1,256,none⟩ _ g (c3 g hg)));rw[(ah:Value.slice A (k++[[o]]).length C=.slice A (k.length+1) C)]at h;exact Lz h (((AG _ _).alloc (AF _) _).drew)
  simp[intOf];omega
def A3.len(a:A3):Nat:=a.scheme.length+a.auth.length+a.path.length+a.query.length+a.frag.length
def Ep(b:Bool)(l:Bs):Bs:=if b then l else[]
def Po(b:Bool)(l:Bs):(Ep b l).length<=l.length:=by cases b<;>simp[Ep]
def gZ(a:A3):Ea a=Ep (!a.scheme.isEmpty) (a.scheme++[58])++Ep a.hasAuth (47::47::a.auth)++a.path++Ep a.hasQuery (63::a.query)++Ep a.hasFrag (35::a.frag):=by
 unfold Ea Ep;cases h:a.scheme<;>simp
def Zq(a:A3)(w:World)(t:a.len<=140737488355000):Calls prog 51 #[a.val] w fun e G=>e=.returned (Ea a)/\Below w.heap.size w G:=by
 obtain⟨s,h,u,p,b,q,d,f⟩:=a;unfold A3.len at t;simp only at t;go_enter func51,ntmps51;go_upto_if 6 with fail;go_cut[0,2] (fun l S W=>S=.string ⟨#[]⟩/\A0 W w.heap.size (A3.cells ⟨s,h,u,p,b,q,d,f⟩) 36/\E6 (w.heap.size+1) (w.heap.size+1) (Ep (!s.isEmpty) (s++[58])) W/\Below w.heap.size w W)
 case first=>
  have j:=(A0.new w (A3.cells ⟨s,h,u,p,b,q,d,f⟩) 36).alloc (.cells #[.pointer none,.slice none 0 0] 128);have m:=(P6 (w.alloc (.cells (A3.cells ⟨s,h,u,p,b,q,d,f⟩) 36)));rw[AX]at m;have v:Below w.heap.size w _:=((AG _ w).alloc (AF _) (.cells (A3.cells ⟨s,h,u,p,b,q,d,f⟩) 36)).alloc ea (.cells #[.pointer none,.slice none 0 0] 128);have r:=j.cell;go_wp2_with fail
  ·refine(Kg (w.heap.size+1) _ _ _ _ m ag j.lt).mono ?_;have H:(!List.isEmpty s)=true:=by assumption
   rintro e n⟨rfl,B,c⟩;go_wp2;go_meet;refine⟨rfl,j.next c aa,?_,v.trans (c.mono aa)⟩;rw[H];simpa[Ep]using B
  go_meet;have H:(!List.isEmpty s)=false:=ax
  refine⟨rfl,j,?_,v⟩;rw[H];simpa[Ep]using m
 obtain⟨rfl,R,x,y⟩:=hcut;have M:=R.cell;go_upto_if 12 with fail;go_cut[0,2] (fun l S W=>S=.string ⟨#[]⟩/\A0 W w.heap.size (A3.cells ⟨s,h,u,p,b,q,d,f⟩) 36/\E6 (w.heap.size+1) (w.heap.size+1) (Ep (!s.isEmpty) (s++[58])++Ep h (47::47::u)) W/\Below w.heap.size w W)
 case first=>
  have r:=R.cell;go_wp2_with fail
  ·refine(Kg (w.heap.size+1) _ _ _ _ x (by have:=Po (!s.isEmpty) (s++[58]);simp at*;omega) R.lt).mono ?_;have H:h=true:=by assumption
   rintro e n⟨rfl,B,c⟩;go_wp2;go_meet;refine⟨rfl,R.next c aa,?_,y.trans (c.mono aa)⟩;simpa[Ep,H]using B
  go_meet;have H:h=false:=ax
  refine⟨rfl,R,?_,y⟩;simpa[Ep,H]using x
 obtain⟨rfl,k,z,A⟩:=hcut;have r:=k.cell;go_wp2_with fail;refine(Kg (w.heap.size+1) _ _ _ _ z ig k.lt).mono ?_;rintro e N⟨rfl,C,o⟩;have g:=k.next o aa;have D:=A.trans (o.mono aa);clear r k A o z;have r:=g.cell;go_upto_if 21 with fail;go_cut[0,2] (fun l S W=>S=.string ⟨#[]⟩/\A0 W w.heap.size (A3.cells ⟨s,h,u,p,b,q,d,f⟩) 36/\E6 (w.heap.size+1) (w.heap.size+1) (Ep (!s.isEmpty) (s++[58])++Ep h (47::47::u)++p++Ep b (63::q)) W/\Below w.heap.size w W)
 case first=>
  have r:=g.cell;go_wp2_with fail
  ·refine(Kg (w.heap.size+1) _ _ _ _ C ig g.lt).mono ?_;have H:b=true:=by assumption
   rintro e n⟨rfl,B,c⟩;go_wp2;go_meet;refine⟨rfl,g.next c aa,?_,D.trans (c.mono aa)⟩;simpa[Ep,H]using B
  go_meet;have H:b=false:=ax
  refine⟨rfl,g,?_,D⟩;simpa[Ep,H]using C
 obtain⟨rfl,i,E,F⟩:=hcut;have O:=i.cell;go_upto_if 27 with fail;go_cut[0,2] (fun l S W=>S=.string ⟨#[]⟩/\A0 W w.heap.size (A3.cells ⟨s,h,u,p,b,q,d,f⟩) 36/\E6 (w.heap.size+1) (w.heap.size+1) (Ep (!s.isEmpty) (s++[58])++Ep h (47::47::u)++p++Ep b (63::q)++Ep d (35::f)) W/\Below w.heap.size w W)
 case first=>
  have r:=i.cell;go_wp2_with fail
  ·refine(Kg (w.heap.size+1) _ _ _ _ E (by have:=Po (!s.isEmpty) (s++[58]);have:=Po h (47::47::u);have:=Po b (63::q);simp at*;omega) i.lt).mono ?_;have H:d=true:=by assumption
   rintro e n⟨rfl,B,c⟩;go_wp2;go_meet;refine⟨rfl,i.next c aa,?_,F.trans (c.mono aa)⟩;simpa[Ep,H]using B
  go_meet;have H:d=false:=ax
  refine⟨rfl,i,?_,F⟩;simpa[Ep,H]using E
 obtain⟨rfl,I,J,K⟩:=hcut;go_wp2_with fail;refine(Q5 (w.heap.size+1) _ _ _ J I.lt).mono ?_;rintro e P⟨rfl,L⟩;go_wp2;go_ret;refine⟨Hz ?_,K.trans (L.mono aa)⟩;rw[gZ];simp
def Cn(a:A3):A3:=⟨A2 a.scheme,a.hasAuth,A2 a.auth,a.path,a.hasQuery,a.query,false,[]⟩
def hY(a:A3)(w:World)(i:a.scheme.length<=140737488355328)(j:a.auth.length<=140737488355328):Calls prog 62 #[a.val] w fun e k=>e=.returned (Cn a).val/\Below w.heap.size w k:=by
 obtain⟨s,H,u,p,b,q,d,f⟩:=a;simp only at i j;go_enter func62,ntmps62;go_upto_region 1 with fail;go_cut[2] (fun S W=>S=.pointer (some ⟨w.heap.size+1,0,none⟩)/\A0 W w.heap.size (A3.cells ⟨s,H,u,p,b,q,false,[]⟩) 36/\A0 W (w.heap.size+1) Bg 36/\Below w.heap.size w W)
 case first=>
  have r:=((((A0.new w (A3.cells ⟨s,H,u,p,b,q,d,f⟩) 36).alloc (.cells Bg 36)).set 6 false).set 7 (.string ⟨#[]⟩));go_wp2;go_meet;refine⟨rfl,?_,?_,cu⟩
  ·exact(A0.new w (A3.cells ⟨s,H,u,p,b,q,false,[]⟩) 36).alloc _
  have h:=A0.new (w.alloc (.cells (A3.cells ⟨s,H,u,p,b,q,false,[]⟩) 36)) Bg 36;rw[AX]at h;exact h
 obtain⟨rfl,r,R,B⟩:=hcut;obtain⟨c,rfl⟩:∃c:World,c=wc:=⟨_,rfl⟩;go_upto_region 2 with fail;go_cut[2] (fun S W=>S=.pointer (some ⟨w.heap.size+1,0,none⟩)/\A0 W w.heap.size (A3.cells ⟨A2 s,H,A2 u,p,b,q,false,[]⟩) 36/\A0 W (w.heap.size+1) Bg 36/\Below w.heap.size w W)
 case first=>
  have g:=r.cell;have l:=r.free;have t:=r.lt
  go_region_with ((refine(Gw _ _ ax).mono ?_);(rintro e o⟨rfl,m⟩);(have K:=Bp m (w0:=c) (by repeat (first|exact AG _ _|assumption|refine Below.drew ?_)));(have g:=(r.next K t).cell);(have l:=(r.next K t).free))
  all_goals go_wp2_with fail
  all_goals
   go_meet;refine⟨rfl,((r.next K t).set 0 (A2 s)).set 2 (A2 u),((R.next K R.lt).A6 (a:=⟨w.heap.size,0,none⟩) ah (A2 s)).A6 (a:=⟨w.heap.size,2,none⟩) ah (A2 u),?_⟩;have x:=B.trans (K.mono B.size);go_grown
 obtain⟨rfl,r,R,B⟩:=hcut;have g:=r.cell;have y:=R.free;have n:=R.cell;have t:=R.lt;go_wp2_with fail;refine AO (v:=(Cn ⟨s,H,u,p,b,q,d,f⟩).val) (by simp[results,results62,go_sem,Cn,n]) rfl ⟨rfl,cu⟩
def Ju(n l h:Int)(w:World):Calls prog 65 #[n,l,h] w fun e W=>e=.returned (.bool (decide (l<=n)&&decide (n<=h)))/\W=w:=by
 go_enter func65,ntmps65
 go_wp2
 all_goals
  go_ret;exact⟨Bm (by simp[*]<;>omega),rfl⟩
def U1(e:Int)(w:World):Calls prog 61 #[e] w fun r W=>r=.returned (.agg #[e,.int .i64 (-1)])/\Below w.heap.size w W:=by
 go_enter func61,ntmps61
 go_wp2
 refine AO (v:=.agg #[e,.int .i64 (-1)]) (by simp[results,results61,go_sem]) rfl ⟨rfl,cu⟩
def Zr(a:A3)(w:World)(H:a.len<=140737488355000):Calls prog 70 #[a.val] w fun e W=>e=.returned (Ea a)/\Below w.heap.size w W:=by
 have h:=gZ a;obtain⟨s,b,u,p,c,q,d,f⟩:=a;unfold A3.len at H;simp only at H h;rw[h];clear h;go_enter func70,ntmps70;have r:=A0.new w (A3.cells ⟨s,b,u,p,c,q,d,f⟩) 36;have R:=r.cell;cases b<;>cases c<;>cases d<;>cases g:s.isEmpty
 all_goals
  go_wp2;go_ret;exact⟨Hz (by simp[Ep]),cu⟩
abbrev Kr(B b:Nat)(l:Bs)(w:World):Prop:=IsBuilderF 128 5 B b (byteCells l) w
abbrev Zs(b:Nat)(w w':World):Prop:=OthersKept 5 (some b) w w'
def yI(w:World):Kr w.heap.size w.heap.size [] (w.alloc (.cells #[.pointer none,.slice none 0 0] 128)):=(P6 w).imp BuilderAtF.of BuilderAtF.of
def Zt(B b:Nat)(l s:Bs)(w:World)(h:Kr B b l w)(H:l.length+s.length<=140737488355328)(a:B<=w.heap.size):Calls prog 78 #[.pointer (some ⟨b,0,none⟩),s] w fun e W=>e=.returned (.tuple #[.int .i64 s.length,.nilIface])/\Kr B b (l++s) W/\Below B w W/\Zs b w W:=by
 refine(Any.Builder_WriteString_k {T7 with} P3 B b (byteCells l) ⟨s.toArray⟩ w h (by rw[GR];exact H) a).mono ?_;rintro e W⟨rfl,c,d,f⟩;refine⟨rfl,Or.inr ?_,d,f⟩;have e:byteCells l++strCells ⟨s.toArray⟩=byteCells (l++s):=ub
 rw[<-e];exact c
def yJ(B b:Nat)(l:Bs)(w:World)(h:Kr B b l w)(H:B<=w.heap.size):Calls prog 80 #[.pointer (some ⟨b,0,none⟩)] w fun e W=>e=.returned l/\Kr B b l W/\Below B w W/\Zs b w W:=Any.Builder_String_any_k {T7 with} P3 B b l w h H
def yK(h:w.ownsRowF B e k v n xs)(c:Below w.heap.size w w'):w'.ownsRowF B e k v n xs:=by
 rcases h with⟨d,H⟩;refine⟨d,?_⟩;rcases H with H|⟨g,C,f,F,i,j,a,r⟩
 ·exact Or.inl H
 have t:g<w.heap.size:=by
  rcases CL g w.heap.size with b|b
  ·exact b
  rw[CA b]at a;cases a
 exact Or.inr ⟨g,C,f,F,i,j,(c.block g t).trans a,r⟩
def Kr.next(h:Kr B b l w)(c:Below w.heap.size w w'):Kr B b l w':=by
 have g:∀p,BuilderAtF 128 5 B b p (byteCells l) w->BuilderAtF 128 5 B b p (byteCells l) w':=by
  rintro p⟨d,v,H,e,f⟩;have t:b<w.heap.size:=by
   rcases CL b w.heap.size with a|a
   ·exact a
   rw[CA a]at H;cases H
  exact⟨d,v,(c.block b t).trans H,yK e c,f⟩
 exact h.imp (g _) (g _)
def Kr.drew{B b:Nat}{l:Bs}{w:World}(h:Kr B b l w):Kr B b l w.drew:=h.imp (·.drew) (·.drew)
def Kr.lt{B b:Nat}{l:Bs}{w:World}(h:Kr B b l w):b<w.heap.size:=h.elim (·.lt) (·.lt)
def A0.Zu(h:A0 w g C t)(H:Zs b w w')(a:g≠b)(d:t≠5):A0 w' g C t:=by
 exact H g _ h (fun e=>a (CU e)) (fun c f e=>d (by injection e))
end Go.Proofs.YtignjjnflcpiiaaGreatDoor
