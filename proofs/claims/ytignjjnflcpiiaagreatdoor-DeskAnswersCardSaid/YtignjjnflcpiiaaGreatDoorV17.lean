/- kind.Write writes a value with parameters. Condition: at -/
import Derived.Lib.AppendIntMem
import Derived.Stop.Asserts
import Derived.Test.YtignjjnflcpiiaaGreatDoorV06
import Derived.Test.YtignjjnflcpiiaaGreatDoorV12
set_option maxHeartbeats 8000000
set_option maxRecDepth 100000 set_option linter.all false
namespace Go.Proofs.YtignjjnflcpiiaaGreatDoor
open Go Go.RowKit Proofs.Tryz Lib
def Lf(r:Nat):Bool:=decide (r<32)||decide (126<r)
def SP(r:Nat)(h:128<=r):Lf r=true:=by unfold Lf;rw[BH (show 126<r by omega)];simp
def SQ(s:Bs):(s.any fun c=>Lf c.toNat)=s.any fun c=>!C6 c:=by
 congr 1;funext c;rw[Qp];unfold Lf;by_cases h:c.toNat<32
 ·rw[BH h,AY (show¬(32:Int)<=(c.toNat:Int) by omega)];rfl
 by_cases H:126<c.toNat
 ·rw[BH H,AY (show¬(c.toNat:Int)<=126 by omega)];simp
 rw[AY h,AY H,BH (show(32:Int)<=(c.toNat:Int) by omega),BH (show(c.toNat:Int)<=126 by omega)];rfl
def SR(r:Nat)(b:r<=1114111)(w:World):Calls prog 191 #[.int .i32 (r:Int)] w fun e W=>e=.returned (.bool (Lf r))/\w=W:=by
 by_cases h:r<32
 ·have H:=AE (by unfold Lf;rw[BH h];rfl:Lf r=true);go_enter func191,ntmps191;go_wp2;go_ret;exact⟨Bm H.o.symm,rfl⟩
 by_cases a:126<r
 ·have H:=AE (by unfold Lf;rw[BH a];simp:Lf r=true);go_enter func191,ntmps191;go_wp2;go_ret;exact⟨Bm (by rw[H.o,BH (show(126:Int)<r by omega)];simp),rfl⟩
 have H:=AE (by unfold Lf;rw[AY h,AY a];rfl:Lf r=false);have g:¬(r:Int)<32:=aa
 have G:¬(126:Int)<r:=aa
 go_enter func191,ntmps191;go_wp2;go_ret;exact⟨Bm H.o.symm,rfl⟩
def SS(w:World):PredGrows prog 191 #[] Lf w:=fun W x h _=>
 (SR x h W).mono fun _ _⟨H,a⟩=>⟨H,a▸AG _ _⟩
def Qu:List Pr:=[(92,[92,92]),(34,[92,34])]
def SU:Nt Qu:=Nt.of ae
def SV(s:Bs):Ct (Ex Qu) s=s.flatMap E8:=by
 unfold Ct;congr 1;funext c;unfold Ex Qu E8;by_cases H:c=92
 ·subst H;rfl
 by_cases a:c=34
 ·subst a;rfl
 have e:((92:UInt8)==c)=false:=by rw[AI];exact fun h=>H h.symm
 have E:((34:UInt8)==c)=false:=by rw[AI];exact fun h=>a h.symm
 simp[e,E,H,a]
def SW(w:World)(t:TypeId):∀j u,(Qu.flatMap S9)[j]?=some u->(w.alloc (.cells #[.string ⟨#[92]⟩,.string ⟨#[92,92]⟩,.string ⟨#[34]⟩,.string ⟨#[92,34]⟩] t)).cell? ((⟨w.heap.size,0,none⟩:Go.Addr).add j)=some u:=fun j u h=>by
 rw[Er,(A0.new w _ t).cell]
 match j,h with
 |0,h=>exact h
 |1,h=>exact h
 |2,h=>exact h
 |3,h=>exact h
 |j+4,h=>simp[Qu,S9]at h
def kC{p:A4}(h:(Ag p.1&&(A2 p.1==p.1)&&!(p.2.any fun c=>!C6 c))=false):Hm p=none:=by unfold Hm;rw[h];rfl
def kD{p:A4}(h:(Ag p.1&&(A2 p.1==p.1)&&!(p.2.any fun c=>!C6 c))=true):Hm p=some (59::32::(p.1++61::Dc p.2)):=by unfold Hm;rw[h];rfl
def aL(s:Bs):(s.flatMap E8).length<=2*s.length:=by
 induction s with
 |nil=>simp
 |cons c s ih=>
  rw[BV,AJ,AK];have:(E8 c).length<=2:=by unfold E8;split<;>(try split)<;>simp
  omega
def kE(s:Bs):(Dc s).length<=2*s.length+2:=by
 unfold Dc;split
 ·omega
 have:=aL s;simp only[AK,AJ,BG];omega
def aM(m:Bs)(v:Value)(l:List A4)(w:World)(hr:Cq w v l)(hm:m.length<=1000000)(d5:l.length<=1000000)(b0:∀f∈l,f.1.length<=1000000/\f.2.length<=1000000)(hg:Cj w):Calls prog 105 #[m,v] w fun e w'=>Tl 1 (Cl m l) e w'/\Below w.heap.size w w':=by
 have c7:=AE b0;clear b0;obtain⟨a,d6,rfl,hc⟩:=hr.open;have HC:=AE hc;clear hc hr;have D:=AE (ca:Cl m l=if Ag (cut m [47]).1&&(!(cut m [47]).2.2||Ag (cut m [47]).2.1)&&(A2 m==m)then(Ee l).map (m++·)else none);have S:=Oc m [47];go_enter func105,ntmps105;go_wp2_with fail;refine(Nj m [47] _ aa hg).mono ?_;rintro e n⟨rfl,B⟩;generalize cut m [47]=d at S D|-;obtain⟨G,I,T⟩:=d;simp only at S D|-;go_upto_region 2 with fail;go_cut[35] (fun t U=>t=.bool (!(Ag G&&(!T||Ag I)&&(A2 m==m)))/\Below w.heap.size w U)
 case first=>
  go_wp2_with fail;refine(Pm G _ aa).mono ?_;rintro e V⟨rfl,H⟩;have o:=B.trans (H.mono B.size);clear H B;generalize b1:Ag G=X;have u:=AE b1;clear b1;cases X with
  |false=>
   go_wp2;go_meet;exact⟨by rw[u.o];rfl,o⟩
  |true=>
   cases T with
   |false=>
    go_wp2_with fail;refine(Gw m _ aa).mono ?_;rintro e w6⟨rfl,H⟩;have r:=o.trans (H.mono o.size);clear H o;by_cases j:A2 m=m
    ·have Q:(A2 m !=m)=false:=by simp[j]
     have s:=AE (qi:(A2 m==m)=true);clear j;go_wp2;go_meet;exact⟨by rw[u.o,s.o];rfl,r⟩
    have Q:(A2 m !=m)=true:=qi
    have s:=AE (qi:(A2 m==m)=false);clear j;go_wp2;go_meet;exact⟨by rw[u.o,s.o];rfl,r⟩
   |true=>
    go_wp2_with fail;refine(Pm I _ aa).mono ?_;rintro e w6⟨rfl,H⟩;have r:=o.trans (H.mono o.size);clear H o;generalize b2:Ag I=c8;have Y:=AE b2;clear b2;cases c8 with
    |false=>
     go_wp2;go_meet;exact⟨by rw[u.o,Y.o];rfl,r⟩
    |true=>
     go_wp2_with fail;refine(Gw m _ aa).mono ?_;rintro e w7⟨rfl,H⟩;have A:=r.trans (H.mono r.size);clear H r;by_cases j:A2 m=m
     ·have Q:(A2 m !=m)=false:=by simp[j]
      have s:=AE (qi:(A2 m==m)=true);clear j;go_wp2;go_meet;exact⟨by rw[u.o,Y.o,s.o];rfl,A⟩
     have Q:(A2 m !=m)=true:=qi
     have s:=AE (qi:(A2 m==m)=false);clear j;go_wp2;go_meet;exact⟨by rw[u.o,Y.o,s.o];rfl,A⟩
 case rest=>
 clear B;obtain⟨rfl,B⟩:=hcut;obtain⟨V,rfl⟩:∃x:World,x=wc:=⟨_,rfl⟩;clear S;generalize(Ag G&&(!T||Ag I)&&(A2 m==m))=Z at D|-;cases Z with
 |false=>
  have HN:=AE (xe:Cl m l=none);go_wp2;go_ret2;exact⟨Or.inr ⟨_,HN.o,rfl,Or.inr (Or.inl rfl)⟩,B⟩
 |true=>
  have HN:=AE (xe:Cl m l=(Ee l).map (m++·));clear D;simp only[EK];go_wp2_with fail;go_loopw[9,40] (fun t i wr=>∃(k:Nat)(O:Bs),i=k/\k<=l.length/\t=O/\O.length<=1000000+k*4000000/\Hid ((Ee (l.drop k)).map (O++·)=Cl m l)/\Below w.heap.size w wr) (fun _ i _=>l.length-(intOf i).toNat)
  case atStart=>exact⟨0,m,rfl,aa,rfl,aa,AE HN.o.symm,B⟩
  clear B;obtain⟨k,O,rfl,hk,rfl,d7,a0,B⟩:=hrel;by_cases b3:k<l.length
  ·obtain⟨b,rfl,b4,h1,h2⟩:=HC.o k b3;have hf:=c7.o l[k] (AQ _);have J:=AE (by rw[AH b3];rfl:Ee (l.drop k)=match Hm l[k]with|none=>none|some x=>(Ee (l.drop (k+1))).map (x++·));have c1:=(B.cell (p:=⟨b,k*2,none⟩) b4).trans h1;have c2:=(B.cell (p:=⟨b,k*2+1,none⟩) b4).trans h2;clear h1 h2;generalize l[k]=f at hf J c1 c2;obtain⟨x,y⟩:=f;simp only at hf c1 c2;obtain⟨hx,hy⟩:=hf;have g:=A0.new wr #[x,y] 119;have L:=B.alloc B.size (.cells #[x,y] 119);have HF:=AE (fun(h:(Ag x&&(A2 x==x)&&!(y.any fun c=>!C6 c))=false)=>show Cl m l=none from by rw[<-a0.o,J.o,kC h];rfl);have HY:=AE (fun(h:(Ag x&&(A2 x==x)&&!(y.any fun c=>!C6 c))=true)=>show(Ee (l.drop (k+1))).map ((O++(59::32::(x++61::Dc y)))++·)=Cl m l from by rw[<-a0.o,J.o,kD h];cases Ee (l.drop (k+1))<;>simp);clear J B;have b6:wr.heap.size<(wr.alloc (.cells #[x,y] 119)).heap.size:=ah
   go_upto_region 8 with fail;generalize(wr.alloc (.cells #[x,y] 119))=n at g L b6|-;have E:=fun W=>Pm x W aa
   have C:=fun W=>Yr 191 (DU func191 af rfl) Lf SP y #[] W (SS W)
   rw[SQ]at C;have HX:=AE (ca:(Ag x&&(A2 x==x)&&!(y.any fun c=>!C6 c))=(Ag x&&(A2 x==x)&&!(y.any fun c=>!C6 c)));go_cut[61] (fun t U=>t=.bool (!(Ag x&&(A2 x==x)&&!(y.any fun c=>!C6 c)))/\Below n.heap.size n U)
   case first=>
    have d8:=(A0.drew g).cell;have K0:=(AG n.heap.size n).drew;generalize b7:Ag x=X at E;generalize b8:(y.any fun c=>!C6 c)=c9 at C;have u:=AE b7;clear b7;have b9:=AE b8;clear b8;have M:=fun W=>Gw x W aa
    cases X with
    |false=>
     first
     |go_region_law((first
      |(go_simp;with_reducible refine(E _).mono ?_;rintro e a1⟨rfl,H⟩;have K:=Bp H (w0:=n) ax;have z:=(g.next K g.lt).cell)
      |(go_simp;with_reducible refine(M _).mono ?_;rintro e a2⟨rfl,H⟩;have K:=Bp H (w0:=n) ax;have z:=(g.next K g.lt).cell)
      |(go_simp;with_reducible refine(C _).mono ?_;rintro e a3⟨rfl,H⟩;have K:=Bp H (w0:=n) ax;have z:=(g.next K g.lt).cell)))
     |fail
     all_goals
      go_wp2;go_meet;exact⟨by rw[u.o];rfl,K⟩
    |true=>
     by_cases j:A2 x=x
     ·have s:=AE (qi:(A2 x==x)=true);have Q:(A2 x !=x)=false:=by simp[j]
      cases c9 with
      |false=>
       first
       |go_region_law((first
        |(go_simp;with_reducible refine(E _).mono ?_;rintro e a1⟨rfl,H⟩;have K:=Bp H (w0:=n) ax;have z:=(g.next K g.lt).cell)
        |(go_simp;with_reducible refine(M _).mono ?_;rintro e a2⟨rfl,H⟩;have K:=Bp H (w0:=n) ax;have z:=(g.next K g.lt).cell)
        |(go_simp;with_reducible refine(C _).mono ?_;rintro e a3⟨rfl,H⟩;have K:=Bp H (w0:=n) ax;have z:=(g.next K g.lt).cell)))
       |fail
       all_goals
        go_wp2;go_meet;exact⟨by rw[u.o,s.o,b9.o];rfl,K⟩
      |true=>
       first
       |go_region_law((first
        |(go_simp;with_reducible refine(E _).mono ?_;rintro e a1⟨rfl,H⟩;have K:=Bp H (w0:=n) ax;have z:=(g.next K g.lt).cell)
        |(go_simp;with_reducible refine(M _).mono ?_;rintro e a2⟨rfl,H⟩;have K:=Bp H (w0:=n) ax;have z:=(g.next K g.lt).cell)
        |(go_simp;with_reducible refine(C _).mono ?_;rintro e a3⟨rfl,H⟩;have K:=Bp H (w0:=n) ax;have z:=(g.next K g.lt).cell)))
       |fail
       all_goals
        go_wp2;go_meet;exact⟨by rw[u.o,s.o,b9.o];rfl,K⟩
     have s:=AE (qi:(A2 x==x)=false);have Q:(A2 x !=x)=true:=qi
     first
     |go_region_law((first
      |(go_simp;with_reducible refine(E _).mono ?_;rintro e a1⟨rfl,H⟩;have K:=Bp H (w0:=n) ax;have z:=(g.next K g.lt).cell)
      |(go_simp;with_reducible refine(M _).mono ?_;rintro e a2⟨rfl,H⟩;have K:=Bp H (w0:=n) ax;have z:=(g.next K g.lt).cell)
      |(go_simp;with_reducible refine(C _).mono ?_;rintro e a3⟨rfl,H⟩;have K:=Bp H (w0:=n) ax;have z:=(g.next K g.lt).cell)))
     |fail
     all_goals
      go_wp2;go_meet;exact⟨by rw[u.o,s.o];rfl,K⟩
   clear E C HX;obtain⟨rfl,K⟩:=hcut;obtain⟨w2,rfl⟩:∃x:World,x=wc:=⟨_,rfl⟩;have N:=g.next K g.lt;have o:=L.trans (K.mono L.size);clear K g L b6;generalize(Ag x&&(A2 x==x)&&!(y.any fun c=>!C6 c))=Z at HF HY|-;cases Z with
   |false=>
    have d0:=AE (HF.o rfl);go_wp2;go_ret2;exact⟨Or.inr ⟨_,d0.o,rfl,Jo.at _ _ _ _⟩,o.alloc o.size _⟩
   |true=>
    have F:=AE (HY.o rfl);clear HF HY;have P:=kE y;have HQ:=AE (ca:Dc y=if Ag y then y else 34::(y.flatMap E8++[34]));simp only[EK];have d1:=N.cell;go_wp2_with fail;refine(Pm y _ aa).mono ?_;rintro e w3⟨rfl,H⟩;have a4:=N.next H N.lt;have r:=o.trans (H.mono o.size);clear H N o d1;generalize Ag y=ty at HQ|-;cases ty with
    |true=>
     have a5:=AE (by rw[HQ.o];rfl:Dc y=y);rw[a5.o]at F P;have d9:=a4.cell;go_wp2;go_roundw
     case rel=>exact⟨k+1,O++(59::32::(x++61::y)),aj,aa,ah,ag,F,r⟩
     simp[intOf];omega
    |false=>
     have a5:=AE (by rw[HQ.o];rfl:Dc y=34::(y.flatMap E8++[34]));rw[a5.o]at F P;simp only[AK,AJ,BG]at P;have R:=a4.alloc (.cells #[.string ⟨#[92]⟩,.string ⟨#[92,92]⟩,.string ⟨#[34]⟩,.string ⟨#[92,34]⟩] 9);have A:=r.alloc r.size (.cells #[.string ⟨#[92]⟩,.string ⟨#[92,92]⟩,.string ⟨#[34]⟩,.string ⟨#[92,34]⟩] 9);have c0:=gW w3.heap.size 4 Qu (w3.alloc (.cells #[.string ⟨#[92]⟩,.string ⟨#[92,92]⟩,.string ⟨#[34]⟩,.string ⟨#[92,34]⟩] 9)) (SW w3 9) ae ae 4 rfl;go_wp2_with fail;refine c0.mono ?_;rintro e V⟨b5,v5,rfl,a6,c3,c4,c5,a7⟩;have c6:=R.next a7 R.lt;have B5:=A.trans (a7.mono A.size);have d2:wr.heap.size<b5:=BN R.lt a6;have d3:w.heap.size<=b5:=AV A.size a6;have a8:=jI b5 v5 Qu SU y V c3 c4 c5 aa;rw[SV]at a8;clear c0 a7 c3 c4 c5 a6 R A a4 r;go_wp2_with fail;refine a8.mono ?_;rintro e w6⟨rfl,a9⟩;have d4:=c6.next a9 d2;have B6:=B5.trans (a9.mono d3);have e0:=d4.cell;clear a8 a9 c6 B5;generalize y.flatMap E8=q at F P|-;go_wp2;go_roundw
     case rel=>exact⟨k+1,O++(59::32::(x++61::(34::(q++[34])))),aj,aa,ah,ag,F,B6⟩
     simp[intOf];omega
  obtain rfl:k=l.length:=aa
  have HE:=AE (by rw[<-a0.o,AS];simp[Ee]:Cl m l=some O);go_wp2;go_ret2;exact⟨Or.inl ⟨_,HE.o,rfl⟩,B⟩
def Wr:Array Value:=#[.string ⟨#[38]⟩,.string ⟨#[38,97,109,112,59]⟩,.string ⟨#[34]⟩,.string ⟨#[38,113,117,111,116,59]⟩,.string ⟨#[39]⟩,.string ⟨#[38,35,51,57,59]⟩,.string ⟨#[60]⟩,.string ⟨#[38,108,116,59]⟩,.string ⟨#[62]⟩,.string ⟨#[38,103,116,59]⟩]
def kF:Array Value:=#[.string ⟨#[67,111,110,116,101,110,116,45,84,121,112,101]⟩,.string ⟨#[67,111,110,116,101,110,116,45,84,114,97,110,115,102,101,114,45,69,110,99,111,100,105,110,103]⟩]
structure Gr(w:World):Prop where
 g:Cj w
 signs:∀k,k<10->w.cell? ⟨1,k,none⟩=Wr[k]?
 ours:∀k,k<2->w.cell? ⟨2,k,none⟩=kF[k]?
 et:w.cell? ⟨0,0,none⟩=some (.iface 262 (.agg #[.pointer (some ⟨12,25,none⟩)]))
def Gr.size{w:World}(h:Gr w):3<w.heap.size:=h.g.size
def Gr.next{w w':World}(h:Gr w)(H:Below w.heap.size w w'):Gr w':=by
 have s:=h.size;refine⟨h.g.next H,fun k a=>?_,fun k a=>?_,?_⟩
 ·exact(H.cell (p:=⟨1,k,none⟩) ai).trans (h.signs k a)
 ·exact(H.cell (p:=⟨2,k,none⟩) ai).trans (h.ours k a)
 exact(H.cell (p:=⟨0,0,none⟩) ai).trans h.et
end Go.Proofs.YtignjjnflcpiiaaGreatDoor
namespace Go.Proofs.YtignjjnflcpiiaaGreatDoor
open Go.RowKit Go.Extern.Stop Go.Stop Go.Extern
def As.kG(t:Go.Addr)(w:World):(ReflectliteValue.unpack (.iface 102 (.pointer (some t)))).run Tryz.prog w
 =.ok (.agg #[.pointer (some ⟨12,102,none⟩),.pointer (some ⟨w.heap.size,0,none⟩),.int .u64 150]) (w.alloc (.cells #[.pointer (some t)] 102)):=af
def As.type27(a:Go.Addr)(w:World):(ReflectliteValue.methodAny (ReflectliteValue.valueError "reflectlite.Value.Type" 0) (fun t _ _ _=>ReflectliteType.toType t) #[.agg #[.pointer (some ⟨12,102,none⟩),.pointer (some a),.int .u64 150]]).run Tryz.prog w
 =.ok (.iface 262 (.agg #[.pointer (some ⟨12,102,none⟩)])) w:=af
def As.kH(h:Value)(w:World):(Go.method 466 262 (.agg #[h]) "Kind").run Tryz.prog w=.ok (373,h) w:=af
def As.kI(w:World):((ReflectliteType.abiMethod fun t=>(fun a:Nat=>Value.int IntKind.u8 (a:Int))<$>Rtype.kind t) #[.pointer (some ⟨12,102,none⟩)]).run Tryz.prog w=.ok (.int .u8 22) w:=af
def As.kJ(w:World):((ReflectliteType.abiMethod fun t=>(fun a:Nat=>Value.int IntKind.u8 (a:Int))<$>Rtype.kind t) #[.pointer (some ⟨12,30,none⟩)]).run Tryz.prog w=.ok (.int .u8 2) w:=af
theorem kK(z:Sem Value)(f:TypeId->Go.Addr->Nat->Nat->Sem Value)(v:Value):ReflectliteValue.method z f #[v]=(do match<-ReflectliteValue.parts v with|none=>z|some (t,a,F)=>f t a F (F%32)):=rfl
def As.kL(a:Go.Addr)(w:World):(ReflectliteValue.parts (.agg #[.pointer (some ⟨12,102,none⟩),.pointer (some a),.int .u64 150])).run Tryz.prog w=.ok (some (102,a,150)) w:=af
def As.kM(a p:Go.Addr)(W:World)(h:W.cell? a=some (.pointer (some p))):(ReflectliteValue.method (ReflectliteValue.valueError "reflectlite.Value.IsNil" 0) ReflectliteValue.isNil #[.agg #[.pointer (some ⟨12,102,none⟩),.pointer (some a),.int .u64 150]]).run Tryz.prog W=.ok false W:=by
 rw[kK];simp only[KV,As.kL,Result.andThen];simp[ReflectliteValue.isNil,loadVar,isAgg,underlying,Tryz.underlying102,h,Result.andThen]
def As.kN(h:Value)(w:World):(Go.method 466 262 (.agg #[h]) "Elem").run Tryz.prog w=.ok (385,.agg #[h]) w:=af
def As.kO(h:Value)(w:World):(Go.method 466 262 (.agg #[h]) "Implements").run Tryz.prog w=.ok (386,.agg #[h]) w:=af
def As.kP(h:Value)(w:World):(Go.method 466 262 (.agg #[h]) "AssignableTo").run Tryz.prog w=.ok (383,.agg #[h]) w:=af
def As.kQ(w:World):(ReflectliteType.method ReflectliteType.elem #[.agg #[.pointer (some ⟨12,102,none⟩)]]).run Tryz.prog w=.ok (.iface 262 (.agg #[.pointer (some ⟨12,30,none⟩)])) w:=af
def As.kR(w:World):(ReflectliteType.relation "Implements" ReflectliteType.implements_ #[.agg #[.pointer (some ⟨12,30,none⟩)],.iface 262 (.agg #[.pointer (some ⟨12,25,none⟩)])]).run Tryz.prog w=.ok true w:=af
def As.kS(v:Value)(w:World):(ReflectliteType.typeOf #[.iface 30 v]).run Tryz.prog w=.ok (.iface 262 (.agg #[.pointer (some ⟨12,30,none⟩)])) w:=af
def As.kT(w:World):(ReflectliteType.relation "AssignableTo" ReflectliteType.assignableTo #[.agg #[.pointer (some ⟨12,30,none⟩)],.iface 262 (.agg #[.pointer (some ⟨12,30,none⟩)])]).run Tryz.prog w=.ok true w:=af
def As.kU(e:Int)(w:World):(ReflectliteValue.unpack (.iface 30 e)).run Tryz.prog w
 =.ok (.agg #[.pointer (some ⟨12,30,none⟩),.pointer (some ⟨w.heap.size,0,none⟩),.int .u64 130]) (w.alloc (.cells #[e] 30)):=af
def As.SX(w:World):(Rtype.elem? 102).run Tryz.prog w=.ok (some 30) w:=af
def As.SY(p:Go.Addr)(w:World):(ReflectliteValue.mk 30 p ReflectliteValue.flagAddr).run Tryz.prog w=.ok (.agg #[.pointer (some ⟨12,30,none⟩),.pointer (some p),.int .u64 386]) w:=af
def As.kV(a p:Go.Addr)(W:World)(h:W.cell? a=some (.pointer (some p))):(ReflectliteValue.method (ReflectliteValue.valueError "reflectlite.Value.Elem" 0) ReflectliteValue.elem #[.agg #[.pointer (some ⟨12,102,none⟩),.pointer (some a),.int .u64 150]]).run Tryz.prog W
   =.ok (.agg #[.pointer (some ⟨12,30,none⟩),.pointer (some p),.int .u64 386]) W:=by
 rw[kK];simp only[KV,As.kL,Result.andThen];simp[ReflectliteValue.elem,loadVar,isAgg,underlying,Tryz.underlying102,h,Result.andThen,As.SX,As.SY]
theorem SZ(v x:Value):ReflectliteValue.set #[v,x]=(do
 let(some (d,a,f),some (s,b,_)):=(<-ReflectliteValue.parts v,<-ReflectliteValue.parts x)
  |unsupported (.noEntry "extern/(internal/reflectlite.Value).Set.zeroValue")
 if f/ReflectliteValue.flagAddr%2==0 then unsupported (.noEntry "extern/(internal/reflectlite.Value).Set.unaddressable")
 let V<-loadVar s b
 if<-Rtype.directlyAssignable d s then storeVar d a V
 else if<-Rtype.implements d s then
  if(<-Rtype.kind s)==20 then
   match V with
   | .nilIface=>unsupported (.noEntry "extern/reflectlite: a nil value of one interface type handed on as a value of another")
   |_=>storeVar d a V
  else storeVar d a (.iface s V)
 else panicString ("reflectlite.Set: value of type " ++(<-Rtype.spelt s)++ " is not assignable to type " ++(<-Rtype.spelt d))
 pure (.tuple #[])):=rfl
def As.TA(a:Go.Addr)(w:World):(ReflectliteValue.parts (.agg #[.pointer (some ⟨12,30,none⟩),.pointer (some a),.int .u64 386])).run Tryz.prog w=.ok (some (30,a,386)) w:=af
def As.TB(a:Go.Addr)(w:World):(ReflectliteValue.parts (.agg #[.pointer (some ⟨12,30,none⟩),.pointer (some a),.int .u64 130])).run Tryz.prog w=.ok (some (30,a,130)) w:=af
def As.TC(w:World):(Rtype.directlyAssignable 30 30).run Tryz.prog w=.ok true w:=af
def As.kW(t b:Go.Addr)(e:Int)(o:Value)(W:World)(h:W.cell? b=some e)(H:W.cell? t=some o)(f:W.frozen? t=false):(ReflectliteValue.set #[.agg #[.pointer (some ⟨12,30,none⟩),.pointer (some t),.int .u64 386],.agg #[.pointer (some ⟨12,30,none⟩),.pointer (some b),.int .u64 130]]).run Tryz.prog W
   =.ok (.tuple #[]) (W.setCell t e):=by
 rw[SZ];simp only[KV,As.TA,As.TB,Result.andThen];simp[ReflectliteValue.flagAddr,loadVar,isAgg,underlying,Tryz.underlying30,h,Result.andThen,As.TC,storeVar,Value.cells,storeCells,Go.Addr.add];rw[run_store Tryz.prog W t _ _ ca];simp[H,f]
def TD(e:Int)(t:Go.Addr)(o:Value)(w:World)(H:w.cell? ⟨0,0,none⟩=some (.iface 262 (.agg #[.pointer (some ⟨12,25,none⟩)])))(a:w.cell? t=some o)(b:w.frozen? t=false):Calls Tryz.prog 48 #[.iface 30 e,.iface 102 (.pointer (some t))] w fun E W=>E=.returned true/\W=((((w.alloc (.cells #[.pointer (some t)] 102)).alloc (.cells #[.pointer (some ⟨12,102,none⟩),.pointer (some ⟨w.heap.size,0,none⟩),.int .u64 150] 177)).alloc (.cells #[.pointer (some ⟨12,102,none⟩),.pointer (some ⟨w.heap.size,0,none⟩),.int .u64 150] 177)).alloc (.cells #[e] 30)).setCell t e:=by
 have d:=@CF Tryz.prog 107 _ (fun A=>ReflectliteValue.unpack (A.getD 0 (.tuple #[]))) Tryz.func107 af af af af;have f:=@CF Tryz.prog 108 _ (ReflectliteValue.methodAny (ReflectliteValue.valueError "reflectlite.Value.Type" 0) (fun t _ _ _=>ReflectliteType.toType t)) Tryz.func108 af af af af;have g:=@CF Tryz.prog 109 _ (ReflectliteValue.method (ReflectliteValue.valueError "reflectlite.Value.IsNil" 0) ReflectliteValue.isNil) Tryz.func109 af af af af;have i:=@CF Tryz.prog 373 _ (ReflectliteType.abiMethod fun t=>do pure (.int .u8 (<-Rtype.kind t))) Tryz.func373 af af af af;have j:=@CF Tryz.prog 385 _ (ReflectliteType.method ReflectliteType.elem) Tryz.func385 af af af af;have k:=@CF Tryz.prog 386 _ (ReflectliteType.relation "Implements" ReflectliteType.implements_) Tryz.func386 af af af af;have m:=@CF Tryz.prog 200 _ ReflectliteType.typeOf Tryz.func200 af af af af;have n:=@CF Tryz.prog 383 _ (ReflectliteType.relation "AssignableTo" ReflectliteType.assignableTo) Tryz.func383 af af af af;have p:=@CF Tryz.prog 201 _ (ReflectliteValue.method (ReflectliteValue.valueError "reflectlite.Value.Elem" 0) ReflectliteValue.elem) Tryz.func201 af af af af;have q:=@CF Tryz.prog 202 _ ReflectliteValue.set Tryz.func202 af af af af;have T:=As.kS;have M:=As.kP;have r:=As.kT;have v:=As.kU;have F:=As.kG;have s:=As.type27;have K:=As.kH;have u:=As.kN;have I:=As.kO;have x:=As.kI;have y:=As.kJ;have z:=As.kQ;have B:=As.kR;have N:=As.kM ⟨w.heap.size,0,none⟩ t ((w.alloc (.cells #[.pointer (some t)] 102)).alloc (.cells #[.pointer (some ⟨12,102,none⟩),.pointer (some ⟨w.heap.size,0,none⟩),.int .u64 150] 177)) ah;have c:0<w.heap.size:=BJ w _ H;have C:((w.alloc (.cells #[.pointer (some t)] 102)).alloc (.cells #[.pointer (some ⟨12,102,none⟩),.pointer (some ⟨w.heap.size,0,none⟩),.int .u64 150] 177)).cell? ⟨0,0,none⟩=some (.iface 262 (.agg #[.pointer (some ⟨12,25,none⟩)])):=by
  rw[CK _ _ ⟨0,0,none⟩ (by simp<;>omega),CK _ _ ⟨0,0,none⟩ c];exact H
 have l:t.block<w.heap.size:=by
  rcases CL t.block w.heap.size with h|h
  ·exact h
  simp[World.cell?,CA h]at a
 have D:=As.kV ⟨w.heap.size,0,none⟩ t (((w.alloc (.cells #[.pointer (some t)] 102)).alloc (.cells #[.pointer (some ⟨12,102,none⟩),.pointer (some ⟨w.heap.size,0,none⟩),.int .u64 150] 177)).alloc (.cells #[.pointer (some ⟨12,102,none⟩),.pointer (some ⟨w.heap.size,0,none⟩),.int .u64 150] 177)) iz;have S:=As.kW t ⟨w.heap.size+1+1+1,0,none⟩ e o ((((w.alloc (.cells #[.pointer (some t)] 102)).alloc (.cells #[.pointer (some ⟨12,102,none⟩),.pointer (some ⟨w.heap.size,0,none⟩),.int .u64 150] 177)).alloc (.cells #[.pointer (some ⟨12,102,none⟩),.pointer (some ⟨w.heap.size,0,none⟩),.int .u64 150] 177)).alloc (.cells #[e] 30))
  (by rw[World.cell?_alloc_at _ _ _ _ ah];rfl)
  eu
  (by rw[DX _ _ t ag,DX _ _ t ag,DX _ _ t ag,DX _ _ t (ED l)];exact b)
 go_enter Tryz.func48,Tryz.ntmps48
 go_wp2
 refine wp_loop_rounds 1 ?_;rw[rounds_succ]
 go_wp2
 go_ret;exact⟨rfl,rfl⟩
def As.TE(v:Value)(w:World):(ReflectliteType.typeOf #[.iface 253 v]).run Tryz.prog w=.ok (.iface 262 (.agg #[.pointer (some ⟨12,253,none⟩)])) w:=af
def As.TF(w:World):(ReflectliteType.relation "AssignableTo" ReflectliteType.assignableTo #[.agg #[.pointer (some ⟨12,253,none⟩)],.iface 262 (.agg #[.pointer (some ⟨12,30,none⟩)])]).run Tryz.prog w=.ok false w:=af
def As.TG(v:Value)(x:TypeId)(w:World):(Instr.typeAssert (.iface 253 v) x 267 true).run Tryz.prog w=.ok (.tuple #[.nilIface,false]) w:=run_typeAssert_lacksB Tryz.underlying267 af af v x w
def As.TH(v:Value)(x:TypeId)(w:World):(Instr.typeAssert (.iface 253 v) x 270 true).run Tryz.prog w=.ok (.tuple #[.iface 253 v,true]) w:=run_typeAssert_hasB Tryz.underlying270 af v x w
def As.TI(p:Option Go.Addr)(w:World):(Go.method 466 253 (.pointer p) "Unwrap").run Tryz.prog w=.ok (381,.pointer p) w:=af
def TJ(b:Nat)(e:Int)(w:World)(h:w.cell? ⟨b,0,none⟩=some e):Calls Tryz.prog 381 #[.pointer (some ⟨b,0,none⟩)] w fun E W=>E=.returned (.iface 30 e)/\w=W:=by
 go_enter Tryz.func381,Tryz.ntmps381
 go_wp2
 go_ret;exact⟨rfl,rfl⟩
def TK(e:Int)(b:Nat)(t:Go.Addr)(o:Value)(w:World)(H:w.cell? ⟨0,0,none⟩=some (.iface 262 (.agg #[.pointer (some ⟨12,25,none⟩)])))(a:w.cell? t=some o)(d:w.frozen? t=false)(c:w.cell? ⟨b,0,none⟩=some e):Calls Tryz.prog 48 #[.iface 253 (.pointer (some ⟨b,0,none⟩)),.iface 102 (.pointer (some t))] w fun E W=>E=.returned true/\W=((((w.alloc (.cells #[.pointer (some t)] 102)).alloc (.cells #[.pointer (some ⟨12,102,none⟩),.pointer (some ⟨w.heap.size,0,none⟩),.int .u64 150] 177)).alloc (.cells #[.pointer (some ⟨12,102,none⟩),.pointer (some ⟨w.heap.size,0,none⟩),.int .u64 150] 177)).alloc (.cells #[e] 30)).setCell t e:=by
 have j:=@CF Tryz.prog 107 _ (fun A=>ReflectliteValue.unpack (A.getD 0 (.tuple #[]))) Tryz.func107 af af af af;have k:=@CF Tryz.prog 108 _ (ReflectliteValue.methodAny (ReflectliteValue.valueError "reflectlite.Value.Type" 0) (fun t _ _ _=>ReflectliteType.toType t)) Tryz.func108 af af af af;have m:=@CF Tryz.prog 109 _ (ReflectliteValue.method (ReflectliteValue.valueError "reflectlite.Value.IsNil" 0) ReflectliteValue.isNil) Tryz.func109 af af af af;have n:=@CF Tryz.prog 373 _ (ReflectliteType.abiMethod fun t=>do pure (.int .u8 (<-Rtype.kind t))) Tryz.func373 af af af af;have p:=@CF Tryz.prog 385 _ (ReflectliteType.method ReflectliteType.elem) Tryz.func385 af af af af;have q:=@CF Tryz.prog 386 _ (ReflectliteType.relation "Implements" ReflectliteType.implements_) Tryz.func386 af af af af;have r:=@CF Tryz.prog 200 _ ReflectliteType.typeOf Tryz.func200 af af af af;have s:=@CF Tryz.prog 383 _ (ReflectliteType.relation "AssignableTo" ReflectliteType.assignableTo) Tryz.func383 af af af af;have u:=@CF Tryz.prog 201 _ (ReflectliteValue.method (ReflectliteValue.valueError "reflectlite.Value.Elem" 0) ReflectliteValue.elem) Tryz.func201 af af af af;have v:=@CF Tryz.prog 202 _ ReflectliteValue.set Tryz.func202 af af af af;have T:=As.kS;have M:=As.kP;have x:=As.kT;have V:=As.kU;have F:=As.kG;have y:=As.type27;have K:=As.kH;have z:=As.kN;have I:=As.kO;have B:=As.kI;have C:=As.kJ;have D:=As.kQ;have G:=As.kR;have N:=As.kM ⟨w.heap.size,0,none⟩ t ((w.alloc (.cells #[.pointer (some t)] 102)).alloc (.cells #[.pointer (some ⟨12,102,none⟩),.pointer (some ⟨w.heap.size,0,none⟩),.int .u64 150] 177)) ah;have f:0<w.heap.size:=BJ w _ H;have J:((w.alloc (.cells #[.pointer (some t)] 102)).alloc (.cells #[.pointer (some ⟨12,102,none⟩),.pointer (some ⟨w.heap.size,0,none⟩),.int .u64 150] 177)).cell? ⟨0,0,none⟩=some (.iface 262 (.agg #[.pointer (some ⟨12,25,none⟩)])):=by
  rw[CK _ _ ⟨0,0,none⟩ (by simp<;>omega),CK _ _ ⟨0,0,none⟩ f];exact H
 have l:t.block<w.heap.size:=by
  rcases CL t.block w.heap.size with h|h
  ·exact h
  simp[World.cell?,CA h]at a
 have L:=As.kV ⟨w.heap.size,0,none⟩ t (((w.alloc (.cells #[.pointer (some t)] 102)).alloc (.cells #[.pointer (some ⟨12,102,none⟩),.pointer (some ⟨w.heap.size,0,none⟩),.int .u64 150] 177)).alloc (.cells #[.pointer (some ⟨12,102,none⟩),.pointer (some ⟨w.heap.size,0,none⟩),.int .u64 150] 177)) iz;have S:=As.kW t ⟨w.heap.size+1+1+1,0,none⟩ e o ((((w.alloc (.cells #[.pointer (some t)] 102)).alloc (.cells #[.pointer (some ⟨12,102,none⟩),.pointer (some ⟨w.heap.size,0,none⟩),.int .u64 150] 177)).alloc (.cells #[.pointer (some ⟨12,102,none⟩),.pointer (some ⟨w.heap.size,0,none⟩),.int .u64 150] 177)).alloc (.cells #[e] 30))
  (by rw[World.cell?_alloc_at _ _ _ _ ah];rfl)
  eu
  (by rw[DX _ _ t ag,DX _ _ t ag,DX _ _ t ag,DX _ _ t (ED l)];exact d)
 have O:=As.TE;have P:=As.TF;have Q:=As.TG;have U:=As.TH;have R:=As.TI;have g:b<w.heap.size:=BJ w _ c;have i:((((w.alloc (.cells #[.pointer (some t)] 102)).alloc (.cells #[.pointer (some ⟨12,102,none⟩),.pointer (some ⟨w.heap.size,0,none⟩),.int .u64 150] 177)).alloc (.cells #[.pointer (some ⟨12,102,none⟩),.pointer (some ⟨w.heap.size,0,none⟩),.int .u64 150] 177))).cell? ⟨b,0,none⟩=some e:=by
  rw[CK _ _ ⟨b,0,none⟩ ag,CK _ _ ⟨b,0,none⟩ ag,CK _ _ ⟨b,0,none⟩ g];exact c
 go_enter Tryz.func48,Tryz.ntmps48
 go_wp2
 refine wp_loop_rounds 2 ?_;rw[rounds_succ];go_wp2_with fail;refine(TJ b e _ i).mono ?_;rintro E X⟨rfl,rfl⟩;go_wp2_with fail;rw[rounds_succ]
 go_wp2
 go_ret;exact⟨rfl,rfl⟩
end Go.Proofs.YtignjjnflcpiiaaGreatDoor
namespace Go.Proofs.YtignjjnflcpiiaaGreatDoor
open Go Go.RowKit Proofs.Tryz Lib
def Ws(s o:Bs)(w:World)(c:s.length<=1000000000000)(h:o.length<4294967281)(H:o.all (fun b=>decide (b.toNat<128))=true):Calls prog 184 #[s,o] w fun e W=>e=.returned (.int .i64 ((C7 s o:Nat):Int))/\Below w.heap.size w W:=by
 have T:=AE (uI s o);have d:=Q9 s o;go_enter func184,ntmps184;go_wp2_with fail;refine(Vh s o _ h H).mono ?_;rintro e f⟨rfl,a⟩;go_wp2;go_ret;exact⟨Fg (by rw[<-T.o];omega),a⟩
def TL(X x s:Bs)(b:Nat)(w:World)(h:w.cell? ⟨b,0,none⟩=some s):Calls prog 319 #[.agg #[X,x],.pointer (some ⟨b,0,none⟩)] w fun e W=>e=.returned (.bool (hasPrefix s x))/\Below w.heap.size w W:=by
 have H:b<w.heap.size:=BJ w _ h;have a:(w.alloc (.cells #[X,x] 249)).cell? ⟨b,0,none⟩=some s:=by rw[World.cell?_alloc_past _ _ _ H];exact h
 have k:=(A0.new w #[X,x] 249).cell;clear h;go_enter func319,ntmps319;go_wp2_with fail;refine(L6 s x _).mono ?_;rintro e W⟨rfl,rfl⟩;go_wp2;go_ret;exact⟨rfl,(AG _ _).alloc (AF _) _⟩
def Ol(s:Bs):Int:=match I1 s with|none=>-1|some k=>(k:Int)
def TM(s:Bs)(k:Nat)(h:k<Cr.length)(H:∀j,j<k->hasPrefix s (Cr.getD j ([],[])).2=false)(a:hasPrefix s (Cr.getD k ([],[])).2=true):I1 s=some k:=by
 unfold I1;rw[FH];refine⟨h,?_,fun j b=>?_⟩
 ·simpa[AM,BC h]using a
 have l:j<Cr.length:=aa
 have:=H j b;rw[AM,BC l]at this;simpa using this
def TN(s:Bs)(H:∀j,j<5->hasPrefix s (Cr.getD j ([],[])).2=false):I1 s=none:=by
 unfold I1;rw[List.findIdx?_eq_none_iff];intro x a;obtain⟨j,h,rfl⟩:=JU a;have:=H j h;rw[AM,BC h]at this;simpa using this
def kX(k:Nat)(h:k<5):Wr[k*2]?=some (.string ⟨(Cr.getD k ([],[])).1.toArray⟩)/\Wr[k*2+1]?=some (.string ⟨(Cr.getD k ([],[])).2.toArray⟩):=by
 have:k=0\/k=1\/k=2\/k=3\/k=4:=aa
 rcases this with rfl|rfl|rfl|rfl|rfl<;>exact⟨rfl,rfl⟩
def TO(s:Bs)(b:Nat)(w:World)(g:Gr w)(c:w.cell? ⟨b,0,none⟩=some s):Calls prog 318 #[.slice (some ⟨1,0,none⟩) 5 5,.func (.func 319) #[] #[.pointer (some ⟨b,0,none⟩)]] w fun e W=>e=.returned (.int .i64 (Ol s))/\Below w.heap.size w W:=by
 have m:b<w.heap.size:=BJ w _ c;have A:=g.size;have d:=AE g.signs;go_enter func318,ntmps318;go_wp2_with fail;go_loopw[8] (fun i wr=>∃k:Nat,i=k/\k<=5/\Hid (∀j,j<k->hasPrefix s (Cr.getD j ([],[])).2=false)/\Below w.heap.size w wr) (fun i _=>5-(intOf i).toNat)
 case atStart=>exact⟨0,rfl,aa,AE (fun j n=>aa),AG _ _⟩
 obtain⟨k,rfl,D,o,B⟩:=hrel;by_cases f:k<5
 ·obtain⟨r,R⟩:=kX k f;have C:=(B.cell (p:=⟨1,k*2,none⟩) ai).trans ((d.o _ aa).trans r);have l:=(B.cell (p:=⟨1,k*2+1,none⟩) ai).trans ((d.o _ aa).trans R);have q:=(B.cell (p:=⟨b,0,none⟩) m).trans c;have K:=AE (ca:Cr.getD k ([],[])=Cr.getD k ([],[]));have H:=AE (TM s k f o.o);have t:=AE (fun(h:hasPrefix s (Cr.getD k ([],[])).2=false)=>show∀j,j<k+1->hasPrefix s (Cr.getD j ([],[])).2=false from fun j n=>by
   by_cases e:j=k
   ·rw[e];exact h
   exact o.o j aa)
  clear r R K;generalize Cr.getD k ([],[])=x at C l H t;obtain⟨u,X⟩:=x;simp only at C l H t;have hC:=TL u X s b wr q;generalize hasPrefix s X=v at hC H t;cases v with
  |true=>
   have V:=AE (by unfold Ol;rw[H.o rfl]:Ol s=(k:Int));go_wp2_with fail;refine hC.mono ?_;rintro e y⟨rfl,a⟩;go_wp2;go_ret;exact⟨Fg (by rw[V.o]),B.trans (a.mono B.size)⟩
  |false=>
   have z:=AE (t.o rfl);clear t H;go_wp2_with fail;refine hC.mono ?_;rintro e y⟨rfl,a⟩;go_wp2;go_roundw
   case rel=>exact⟨k+1,aj,aa,z,B.trans (a.mono B.size)⟩
   simp[intOf];omega
 obtain rfl:k=5:=aa
 have V:=AE (by unfold Ol;rw[TN s o.o]:Ol s=-1);go_wp2;go_ret;exact⟨Fg (by rw[V.o]),B⟩
def E6.keep{B b:Nat}{l:Bs}{w w':World}(h:E6 B b l w)(k:∀g,B<=g->g<w.heap.size->w'.heap[g]?=w.heap[g]?):E6 B b l w':=by
 have t:∀g o,w.heap[g]?=some o->g<w.heap.size:=fun g o h=>by
  rcases CL g w.heap.size with a|a
  ·exact a
  rw[CA a]at h;cases h
 have G:∀p,BuilderAt 128 5 B b p (byteCells l) w->BuilderAt 128 5 B b p (byteCells l) w':=by
  rintro p⟨d,v,e,f,j⟩;refine⟨d,v,(k b d (t b _ e)).trans e,?_,j⟩;refine U0 f fun g H=>?_
  rcases f.2 with⟨c,_⟩|⟨i,C,r,c,m,n,_⟩
  ·rw[c]at H;cases H
  rw[c]at H;injection H with H;simp at H;subst H;exact k i m (t i _ n)
 exact h.imp (G _) (G _)
theorem Sl:∀(f:Nat)(l:Bs),l.length<f->L9 f l=L9 (l.length+1) l
 |0,l,h=>aa
 |f+1,l,h=>by
  unfold L9;by_cases h0:l=[]
  ·rw[AN h0,AN h0]
  rw[AL h0,AL h0];have p:=BK.2 h0;cases H:I1 l with
  |none=>
   simp only;rw[Sl f (l.drop 1) ag,<-Sl l.length (l.drop 1) ag]
  |some j=>
   have a:j<Cr.length:=by
    unfold I1 at H;rw[FH]at H;exact H.1
   have b:1<=(Cr.getD j ([],[])).2.length:=by
    have:j=0\/j=1\/j=2\/j=3\/j=4:=by have:Cr.length=5:=rfl;omega
    rcases this with rfl|rfl|rfl|rfl|rfl<;>decide
   simp only;rw[Sl f _ iu,<-Sl l.length (l.drop (Cr.getD j ([],[])).2.length) iu]
 termination_by f _=>f
def kY{l:Bs}(h0:l≠[])(h:I1 l=none):D1 l=l.take 1++D1 (l.drop 1):=by
 have H:=BK.2 h0;conv=>lhs;unfold D1 L9
 rw[AL h0,h];simp only;rw[Sl l.length (l.drop 1) ag];rfl
theorem kZ{l:Bs}{j:Nat}(h0:l≠[])(h:I1 l=some j):j<5/\1<=(Cr.getD j ([],[])).2.length/\(Cr.getD j ([],[])).2.length<=l.length/\(Cr.getD j ([],[])).1.length<=1/\D1 l=(Cr.getD j ([],[])).1++D1 (l.drop (Cr.getD j ([],[])).2.length):=by
 have p:=BK.2 h0;have H:=h;unfold I1 at H;rw[FH]at H;obtain⟨c,a,_⟩:=H;have d:Cr.getD j ([],[])=Cr[j]:=by rw[AM,BC c];rfl
 have e:j=0\/j=1\/j=2\/j=3\/j=4:=by have:Cr.length=5:=rfl;omega
 have b:1<=(Cr.getD j ([],[])).2.length/\(Cr.getD j ([],[])).1.length<=1:=by
  rcases e with rfl|rfl|rfl|rfl|rfl<;>decide
 refine⟨aa,b.1,?_,b.2,?_⟩
 ·rw[d];unfold hasPrefix at a;have:=(DG.1 a).length_le;exact this
 conv=>lhs;unfold D1 L9
 rw[AL h0,h];simp only;rw[Sl l.length (l.drop _) iu];rfl
def TP(s:Bs)(w:World)(q:Gr w)(hs:s.length<=1000000000):Calls prog 300 #[s] w fun e w'=>e=.returned (D1 s)/\Below w.heap.size w w':=by
 have a5:∀(F:Fn)(first E:Array Value)(w:World),(Instr.makeFunc F first E).run prog w=.ok (.func F first E) w:=fun _ _ _ _=>rfl
 have a6:=q.size;have r:=P6 (w.alloc (.cells #[s] 9));rw[AX]at r;have G:=(A0.new w #[s] 9).alloc (.cells #[.pointer none,.slice none 0 0] 128);have V:=AE r;clear r;have Y:=AE G;clear G;go_enter func300,ntmps300;go_wp2_with fail
 go_loopg [] s.length (fun g wr=>∃(l o:Bs),l.length<=g/\A0 wr w.heap.size #[l] 9/\E6 (w.heap.size+1) (w.heap.size+1) o wr/\l.length+o.length<=1000000000/\Hid (o++D1 l=D1 s)/\Below w.heap.size w wr)
 case atStart=>exact⟨s,[],AF _,Y.o,V.o,ag,AE rfl,((AG _ _).alloc (AF _) _).alloc ah _⟩
 obtain⟨l,o,Z,h,t,a0,d,B⟩:=hrel;have a7:=h.lt;by_cases h0:l=[]
 ·subst h0;have K:=h.cell 0;have HE:=AE (by rw[<-d.o];simp[D1,L9]:D1 s=o);go_wp2_with fail;refine(Q5 _ _ _ _ t aa).mono ?_;rintro e I⟨rfl,H⟩;go_wp2;go_ret;exact⟨by rw[HE.o];rfl,B.trans (H.mono aa)⟩
 have a8:l.isEmpty=false:=ed
 have hp:=BK.2 h0;have S:=TO l w.heap.size wr (q.next B) ((h.cell 0).trans rfl);cases i:I1 l with
 |none=>
  have U:=AE (kY h0 i);have v:Ol l=-1:=by unfold Ol;rw[i]
  rw[v]at S;clear v i h0;cases l with
  |nil=>simp at hp
  |cons c L=>
   have K:=h.cell 0;go_wp2_with fail;refine S.mono ?_;rintro e I⟨rfl,H⟩;have a:=h.next H h.lt;have f:=t.next H;have m:=B.trans (H.mono B.size);have a1:=a.lt;have a2:=a.cell 0;simp only[AK]at a0 Z;go_wp2_with fail;refine(Mx (w.heap.size+1) (w.heap.size+1) o _ c rfl _ f aa aa).mono ?_;rintro e W⟨rfl,u,k⟩;have b:=a.next k (DZ _);have n:=m.trans (k.mono (IF _));have a9:=b.cell 0;have b0:=b.free 0;have Q:=AE (by rw[<-d.o,U.o];simp:(o++[c])++D1 L=D1 s);clear S H f a2 a K h B U d;go_wp2_with fail;have y:=b.set 0 L;have z:=u.keep (w':=W.setCell ⟨w.heap.size,0,none⟩ L) (fun g a3 _=>DJ W ⟨w.heap.size,0,none⟩ _ g ai)
   go_roundg L.length
   case measure=>omega
   exact⟨L,o++[c],AF _,y,z,ag,Q,n.setCell (AF _) _⟩
 |some j=>
  obtain⟨a4,J,M,N,O⟩:=kZ h0 i;have U:=AE O;clear O;have v:Ol l=(j:Int):=by unfold Ol;rw[i]
  rw[v]at S;clear v i h0;obtain⟨R,P⟩:=kX j a4;have T:=AE q.signs;have A:=(T.o _ aa).trans R;have C:=(T.o _ aa).trans P;clear R P;generalize Cr.getD j ([],[])=x at A C J M N U;obtain⟨D,X⟩:=x;simp only at A C J M N U;have K:=h.cell 0;go_wp2_with fail;refine S.mono ?_;rintro e I⟨rfl,H⟩;have a:=h.next H h.lt;have f:=t.next H;have m:=B.trans (H.mono B.size);have a1:=a.lt;have d1:=(m.cell (p:=⟨1,j*2,none⟩) ai).trans A;go_wp2_with fail;refine(Kg (w.heap.size+1) (w.heap.size+1) o D _ f aa aa).mono ?_;rintro e W⟨rfl,u,k⟩;have b:=a.next k (DZ _);have n:=m.trans (k.mono (IF _));have b1:=(A0.drew b).cell 0;have b2:=(A0.drew b).free 0;have d2:=(n.drew.cell (p:=⟨1,j*2+1,none⟩) ai).trans C;have Q:=AE (by rw[<-d.o,U.o];simp:(o++D)++D1 (l.drop X.length)=D1 s);clear S H f a K h B U d d1;go_wp2_with fail;go_region;all_goals
   go_wp2_with fail;have y:=(A0.drew b).set 0 (l.drop X.length);have z:=u.drew.keep (w':=W.drew.setCell ⟨w.heap.size,0,none⟩ (l.drop X.length)) (fun g a3 _=>DJ W.drew ⟨w.heap.size,0,none⟩ _ g ai)
   go_roundg (l.length-X.length)
   case measure=>omega
   exact⟨l.drop X.length,o++D,ah,y,z,ag,Q,n.drew.setCell (AF _) _⟩
end Go.Proofs.YtignjjnflcpiiaaGreatDoor
namespace Go.Proofs.YtignjjnflcpiiaaGreatDoor
open Go Go.RowKit Go.Extern.Stop Go.Stop Go.Extern
def U6(v:Value)(n:Int)(w:World)(d:Jo w v n)(h:Gr w):Calls Tryz.prog 12 #[v] w fun e W=>e=.returned n/\Below w.heap.size w W:=by
 have A:=(h.next ((AG _ w).alloc (AF _) (.cells #[.int .i64 0] 30))).et;have a:=A0.new w #[.int .i64 0] 30;rcases d with⟨rfl,rfl⟩|rfl|⟨b,p,rfl,c,_⟩
 ·go_enter Tryz.func12,Tryz.ntmps12
  go_wp2
  go_ret;exact⟨rfl,AG _ _⟩
 ·have H:=TD n ⟨w.heap.size,0,none⟩ (.int .i64 0) (w.alloc (.cells #[.int .i64 0] 30)) A (a.cell 0) (a.free 0);go_enter Tryz.func12,Tryz.ntmps12;go_wp2_with fail;refine H.mono ?_;rintro e f⟨rfl,rfl⟩;go_wp2;go_ret;exact⟨rfl,cu⟩
 have t:b<w.heap.size:=BJ w _ c;have H:=TK n b ⟨w.heap.size,0,none⟩ (.int .i64 0) (w.alloc (.cells #[.int .i64 0] 30)) A (a.cell 0) (a.free 0) (by rw[CK _ _ ⟨b,0,none⟩ t];exact c);go_enter Tryz.func12,Tryz.ntmps12;go_wp2_with fail;refine H.mono ?_;rintro e f⟨rfl,rfl⟩;go_wp2;go_ret;exact⟨rfl,cu⟩
end Go.Proofs.YtignjjnflcpiiaaGreatDoor
namespace Go.Proofs.YtignjjnflcpiiaaGreatDoor
open Go Go.RowKit Proofs.Tryz Lib
structure A5(lb B:Nat)(w w':World):Prop where
 os:w'.os=w.os
 tape:w'.tape=w.tape
 output:w'.output=w.output
 size:w.heap.size<=w'.heap.size
 block:∀k,k<B->k≠lb->w'.heap[k]?=w.heap[k]?
def A5.refl(lb B:Nat)(w:World):A5 lb B w w:=⟨rfl,rfl,rfl,AF _,fun _ _ _=>rfl⟩
def A5.of{lb B:Nat}{w w':World}(h:Below B w w'):A5 lb B w w':=⟨h.os,h.tape,h.output,h.size,fun k H _=>h.block k H⟩
def A5.trans{lb B:Nat}{a b c:World}(h:A5 lb B a b)(k:A5 lb B b c):A5 lb B a c:=⟨k.os.trans h.os,k.tape.trans h.tape,k.output.trans h.output,AV h.size k.size,fun i H n=>(k.block i H n).trans (h.block i H n)⟩
variable {B' j b e:Nat}{a:Go.Addr}{α:Type}{P:Nat → Prop}{p:A7}
def A5.mono{lb B:Nat}{w w':World}(h:A5 lb B w w')(H:B'<=B):A5 lb B' w w':=⟨h.os,h.tape,h.output,h.size,fun k a n=>h.block k (BN a H) n⟩
def A5.set{lb B:Nat}{a w:World}(h:A5 lb B a w)(u:Value):A5 lb B a (w.setCell ⟨lb,j,none⟩ u):=h.trans ⟨rfl,rfl,rfl,ec,fun k _ H=>DJ _ _ _ _ el⟩
def A5.own{lb B:Nat}{a w:World}(h:A5 lb B a w){p:Go.Addr}(H:B<=p.block)(u:Value):A5 lb B a (w.setCell p u):=h.trans (A5.of ((AG B w).setCell H u))
def A5.shut{lb B:Nat}{w w':World}(h:A5 lb B w w')(l:B<=lb):Below B w w':=⟨h.os,h.tape,h.output,h.size,fun k H=>h.block k H aa⟩
def A5.cell{lb B:Nat}{w w':World}(h:A5 lb B w w'){p:Go.Addr}(H:p.block<B)(n:p.block≠lb):w'.cell? p=w.cell? p:=by
 unfold World.cell?;rw[h.block p.block H n]
def A5.next{lb B:Nat}{a b c:World}(h:A5 lb B a b)(H:Below b.heap.size b c)(d:B<=b.heap.size):A5 lb B a c:=h.trans (A5.of (H.mono d))
def A0.Ai{w w':World}{lb:Nat}{c:Array Value}{t:TypeId}(h:A0 w b c t)(H:A5 lb w.heap.size w w')(n:b≠lb):A0 w' b c t:=(H.block b h.lt n).trans h
def Gr.Ai{lb:Nat}{w w':World}(h:Gr w)(H:A5 lb w.heap.size w w')(l:3<lb):Gr w':=by
 have s:=h.size;obtain⟨m,b⟩:=h.g.maxLen;refine⟨⟨m,(H.cell (p:=⟨_,0,none⟩) s ai).trans b⟩,fun k a=>?_,fun k a=>?_,?_⟩
 ·exact(H.cell (p:=⟨1,k,none⟩) ai ai).trans (h.signs k a)
 ·exact(H.cell (p:=⟨2,k,none⟩) ai ai).trans (h.ours k a)
 exact(H.cell (p:=⟨0,0,none⟩) ai ai).trans h.et
def Gr.keep{w w':World}(h:Gr w)(H:∀b,b<=3->w'.heap[b]?=w.heap[b]?):Gr w':=by
 obtain⟨m,a⟩:=h.g.maxLen;have g:∀b k,b<=3->w'.cell? ⟨b,k,none⟩=w.cell? ⟨b,k,none⟩:=fun b k c=>by simp only[World.cell?];rw[H b c]
 exact⟨⟨m,(g _ _ ae).trans a⟩,fun k H=>(g _ _ ae).trans (h.signs k H),fun k H=>(g _ _ ae).trans (h.ours k H),(g _ _ ae).trans h.et⟩
def A1.A6{size:Nat}{cs:α->List Value}{w:World}{B:Nat}{v:Value}{xs:List α}(h:A1 e size cs w B v xs)(j:a.block<B)(u:Value):A1 e size cs (w.setCell a u) B v xs:=by
 rcases h with⟨b,H⟩;refine⟨b,?_⟩;rcases H with H|⟨g,c,C,d,f,i,r⟩
 ·exact Or.inl H
 exact Or.inr ⟨g,c,C,d,f,(DJ w a u g aa).trans i,r⟩
def Ba(size:Nat)(cs:α->List Value)(P:Nat->Prop)(w:World)(v:Value)(xs:List α):Prop:=∃a c,v=.slice a xs.length c/\(0<xs.length->∃b,a=some ⟨b,0,none⟩/\P b/\b<w.heap.size/\∀j,j<xs.length*size->w.cell? ⟨b,j,none⟩=(xs.flatMap cs)[j]?)
def Ba.rd{size:Nat}{cs:α->List Value}{w:World}{v:Value}{xs:List α}(h:Ba size cs P w v xs):F9 size cs w v xs:=by
 obtain⟨a,c,H,d⟩:=h;exact⟨a,c,H,fun h0=>by obtain⟨b,e,_,f,g⟩:=d h0;exact⟨b,e,f,g⟩⟩
def Ba.Ac{size:Nat}{cs:α->List Value}{Q:Nat->Prop}{w:World}{v:Value}{xs:List α}(h:Ba size cs P w v xs)(c:∀b,P b->b<w.heap.size->Q b):Ba size cs Q w v xs:=by
 obtain⟨a,C,d,e⟩:=h;exact⟨a,C,d,fun h0=>by obtain⟨b,f,g,H,i⟩:=e h0;exact⟨b,f,c b g H,H,i⟩⟩
def Ba.keep{size:Nat}{cs:α->List Value}{w w':World}{v:Value}{xs:List α}(h:Ba size cs P w v xs)(s:w.heap.size<=w'.heap.size)(k:∀b,P b->b<w.heap.size->w'.heap[b]?=w.heap[b]?):Ba size cs P w' v xs:=by
 obtain⟨a,c,d,e⟩:=h;refine⟨a,c,d,fun h0=>?_⟩;obtain⟨b,f,H,t,l⟩:=e h0;refine⟨b,f,H,BN t s,fun j g=>?_⟩;rw[<-l j g];simp only[World.cell?];rw[k b H t]
def Ba.next{size:Nat}{cs:α->List Value}{w w':World}{v:Value}{xs:List α}(h:Ba size cs P w v xs)(H:Below w.heap.size w w'):Ba size cs P w' v xs:=h.keep H.size fun b _ t=>H.block b t
def Ba.Ai{size:Nat}{cs:α->List Value}{lb:Nat}{w w':World}{v:Value}{xs:List α}(h:Ba size cs P w v xs)(H:A5 lb w.heap.size w w')(l:¬P lb):Ba size cs P w' v xs:=h.keep H.size fun b a t=>H.block b t (fun e=>l (e▸a))
def D3(w:World)(a:Go.Addr)(u:Value)(b:Nat)(h:b≠a.block):(w.setCell a u).heap[b]?=w.heap[b]?:=DJ w a u b h
def Ba.set{size:Nat}{cs:α->List Value}{w:World}{v:Value}{xs:List α}(h:Ba size cs P w v xs)(u:Value)(H:¬P a.block):Ba size cs P (w.setCell a u) v xs:=h.keep ec fun b c _=>D3 w a u b (fun e=>H (e▸c))
def Ba.nil(size:Nat)(cs:α->List Value)(P:Nat->Prop)(w:World)(a:Option Go.Addr)(cap:Nat):Ba size cs P w (.slice a 0 cap) ([]:List α):=⟨a,cap,rfl,fun h=>en⟩
def A1.Dq{size:Nat}{cs:α->List Value}(z:0<size)(s:∀x,(cs x).length=size){w:World}{B:Nat}{v:Value}{xs:List α}(h:A1 e size cs w B v xs):Ba size cs (fun b=>B<=b/\v.ownBlock=some b) w v xs:=by
 have f:=h;unfold A1 at f;obtain⟨a,C,c,j⟩:=A1.rd z s h;refine⟨a,C,c,fun h0=>?_⟩;obtain⟨b,i,t,l⟩:=j h0;refine⟨b,i,?_,t,l⟩;rcases f.2 with⟨d,n⟩|⟨g,o,r,d,k,_⟩
 ·rw[d]at c;injection c with H p;omega
 have m:=d;rw[d,i]at c;injection c with H _ _;injection H with H;injection H with H;subst H;exact⟨k,by rw[m];rfl⟩
def A1.Ai{size:Nat}{cs:α->List Value}{w w':World}{B lb:Nat}{v:Value}{xs:List α}(h:A1 e size cs w B v xs)(c:A5 lb w.heap.size w w')(l:lb<B):A1 e size cs w' B v xs:=by
 rcases h with⟨d,H⟩;refine⟨d,?_⟩;rcases H with H|⟨g,C,f,i,j,a,r⟩
 ·exact Or.inl H
 have t:g<w.heap.size:=by
  rcases CL g w.heap.size with b|b
  ·exact b
  rw[CA b]at a;cases a
 exact Or.inr ⟨g,C,f,i,j,(c.block g t aa).trans a,r⟩
def A1.mono{size:Nat}{cs:α->List Value}{w:World}{B:Nat}{v:Value}{xs:List α}(h:A1 e size cs w B v xs)(a:B'<=B):A1 e size cs w B' v xs:=by
 rcases h with⟨b,H⟩;refine⟨b,?_⟩;rcases H with H|⟨g,c,C,d,f,r⟩
 ·exact Or.inl H
 exact Or.inr ⟨g,c,C,d,AV a f,r⟩
def A1.Dj{size:Nat}{cs:α->List Value}{w:World}{B:Nat}{v:Value}{xs:List α}(h:A1 e size cs w B v xs)(g:Nat)(H:v.ownBlock=some g):g<w.heap.size:=by
 rcases h.2 with⟨a,_⟩|⟨G,C,r,a,_,c,_⟩
 ·rw[a]at H;cases H
 rw[a]at H;injection H with H;simp only at H;subst H;rcases CL G w.heap.size with b|b
 ·exact b
 rw[CA b]at c;cases c
def A1.Ha{size:Nat}{cs:α->List Value}{w:World}{B:Nat}{v:Value}{xs:List α}(h:A1 e size cs w B v xs)(g:Nat)(H:v.ownBlock=some g):B<=g:=by
 rcases h.2 with⟨a,_⟩|⟨G,c,C,a,b,_⟩
 ·rw[a]at H;cases H
 rw[a]at H;injection H with H;simp only at H;omega
def N8{size:Nat}{cs:α->List Value}{t:Nat}{z:Value}(g:∀x,(cs x).length=size)(l:∀x,∀u∈cs x,u.oneCell'=true)
  (n:(prog.info? e).map (fun i=>(i.zero,i.size,i.bytes))=some (some z,size,b)) (p:z.cells.size=size) (q:0<size) (r:prog.underlying t=some (.slice e))
  {Q:Exit->Act->World->Prop} {O:Array Oper} {rest:List Oper} {o:Oper} {a:Act} {w:World} (C:o.guard=none) (s x:Operand)
  (D:o.op=.call {callee:=.builtin .append,args:=#[s,x],argTypes:=#[t,t]}) (B:Nat) (v:Value) (xs Y:List α) (A:Go.Addr) (m c:Nat) (E:m=Y.length)
  (F:a.eval s=v) (H:A1 e size cs w B v xs) (G:a.eval x=.slice (some A) m c) (I:∀j u,(Y.flatMap cs)[j]?=some u->w.cell? (A.add j)=some u) (J:(xs.length+Y.length)*b<=140737488355328) (K:xs.length+Y.length<=maxLen) (d:B<=w.heap.size)
  (h:∀V W,A1 e size cs W B V (xs++Y)->w.grownBy W v.ownBlock->Below B w W->(V.ownBlock=v.ownBlock\/V.ownBlock=some w.heap.size)->wpList prog O Q rest (a.put o.dst V) W):wpList prog O Q (o::rest) a w:=by
 subst E;obtain⟨L,M,N,P,R⟩:=GC n;refine wpList_append_own_at (w:=w) C s x t D B e L z size b r M N P R p q v xs.length _ F H A Y.length c (Y.flatMap cs) G (Kj g Y) I ?_ K J d ?_
 ·intro u S;obtain⟨y,_,T⟩:=FU.1 S;exact l y u T
 intro V W U f _ X;refine h V W ?_ f ((AG B w).grown f d fun k Z=>A1.Ha H k Z) X;unfold A1;rw[CZ,AJ];exact U
def Ba.grown{size:Nat}{cs:α->List Value}{w w':World}{v:Value}{xs:List α}{r:Option Nat}(h:Ba size cs P w v xs)(H:w.grownBy w' r)(a:∀b,P b->some b≠r):Ba size cs P w' v xs:=h.keep H.size fun b c t=>H.block b t (a b c)
def F9.opens{size:Nat}{cs:α->List Value}(s:∀x,(cs x).length=size){w:World}{v:Value}{xs:List α}(h:F9 size cs w v xs):∃a c,v=.slice a xs.length c/\∀k(H:k<xs.length),∃b,a=some ⟨b,0,none⟩/\b<w.heap.size/\∀i,i<size->w.cell? ⟨b,k*size+i,none⟩=(cs xs[k])[i]?:=by
 obtain⟨a,c,d,e⟩:=h;refine⟨a,c,d,fun k H=>?_⟩;obtain⟨b,f,t,l⟩:=e aa;refine⟨b,f,t,fun i g=>?_⟩;have j:(k+1)*size<=xs.length*size:=CV _ H;rw[DL]at j;rw[l _ aa,L8 s xs k H i g]
def Ba.at{α:Type}{size:Nat}{cs:α->List Value}{P:Nat->Prop}(s:∀x,(cs x).length=size){w:World}{a:Option Go.Addr}{n cap:Nat}{xs:List α}(h:Ba size cs P w (.slice a n cap) xs)(k:Nat)(H:k<xs.length):∃b,a=some ⟨b,0,none⟩/\P b/\b<w.heap.size/\∀i,i<size->w.cell? ⟨b,k*size+i,none⟩=(cs xs[k])[i]?:=by
 obtain⟨A,C,v,c⟩:=h;injection v with e E m;subst e;obtain⟨b,d,f,t,l⟩:=c aa;refine⟨b,d,f,t,fun i g=>?_⟩;have j:(k+1)*size<=xs.length*size:=CV _ H;rw[DL]at j;rw[l _ aa,L8 s xs k H i g]
abbrev Je:=Option Go.Addr×Nat×Nat
def A9(s:Je):Value:=.slice s.1 s.2.1 s.2.2
abbrev Au:=Je×Bs×Bool×Je
def Dk(r:Au):List Value:=[A9 r.1,r.2.1,.bool r.2.2.1,A9 r.2.2.2]
theorem Dx(r:Au):(Dk r).length=4:=rfl
def aN(r:Au):∀u∈Dk r,u.oneCell'=true:=fun u h=>by
 simp[Dk,A9]at h;rcases h with rfl|rfl|rfl|rfl<;>rfl
def aO:(prog.info? 44).map (fun i=>(i.zero,i.size,i.bytes))=some (some (.agg #[.slice none 0 0,.string ByteArray.empty,false,.slice none 0 0]),4,72):=af
def A8(P:Nat->Prop):Nat->World->Au->A7->Prop
 |0,_,_,_=>False
 |n+1,w,r,.mk h b m p=>r.2.1=b/\r.2.2.1=m/\Ba 2 Bc P w (A9 r.1) h/\∃R:List Au,Ba 4 Dk P w (A9 r.2.2.2) R/\R.length=p.length/\∀k(H:k<R.length)(a:k<p.length),A8 P n w R[k] p[k]
theorem A8.keep{P:Nat->Prop}{w w':World}(H:w.heap.size<=w'.heap.size)(a:∀b,P b->b<w.heap.size->w'.heap[b]?=w.heap[b]?):∀{n:Nat}{r:Au}{p:A7},A8 P n w r p->A8 P n w' r p
 |0,_,_,h=>h.elim
 |_+1,_,.mk _ _ _ _,⟨c,d,e,R,f,g,i⟩=>⟨c,d,e.keep H a,R,f.keep H a,g,fun k K j=>A8.keep H a (i k K j)⟩
def A8.next{n:Nat}{w w':World}{r:Au}(h:A8 P n w r p)(H:Below w.heap.size w w'):A8 P n w' r p:=A8.keep H.size (fun b _ t=>H.block b t) h
def A8.Ai{lb n:Nat}{w w':World}{r:Au}(h:A8 P n w r p)(H:A5 lb w.heap.size w w')(l:¬P lb):A8 P n w' r p:=A8.keep H.size (fun b a t=>H.block b t (fun e=>l (e▸a))) h
def A8.set{n:Nat}{w:World}{r:Au}(h:A8 P n w r p)(u:Value)(H:¬P a.block):A8 P n (w.setCell a u) r p:=A8.keep ec (fun b c _=>D3 w a u b (fun e=>H (e▸c))) h
theorem A8.Ac{P Q:Nat->Prop}{w:World}(H:∀b,P b->b<w.heap.size->Q b):∀{n:Nat}{r:Au}{p:A7},A8 P n w r p->A8 Q n w r p
 |0,_,_,h=>h.elim
 |_+1,_,.mk _ _ _ _,⟨a,c,d,R,e,f,g⟩=>⟨a,c,d.Ac H,R,e.Ac H,f,fun k K i=>A8.Ac H (g k K i)⟩
def A8.up{P:Nat->Prop}:∀{n:Nat}{w:World}{r:Au}{p:A7},A8 P n w r p->A8 P (n+1) w r p
 |0,_,_,_,h=>h.elim
 |_+1,_,_,.mk _ _ _ _,⟨H,a,b,R,c,d,e⟩=>⟨H,a,b,R,c,d,fun k K f=>(e k K f).up⟩
def A8.grown{n:Nat}{w w':World}{r:Au}{R:Option Nat}(h:A8 P n w r p)(H:w.grownBy w' R)(a:∀b,P b->some b≠R):A8 P n w' r p:=A8.keep H.size (fun b c t=>H.block b t (a b c)) h
def Qv(w:World)(v:Value)(n:Int):Prop:=v=.iface 30 n\/∃b p,v=.iface 253 (.pointer (some ⟨b,0,none⟩))/\w.cell? ⟨b,0,none⟩=some n/\w.cell? ⟨b,1,none⟩=some (.int .i64 p)
def Qv.v{w:World}{v:Value}{n:Int}(h:Qv w v n):Jo w v n:=Or.inr h
def Jo.n{w:World}{v:Value}{n:Int}(h:Jo w v n)(H:n≠0):Qv w v n:=by
 rcases h with⟨_,h⟩|h
 ·exact absurd h H
 exact h
def Qv.some{w:World}{v:Value}{n:Int}(h:Qv w v n):∃t x,v=.iface t x:=by
 rcases h with h|⟨b,p,h,_⟩
 ·exact⟨_,_,h⟩
 exact⟨_,_,h⟩
structure Gz(w:World):Prop where
 r:Gr w
 tab:Lib.TabIs prog w "internal/strconv.uint64pow10" .u64 pow10Tab
 syn:∃ev,w.cell? ⟨7,0,none⟩=some ev/\(ev=.nilIface\/∃te pe,ev=.iface te pe)
 rng:∃ev,w.cell? ⟨8,0,none⟩=some ev/\(ev=.nilIface\/∃te pe,ev=.iface te pe)
def TQ:prog.globalNamed "internal/strconv.uint64pow10" =some 4:=af
def Gz.size{w:World}(h:Gz w):8<w.heap.size:=by
 obtain⟨e,H,_⟩:=h.rng;exact BJ w _ H
def Gz.keep{w w':World}(h:Gz w)(a:∀b,b<=8->w'.heap[b]?=w.heap[b]?):Gz w':=by
 have g:∀b k,b<=8->w'.cell? ⟨b,k,none⟩=w.cell? ⟨b,k,none⟩:=fun b k c=>by simp only[World.cell?];rw[a b c]
 refine⟨h.r.keep fun b c=>a b (AV c ae),?_,?_,?_⟩
 ·have H:=h.tab;unfold Lib.TabIs World.var? at H|-;rw[TQ]at H|-;simp only[Option.bind_some]at H|-;rw[a _ ae];exact H
 ·obtain⟨e,d,f⟩:=h.syn;exact⟨e,(g _ _ ae).trans d,f⟩
 obtain⟨e,d,f⟩:=h.rng;exact⟨e,(g _ _ ae).trans d,f⟩
def Gz.next{w w':World}(h:Gz w)(H:Below w.heap.size w w'):Gz w':=h.keep fun b e=>H.block b (by have:=h.size;omega)
def Gz.Ai{lb:Nat}{w w':World}(h:Gz w)(H:A5 lb w.heap.size w w')(l:8<lb):Gz w':=h.keep fun b e=>H.block b (by have:=h.size;omega) aa
def Fj(n:Int)(h0:-9223372036854775808<=n)(h:n<=9223372036854775807)(w:World)(H:Gz w):Calls prog 41 #[n] w fun e W=>e=.returned (itoa n)/\Below w.heap.size w W:=by
 refine(Tryz.strconv_Itoa n h0 h w H.tab).mono ?_;rintro e W⟨rfl,k,o,rfl⟩;exact⟨rfl,below_grow _ w (AF _) k o⟩
end Go.Proofs.YtignjjnflcpiiaaGreatDoor
