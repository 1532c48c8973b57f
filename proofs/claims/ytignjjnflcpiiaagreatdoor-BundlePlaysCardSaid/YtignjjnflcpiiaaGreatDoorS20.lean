/- kind.Write writes a value with parameters. Condition: at -/
import Derived.Stop.Asserts
import Derived.Test.YtignjjnflcpiiaaGreatDoorS14
set_option linter.all false
set_option maxHeartbeats 8000000
set_option maxRecDepth 100000
namespace Go.Proofs.YtignjjnflcpiiaaGreatDoor
open Go Go.RowKit Proofs.Tryz Lib
def Jj(r:Nat):Bool:=decide (r<32)||decide (126<r)
theorem vQ(r:Nat)(h:128≤r):Jj r=true:=by unfold Jj;rw[BD (show 126<r by omega)];simp
theorem vR(s:Bs):(s.any fun c=>Jj c.toNat)=s.any fun c=>!Bx c:=by
 congr 1;funext c;rw[Ni];unfold Jj;by_cases h:c.toNat<32
 ·rw[BD h,AX (show¬(32:Int)≤(c.toNat:Int) by omega)];rfl
 by_cases H:126<c.toNat
 ·rw[BD H,AX (show¬(c.toNat:Int)≤126 by omega)];simp
 rw[AX h,AX H,BD (show(32:Int)≤(c.toNat:Int) by omega),BD (show(c.toNat:Int)≤126 by omega)];rfl
theorem vS(r:Nat)(b:r≤1114111)(w:World):Calls prog 191 #[.int .i32 (r:Int)] w fun e W=>e=.returned (.bool (Jj r))∧w=W:=by
 by_cases h:r<32
 ·have H:=AB (by unfold Jj;rw[BD h];rfl:Jj r=true);go_enter func191,ntmps191;go_wp2_with fail;go_ret;exact⟨Ba H.o.symm,rfl⟩
 by_cases a:126<r
 ·have H:=AB (by unfold Jj;rw[BD a];simp:Jj r=true);go_enter func191,ntmps191;go_wp2_with fail;go_ret;exact⟨Ba (by rw[H.o,BD (show(126:Int)<r by omega)];simp),rfl⟩
 have H:=AB (by unfold Jj;rw[AX h,AX a];rfl:Jj r=false);have g:¬(r:Int)<32:=by omega
 have G:¬(126:Int)<r:=by omega
 go_enter func191,ntmps191;go_wp2_with fail;go_ret;exact⟨Ba H.o.symm,rfl⟩
theorem vT(w:World):PredGrows prog 191 #[] Jj w:=fun W x h _=>
 (vS x h W).mono fun _ _⟨H,a⟩=>⟨H,a▸AD _ _⟩
def Nq:List Pr:=[(92,[92,92]),(34,[92,34])]
theorem vU:Lc Nq:=Lc.of (by decide)
theorem vV(s:Bs):Ci (Ea Nq) s=s.flatMap Dk:=by
 unfold Ci;congr 1;funext c;unfold Ea Nq Dk;by_cases H:c=92
 ·subst H;rfl
 by_cases a:c=34
 ·subst a;rfl
 have e:((92:UInt8)==c)=false:=by rw[AG];exact fun h=>H h.symm
 have E:((34:UInt8)==c)=false:=by rw[AG];exact fun h=>a h.symm
 simp[e,E,H,a]
theorem vW(w:World)(t:TypeId):∀j u,(Nq.flatMap P1)[j]?=some u→(w.alloc (.cells #[.string ⟨#[92]⟩,.string ⟨#[92,92]⟩,.string ⟨#[34]⟩,.string ⟨#[92,34]⟩] t)).cell? ((⟨w.heap.size,0,none⟩:Go.Addr).add j)=some u:=fun j u h=>by
 rw[Dz,(A1.new w _ t).cell]
 match j,h with
 |0,h=>exact h
 |1,h=>exact h
 |2,h=>exact h
 |3,h=>exact h
 |j+4,h=>simp[Nq,P1]at h
theorem dE{p:A4}(h:(Ae p.1&&(A2 p.1==p.1)&&!(p.2.any fun c=>!Bx c))=false):Gd p=none:=by unfold Gd;rw[h];rfl
theorem dF{p:A4}(h:(Ae p.1&&(A2 p.1==p.1)&&!(p.2.any fun c=>!Bx c))=true):Gd p=some (59::32::(p.1++61::D3 p.2)):=by unfold Gd;rw[h];rfl
theorem Wo(s:Bs):(s.flatMap Dk).length≤2*s.length:=by
 induction s with
 |nil=>simp
 |cons c s ih=>
  rw[BT,AH,AO];have:(Dk c).length≤2:=by unfold Dk;split<;>(try split)<;>simp
  omega
theorem dG(s:Bs):(D3 s).length≤2*s.length+2:=by
 unfold D3;split
 ·omega
 have:=Wo s;simp only[AO,AH,BN];omega
theorem dH(m:Bs)(v:Value)(l:List A4)(w:World)(hr:C7 w v l)(hm:m.length≤1000000)(d5:l.length≤1000000)(b0:∀f∈l,f.1.length≤1000000∧f.2.length≤1000000)(hg:Cb w):Calls prog 105 #[.string ⟨m.toArray⟩,v] w fun e w'=>Qh 1 (Cz m l) e w'∧Below w.heap.size w w':=by
 have c7:=AB b0;clear b0;obtain⟨a,d6,rfl,hc⟩:=hr.open;have HC:=AB hc;clear hc hr;have D:=AB (by rfl:Cz m l=if Ae (cut m [47]).1&&(!(cut m [47]).2.2||Ae (cut m [47]).2.1)&&(A2 m==m)then(Dq l).map (m++·)else none);have S:=Lo m [47];go_enter func105,ntmps105;go_wp2_with fail;refine(L3 m [47] _ (by omega) hg).mono ?_;rintro e n⟨rfl,B⟩;generalize cut m [47]=d at S D⊢;obtain⟨G,I,T⟩:=d;simp only at S D⊢;go_upto_region 2 with fail;go_cut[35] (fun t U=>t=.bool (!(Ae G&&(!T||Ae I)&&(A2 m==m)))∧Below w.heap.size w U)
 case first=>
  go_wp2_with fail;refine(Mr G _ (by omega)).mono ?_;rintro e V⟨rfl,H⟩;have o:=B.trans (H.mono B.size);clear H B;generalize b1:Ae G=X;have u:=AB b1;clear b1;cases X with
  |false=>
   go_wp2_with fail;go_meet;exact⟨by rw[u.o];rfl,o⟩
  |true=>
   cases T with
   |false=>
    go_wp2_with fail;refine(G0 m _ (by omega)).mono ?_;rintro e w6⟨rfl,H⟩;have r:=o.trans (H.mono o.size);clear H o;by_cases j:A2 m=m
    ·have Q:(A2 m !=m)=false:=by simp[j]
     have s:=AB (by simp[j]:(A2 m==m)=true);clear j;go_wp2_with fail;go_meet;exact⟨by rw[u.o,s.o];rfl,r⟩
    have Q:(A2 m !=m)=true:=by simp[j]
    have s:=AB (by simp[j]:(A2 m==m)=false);clear j;go_wp2_with fail;go_meet;exact⟨by rw[u.o,s.o];rfl,r⟩
   |true=>
    go_wp2_with fail;refine(Mr I _ (by omega)).mono ?_;rintro e w6⟨rfl,H⟩;have r:=o.trans (H.mono o.size);clear H o;generalize b2:Ae I=c8;have Y:=AB b2;clear b2;cases c8 with
    |false=>
     go_wp2_with fail;go_meet;exact⟨by rw[u.o,Y.o];rfl,r⟩
    |true=>
     go_wp2_with fail;refine(G0 m _ (by omega)).mono ?_;rintro e w7⟨rfl,H⟩;have A:=r.trans (H.mono r.size);clear H r;by_cases j:A2 m=m
     ·have Q:(A2 m !=m)=false:=by simp[j]
      have s:=AB (by simp[j]:(A2 m==m)=true);clear j;go_wp2_with fail;go_meet;exact⟨by rw[u.o,Y.o,s.o];rfl,A⟩
     have Q:(A2 m !=m)=true:=by simp[j]
     have s:=AB (by simp[j]:(A2 m==m)=false);clear j;go_wp2_with fail;go_meet;exact⟨by rw[u.o,Y.o,s.o];rfl,A⟩
 case rest=>
 clear B;obtain⟨rfl,B⟩:=hcut;obtain⟨V,rfl⟩:∃x:World,x=wc:=⟨_,rfl⟩;clear S;generalize(Ae G&&(!T||Ae I)&&(A2 m==m))=Z at D⊢;cases Z with
 |false=>
  have HN:=AB (by rw[D.o];rfl:Cz m l=none);go_wp2_with fail;go_ret2;exact⟨Or.inr ⟨_,HN.o,rfl,Or.inr (Or.inl rfl)⟩,B⟩
 |true=>
  have HN:=AB (by rw[D.o];rfl:Cz m l=(Dq l).map (m++·));clear D;simp only[ED];go_wp2_with fail;go_loopw[9,40] (fun t i wr=>∃(k:Nat)(O:Bs),i=.int .i64 k∧k≤l.length∧t=.string ⟨O.toArray⟩∧O.length≤1000000+k*4000000∧Hid ((Dq (l.drop k)).map (O++·)=Cz m l)∧Below w.heap.size w wr) (fun _ i _=>l.length-(intOf i).toNat)
  case atStart=>exact⟨0,m,rfl,by omega,rfl,by omega,AB HN.o.symm,B⟩
  clear B;obtain⟨k,O,rfl,hk,rfl,d7,a0,B⟩:=hrel;by_cases b3:k<l.length
  ·obtain⟨b,rfl,b4,h1,h2⟩:=HC.o k b3;have hf:=c7.o l[k] (AN _);have J:=AB (by rw[AE b3];rfl:Dq (l.drop k)=match Gd l[k]with|none=>none|some x=>(Dq (l.drop (k+1))).map (x++·));have c1:=(B.cell (p:=⟨b,k*2,none⟩) b4).trans h1;have c2:=(B.cell (p:=⟨b,k*2+1,none⟩) b4).trans h2;clear h1 h2;generalize l[k]=f at hf J c1 c2;obtain⟨x,y⟩:=f;simp only at hf c1 c2;obtain⟨hx,hy⟩:=hf;have g:=A1.new wr #[.string ⟨x.toArray⟩,.string ⟨y.toArray⟩] 119;have L:=B.alloc B.size (.cells #[.string ⟨x.toArray⟩,.string ⟨y.toArray⟩] 119);have HF:=AB (fun(h:(Ae x&&(A2 x==x)&&!(y.any fun c=>!Bx c))=false)=>show Cz m l=none from by rw[←a0.o,J.o,dE h];rfl);have HY:=AB (fun(h:(Ae x&&(A2 x==x)&&!(y.any fun c=>!Bx c))=true)=>show(Dq (l.drop (k+1))).map ((O++(59::32::(x++61::D3 y)))++·)=Cz m l from by rw[←a0.o,J.o,dF h];cases Dq (l.drop (k+1))<;>simp);clear J B;have b6:wr.heap.size<(wr.alloc (.cells #[.string ⟨x.toArray⟩,.string ⟨y.toArray⟩] 119)).heap.size:=by simp
   go_upto_region 8 with fail;generalize(wr.alloc (.cells #[.string ⟨x.toArray⟩,.string ⟨y.toArray⟩] 119))=n at g L b6⊢;have E:=fun W=>Mr x W (by omega)
   have C:=fun W=>Vh 191 (enters_of func191 (by kernel_rfl) rfl) Jj vQ y #[] W (vT W)
   rw[vR]at C;have HX:=AB (by rfl:(Ae x&&(A2 x==x)&&!(y.any fun c=>!Bx c))=(Ae x&&(A2 x==x)&&!(y.any fun c=>!Bx c)));go_cut[61] (fun t U=>t=.bool (!(Ae x&&(A2 x==x)&&!(y.any fun c=>!Bx c)))∧Below n.heap.size n U)
   case first=>
    have d8:=(A1.drew g).cell;have K0:=(AD n.heap.size n).drew;generalize b7:Ae x=X at E;generalize b8:(y.any fun c=>!Bx c)=c9 at C;have u:=AB b7;clear b7;have b9:=AB b8;clear b8;have M:=fun W=>G0 x W (by omega)
    cases X with
    |false=>
     first
     |go_region_law((first
      |(go_simp;with_reducible refine(E _).mono ?_;rintro e a1⟨rfl,H⟩;have K:=C4 H (w0:=n) (by assumption);have z:=(g.next K g.lt).cell)
      |(go_simp;with_reducible refine(M _).mono ?_;rintro e a2⟨rfl,H⟩;have K:=C4 H (w0:=n) (by assumption);have z:=(g.next K g.lt).cell)
      |(go_simp;with_reducible refine(C _).mono ?_;rintro e a3⟨rfl,H⟩;have K:=C4 H (w0:=n) (by assumption);have z:=(g.next K g.lt).cell)))
     |fail
     all_goals
      go_wp2_with fail;go_meet;exact⟨by rw[u.o];rfl,K⟩
    |true=>
     by_cases j:A2 x=x
     ·have s:=AB (by simp[j]:(A2 x==x)=true);have Q:(A2 x !=x)=false:=by simp[j]
      cases c9 with
      |false=>
       first
       |go_region_law((first
        |(go_simp;with_reducible refine(E _).mono ?_;rintro e a1⟨rfl,H⟩;have K:=C4 H (w0:=n) (by assumption);have z:=(g.next K g.lt).cell)
        |(go_simp;with_reducible refine(M _).mono ?_;rintro e a2⟨rfl,H⟩;have K:=C4 H (w0:=n) (by assumption);have z:=(g.next K g.lt).cell)
        |(go_simp;with_reducible refine(C _).mono ?_;rintro e a3⟨rfl,H⟩;have K:=C4 H (w0:=n) (by assumption);have z:=(g.next K g.lt).cell)))
       |fail
       all_goals
        go_wp2_with fail;go_meet;exact⟨by rw[u.o,s.o,b9.o];rfl,K⟩
      |true=>
       first
       |go_region_law((first
        |(go_simp;with_reducible refine(E _).mono ?_;rintro e a1⟨rfl,H⟩;have K:=C4 H (w0:=n) (by assumption);have z:=(g.next K g.lt).cell)
        |(go_simp;with_reducible refine(M _).mono ?_;rintro e a2⟨rfl,H⟩;have K:=C4 H (w0:=n) (by assumption);have z:=(g.next K g.lt).cell)
        |(go_simp;with_reducible refine(C _).mono ?_;rintro e a3⟨rfl,H⟩;have K:=C4 H (w0:=n) (by assumption);have z:=(g.next K g.lt).cell)))
       |fail
       all_goals
        go_wp2_with fail;go_meet;exact⟨by rw[u.o,s.o,b9.o];rfl,K⟩
     have s:=AB (by simp[j]:(A2 x==x)=false);have Q:(A2 x !=x)=true:=by simp[j]
     first
     |go_region_law((first
      |(go_simp;with_reducible refine(E _).mono ?_;rintro e a1⟨rfl,H⟩;have K:=C4 H (w0:=n) (by assumption);have z:=(g.next K g.lt).cell)
      |(go_simp;with_reducible refine(M _).mono ?_;rintro e a2⟨rfl,H⟩;have K:=C4 H (w0:=n) (by assumption);have z:=(g.next K g.lt).cell)
      |(go_simp;with_reducible refine(C _).mono ?_;rintro e a3⟨rfl,H⟩;have K:=C4 H (w0:=n) (by assumption);have z:=(g.next K g.lt).cell)))
     |fail
     all_goals
      go_wp2_with fail;go_meet;exact⟨by rw[u.o,s.o];rfl,K⟩
   clear E C HX;obtain⟨rfl,K⟩:=hcut;obtain⟨w2,rfl⟩:∃x:World,x=wc:=⟨_,rfl⟩;have N:=g.next K g.lt;have o:=L.trans (K.mono L.size);clear K g L b6;generalize(Ae x&&(A2 x==x)&&!(y.any fun c=>!Bx c))=Z at HF HY⊢;cases Z with
   |false=>
    have d0:=AB (HF.o rfl);go_wp2_with fail;go_ret2;exact⟨Or.inr ⟨_,d0.o,rfl,Gm.at _ _ _ _⟩,o.alloc o.size _⟩
   |true=>
    have F:=AB (HY.o rfl);clear HF HY;have P:=dG y;have HQ:=AB (by rfl:D3 y=if Ae y then y else 34::(y.flatMap Dk++[34]));simp only[ED];have d1:=N.cell;go_wp2_with fail;refine(Mr y _ (by omega)).mono ?_;rintro e w3⟨rfl,H⟩;have a4:=N.next H N.lt;have r:=o.trans (H.mono o.size);clear H N o d1;generalize Ae y=ty at HQ⊢;cases ty with
    |true=>
     have a5:=AB (by rw[HQ.o];rfl:D3 y=y);rw[a5.o]at F P;have d9:=a4.cell;go_wp2_with fail;go_roundw
     case rel=>exact⟨k+1,O++(59::32::(x++61::y)),by go_num,by omega,by simp,by simp;omega,F,r⟩
     simp[intOf];omega
    |false=>
     have a5:=AB (by rw[HQ.o];rfl:D3 y=34::(y.flatMap Dk++[34]));rw[a5.o]at F P;simp only[AO,AH,BN]at P;have R:=a4.alloc (.cells #[.string ⟨#[92]⟩,.string ⟨#[92,92]⟩,.string ⟨#[34]⟩,.string ⟨#[92,34]⟩] 9);have A:=r.alloc r.size (.cells #[.string ⟨#[92]⟩,.string ⟨#[92,92]⟩,.string ⟨#[34]⟩,.string ⟨#[92,34]⟩] 9);have c0:=bC w3.heap.size 4 Nq (w3.alloc (.cells #[.string ⟨#[92]⟩,.string ⟨#[92,92]⟩,.string ⟨#[34]⟩,.string ⟨#[92,34]⟩] 9)) (vW w3 9) (by decide) (by decide) 4 rfl;go_wp2_with fail;refine c0.mono ?_;rintro e V⟨b5,v5,rfl,a6,c3,c4,c5,a7⟩;have c6:=R.next a7 R.lt;have B5:=A.trans (a7.mono A.size);have d2:wr.heap.size<b5:=CG R.lt a6;have d3:w.heap.size≤b5:=BC A.size a6;have a8:=cP b5 v5 Nq vU y V c3 c4 c5 (by omega);rw[vV]at a8;clear c0 a7 c3 c4 c5 a6 R A a4 r;go_wp2_with fail;refine a8.mono ?_;rintro e w6⟨rfl,a9⟩;have d4:=c6.next a9 d2;have B6:=B5.trans (a9.mono d3);have e0:=d4.cell;clear a8 a9 c6 B5;generalize y.flatMap Dk=q at F P⊢;go_wp2_with fail;go_roundw
     case rel=>exact⟨k+1,O++(59::32::(x++61::(34::(q++[34])))),by go_num,by omega,by simp,by simp;omega,F,B6⟩
     simp[intOf];omega
  obtain rfl:k=l.length:=by omega
  have HE:=AB (by rw[←a0.o,AQ];simp[Dq]:Cz m l=some O);go_wp2_with fail;go_ret2;exact⟨Or.inl ⟨_,HE.o,rfl⟩,B⟩
def T6:Array Value:=#[.string ⟨#[38]⟩,.string ⟨#[38,97,109,112,59]⟩,.string ⟨#[34]⟩,.string ⟨#[38,113,117,111,116,59]⟩,.string ⟨#[39]⟩,.string ⟨#[38,35,51,57,59]⟩,.string ⟨#[60]⟩,.string ⟨#[38,108,116,59]⟩,.string ⟨#[62]⟩,.string ⟨#[38,103,116,59]⟩]
def dI:Array Value:=#[.string ⟨#[67,111,110,116,101,110,116,45,84,121,112,101]⟩,.string ⟨#[67,111,110,116,101,110,116,45,84,114,97,110,115,102,101,114,45,69,110,99,111,100,105,110,103]⟩]
structure Gr(w:World):Prop where
 g:Cb w
 signs:∀k,k<10→w.cell? ⟨1,k,none⟩=T6[k]?
 ours:∀k,k<2→w.cell? ⟨2,k,none⟩=dI[k]?
 et:w.cell? ⟨0,0,none⟩=some (.iface 262 (.agg #[.pointer (some ⟨12,25,none⟩)]))
theorem Gr.size{w:World}(h:Gr w):3<w.heap.size:=h.g.size
theorem Gr.next{w w':World}(h:Gr w)(H:Below w.heap.size w w'):Gr w':=by
 have s:=h.size;refine⟨h.g.next H,fun k a=>?_,fun k a=>?_,?_⟩
 ·exact(H.cell (p:=⟨1,k,none⟩) (by simp only;omega)).trans (h.signs k a)
 ·exact(H.cell (p:=⟨2,k,none⟩) (by simp only;omega)).trans (h.ours k a)
 exact(H.cell (p:=⟨0,0,none⟩) (by simp only;omega)).trans h.et
end Go.Proofs.YtignjjnflcpiiaaGreatDoor
namespace Go.Proofs.YtignjjnflcpiiaaGreatDoor
open Go.RowKit Go.Extern.Stop Go.Stop Go.Extern
theorem As.dJ(t:Go.Addr)(w:World):(ReflectliteValue.unpack (.iface 102 (.pointer (some t)))).run Tryz.prog w
 =.ok (.agg #[.pointer (some ⟨12,102,none⟩),.pointer (some ⟨w.heap.size,0,none⟩),.int .u64 150]) (w.alloc (.cells #[.pointer (some t)] 102)):=by kernel_rfl
theorem As.type27(a:Go.Addr)(w:World):(ReflectliteValue.methodAny (ReflectliteValue.valueError "reflectlite.Value.Type" 0) (fun t _ _ _=>ReflectliteType.toType t) #[.agg #[.pointer (some ⟨12,102,none⟩),.pointer (some a),.int .u64 150]]).run Tryz.prog w
 =.ok (.iface 262 (.agg #[.pointer (some ⟨12,102,none⟩)])) w:=by kernel_rfl
theorem As.dK(h:Value)(w:World):(Go.method 466 262 (.agg #[h]) "Kind").run Tryz.prog w=.ok (373,h) w:=by kernel_rfl
theorem As.dL(w:World):((ReflectliteType.abiMethod fun t=>(fun a:Nat=>Value.int IntKind.u8 (a:Int))<$>Rtype.kind t) #[.pointer (some ⟨12,102,none⟩)]).run Tryz.prog w=.ok (.int .u8 22) w:=by kernel_rfl
theorem As.dM(w:World):((ReflectliteType.abiMethod fun t=>(fun a:Nat=>Value.int IntKind.u8 (a:Int))<$>Rtype.kind t) #[.pointer (some ⟨12,30,none⟩)]).run Tryz.prog w=.ok (.int .u8 2) w:=by kernel_rfl
theorem dN(z:Sem Value)(f:TypeId→Go.Addr→Nat→Nat→Sem Value)(v:Value):ReflectliteValue.method z f #[v]=(do match←ReflectliteValue.parts v with|none=>z|some (t,a,F)=>f t a F (F%32)):=rfl
theorem As.dO(a:Go.Addr)(w:World):(ReflectliteValue.parts (.agg #[.pointer (some ⟨12,102,none⟩),.pointer (some a),.int .u64 150])).run Tryz.prog w=.ok (some (102,a,150)) w:=by kernel_rfl
theorem As.dP(a p:Go.Addr)(W:World)(h:W.cell? a=some (.pointer (some p))):(ReflectliteValue.method (ReflectliteValue.valueError "reflectlite.Value.IsNil" 0) ReflectliteValue.isNil #[.agg #[.pointer (some ⟨12,102,none⟩),.pointer (some a),.int .u64 150]]).run Tryz.prog W=.ok (.bool false) W:=by
 rw[dN];simp only[Sem.run_bind,As.dO,Result.andThen];simp[ReflectliteValue.isNil,loadVar,isAgg,underlying,Tryz.underlying102,h,Result.andThen]
theorem As.dQ(h:Value)(w:World):(Go.method 466 262 (.agg #[h]) "Elem").run Tryz.prog w=.ok (385,.agg #[h]) w:=by kernel_rfl
theorem As.dR(h:Value)(w:World):(Go.method 466 262 (.agg #[h]) "Implements").run Tryz.prog w=.ok (386,.agg #[h]) w:=by kernel_rfl
theorem As.dS(h:Value)(w:World):(Go.method 466 262 (.agg #[h]) "AssignableTo").run Tryz.prog w=.ok (383,.agg #[h]) w:=by kernel_rfl
theorem As.dT(w:World):(ReflectliteType.method ReflectliteType.elem #[.agg #[.pointer (some ⟨12,102,none⟩)]]).run Tryz.prog w=.ok (.iface 262 (.agg #[.pointer (some ⟨12,30,none⟩)])) w:=by kernel_rfl
theorem As.dU(w:World):(ReflectliteType.relation "Implements" ReflectliteType.implements_ #[.agg #[.pointer (some ⟨12,30,none⟩)],.iface 262 (.agg #[.pointer (some ⟨12,25,none⟩)])]).run Tryz.prog w=.ok (.bool true) w:=by kernel_rfl
theorem As.dV(v:Value)(w:World):(ReflectliteType.typeOf #[.iface 30 v]).run Tryz.prog w=.ok (.iface 262 (.agg #[.pointer (some ⟨12,30,none⟩)])) w:=by kernel_rfl
theorem As.dW(w:World):(ReflectliteType.relation "AssignableTo" ReflectliteType.assignableTo #[.agg #[.pointer (some ⟨12,30,none⟩)],.iface 262 (.agg #[.pointer (some ⟨12,30,none⟩)])]).run Tryz.prog w=.ok (.bool true) w:=by kernel_rfl
theorem As.dX(e:Int)(w:World):(ReflectliteValue.unpack (.iface 30 (.int .i64 e))).run Tryz.prog w
 =.ok (.agg #[.pointer (some ⟨12,30,none⟩),.pointer (some ⟨w.heap.size,0,none⟩),.int .u64 130]) (w.alloc (.cells #[.int .i64 e] 30)):=by kernel_rfl
theorem As.vX(w:World):(Rtype.elem? 102).run Tryz.prog w=.ok (some 30) w:=by kernel_rfl
theorem As.vY(p:Go.Addr)(w:World):(ReflectliteValue.mk 30 p ReflectliteValue.flagAddr).run Tryz.prog w=.ok (.agg #[.pointer (some ⟨12,30,none⟩),.pointer (some p),.int .u64 386]) w:=by kernel_rfl
theorem As.dY(a p:Go.Addr)(W:World)(h:W.cell? a=some (.pointer (some p))):(ReflectliteValue.method (ReflectliteValue.valueError "reflectlite.Value.Elem" 0) ReflectliteValue.elem #[.agg #[.pointer (some ⟨12,102,none⟩),.pointer (some a),.int .u64 150]]).run Tryz.prog W
   =.ok (.agg #[.pointer (some ⟨12,30,none⟩),.pointer (some p),.int .u64 386]) W:=by
 rw[dN];simp only[Sem.run_bind,As.dO,Result.andThen];simp[ReflectliteValue.elem,loadVar,isAgg,underlying,Tryz.underlying102,h,Result.andThen,As.vX,As.vY]
theorem vZ(v x:Value):ReflectliteValue.set #[v,x]=(do
 let(some (d,a,f),some (s,b,_)):=(←ReflectliteValue.parts v,←ReflectliteValue.parts x)
  |unsupported (.noEntry "extern/(internal/reflectlite.Value).Set.zeroValue")
 if f/ReflectliteValue.flagAddr%2==0 then unsupported (.noEntry "extern/(internal/reflectlite.Value).Set.unaddressable")
 let V←loadVar s b
 if←Rtype.directlyAssignable d s then storeVar d a V
 else if←Rtype.implements d s then
  if(←Rtype.kind s)==20 then
   match V with
   | .nilIface=>unsupported (.noEntry "extern/reflectlite: a nil value of one interface type handed on as a value of another")
   |_=>storeVar d a V
  else storeVar d a (.iface s V)
 else panicString ("reflectlite.Set: value of type " ++(←Rtype.spelt s)++ " is not assignable to type " ++(←Rtype.spelt d))
 pure (.tuple #[])):=rfl
theorem As.wA(a:Go.Addr)(w:World):(ReflectliteValue.parts (.agg #[.pointer (some ⟨12,30,none⟩),.pointer (some a),.int .u64 386])).run Tryz.prog w=.ok (some (30,a,386)) w:=by kernel_rfl
theorem As.wB(a:Go.Addr)(w:World):(ReflectliteValue.parts (.agg #[.pointer (some ⟨12,30,none⟩),.pointer (some a),.int .u64 130])).run Tryz.prog w=.ok (some (30,a,130)) w:=by kernel_rfl
theorem As.wC(w:World):(Rtype.directlyAssignable 30 30).run Tryz.prog w=.ok true w:=by kernel_rfl
theorem As.dZ(t b:Go.Addr)(e:Int)(o:Value)(W:World)(h:W.cell? b=some (.int .i64 e))(H:W.cell? t=some o)(f:W.frozen? t=false):(ReflectliteValue.set #[.agg #[.pointer (some ⟨12,30,none⟩),.pointer (some t),.int .u64 386],.agg #[.pointer (some ⟨12,30,none⟩),.pointer (some b),.int .u64 130]]).run Tryz.prog W
   =.ok (.tuple #[]) (W.setCell t (.int .i64 e)):=by
 rw[vZ];simp only[Sem.run_bind,As.wA,As.wB,Result.andThen];simp[ReflectliteValue.flagAddr,loadVar,isAgg,underlying,Tryz.underlying30,h,Result.andThen,As.wC,storeVar,Value.cells,storeCells,Go.Addr.add];rw[run_store Tryz.prog W t _ _ (by rfl)];simp[H,f]
theorem wD(e:Int)(t:Go.Addr)(o:Value)(w:World)(H:w.cell? ⟨0,0,none⟩=some (.iface 262 (.agg #[.pointer (some ⟨12,25,none⟩)])))(a:w.cell? t=some o)(b:w.frozen? t=false):Calls Tryz.prog 48 #[.iface 30 (.int .i64 e),.iface 102 (.pointer (some t))] w fun E W=>E=.returned (.bool true)∧W=((((w.alloc (.cells #[.pointer (some t)] 102)).alloc (.cells #[.pointer (some ⟨12,102,none⟩),.pointer (some ⟨w.heap.size,0,none⟩),.int .u64 150] 177)).alloc (.cells #[.pointer (some ⟨12,102,none⟩),.pointer (some ⟨w.heap.size,0,none⟩),.int .u64 150] 177)).alloc (.cells #[.int .i64 e] 30)).setCell t (.int .i64 e):=by
 have d:=@CE Tryz.prog 107 _ (fun A=>ReflectliteValue.unpack (A.getD 0 (.tuple #[]))) Tryz.func107 (by kernel_rfl) (by kernel_rfl) (by kernel_rfl) (by kernel_rfl);have f:=@CE Tryz.prog 108 _ (ReflectliteValue.methodAny (ReflectliteValue.valueError "reflectlite.Value.Type" 0) (fun t _ _ _=>ReflectliteType.toType t)) Tryz.func108 (by kernel_rfl) (by kernel_rfl) (by kernel_rfl) (by kernel_rfl);have g:=@CE Tryz.prog 109 _ (ReflectliteValue.method (ReflectliteValue.valueError "reflectlite.Value.IsNil" 0) ReflectliteValue.isNil) Tryz.func109 (by kernel_rfl) (by kernel_rfl) (by kernel_rfl) (by kernel_rfl);have i:=@CE Tryz.prog 373 _ (ReflectliteType.abiMethod fun t=>do pure (.int .u8 (←Rtype.kind t))) Tryz.func373 (by kernel_rfl) (by kernel_rfl) (by kernel_rfl) (by kernel_rfl);have j:=@CE Tryz.prog 385 _ (ReflectliteType.method ReflectliteType.elem) Tryz.func385 (by kernel_rfl) (by kernel_rfl) (by kernel_rfl) (by kernel_rfl);have k:=@CE Tryz.prog 386 _ (ReflectliteType.relation "Implements" ReflectliteType.implements_) Tryz.func386 (by kernel_rfl) (by kernel_rfl) (by kernel_rfl) (by kernel_rfl);have m:=@CE Tryz.prog 200 _ ReflectliteType.typeOf Tryz.func200 (by kernel_rfl) (by kernel_rfl) (by kernel_rfl) (by kernel_rfl);have n:=@CE Tryz.prog 383 _ (ReflectliteType.relation "AssignableTo" ReflectliteType.assignableTo) Tryz.func383 (by kernel_rfl) (by kernel_rfl) (by kernel_rfl) (by kernel_rfl);have p:=@CE Tryz.prog 201 _ (ReflectliteValue.method (ReflectliteValue.valueError "reflectlite.Value.Elem" 0) ReflectliteValue.elem) Tryz.func201 (by kernel_rfl) (by kernel_rfl) (by kernel_rfl) (by kernel_rfl);have q:=@CE Tryz.prog 202 _ ReflectliteValue.set Tryz.func202 (by kernel_rfl) (by kernel_rfl) (by kernel_rfl) (by kernel_rfl);have T:=As.dV;have M:=As.dS;have r:=As.dW;have v:=As.dX;have F:=As.dJ;have s:=As.type27;have K:=As.dK;have u:=As.dQ;have I:=As.dR;have x:=As.dL;have y:=As.dM;have z:=As.dT;have B:=As.dU;have N:=As.dP ⟨w.heap.size,0,none⟩ t ((w.alloc (.cells #[.pointer (some t)] 102)).alloc (.cells #[.pointer (some ⟨12,102,none⟩),.pointer (some ⟨w.heap.size,0,none⟩),.int .u64 150] 177)) (by simp);have c:0<w.heap.size:=AY w _ H;have C:((w.alloc (.cells #[.pointer (some t)] 102)).alloc (.cells #[.pointer (some ⟨12,102,none⟩),.pointer (some ⟨w.heap.size,0,none⟩),.int .u64 150] 177)).cell? ⟨0,0,none⟩=some (.iface 262 (.agg #[.pointer (some ⟨12,25,none⟩)])):=by
  rw[CC _ _ ⟨0,0,none⟩ (by simp<;>omega),CC _ _ ⟨0,0,none⟩ c];exact H
 have l:t.block<w.heap.size:=by
  rcases CN t.block w.heap.size with h|h
  ·exact h
  simp[World.cell?,CL h]at a
 have D:=As.dY ⟨w.heap.size,0,none⟩ t (((w.alloc (.cells #[.pointer (some t)] 102)).alloc (.cells #[.pointer (some ⟨12,102,none⟩),.pointer (some ⟨w.heap.size,0,none⟩),.int .u64 150] 177)).alloc (.cells #[.pointer (some ⟨12,102,none⟩),.pointer (some ⟨w.heap.size,0,none⟩),.int .u64 150] 177)) (by rw[CC _ _ ⟨w.heap.size,0,none⟩ (by simp;omega)];simp);have S:=As.dZ t ⟨w.heap.size+1+1+1,0,none⟩ e o ((((w.alloc (.cells #[.pointer (some t)] 102)).alloc (.cells #[.pointer (some ⟨12,102,none⟩),.pointer (some ⟨w.heap.size,0,none⟩),.int .u64 150] 177)).alloc (.cells #[.pointer (some ⟨12,102,none⟩),.pointer (some ⟨w.heap.size,0,none⟩),.int .u64 150] 177)).alloc (.cells #[.int .i64 e] 30))
  (by rw[World.cell?_alloc_at _ _ _ _ (by simp)];rfl)
  (by rw[CC _ _ t (by simp;omega),CC _ _ t (by simp;omega),CC _ _ t (by simp;omega),CC _ _ t l];exact a)
  (by rw[DR _ _ t (by simp;omega),DR _ _ t (by simp;omega),DR _ _ t (by simp;omega),DR _ _ t (DX l)];exact b)
 go_enter Tryz.func48,Tryz.ntmps48
 go_wp2
 refine wp_loop_rounds 1 ?_;rw[rounds_succ]
 go_wp2
 go_ret;exact⟨rfl,rfl⟩
theorem As.wE(v:Value)(w:World):(ReflectliteType.typeOf #[.iface 253 v]).run Tryz.prog w=.ok (.iface 262 (.agg #[.pointer (some ⟨12,253,none⟩)])) w:=by kernel_rfl
theorem As.wF(w:World):(ReflectliteType.relation "AssignableTo" ReflectliteType.assignableTo #[.agg #[.pointer (some ⟨12,253,none⟩)],.iface 262 (.agg #[.pointer (some ⟨12,30,none⟩)])]).run Tryz.prog w=.ok (.bool false) w:=by kernel_rfl
theorem As.wG(v:Value)(x:TypeId)(w:World):(Instr.typeAssert (.iface 253 v) x 267 true).run Tryz.prog w=.ok (.tuple #[.nilIface,.bool false]) w:=run_typeAssert_lacksB Tryz.underlying267 (by kernel_rfl) (by kernel_rfl) v x w
theorem As.wH(v:Value)(x:TypeId)(w:World):(Instr.typeAssert (.iface 253 v) x 270 true).run Tryz.prog w=.ok (.tuple #[.iface 253 v,.bool true]) w:=run_typeAssert_hasB Tryz.underlying270 (by kernel_rfl) v x w
theorem As.wI(p:Option Go.Addr)(w:World):(Go.method 466 253 (.pointer p) "Unwrap").run Tryz.prog w=.ok (381,.pointer p) w:=by kernel_rfl
theorem wJ(b:Nat)(e:Int)(w:World)(h:w.cell? ⟨b,0,none⟩=some (.int .i64 e)):Calls Tryz.prog 381 #[.pointer (some ⟨b,0,none⟩)] w fun E W=>E=.returned (.iface 30 (.int .i64 e))∧w=W:=by
 go_enter Tryz.func381,Tryz.ntmps381
 go_wp2
 go_ret;exact⟨rfl,rfl⟩
theorem wK(e:Int)(b:Nat)(t:Go.Addr)(o:Value)(w:World)(H:w.cell? ⟨0,0,none⟩=some (.iface 262 (.agg #[.pointer (some ⟨12,25,none⟩)])))(a:w.cell? t=some o)(d:w.frozen? t=false)(c:w.cell? ⟨b,0,none⟩=some (.int .i64 e)):Calls Tryz.prog 48 #[.iface 253 (.pointer (some ⟨b,0,none⟩)),.iface 102 (.pointer (some t))] w fun E W=>E=.returned (.bool true)∧W=((((w.alloc (.cells #[.pointer (some t)] 102)).alloc (.cells #[.pointer (some ⟨12,102,none⟩),.pointer (some ⟨w.heap.size,0,none⟩),.int .u64 150] 177)).alloc (.cells #[.pointer (some ⟨12,102,none⟩),.pointer (some ⟨w.heap.size,0,none⟩),.int .u64 150] 177)).alloc (.cells #[.int .i64 e] 30)).setCell t (.int .i64 e):=by
 have j:=@CE Tryz.prog 107 _ (fun A=>ReflectliteValue.unpack (A.getD 0 (.tuple #[]))) Tryz.func107 (by kernel_rfl) (by kernel_rfl) (by kernel_rfl) (by kernel_rfl);have k:=@CE Tryz.prog 108 _ (ReflectliteValue.methodAny (ReflectliteValue.valueError "reflectlite.Value.Type" 0) (fun t _ _ _=>ReflectliteType.toType t)) Tryz.func108 (by kernel_rfl) (by kernel_rfl) (by kernel_rfl) (by kernel_rfl);have m:=@CE Tryz.prog 109 _ (ReflectliteValue.method (ReflectliteValue.valueError "reflectlite.Value.IsNil" 0) ReflectliteValue.isNil) Tryz.func109 (by kernel_rfl) (by kernel_rfl) (by kernel_rfl) (by kernel_rfl);have n:=@CE Tryz.prog 373 _ (ReflectliteType.abiMethod fun t=>do pure (.int .u8 (←Rtype.kind t))) Tryz.func373 (by kernel_rfl) (by kernel_rfl) (by kernel_rfl) (by kernel_rfl);have p:=@CE Tryz.prog 385 _ (ReflectliteType.method ReflectliteType.elem) Tryz.func385 (by kernel_rfl) (by kernel_rfl) (by kernel_rfl) (by kernel_rfl);have q:=@CE Tryz.prog 386 _ (ReflectliteType.relation "Implements" ReflectliteType.implements_) Tryz.func386 (by kernel_rfl) (by kernel_rfl) (by kernel_rfl) (by kernel_rfl);have r:=@CE Tryz.prog 200 _ ReflectliteType.typeOf Tryz.func200 (by kernel_rfl) (by kernel_rfl) (by kernel_rfl) (by kernel_rfl);have s:=@CE Tryz.prog 383 _ (ReflectliteType.relation "AssignableTo" ReflectliteType.assignableTo) Tryz.func383 (by kernel_rfl) (by kernel_rfl) (by kernel_rfl) (by kernel_rfl);have u:=@CE Tryz.prog 201 _ (ReflectliteValue.method (ReflectliteValue.valueError "reflectlite.Value.Elem" 0) ReflectliteValue.elem) Tryz.func201 (by kernel_rfl) (by kernel_rfl) (by kernel_rfl) (by kernel_rfl);have v:=@CE Tryz.prog 202 _ ReflectliteValue.set Tryz.func202 (by kernel_rfl) (by kernel_rfl) (by kernel_rfl) (by kernel_rfl);have T:=As.dV;have M:=As.dS;have x:=As.dW;have V:=As.dX;have F:=As.dJ;have y:=As.type27;have K:=As.dK;have z:=As.dQ;have I:=As.dR;have B:=As.dL;have C:=As.dM;have D:=As.dT;have G:=As.dU;have N:=As.dP ⟨w.heap.size,0,none⟩ t ((w.alloc (.cells #[.pointer (some t)] 102)).alloc (.cells #[.pointer (some ⟨12,102,none⟩),.pointer (some ⟨w.heap.size,0,none⟩),.int .u64 150] 177)) (by simp);have f:0<w.heap.size:=AY w _ H;have J:((w.alloc (.cells #[.pointer (some t)] 102)).alloc (.cells #[.pointer (some ⟨12,102,none⟩),.pointer (some ⟨w.heap.size,0,none⟩),.int .u64 150] 177)).cell? ⟨0,0,none⟩=some (.iface 262 (.agg #[.pointer (some ⟨12,25,none⟩)])):=by
  rw[CC _ _ ⟨0,0,none⟩ (by simp<;>omega),CC _ _ ⟨0,0,none⟩ f];exact H
 have l:t.block<w.heap.size:=by
  rcases CN t.block w.heap.size with h|h
  ·exact h
  simp[World.cell?,CL h]at a
 have L:=As.dY ⟨w.heap.size,0,none⟩ t (((w.alloc (.cells #[.pointer (some t)] 102)).alloc (.cells #[.pointer (some ⟨12,102,none⟩),.pointer (some ⟨w.heap.size,0,none⟩),.int .u64 150] 177)).alloc (.cells #[.pointer (some ⟨12,102,none⟩),.pointer (some ⟨w.heap.size,0,none⟩),.int .u64 150] 177)) (by rw[CC _ _ ⟨w.heap.size,0,none⟩ (by simp;omega)];simp);have S:=As.dZ t ⟨w.heap.size+1+1+1,0,none⟩ e o ((((w.alloc (.cells #[.pointer (some t)] 102)).alloc (.cells #[.pointer (some ⟨12,102,none⟩),.pointer (some ⟨w.heap.size,0,none⟩),.int .u64 150] 177)).alloc (.cells #[.pointer (some ⟨12,102,none⟩),.pointer (some ⟨w.heap.size,0,none⟩),.int .u64 150] 177)).alloc (.cells #[.int .i64 e] 30))
  (by rw[World.cell?_alloc_at _ _ _ _ (by simp)];rfl)
  (by rw[CC _ _ t (by simp;omega),CC _ _ t (by simp;omega),CC _ _ t (by simp;omega),CC _ _ t l];exact a)
  (by rw[DR _ _ t (by simp;omega),DR _ _ t (by simp;omega),DR _ _ t (by simp;omega),DR _ _ t (DX l)];exact d)
 have O:=As.wE;have P:=As.wF;have Q:=As.wG;have U:=As.wH;have R:=As.wI;have g:b<w.heap.size:=AY w _ c;have i:((((w.alloc (.cells #[.pointer (some t)] 102)).alloc (.cells #[.pointer (some ⟨12,102,none⟩),.pointer (some ⟨w.heap.size,0,none⟩),.int .u64 150] 177)).alloc (.cells #[.pointer (some ⟨12,102,none⟩),.pointer (some ⟨w.heap.size,0,none⟩),.int .u64 150] 177))).cell? ⟨b,0,none⟩=some (.int .i64 e):=by
  rw[CC _ _ ⟨b,0,none⟩ (by simp;omega),CC _ _ ⟨b,0,none⟩ (by simp;omega),CC _ _ ⟨b,0,none⟩ g];exact c
 go_enter Tryz.func48,Tryz.ntmps48
 go_wp2
 refine wp_loop_rounds 2 ?_;rw[rounds_succ];go_wp2_with fail;refine(wJ b e _ i).mono ?_;rintro E X⟨rfl,rfl⟩;go_wp2_with fail;rw[rounds_succ]
 go_wp2
 go_ret;exact⟨rfl,rfl⟩
end Go.Proofs.YtignjjnflcpiiaaGreatDoor
namespace Go.Proofs.YtignjjnflcpiiaaGreatDoor
open Go Go.RowKit Proofs.Tryz Lib
theorem T7(s o:Bs)(w:World)(c:s.length≤1000000000000)(h:o.length<4294967281)(H:o.all (fun b=>decide (b.toNat<128))=true):Calls prog 184 #[.string ⟨s.toArray⟩,.string ⟨o.toArray⟩] w fun e W=>e=.returned (.int .i64 ((Br s o:Nat):Int))∧Below w.heap.size w W:=by
 have T:=AB (mH s o);have d:=N6 s o;go_enter func184,ntmps184;go_wp2_with fail;refine(S4 s o _ h H).mono ?_;rintro e f⟨rfl,a⟩;go_wp2_with fail;go_ret;exact⟨Es (by rw[←T.o];omega),a⟩
theorem wL(X x s:Bs)(b:Nat)(w:World)(h:w.cell? ⟨b,0,none⟩=some (.string ⟨s.toArray⟩)):Calls prog 319 #[.agg #[.string ⟨X.toArray⟩,.string ⟨x.toArray⟩],.pointer (some ⟨b,0,none⟩)] w fun e W=>e=.returned (.bool (hasPrefix s x))∧Below w.heap.size w W:=by
 have H:b<w.heap.size:=AY w _ h;have a:(w.alloc (.cells #[.string ⟨X.toArray⟩,.string ⟨x.toArray⟩] 249)).cell? ⟨b,0,none⟩=some (.string ⟨s.toArray⟩):=by rw[World.cell?_alloc_past _ _ _ H];exact h
 have k:=(A1.new w #[.string ⟨X.toArray⟩,.string ⟨x.toArray⟩] 249).cell;clear h;go_enter func319,ntmps319;go_wp2_with fail;refine(Jc s x _).mono ?_;rintro e W⟨rfl,rfl⟩;go_wp2_with fail;go_ret;exact⟨rfl,(AD _ _).alloc (AC _) _⟩
def Lx(s:Bs):Int:=match Gk s with|none=>-1|some k=>(k:Int)
theorem wM(s:Bs)(k:Nat)(h:k<Cf.length)(H:∀j,j<k→hasPrefix s (Cf.getD j ([],[])).2=false)(a:hasPrefix s (Cf.getD k ([],[])).2=true):Gk s=some k:=by
 unfold Gk;rw[ET];refine⟨h,?_,fun j b=>?_⟩
 ·simpa[AK,AZ h]using a
 have l:j<Cf.length:=by omega
 have:=H j b;rw[AK,AZ l]at this;simpa using this
theorem wN(s:Bs)(H:∀j,j<5→hasPrefix s (Cf.getD j ([],[])).2=false):Gk s=none:=by
 unfold Gk;rw[List.findIdx?_eq_none_iff];intro x a;obtain⟨j,h,rfl⟩:=List.getElem_of_mem a;have:=H j h;rw[AK,AZ h]at this;simpa using this
theorem eA(k:Nat)(h:k<5):T6[k*2]?=some (.string ⟨(Cf.getD k ([],[])).1.toArray⟩)∧T6[k*2+1]?=some (.string ⟨(Cf.getD k ([],[])).2.toArray⟩):=by
 have:k=0∨k=1∨k=2∨k=3∨k=4:=by omega
 rcases this with rfl|rfl|rfl|rfl|rfl<;>exact⟨rfl,rfl⟩
theorem wO(s:Bs)(b:Nat)(w:World)(g:Gr w)(c:w.cell? ⟨b,0,none⟩=some (.string ⟨s.toArray⟩)):Calls prog 318 #[.slice (some ⟨1,0,none⟩) 5 5,.func (.func 319) #[] #[.pointer (some ⟨b,0,none⟩)]] w fun e W=>e=.returned (.int .i64 (Lx s))∧Below w.heap.size w W:=by
 have n:b<w.heap.size:=AY w _ c;have D:=g.size;have d:=AB g.signs;go_enter func318,ntmps318;go_wp2_with fail;go_loopw[8] (fun i wr=>∃k:Nat,i=.int .i64 k∧k≤5∧Hid (∀j,j<k→hasPrefix s (Cf.getD j ([],[])).2=false)∧Below w.heap.size w wr) (fun i _=>5-(intOf i).toNat)
 case atStart=>exact⟨0,rfl,by omega,AB (fun j q=>by omega),AD _ _⟩
 obtain⟨k,rfl,E,o,B⟩:=hrel;by_cases f:k<5
 ·obtain⟨r,R⟩:=eA k f;have l:=(B.cell (p:=⟨1,k*2,none⟩) (by simp only;omega)).trans ((d.o _ (by omega)).trans r);have m:=(B.cell (p:=⟨1,k*2+1,none⟩) (by simp only;omega)).trans ((d.o _ (by omega)).trans R);have u:=(B.cell (p:=⟨b,0,none⟩) n).trans c;have K:=AB (by rfl:Cf.getD k ([],[])=Cf.getD k ([],[]));have H:=AB (wM s k f o.o);have t:=AB (fun(h:hasPrefix s (Cf.getD k ([],[])).2=false)=>show∀j,j<k+1→hasPrefix s (Cf.getD j ([],[])).2=false from fun j q=>by
   by_cases e:j=k
   ·rw[e];exact h
   exact o.o j (by omega))
  clear r R K;generalize Cf.getD k ([],[])=x at l m H t;obtain⟨v,X⟩:=x;simp only at l m H t;have C:=wL v X s b wr u;generalize hasPrefix s X=y at C H t;cases y with
  |true=>
   have V:=AB (by unfold Lx;rw[H.o rfl]:Lx s=(k:Int));go_wp2_with fail;refine C.mono ?_;rintro e z⟨rfl,a⟩;go_wp2_with fail;go_ret;exact⟨Es (by rw[V.o]),B.trans (a.mono B.size)⟩
  |false=>
   have A:=AB (t.o rfl);clear t H;go_wp2_with fail;refine C.mono ?_;rintro e z⟨rfl,a⟩;go_wp2_with fail;go_roundw
   case rel=>exact⟨k+1,by go_num,by omega,A,B.trans (a.mono B.size)⟩
   simp[intOf];omega
 obtain rfl:k=5:=by omega
 have V:=AB (by unfold Lx;rw[wN s o.o]:Lx s=-1);go_wp2_with fail;go_ret;exact⟨Es (by rw[V.o]),B⟩
variable {l:Bs}{B b j:Nat}
theorem Dc.keep{w w':World}(h:Dc B b l w)(k:∀g,B≤g→g<w.heap.size→w'.heap[g]?=w.heap[g]?):Dc B b l w':=by
 have t:∀g o,w.heap[g]?=some o→g<w.heap.size:=fun g o h=>by
  rcases CN g w.heap.size with a|a
  ·exact a
  rw[CL a]at h;cases h
 have G:∀p,BuilderAt 128 5 B b p (byteCells l) w→BuilderAt 128 5 B b p (byteCells l) w':=by
  rintro p⟨d,v,e,f,j⟩;refine⟨d,v,(k b d (t b _ e)).trans e,?_,j⟩;refine Qt f fun g H=>?_
  rcases f.2 with⟨c,_⟩|⟨i,C,r,c,m,n,_⟩
  ·rw[c]at H;cases H
  rw[c]at H;injection H with H;simp at H;subst H;exact k i m (t i _ n)
 exact h.imp (G _) (G _)
theorem Pe:∀(f:Nat)(l:Bs),l.length<f→J9 f l=J9 (l.length+1) l
 |0,l,h=>by omega
 |f+1,l,h=>by
  unfold J9;by_cases H:l=[]
  ·rw[AM H,AM H]
  rw[AI H,AI H];have p:=BE.2 H;cases s:Gk l with
  |none=>
   simp only;rw[Pe f (l.drop 1) (by simp;omega),←Pe l.length (l.drop 1) (by simp;omega)]
  |some j=>
   have a:j<Cf.length:=by
    unfold Gk at s;rw[ET]at s;exact s.1
   have b:1≤(Cf.getD j ([],[])).2.length:=by
    have:j=0∨j=1∨j=2∨j=3∨j=4:=by have:Cf.length=5:=rfl;omega
    rcases this with rfl|rfl|rfl|rfl|rfl<;>decide
   simp only;rw[Pe f _ (by rw[AS];omega),←Pe l.length (l.drop (Cf.getD j ([],[])).2.length) (by rw[AS];omega)]
 termination_by f _=>f
theorem eB(H:l≠[])(h:Gk l=none):Cr l=l.take 1++Cr (l.drop 1):=by
 have p:=BE.2 H;conv=>lhs;unfold Cr J9
 rw[AI H,h];simp only;rw[Pe l.length (l.drop 1) (by simp;omega)];rfl
theorem eC(a:l≠[])(h:Gk l=some j):j<5∧1≤(Cf.getD j ([],[])).2.length∧(Cf.getD j ([],[])).2.length≤l.length∧(Cf.getD j ([],[])).1.length≤1∧Cr l=(Cf.getD j ([],[])).1++Cr (l.drop (Cf.getD j ([],[])).2.length):=by
 have p:=BE.2 a;have H:=h;unfold Gk at H;rw[ET]at H;obtain⟨d,b,_⟩:=H;have e:Cf.getD j ([],[])=Cf[j]:=by rw[AK,AZ d];rfl
 have f:j=0∨j=1∨j=2∨j=3∨j=4:=by have:Cf.length=5:=rfl;omega
 have c:1≤(Cf.getD j ([],[])).2.length∧(Cf.getD j ([],[])).1.length≤1:=by
  rcases f with rfl|rfl|rfl|rfl|rfl<;>decide
 refine⟨by omega,c.1,?_,c.2,?_⟩
 ·rw[e];unfold hasPrefix at b;have:=(BR.1 b).length_le;exact this
 conv=>lhs;unfold Cr J9
 rw[AI a,h];simp only;rw[Pe l.length (l.drop _) (by rw[AS];omega)];rfl
theorem wP(s:Bs)(w:World)(r:Gr w)(hs:s.length≤1000000000):Calls prog 300 #[.string ⟨s.toArray⟩] w fun e w'=>e=.returned (.string ⟨(Cr s).toArray⟩)∧Below w.heap.size w w':=by
 have a6:∀(F:Fn)(first G:Array Value)(w:World),(Instr.makeFunc F first G).run prog w=.ok (.func F first G) w:=fun _ _ _ _=>rfl
 have a7:=r.size;have t:=N9 (w.alloc (.cells #[.string ⟨s.toArray⟩] 9));rw[AV]at t;have I:=(A1.new w #[.string ⟨s.toArray⟩] 9).alloc (.cells #[.pointer none,.slice none 0 0] 128);have Y:=AB t;clear t;have Z:=AB I;clear I;go_enter func300,ntmps300;go_wp2_with fail
 go_loopg [] s.length (fun g wr=>∃(l o:Bs),l.length≤g∧A1 wr w.heap.size #[.string ⟨l.toArray⟩] 9∧Dc (w.heap.size+1) (w.heap.size+1) o wr∧l.length+o.length≤1000000000∧Hid (o++Cr l=Cr s)∧Below w.heap.size w wr)
 case atStart=>exact⟨s,[],AC _,Z.o,Y.o,by simp;omega,AB rfl,((AD _ _).alloc (AC _) _).alloc (by simp) _⟩
 obtain⟨l,o,a0,h,u,a1,f,B⟩:=hrel;have a8:=h.lt;by_cases b:l=[]
 ·subst b;have K:=h.cell 0;have HE:=AB (by rw[←f.o];simp[Cr,J9]:Cr s=o);go_wp2_with fail;refine(Oi _ _ _ _ u (by omega)).mono ?_;rintro e J⟨rfl,H⟩;go_wp2_with fail;go_ret;exact⟨by rw[HE.o];rfl,B.trans (H.mono (by omega))⟩
 have a9:l.isEmpty=false:=by rw[AP];simpa using b
 have hp:=BE.2 b;have S:=wO l w.heap.size wr (r.next B) ((h.cell 0).trans rfl);cases i:Gk l with
 |none=>
  have U:=AB (eB b i);have v:Lx l=-1:=by unfold Lx;rw[i]
  rw[v]at S;clear v i b;cases l with
  |nil=>simp at hp
  |cons c L=>
   have K:=h.cell 0;go_wp2_with fail;refine S.mono ?_;rintro e J⟨rfl,H⟩;have a:=h.next H h.lt;have k:=u.next H;have n:=B.trans (H.mono B.size);have a2:=a.lt;have a3:=a.cell 0;simp only[AO]at a1 a0;go_wp2_with fail;refine(Mj (w.heap.size+1) (w.heap.size+1) o _ c rfl _ k (by omega) (by omega)).mono ?_;rintro e W⟨rfl,y,m⟩;have d:=a.next m (DT _);have q:=n.trans (m.mono (GJ _));have b0:=d.cell 0;have b1:=d.free 0;have Q:=AB (by rw[←f.o,U.o];simp:(o++[c])++Cr L=Cr s);clear S H k a3 a K h B U f;go_wp2_with fail;have z:=d.set 0 (.string ⟨L.toArray⟩);have A:=y.keep (w':=W.setCell ⟨w.heap.size,0,none⟩ (.string ⟨L.toArray⟩)) (fun g a4 _=>DB W ⟨w.heap.size,0,none⟩ _ g (by simp only;omega))
   go_roundg L.length
   case measure=>omega
   exact⟨L,o++[c],AC _,z,A,by simp;omega,Q,q.setCell (AC _) _⟩
 |some j=>
  obtain⟨a5,M,N,O,P⟩:=eC b i;have U:=AB P;clear P;have v:Lx l=(j:Int):=by unfold Lx;rw[i]
  rw[v]at S;clear v i b;obtain⟨R,T⟩:=eA j a5;have V:=AB r.signs;have C:=(V.o _ (by omega)).trans R;have D:=(V.o _ (by omega)).trans T;clear R T;generalize Cf.getD j ([],[])=x at C D M N O U;obtain⟨E,X⟩:=x;simp only at C D M N O U;have K:=h.cell 0;go_wp2_with fail;refine S.mono ?_;rintro e J⟨rfl,H⟩;have a:=h.next H h.lt;have k:=u.next H;have n:=B.trans (H.mono B.size);have a2:=a.lt;have d1:=(n.cell (p:=⟨1,j*2,none⟩) (by simp only;omega)).trans C;go_wp2_with fail;refine(Jd (w.heap.size+1) (w.heap.size+1) o E _ k (by omega) (by omega)).mono ?_;rintro e W⟨rfl,y,m⟩;have d:=a.next m (DT _);have q:=n.trans (m.mono (GJ _));have b2:=(A1.drew d).cell 0;have b3:=(A1.drew d).free 0;have d2:=(q.drew.cell (p:=⟨1,j*2+1,none⟩) (by simp only;omega)).trans D;have Q:=AB (by rw[←f.o,U.o];simp:(o++E)++Cr (l.drop X.length)=Cr s);clear S H k a K h B U f d1;go_wp2_with fail;go_region;all_goals
   go_wp2_with fail;have z:=(A1.drew d).set 0 (.string ⟨(l.drop X.length).toArray⟩);have A:=y.drew.keep (w':=W.drew.setCell ⟨w.heap.size,0,none⟩ (.string ⟨(l.drop X.length).toArray⟩)) (fun g a4 _=>DB W.drew ⟨w.heap.size,0,none⟩ _ g (by simp only;omega))
   go_roundg (l.length-X.length)
   case measure=>omega
   exact⟨l.drop X.length,o++E,by simp,z,A,by simp;omega,Q,q.drew.setCell (AC _) _⟩
end Go.Proofs.YtignjjnflcpiiaaGreatDoor
