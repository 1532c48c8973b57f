/- The document's answer's WritePart: as the program's. Cond -/
import Derived.Test.YtignjjnflcpiiaaGreatDoorS46
set_option linter.all false
set_option maxHeartbeats 16000000
set_option maxRecDepth 100000
namespace Go.Proofs.YtignjjnflcpiiaaGreatDoor
open Go Go.RowKit Proofs.Tryz Lib
def U7:Option (Option Bs)→Bool
 |some (some _)=>true
 |_=>false
def Pv:Option (Option Bs)→Int
 |none=>3
 |_=>0
theorem YB(r:Option (Option Bs)):∃B:Bs,Rl r=.tuple #[.string ⟨B.toArray⟩,.bool (U7 r),.int .i64 (Pv r)]:=by
 rcases r with _|_|b
 ·exact⟨[],rfl⟩
 ·exact⟨[],rfl⟩
 exact⟨b,rfl⟩
theorem YC(r:Option (Option Bs)):Pv r=3∨Pv r=0:=by rcases r with _|_|b<;>simp[Pv]
theorem jS(h:List A4)(body:Bs)(m:Bool)(n:Nat):Ky h body m n=(Ca h&&((Pv (Bg h)==0)&&((U7 (Bg h)==m)&&(!(m&&!body.isEmpty)&&!(!m&&decide (0<n)))))):=by
 unfold Ky;rcases Bg h with _|_|b
 ·rfl
 ·cases m<;>rfl
 cases m<;>rfl
theorem YD{h:List A4}{body:Bs}{m:Bool}{n:Nat}(H:Ky h body m n=true):U7 (Bg h)=m:=by
 rw[jS]at H;simp only[BL,BG]at H;exact H.2.2.1
theorem jT(H p:Option Go.Addr)(n c P d:Nat)(body:Bs)(m:Bool)(lb:Nat)(a b:Int)(w:World)(f:A1 w lb #[.int .i64 b] 3)(l:0≤b∧b≤40)(g:0≤a∧a≤4)(h:a=4∨b=40):Calls prog 127 #[.agg #[.slice H n c,.string ⟨body.toArray⟩,.bool m,.slice p P d],.int .i64 a,.pointer (some ⟨lb,0,none⟩)] w fun e W=>e=.returned (.tuple #[.string ⟨#[]⟩,.int .i64 4])∧A5 lb w.heap.size w W:=by
 have k:=f.cell 0;have i:=f.lt;have j:w.heap.size≠lb:=by omega
 have B:A5 lb w.heap.size w (w.alloc (.cells #[.slice H n c,.string ⟨body.toArray⟩,.bool m,.slice p P d] 44)):=A5.of ((AD _ _).alloc (AC _) _);by_cases o:(40:Int)≤b
 ·go_enter func127,ntmps127;go_wp2_with fail;go_ret2;exact⟨rfl,B⟩
 have q:(4:Int)≤a:=by omega
 clear h;go_enter func127,ntmps127;go_wp2_with fail;go_ret2;exact⟨rfl,B⟩
theorem YE(d L N:Nat)(s C:Option Go.Addr)(i D:Nat)(body:Bs)(m:Bool)(h:List A4)(ps:List A8)(raws:List Ao)(lb:Nat)(A g:Int)(w:World)(a1:Hid (A=4-((d+1:Nat):Int)))(b5:d+1≤4)(a2:Hid (g=40-((L+1:Nat):Int)))(hl:L+1≤40)(hg:Gz w)(a3:8<lb)(u:A1 w lb #[.int .i64 g] 3)
  (a4:Aq 2 Au (fun b=>b≠lb) w (.slice s h.length i) h) (a5:Av h≤120000) (b6:body.length≤40000000) (b7:ps.length≤1000000)
  (a6:Aq 4 D5 (fun b=>b≠lb) w (.slice C ps.length D) raws) (b8:raws.length=ps.length) (a7:Hid (∀k(v:k<raws.length)(y:k<ps.length),A7 (fun b=>b≠lb) N w raws[k] ps[k])) (a8:Hid (∀p∈ps,Ft N p))
  (ih:∀(I:Nat)(a9:Ao)(p:A8)(A g:Int)(w:World),Hid (A=4-(d:Int))→Hid (g=40-(I:Int))→I≤40→Gz w→A1 w lb #[.int .i64 g] 3→A7 (fun b=>b≠lb) N w a9 p→Ft N p→Calls prog 127 #[Bm a9,.int .i64 A,.pointer (some ⟨lb,0,none⟩)] w fun e E=>Rp lb I (Bh d I p) e E∧A5 lb w.heap.size w E):
  Calls prog 127 #[.agg #[.slice s h.length i,.string ⟨body.toArray⟩,.bool m,.slice C ps.length D],.int .i64 A,.pointer (some ⟨lb,0,none⟩)] w fun e E=>Rp lb (L+1) (Bh (d+1) (L+1) (.mk h body m ps)) e E∧A5 lb w.heap.size w E:=by
 have P:=AB (UJ d L h body m ps);have c8:0≤g∧g≤39:=by have:=a2.o;omega
 have c9:0≤A∧A≤3:=by have:=a1.o;omega
 have b9:=AB (by have:=a2.o;omega:g+1=40-(L:Int));have c0:=u.lt;have d0:w.heap.size≠lb:=by omega
 have b0:=(Em a5).mono (m:=1000000) (by decide);have kc:=u.cell 0;have kf:=u.free 0;have c1:(w.setCell ⟨lb,0,none⟩ (.int .i64 (g+1))).cell? ⟨lb,0,none⟩=some (.int .i64 (g+1)):=(u.set 0 _).cell 0;have BO:A5 lb w.heap.size w (w.setCell ⟨lb,0,none⟩ (.int .i64 (g+1))):=(A5.refl _ _ _).set _;have z:=(AD (w.setCell ⟨lb,0,none⟩ (.int .i64 (g+1))).heap.size (w.setCell ⟨lb,0,none⟩ (.int .i64 (g+1)))).alloc (AC _) (.cells #[.slice s h.length i,.string ⟨body.toArray⟩,.bool m,.slice C ps.length D] 44);have c:A1 (w.setCell ⟨lb,0,none⟩ (.int .i64 (g+1))) lb #[.int .i64 (g+1)] 3:=u.set 0 _;have c:=c.next z c.lt;have H:=A1.new (w.setCell ⟨lb,0,none⟩ (.int .i64 (g+1))) #[.slice s h.length i,.string ⟨body.toArray⟩,.bool m,.slice C ps.length D] 44;rw[EL]at H;have F:=BO.next z (by simp);have J:=(a4.set (a:=⟨lb,0,none⟩) (.int .i64 (g+1)) (fun h=>h rfl)).next z;have S:=(a6.set (a:=⟨lb,0,none⟩) (.int .i64 (g+1)) (fun h=>h rfl)).next z;have T:=AB (fun k v y=>((a7.o k v y).set (a:=⟨lb,0,none⟩) (.int .i64 (g+1)) (fun h=>h rfl)).next z);have O:=hg.Ag F a3;have c2:((w.setCell ⟨lb,0,none⟩ (.int .i64 (g+1))).alloc (.cells #[.slice s h.length i,.string ⟨body.toArray⟩,.bool m,.slice C ps.length D] 44)).heap.size=w.heap.size+1:=by simp
 have G:=fun W U hG=>jC (.slice s h.length i) h W U b0 hG
 have f:=fun W U=>cS (.slice s h.length i) h W U (b0.ok (by decide))
 have K:=AB (jS h body m ps.length);have M:=AB (fun i=>YD (h:=h) (body:=body) (m:=m) (n:=ps.length) i);obtain⟨bs,b1⟩:=YB (Bg h);have V:=YC (Bg h);rw[b1]at G;generalize Ky h body m ps.length=ck at P K M;generalize U7 (Bg h)=Q at G K M;generalize Pv (Bg h)=er at G K V;generalize Ca h=rf at f K;have j:=H.cell;clear u a4 a6 a7 hg b1 z;go_enter func127,ntmps127;go_wp2_with fail;generalize World.alloc _ _=W1 at c H F J S T O c2 j⊢;clear kc kf c1 BO;with_reducible refine(G _ J.rd O.r).mono ?_
 rintro e w2⟨rfl,o⟩;have c:=c.next o c.lt;have H:=H.next o H.lt;have R:=J.next o;have X:=S.next o;have Y:=AB (fun k v y=>(T.o k v y).next o);have b2:=O.next o;have Z:=F.next o F.size;have d1:=o.size;have j:=H.cell;clear G o O F J S T;have f:=f _ R.rd;go_upto_region 5 with fail;go_cut[88] (fun t wx=>t=.bool (!ck)∧Below w2.heap.size w2 wx)
 case first=>
  clear P M R X Y a8 ih;cases rf with
  |false=>
   go_wp2_with fail;with_reducible refine f.mono ?_
   rintro e q⟨rfl,B⟩;go_wp2_with fail;go_meet;exact⟨by rw[K.o];rfl,B⟩
  |true=>
   rcases V with rfl|rfl
   ·go_wp2_with fail;with_reducible refine f.mono ?_
    rintro e q⟨rfl,B⟩;go_wp2_with fail;go_meet;exact⟨by rw[K.o];rfl,B⟩
   cases m with
   |true=>
    cases Q with
    |false=>
     go_wp2_with fail;with_reducible refine f.mono ?_
     rintro e q⟨rfl,B⟩;have j:=(H.next B H.lt).cell;go_wp2_with fail;go_meet;exact⟨by rw[K.o];rfl,B⟩
    |true=>
     generalize d2:body.isEmpty=be at K;cases be with
     |false=>
      go_wp2_with fail;with_reducible refine f.mono ?_
      rintro e q⟨rfl,B⟩;have j:=(H.next B H.lt).cell;go_wp2_with fail;go_meet;exact⟨by rw[K.o];rfl,B⟩
     |true=>
      go_wp2_with fail;with_reducible refine f.mono ?_
      rintro e q⟨rfl,B⟩;have j:=(H.next B H.lt).cell;go_wp2_with fail;go_meet;exact⟨by rw[K.o];rfl,B⟩
   |false=>
    cases Q with
    |true=>
     go_wp2_with fail;with_reducible refine f.mono ?_
     rintro e q⟨rfl,B⟩;have j:=(H.next B H.lt).cell;go_wp2_with fail;go_meet;exact⟨by rw[K.o];rfl,B⟩
    |false=>
     by_cases b3:0<ps.length
     ·have a0:=AB (BD b3);have c3:(0:Int)<ps.length:=by omega
      go_wp2_with fail;with_reducible refine f.mono ?_
      rintro e q⟨rfl,B⟩;have j:=(H.next B H.lt).cell;go_wp2_with fail;go_meet;exact⟨by rw[K.o,a0.o];rfl,B⟩
     have a0:=AB (AX b3);have c3:¬(0:Int)<ps.length:=by omega
     go_wp2_with fail;with_reducible refine f.mono ?_
     rintro e q⟨rfl,B⟩;have j:=(H.next B H.lt).cell;go_wp2_with fail;go_meet;exact⟨by rw[K.o,a0.o];rfl,B⟩
 case rest=>
 obtain⟨rfl,B⟩:=hcut;obtain⟨q,rfl⟩:∃x:World,x=wc:=⟨_,rfl⟩;have c:=c.next B c.lt;have H:=H.next B H.lt;have c4:=R.next B;have c5:=X.next B;have c6:=AB (fun k v y=>(Y.o k v y).next B);have c7:=b2.next B;have B3:=Z.next B Z.size;clear f B b2 Z R X Y j K V;cases ck with
 |false=>
  have HN:=AB (by rw[P.o,AM rfl]:Bh (d+1) (L+1) (.mk h body m ps)=.error 1);clear P M;go_wp2_with fail;go_ret2;exact⟨Or.inr ⟨1,HN.o,by decide,rfl⟩,B3⟩
 |true=>
  obtain rfl:=M.o rfl;have HR:Hid (∀r,By (Bh d) L ps=r→Bh (d+1) (L+1) (.mk h body Q ps)=match r with
   | .error e=>.error e
   | .ok (l,n)=>.ok (O0 h body Q l,n)):=AB (fun r hr=>by subst hr;rw[P.o,AI (by decide)];cases By (Bh d) L ps<;>rfl)
  rw[b9.o]at c;clear P M;go_upto_region 7 with fail;go_cut[11] (fun t wx=>t=.slice none 0 0∧wx=q)
  case first=>
   go_wp2_with fail;go_meet;exact⟨rfl,by first|rfl|trivial⟩
  case rest=>
  obtain⟨rfl,b4⟩:=hcut;obtain rfl:=b4.symm;clear b4;apply_assumption;exact XY a1 b5 hl a3 c0 B3 (AC _) H c4 a5 b6 c5 b8 c6 a8 c c7 b7 ih HR
theorem YF(lb:Nat)(F:8<lb)(d:Nat):∀(n l:Nat)(r:Ao)(p:A8)(A B:Int)(w:World),Hid (A=4-(d:Int))→d≤4→Hid (B=40-(l:Int))→l≤40→Gz w→A1 w lb #[.int .i64 B] 3→A7 (fun b=>b≠lb) n w r p→Ft n p→Calls prog 127 #[Bm r,.int .i64 A,.pointer (some ⟨lb,0,none⟩)] w fun e W=>Rp lb l (Bh d l p) e W∧A5 lb w.heap.size w W:=by
 induction d with
 |zero=>
  intro n l r p A B w H _ g u v q s x;obtain⟨⟨f,i,j⟩,y,m,⟨P,k,o⟩⟩:=r;refine(jT f P i j k o y m lb A B w q (by have:=g.o;omega) (by have:=H.o;omega) (Or.inl (by have:=H.o;omega))).mono ?_;rintro e W⟨rfl,t⟩;exact⟨Or.inr ⟨4,rfl,by decide,rfl⟩,t⟩
 |succ d ih=>
  intro n l r p A B w H G g u v q s x;cases l with
  |zero=>
   obtain⟨⟨f,i,j⟩,y,m,⟨P,k,o⟩⟩:=r;refine(jT f P i j k o y m lb A B w q (by have:=g.o;omega) (by have:=H.o;omega) (Or.inr (by have:=g.o;omega))).mono ?_;rintro e W⟨rfl,t⟩;exact⟨Or.inr ⟨4,rfl,by decide,rfl⟩,t⟩
  |succ L=>
   cases n with
   |zero=>exact s.elim
   |succ n=>
    obtain⟨h,b,m,z⟩:=p;obtain⟨⟨f,i,j⟩,y,M,⟨P,k,o⟩⟩:=r;obtain⟨rfl,rfl,C,R,D,E,I⟩:=s;obtain⟨J,K,N,O⟩:=x;have Q:i=h.length:=by
     obtain⟨a,c,e,_⟩:=C;injection e
    have S:k=z.length:=by
     obtain⟨a,c,e,_⟩:=D;injection e with _ e _;exact e.trans E
    subst Q S;exact YE d L n f P j o y M h z R lb A B w H G g u v F q C J K N D E (AB I) (AB O) (fun l r p A B w T U V X Y Z a7=>ih n l r p A B w T (by omega) U V X Y Z a7)
def U8(r:Except Int Bs)(e:Ending):Prop:=(∃s,r=.ok s∧s.length≤20000∧e=.returned (.tuple #[.string ⟨s.toArray⟩,.int .i64 0]))∨(∃c,r=.error c∧1≤c∧e=.returned (.tuple #[.string ⟨#[]⟩,.int .i64 c]))
theorem YG(o:Nat)(R:Ao)(p:A8)(w:World)(d:A7 (fun _=>True) o w R p)(z:Ft o p)(q:Gz w):Calls prog 75 #[Bm R] w fun e A=>U8 (Ig p) e∧Below w.heap.size w A:=by
 have L:=q.size;have H:=AB (show Ig p=match Bh 4 40 p with
  | .error e=>.error e
  | .ok (s,_)=>if 20000<s.length then .error 4 else .ok s from rfl)
 have I:=fun W C a D=>YF (w.heap.size+1) (by omega) 4 o 40 R p 0 0 W (AB rfl) (by decide) (AB rfl) (by decide) C a D z
 have d:=A7.Ad (Q:=fun b=>b≠w.heap.size+1) (fun b _ h=>by omega) d;obtain⟨⟨f,g,i⟩,B,m,⟨P,j,k⟩⟩:=R;simp only[Bm,A9]at I⊢;have l:=((AD w.heap.size w).alloc (AC _) (.cells #[.slice f g i,.string ⟨B.toArray⟩,.bool m,.slice P j k] 44)).alloc (by simp) (.cells #[.int .i64 0] 3);have v:=(A1.new w #[.slice f g i,.string ⟨B.toArray⟩,.bool m,.slice P j k] 44).alloc (.cells #[.int .i64 0] 3);have t:=A1.new (w.alloc (.cells #[.slice f g i,.string ⟨B.toArray⟩,.bool m,.slice P j k] 44)) #[.int .i64 0] 3;rw[AV]at t;have I:=I _ (q.next l) t (d.next l);have E:((w.alloc (.cells #[.slice f g i,.string ⟨B.toArray⟩,.bool m,.slice P j k] 44)).alloc (.cells #[.int .i64 0] 3)).heap.size=w.heap.size+1+1:=by simp
 have K:=v.cell;clear d q;generalize Bh 4 40 p=r at I H;go_enter func75,ntmps75;go_wp2_with fail;generalize World.alloc _ _=M at I l v t E K⊢;with_reducible refine I.mono ?_
 rintro e O⟨F,x⟩;have u:=l.trans ((x.mono (B':=w.heap.size) (by omega)).shut (by omega));clear I x K;rcases F with⟨s,n,rfl,_,_,rfl,_⟩|⟨c,rfl,y,rfl⟩
 ·by_cases a:20000<s.length
  ·have N:=AB (by rw[H.o];simp only;rw[AM a]:Ig p=.error 4);have a:(20000:Int)<s.length:=by omega
   clear H;go_wp2_with fail;go_ret2;exact⟨Or.inr ⟨4,N.o,by decide,rfl⟩,u⟩
  have N:=AB (by rw[H.o];simp only;rw[AI a]:Ig p=.ok s);have G:s.length≤20000:=by omega
  have a:¬(20000:Int)<s.length:=by omega
  clear H;go_wp2_with fail;go_ret2;exact⟨Or.inl ⟨s,N.o,G,rfl⟩,u⟩
 have N:=AB (show Ig p=.error c from H.o);have J:=AB y;have S:¬c=0:=by omega
 clear H y;go_wp2_with fail;go_ret2;exact⟨Or.inr ⟨c,N.o,J.o,rfl⟩,u⟩
end Go.Proofs.YtignjjnflcpiiaaGreatDoor
