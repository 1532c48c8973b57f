/- slices.DeleteFunc with part.given. Condition: at most 10^ -/
import Derived.Test.YtignjjnflcpiiaaGreatDoorS24
set_option linter.all false
set_option maxHeartbeats 16000000
set_option maxRecDepth 100000
namespace Go.Proofs.YtignjjnflcpiiaaGreatDoor
open Go Go.RowKit Proofs.Tryz Lib
theorem fL(l:List A4):Bz l=l.filter fun f=>!(Ha f):=rfl
theorem fM(p:A4→Bool):∀(l:List A4)(k:Nat),(Jk p l k=-1∧(l.filter fun f=>!(p f))=l)∨∃j,j<l.length∧Jk p l k=((k+j:Nat):Int)∧(l.filter fun f=>!(p f))=l.take j++((l.drop (j+1)).filter fun f=>!(p f))
 |[],k=>Or.inl ⟨rfl,rfl⟩
 |f::l,k=>by
  unfold Jk;cases h:p f with
  |true=>
   refine Or.inr ⟨0,by simp,by simp,?_⟩;simp[h]
  |false=>
   rcases fM p l (k+1)with⟨a,H⟩|⟨j,a,H,b⟩
   ·refine Or.inl ⟨by simpa using a,?_⟩;simp only[DA,h,EH,DC,H]
   refine Or.inr ⟨j+1,by simp;omega,?_,?_⟩
   ·simp only[BU,DJ,H];omega
   simp only[DA,h,EH,DC,b];rfl
theorem RT(v:Value)(l:List A4)(B:Nat)(w:World)(h:Bk w B v l)(p:L7 l)(F:Gr w)(b2:3<B):Calls prog 193 #[v,.func (.func 195) #[] #[]] w fun e t=>∃V,e=.returned V∧Bk t B V (Bz l)∧(Below w.heap.size w t∨∃g,B≤g∧A5 g w.heap.size w t):=by
 have I:=yU v l w (A0.rd (by decide) Ah h) p F;have b3:=p.1;have a0:=AB p.2;clear p;rcases fM Ha l 0 with⟨k,m⟩|⟨n,b4,k,m⟩
 ·rw[k]at I;have N:=AB (show Bz l=l from m);clear k m;go_enter func193,ntmps193;go_wp2_with fail;with_reducible refine I.mono ?_
  rintro e w1⟨rfl,a⟩;go_wp2_with fail;go_ret;exact⟨_,rfl,by rw[N.o];exact A0.next h a,Or.inl a⟩
 rw[k,EX]at I;have H:=AB (show Bz l=l.take n++Bz (l.drop (n+1))from m);clear k m;obtain⟨g,c,q⟩:∃g c,v=.slice (some ⟨g,0,none⟩) l.length c:=by
  rcases h.2 with⟨q,h0⟩|⟨g,c,b5,q,_⟩
  ·omega
  exact⟨g,c,q⟩
 subst q;obtain⟨_,_,_,a1,b6,_,_,_⟩:=h.row;go_enter func193,ntmps193;go_wp2_with fail;with_reducible refine I.mono ?_
 rintro e w1⟨rfl,a⟩;have h:=A0.next h a;have b7:((n:Int)==-1)=false:=by rw[AG];omega
 clear I;go_wp2_with fail;go_loopw[5,6] (fun iv u wr=>∃(i j:Nat)(Y:List A4),iv=.int .i64 i∧u=.int .i64 j∧i<j∧j≤l.length∧Y.length=l.length∧Bk wr B (.slice (some ⟨g,0,none⟩) l.length c) Y∧Hid (Bz l=Y.take i++Bz (l.drop j))∧Hid (Y.drop j=l.drop j)∧Gr wr∧A5 g w.heap.size w wr) (fun _ u _=>l.length-(intOf u).toNat)
 case atStart=>exact⟨n,n+1,l,rfl,by go_num,by omega,by omega,rfl,h,H,AB rfl,F.next a,A5.of a⟩
 clear h H;obtain⟨i,j,Y,rfl,rfl,b8,hj,L,h,H,r,a2,O⟩:=hrel;by_cases M:j<l.length
 ·have P:Y[j]'(by omega)=l[j]:=by
   have d:=AF (fun z:List A4=>z[0]?) r.o;simp only[GS,BI]at d;rw[AZ M,AZ (by omega)]at d;exact CS d
  have D:=a0.o l[j] (AN _);have C:=A0.cellAt Ah h j (by omega) 0 (by decide);have s:=A0.cellAt Ah h j (by omega) 1 (by decide);have Q:=A0.cellAt Ah h i (by omega) 0 (by decide);have R:=A0.cellAt Ah h i (by omega) 1 (by decide);rw[P]at C s;have J:=AB (show Bz (l.drop j)=if Ha l[j]then Bz (l.drop (j+1))else l[j]::Bz (l.drop (j+1))from by
   rw[AE M,fL,fL,DA];cases Ha l[j]<;>rfl)
  have E:=AB (show Y.drop (j+1)=l.drop (j+1)from by
   have d:=AF (List.drop 1) r.o;rw[DW,DW]at d;exact d)
  clear P;generalize l[j]=f at D C s J;obtain⟨x,y⟩:=f;simp only[Au,BI,AR,AT]at D C s Q R;have K:=A1.new wr #[.string ⟨x.toArray⟩,.string ⟨y.toArray⟩] 92;have A:=(AD wr.heap.size wr).alloc (AC _) (.cells #[.string ⟨x.toArray⟩,.string ⟨y.toArray⟩] 92);have G:=fun W hW=>eS x y W D.1 hW
  generalize a3:Ha (x,y)=bg at G J;have S:=O.next A O.size;have T:=a2.next A;have h:=A0.next h A;have i0:(0:Int)≤i:=by omega
  have i1:(i:Int)<l.length:=by omega
  have i2:(0:Int)≤j:=by omega
  have i3:(j:Int)<l.length:=by omega
  clear a3;have U:=K.cell;go_wp2_with fail;with_reducible refine(G _ T).mono ?_
  rintro e w3⟨rfl,o⟩;have K:=K.next o K.lt;have h:=A0.next h o;have X:=S.next o S.size;have Z:=T.next o;clear G o A U;cases bg with
  |true=>
   have N:=AB (by rw[H.o,J.o];rfl:Bz l=Y.take i++Bz (l.drop (j+1)));clear H J;go_wp2_with fail;go_roundw
   case rel=>exact⟨i,j+1,Y,rfl,by go_num,by omega,by omega,L,h,N,E,Z,X⟩
   simp[intOf];omega
  |false=>
   have a4:=A0.cellAt Ah h i (by omega) 0 (by decide);have a5:=A0.cellAt Ah h i (by omega) 1 (by decide);simp only[Au,BI,AR,AT]at a4 a5;have b9:=A0.free h;have U:=K.cell;have a6:=Bk.setAt h i (by omega) x y;have N:=AB (show Bz l=(Y.set i (x,y)).take (i+1)++Bz (l.drop (j+1))from by
    rw[H.o,J.o,AU (by rw[EV];omega),IG,List.take_set_of_le (AC i)];simp)
   have a7:=AB (by rw[←E.o,List.drop_set_of_lt (by omega)]:(Y.set i (x,y)).drop (j+1)=l.drop (j+1));have a8:Gr ((w3.setCell ⟨g,i*2,none⟩ (.string ⟨x.toArray⟩)).setCell ⟨g,i*2+1,none⟩ (.string ⟨y.toArray⟩)):=Z.keep fun b hb=>(Gp _ _ _ b (by simp only;omega)).trans (Gp _ _ _ b (by simp only;omega))
   have a9:=(X.set (j:=i*2) (.string ⟨x.toArray⟩)).set (j:=i*2+1) (.string ⟨y.toArray⟩);clear H J C s Q R r E h;go_wp2_with fail;go_roundw
   case rel=>exact⟨i+1,j+1,Y.set i (x,y),by go_num,by go_num,by omega,by omega,by rw[EV];exact L,a6,N,a7,a8,a9⟩
   simp[intOf];omega
 obtain rfl:j=l.length:=by omega
 have N:=AB (by rw[H.o,AQ];simp[Bz]:Bz l=Y.take i);have i1:(i:Int)<l.length:=by omega
 have i2:(i:Int)≤c:=by omega
 have i3:¬(c=i):=by omega
 have i4:(0:Int)≤i:=by omega
 clear H r;go_wp2_with(refine yX (by rfl) _ (by rfl) B g l.length c i (l.length-i) (c-i) Y (by omega) rfl h (by rfl) ?_;intro w4 b0 b1);go_wp2_with fail;go_ret;exact⟨_,rfl,by rw[N.o];exact b0,Or.inr ⟨g,a1,O.trans (b1.mono O.size)⟩⟩
def Im(r:Nat):Bool:=r !=9&&(decide (r<32)||decide (126<r))
theorem RU(r:Nat)(h:128≤r):Im r=true:=by
 unfold Im;rw[BD (show 126<r by omega)];have:(r !=9)=true:=by rw[CZ];omega
 rw[this];simp
theorem RV:((List.range 256).all fun n=>L8 n.toUInt8==!(Im n.toUInt8.toNat))=true:=by kernel_rfl
theorem RW(c:UInt8):L8 c=!(Im c.toNat):=by
 have:=AW.1 RV c.toNat (BY.2 c.toNat_lt);rw[Q9]at this;exact BG.1 this
theorem RX(s:Bs):Ie s=!((replaceAll s [13,10] []).any fun c=>Im c.toNat):=by
 unfold Ie;rw[List.not_any_eq_all_not];congr 1;funext c;exact RW c
theorem RY(r:Nat)(c:r≤1114111)(w:World):Calls prog 305 #[.int .i32 (r:Int)] w fun e W=>e=.returned (.bool (Im r))∧w=W:=by
 by_cases H:r=9
 ·subst H;go_enter func305,ntmps305;go_wp2_with fail;go_ret;exact⟨Ba rfl,rfl⟩
 have h:(r !=9)=true:=by rw[CZ];exact H
 have E:((r:Int)!=9)=true:=by rw[CZ];omega
 by_cases a:r<32
 ·have B:=AB (by unfold Im;rw[BD a,h];rfl:Im r=true);have a:(r:Int)<32:=by omega
  clear H h;go_enter func305,ntmps305;go_wp2_with fail;go_ret;exact⟨Ba B.o.symm,rfl⟩
 by_cases b:126<r
 ·have B:=AB (by unfold Im;rw[BD b,h];simp:Im r=true);have a:¬(r:Int)<32:=by omega
  have b:(126:Int)<r:=by omega
  clear H h;go_enter func305,ntmps305;go_wp2_with fail;go_ret;exact⟨Ba B.o.symm,rfl⟩
 have B:=AB (by unfold Im;rw[AX b,AX a,h];rfl:Im r=false);have a:¬(r:Int)<32:=by omega
 have b:¬(126:Int)<r:=by omega
 clear H h;go_enter func305,ntmps305;go_wp2_with fail;go_ret;exact⟨Ba B.o.symm,rfl⟩
theorem RZ(w:World):PredGrows prog 305 #[] Im w:=fun W x h _=>
 (RY x h W).mono fun _ _⟨H,a⟩=>⟨H,a▸AD _ _⟩
theorem SA(s:Bs)(w:World)(f:s.length≤4000000000)(g:Gr w):Calls prog 267 #[.string ⟨s.toArray⟩] w fun e a=>e=.returned (.bool (Ie s))∧Below w.heap.size w a:=by
 obtain⟨m,b⟩:=g.g.maxLen;have h:=Tryz.strings_ReplaceAll ⟨s.toArray⟩ ⟨#[13,10]⟩ ⟨#[]⟩ m w (by show s.length<_;omega) b (by decide) (by show s.length+_*0≤_;omega);have H:=AB (RX s);have h:Calls prog 304 #[.string ⟨s.toArray⟩,.string ⟨#[13,10]⟩,.string ⟨#[]⟩] w fun e a=>e=.returned (.string ⟨(replaceAll s [13,10] []).toArray⟩)∧Below w.heap.size w a:=h
 generalize replaceAll s [13,10] []=t at h H;have C:=fun W=>Vh 305 (enters_of func305 (by kernel_rfl) rfl) Im RU t #[] W (RZ W)
 generalize(t.any fun c=>Im c.toNat)=q at C H;clear b g;go_enter func267,ntmps267;go_wp2_with fail;with_reducible refine h.mono ?_
 rintro e i⟨rfl,B⟩;go_wp2_with fail;with_reducible refine(C _).mono ?_
 rintro e j⟨rfl,d⟩;go_wp2_with fail;go_ret;exact⟨Ba (by rw[H.o]),B.trans (d.mono B.size)⟩
variable {s n b o m:Bs}{w' w:World}{B g cap k N:Nat}{Y ps l:List A4}
theorem fN(h:Ie s=true):Ck s=(Iz,s):=by unfold Ck;rw[AM h]
theorem fO(h:Ie s=false)(H:(Fh s).length≤(Ew s).length):Ck s=(Hw,Fh s):=by unfold Ck;rw[AI (by rw[h];decide),AM H]
theorem fP(h:Ie s=false)(H:¬(Fh s).length≤(Ew s).length):Ck s=(Ib,Ew s):=by unfold Ck;rw[AI (by rw[h];decide),AI H]
theorem fQ(s:Bs):(Ck s).1.length≤16∧(Ck s).2.length≤6*s.length:=by
 unfold Ck;have h:=Rr s;have H:=Ug s;split
 ·exact⟨show Iz.length≤16 by decide,by simp only;omega⟩
 split
 ·exact⟨show Hw.length≤16 by decide,h⟩
 exact⟨show Ib.length≤16 by decide,H⟩
theorem SB(s:Bs)(w:World)(j:s.length≤4000000000)(l:Gr w):Calls prog 196 #[.string ⟨s.toArray⟩] w fun e m=>e=.returned (.tuple #[.string ⟨(Ck s).1.toArray⟩,.string ⟨(Ck s).2.toArray⟩])∧Below w.heap.size w m:=by
 have P:=SA s w j l;have c:=AB (fun h=>fN (s:=s) h);have H:=AB (fun h d=>fO (s:=s) h d);have a:=AB (fun h d=>fP (s:=s) h d);have Q:=fun W=>oF s W (by omega)
 have K:=fun W=>pY s W (by omega)
 have n:=Rr s;have o:=Ug s;generalize Ie s=b at P c H a;generalize Ck s=z at c H a⊢;generalize Fh s=q at Q n H a;generalize Ew s=k at K o H a;go_enter func196,ntmps196;go_wp2_with fail;with_reducible refine P.mono ?_
 rintro e x⟨rfl,B⟩;cases b with
 |true=>
  have N:=AB (c.o rfl);go_wp2_with fail;go_ret2;exact⟨by rw[N.o];rfl,B⟩
 |false=>
  have p:=AB (H.o rfl);have r:=AB (a.o rfl);clear c H a;go_wp2_with fail;with_reducible refine(Q _).mono ?_
  rintro e y⟨rfl,t⟩;have f:=B.trans (t.mono B.size);go_wp2_with fail;with_reducible refine(K _).mono ?_
  rintro e A⟨rfl,u⟩;have g:=f.trans (u.mono f.size);by_cases i:q.length≤k.length
  ·have N:=AB (p.o i);have v:(q.length:Int)≤k.length:=by omega
   go_wp2_with fail;go_ret2;exact⟨by rw[N.o];rfl,g⟩
  have N:=AB (r.o i);have v:¬(q.length:Int)≤k.length:=by omega
  go_wp2_with fail;go_ret2;exact⟨by rw[N.o];rfl,g⟩
def Di{α:Type}(p:α→Bool):List α→Nat→Int
 |[],_=>-1
 |f::l,k=>if p f then k else Di p l (k+1)
theorem Tm{α:Type}(p:α→Bool):∀(l:List α)(k:Nat),decide (0≤Di p l k)=l.any p
 |[],_=>rfl
 |f::l,k=>by
  unfold Di;cases h:p f with
  |true=>simp[h]
  |false=>
   have:=Tm p l (k+1);simp only[BU,DJ,FH,h,IV];exact this
theorem SC(g C:Nat)(E:∀A w,(callFunc g A).run prog w=.ok (.enter g A) w)(p:Bs→Bool)(v:Value)(l:List Bs)(w:World)(r:E7 1 Bi w v l)(y:l.length≤1000000000000)
  (f:∀x∈l,∀W,Below w.heap.size w W→Calls prog g #[.string ⟨x.toArray⟩,.pointer (some ⟨C,0,none⟩)] W fun e c=>e=.returned (.bool (p x))∧Below W.heap.size W c):
  Calls prog 306 #[v,.func (.func g) #[] #[.pointer (some ⟨C,0,none⟩)]] w fun e c=>e=.returned (.int .i64 (Di p l 0))∧Below w.heap.size w c:=by
 obtain⟨a,z,rfl,j⟩:=r.opens Cw;have o:=AB j;have P:=AB f;clear j r f;go_enter func306,ntmps306;go_wp2_with fail;go_loopw[8] (fun i wr=>∃k:Nat,i=.int .i64 k∧k≤l.length∧Hid (Di p l 0=Di p (l.drop k) k)∧Below w.heap.size w wr) (fun i _=>l.length-(intOf i).toNat)
 case atStart=>exact⟨0,rfl,by omega,AB (by simp),AD _ _⟩
 obtain⟨k,rfl,D,d,B⟩:=hrel;by_cases t:k<l.length
 ·obtain⟨b,rfl,q,m⟩:=o.o k t;have h:=AB (by rw[AE t];rfl:Di p (l.drop k) k=if p l[k]then(k:Int)else Di p (l.drop (k+1)) (k+1));have s:wr.cell? ⟨b,k,none⟩=some (.string ⟨(l[k]).toArray⟩):=by
   have:=(B.cell (p:=⟨b,k*1+0,none⟩) q).trans (m 0 (by decide));simpa[Bi]using this
  have G:=P.o _ (AN t) wr B;clear m;generalize l[k]=x at h s G;generalize p x=u at G h;go_wp2_with fail;with_reducible refine G.mono ?_
  rintro e F⟨rfl,n⟩;have B:=B.trans (n.mono B.size);clear n G;cases u with
  |true=>
   have H:=AB (by rw[d.o,h.o];rfl:Di p l 0=(k:Int));go_wp2_with fail;go_ret;exact⟨Es (by rw[H.o]),B⟩
  |false=>
   have H:=AB (by rw[d.o,h.o];rfl:Di p l 0=Di p (l.drop (k+1)) (k+1));go_wp2_with fail;go_roundw
   case rel=>exact⟨k+1,by go_num,by omega,H,B⟩
   simp[intOf];omega
 obtain rfl:k=l.length:=by omega
 have H:=AB (by rw[d.o,AQ];rfl:Di p l 0=-1);go_wp2_with fail;go_ret;exact⟨Es (by rw[H.o]),B⟩
theorem SD(g c:Nat)(E:∀A w,(callFunc g A).run prog w=.ok (.enter g A) w)(p:Bs→Bool)(v:Value)(l:List Bs)(w:World)(h:E7 1 Bi w v l)(n:l.length≤1000000000000)
  (H:∀x∈l,∀W,Below w.heap.size w W→Calls prog g #[.string ⟨x.toArray⟩,.pointer (some ⟨c,0,none⟩)] W fun e a=>e=.returned (.bool (p x))∧Below W.heap.size W a):
  Calls prog 270 #[v,.func (.func g) #[] #[.pointer (some ⟨c,0,none⟩)]] w fun e a=>e=.returned (.bool (l.any p))∧Below w.heap.size w a:=by
 have I:=SC g c E p v l w h n H;have N:=AB (Tm p l 0);generalize Di p l 0=k at I N;clear H E h;go_enter func270,ntmps270;go_wp2_with fail;with_reducible refine I.mono ?_
 rintro e d⟨rfl,b⟩;go_wp2_with fail;go_ret;exact⟨Ba (by rw[←N.o]),b⟩
theorem SE(x b:Bs)(c:Nat)(w:World)(H:x.length<4294967281)(a:b.length≤1000000)(d:w.cell? ⟨c,0,none⟩=some (.string ⟨b.toArray⟩))(g:Gr w):Calls prog 271 #[.string ⟨x.toArray⟩,.pointer (some ⟨c,0,none⟩)] w fun e W=>e=.returned (.bool (contains x (45::45::b)))∧Below w.heap.size w W:=by
 have h:=Nm x (45::45::b) w H g.g;generalize contains x (45::45::b)=q at h;go_enter func271,ntmps271;go_wp2_with fail;with_reducible refine h.mono ?_
 rintro e f⟨rfl,rfl⟩;go_wp2_with fail;go_ret;exact⟨rfl,AD _ _⟩
theorem R8{n:Nat}:∀{l:List Bs},(∀x∈l,x.length≤n)→Bd l≤l.length*n
 |[],_=>by simp[Bd]
 |x::l,h=>by
  have a:=h x (by simp);have b:=R8 (l:=l) fun y H=>h y (by simp[H])
  have e:Bd (x::l)=x.length+Bd l:=by simp[Bd]
  rw[e,AO,DN];omega
theorem SF(v:Value)(l:List Bs)(w:World)(r:E7 1 Bi w v l)(J:l.length≤1000000)(H:∀x∈l,x.length≤4000000000)(o:Gz w):Calls prog 197 #[v] w fun e L=>e=.returned (.string ⟨(Cj l).toArray⟩)∧Below w.heap.size w L:=by
 have p:=R8 H;have Y:Bd l≤4000000000000000:=BC p (by have:=EM 4000000000 J;omega);have X:=AB H;have R:=AB r;have T:=AB (by rfl:Hy [45,45,98] l=Hj (fun n=>!Dd [45,45,98] l n) (20*(Bd l+l.length+1)) 0);have M:=AB (by rfl:Cj l=98::itoa (Hy [45,45,98] l));clear H r p;go_enter func197,ntmps197;go_wp2_with fail;go_loopw[3] (fun i wr=>∃k f:Nat,i=.int .i64 k∧k+f=20*(Bd l+l.length+1)∧Hid (Hy [45,45,98] l=Hj (fun n=>!Dd [45,45,98] l n) f k)∧Hid (∀j,j<k→Dd [45,45,98] l j=true)∧Below w.heap.size w wr) (fun i _=>20*(Bd l+l.length+1)-(intOf i).toNat)
 case atStart=>exact⟨0,_,rfl,by omega,T,AB (fun j h=>by omega),AD _ _⟩
 clear T;obtain⟨k,f,rfl,Z,F,A,B⟩:=hrel;have hk:=Qn _ _ k A.o;obtain⟨f,rfl⟩:∃n,f=n+1:=⟨f-1,by omega⟩;have d:=Mz (k:Int) (by omega) (by omega) wr (o.next B);have P:=CJ (k:Int) (by omega) (by omega);have g:=AB (by rfl:Dd [45,45,98] l k=l.any (fun s=>contains s (45::45::(98::itoa (k:Int)))));have O:=AB (show Dd [45,45,98] l k=false→Cj l=98::itoa (k:Int)from fun h=>by
  rw[M.o,F.o,aD (by rw[h];rfl)])
 generalize itoa (k:Int)=I at d P g O;go_wp2_with fail;with_reducible refine d.mono ?_
 rintro e a⟨rfl,t⟩;have u:=B.trans (t.mono B.size);have K:=A1.new a #[.string ⟨(98::I).toArray⟩] 9;have y:=(AD a.heap.size a).alloc (AC _) (.cells #[.string ⟨(98::I).toArray⟩] 9);have b:=u.trans (y.mono u.size);have Q:=o.next b;have C:=SD 271 a.heap.size (enters_of func271 (by kernel_rfl) rfl) (fun s=>contains s (45::45::(98::I))) v l (a.alloc (.cells #[.string ⟨(98::I).toArray⟩] 9)) (R.o.next b) (by omega) (fun x H W z=>SE x (98::I) a.heap.size W (by have:=X.o x H;omega) (by simp;omega) ((K.next z K.lt).cell 0) (Q.next z).r);rw[←g.o]at C;generalize D:Dd [45,45,98] l k=q at C O;have c:=AB D;have S:=K.cell;clear D g d t y;go_wp2_with fail;with_reducible refine C.mono ?_
 rintro e w4⟨rfl,m⟩;have U:=K.next m K.lt;have E:=b.trans (m.mono b.size);have a0:=U.cell;clear C m S;cases q with
 |true=>
  have N:=AB (by rw[F.o,aC (by rw[c.o];rfl)]:Hy [45,45,98] l=Hj (fun n=>!Dd [45,45,98] l n) f (k+1));have V:=AB (show∀j,j<k+1→Dd [45,45,98] l j=true from fun j h=>by
   rcases CN j k with G|G
   ·exact A.o j G
   obtain rfl:j=k:=by omega
   exact c.o)
  clear F A O c;go_wp2_with fail;go_roundw
  case rel=>exact⟨k+1,f,by go_num,by omega,N,V,E⟩
  simp[intOf];omega
 |false=>
  have N:=AB (O.o rfl);clear F A O c;go_wp2_with fail;go_ret;exact⟨by rw[N.o];rfl,E⟩
theorem Vx.get{e:Ending}(h:Vx B (Ay s) e w'):∃m p k E,e=.returned (.tuple #[.string ⟨m.toArray⟩,k,E])∧J2 w' B k p∧(Ay s).getD ([],[])=(m,p)∧m.length≤s.length∧Dh s.length p∧(Ay s=none∧E=.iface 30 (.int .i64 3)∨Ay s=some (m,p)∧E=.nilIface):=by
 rcases h with⟨m,l,v,H,a,b⟩|⟨H,a⟩
 ·have n:=Oy H;exact⟨m,l,v,_,a,b,by rw[H];rfl,n.1,n.2,Or.inr ⟨H,rfl⟩⟩
 exact⟨[],[],_,_,a,A0.nil _ _ _ _ _,by rw[H];rfl,by simp,⟨by simp,fun f c=>by cases c⟩,Or.inl ⟨H,rfl⟩⟩
theorem fR:∀(Y:List A4)(i:Nat)(y:Bs)(h:i<Y.length),(Y.flatMap Au).set (i*2+1) (.string ⟨y.toArray⟩)=(Y.set i ((Y[i]).1,y)).flatMap Au
 |[],i,_,h=>by simp at h
 |f::Y,0,y,_=>rfl
 |f::Y,i+1,y,h=>by
  have ih:=fR Y i y (by simpa using h);rw[IX,BT,BT,List.getElem_cons_succ,←ih,FI _ _ (by show 2≤_;omega)];have e:(i+1)*2+1-(Au f).length=i*2+1:=by show(i+1)*2+1-2=_;omega
  rw[e]
theorem A0.Tn{e:TypeId}{n:Nat}(h:A0 e 2 Au w B (.slice (some ⟨g,0,none⟩) n cap) Y)(i:Nat)(a:i<Y.length)(y:Bs):A0 e 2 Au (w.setCell ⟨g,i*2+1,none⟩ (.string ⟨y.toArray⟩)) B (.slice (some ⟨g,0,none⟩) n cap) (Y.set i ((Y[i]).1,y)):=by
 obtain⟨_,_,b,_⟩:=h.row;subst b;unfold A0 at h⊢;have H:=(FR h (i*2+1) (.string ⟨y.toArray⟩)).1;rw[fR Y i y a]at H;rw[EV];exact H
theorem fS(H:k<ps.length)(h:ps[k].1≠n)(s:Ch ps n b=ps.take k++Ch (ps.drop k) n b):Ch ps n b=ps.take (k+1)++Ch (ps.drop (k+1)) n b:=by
 rw[s,AE H];conv=>lhs;rw[Ch,AI h]
 rw[AU H,AJ];rfl
theorem fT(H:k<ps.length)(h:ps[k].1=n)(s:Ch ps n b=ps.take k++Ch (ps.drop k) n b):Ch ps n b=ps.set k ((ps[k]).1,b):=by
 rw[s,AE H];conv=>lhs;rw[Ch,AM h]
 rw[GB,AM H]
theorem X1(n b:Bs):∀p:List A4,(Ch p n b).length=p.length
 |[]=>rfl
 |f::p=>by unfold Ch;split<;>simp[X1 n b p]
theorem X2(c:b.length≤N):∀{p:List A4},Dh N p→Dh N (Ch p n b):=fun{p}h=>by
 refine⟨by rw[X1];exact h.1,?_⟩;have a:=h.2;clear h;induction p with
 |nil=>intro f H;cases H
 |cons g p ih=>
  intro f H;unfold Ch at H;split at H
  ·rcases CF.1 H with rfl|H
   ·exact⟨(a g (by simp)).1,c⟩
   exact a f (by simp[H])
  rcases CF.1 H with rfl|H
  ·exact a _ (by simp)
  exact ih (fun f H=>a f (by simp[H])) f H
theorem SG(v b:Bs)(w:World)(Y:v.length≤1000000)(Z:b.length≤1000000)(E:Gr w):Calls prog 198 #[.string ⟨v.toArray⟩,.string ⟨b.toArray⟩] w fun e w'=>e=.returned (.string ⟨(El v b).toArray⟩)∧Below w.heap.size w w':=by
 have R:=P0 v w (by omega) E.g;have N:=AB (by rfl:El v b=(Cz ((Ay v).getD ([],[])).1 (Ch ((Ay v).getD ([],[])).2 C9 b)).getD []);go_enter func198,ntmps198;go_wp2_with fail;refine R.mono ?_;rintro e w1⟨l,F⟩;obtain⟨m,P,kv,a6,rfl,H,I,a7,s,_⟩:=l.get;clear l R;rw[I]at N;have T:=E.next F;have s:=s.mono Y;have A:=fun W U(J:List A4)(h1:C7 W U J)(C:Dh 1000000 J)(K:Cb W)=>dH m U J W h1 (by omega) C.1 C.2 K
 have V:=AB (by simp:Ch P C9 b=P.take 0++Ch (P.drop 0) C9 b);clear I;obtain⟨X,kn,a0,rfl⟩:∃a n c,kv=.slice a n c:=by
  obtain⟨a,c,h,_⟩:=A0.rd (by decide) Ah H;exact⟨a,_,c,h⟩
 have a1:kn=P.length:=by
  obtain⟨a,c,h,_⟩:=A0.rd (by decide) Ah H;injection h
 subst a1;have a8:=s.1;go_wp2_with fail;go_loopw[19] (fun i wr=>∃k:Nat,i=.int .i64 k∧k≤P.length∧J2 wr w.heap.size (.slice X P.length a0) P∧Hid (Ch P C9 b=P.take k++Ch (P.drop k) C9 b)∧Gr wr∧Below w.heap.size w wr) (fun i _=>P.length-(intOf i).toNat)
 case atStart=>exact⟨0,rfl,by omega,H,V,T,F⟩
 clear H V T F;obtain⟨k,rfl,I,H,S,L,B⟩:=hrel;by_cases t:k<P.length
 ·obtain⟨g,a2⟩:∃g,X=some ⟨g,0,none⟩:=by
   obtain⟨a,c,h,C⟩:=C7.open (A0.rd (by decide) Ah H);injection h with h _ _;obtain⟨b,K,_⟩:=C k t;exact⟨b,h.trans K⟩
  subst a2;have M:=A0.cellAt Ah H k t 0 (by decide);have O:=A0.cellAt Ah H k t 1 (by decide);have a9:=A0.free H;have a3:=A0.Fp H g rfl;have u:=H.Tn k t b;have G:=AB (fun h=>fS (n:=C9) (b:=b) t h S.o);have j:=AB (fun h=>fT (n:=C9) (b:=b) t h S.o);simp only[Au,BI,AR,AT]at M O;generalize P[k]=f at M O u G j;obtain⟨x,y⟩:=f;simp only at M O u G j;by_cases q:x=C9
  ·have j:=AB (j.o q);have a4:(x==[98,111,117,110,100,97,114,121])=true:=by rw[BG];exact q
   have a5:Gr (wr.setCell ⟨g,k*2+1,none⟩ (.string ⟨b.toArray⟩)):=L.keep fun c hc=>Gp _ _ _ c (by have:=E.size;simp only;omega)
   have D:=B.setCell (p:=⟨g,k*2+1,none⟩) a3 (.string ⟨b.toArray⟩);have r:=A0.rd (by decide) Ah u;rw[←j.o]at r;have Q:=A _ _ _ r (X2 Z s) a5.g;clear G j S q A u H r;go_wp2_with fail;with_reducible refine Q.mono ?_
   rintro e w3⟨l,z⟩;rcases l with⟨o,d,rfl⟩|⟨ev,d,rfl,_⟩
   ·have N:=AB (by rw[N.o,d];rfl:El v b=o);clear d;go_wp2_with fail;go_ret;exact⟨Gx N.o.symm,D.trans (z.mono D.size)⟩
   have N:=AB (by rw[N.o,d];rfl:El v b=[]);clear d;go_wp2_with fail;go_ret;exact⟨Gx N.o.symm,D.trans (z.mono D.size)⟩
  have G:=AB (G.o q);have a4:(x==[98,111,117,110,100,97,114,121])=false:=by rw[AG];exact q
  clear j q S u;go_wp2_with fail;go_roundw
  case rel=>exact⟨k+1,by go_num,by omega,H,G,L,B⟩
  simp[intOf];omega
 obtain rfl:k=P.length:=by omega
 have j:=AB (by rw[S.o,CQ,AQ];simp[Ch]:Ch P C9 b=P);have r:=A0.rd (by decide) Ah H;have Q:=A _ _ _ r s L.g;rw[j.o]at N;clear j S A H r;go_wp2_with fail;with_reducible refine Q.mono ?_
 rintro e w3⟨l,z⟩;rcases l with⟨o,d,rfl⟩|⟨ev,d,rfl,_⟩
 ·have N:=AB (by rw[N.o,d];rfl:El v b=o);clear d;go_wp2_with fail;go_ret;exact⟨Gx N.o.symm,B.trans (z.mono B.size)⟩
 have N:=AB (by rw[N.o,d];rfl:El v b=[]);clear d;go_wp2_with fail;go_ret;exact⟨Gx N.o.symm,B.trans (z.mono B.size)⟩
theorem To:∀(b:Bs)(n:Nat),(D9 b n).length≤2*b.length+6
 |[],_=>by simp[D9]
 |[a],_=>by simp[D9,Fy]
 |[a,b],_=>by simp[D9,Fy]
 |a::b::c::l,n=>by
  unfold D9;split
  ·have:=To l 0;simp[Fy];omega
  have:=To l (n+4);simp[Fy];omega
theorem fU(s:Bs):(Ck s).2.length≤2*s.length+6:=by
 unfold Ck;have H:=To s 0;have a:Ew s=D9 s 0:=rfl;split
 ·simp only;omega
 split
 ·rename_i h;rw[a]at h;exact BC h H
 rw[a];exact H
theorem fV:∀(l:List A4)(o:Bs),F6 l=some o→o.length≤7*Av l
 |[],o,h=>by cases h;simp
 |f::l,o,h=>by
  unfold F6 at h;split at h
  ·cases H:F6 l with
   |none=>rw[H]at h;cases h
   |some O=>
    rw[H]at h;simp only[IC,GC]at h;subst h;have a:=Zh (f.1++58::32::Fl f) (f.2.drop (Fl f).length);have b:=fV l O H;have c:(Fl f).length≤f.2.length:=by have:=Lo f.2 [32];unfold Fl;omega
    rw[AH,Ge];simp at a;omega
  cases h
theorem Pl(h:D0 l=some o):o.length≤7*Av l+2:=by
 unfold D0 at h;simp only[BH]at h;obtain⟨O,H,rfl⟩:=h;have:=fV _ _ H;simp;omega
theorem Tp(p:A4→Bool):∀l:List A4,Av (l.filter p)≤Av l
 |[]=>AC _
 |f::l=>by
  have:=Tp p l;rw[DA,Ge];split
  ·rw[Ge];omega
  omega
theorem fW:∀(k:Nat)(rest:Bs)(l:List A4),Gy k rest=some l→Av l≤rest.length
 |0,_,_,h=>by cases h
 |k+1,rest,l,h=>by
  unfold Gy at h;cases H:Gc rest with
  |none=>rw[H]at h;cases h
  |some x=>
   obtain⟨f,r⟩:=x;rw[H]at h;have e:=Uo H;cases r with
   |nil=>simp only at h;cases h;rw[Ge];simp[Av];omega
   |cons c R=>
    simp only at h;split at h
    ·simp only[BH]at h;obtain⟨L,a,rfl⟩:=h;have:=fW k R L a;rw[Ge];simp at e;omega
    cases h
theorem SH(h:Ay s=some (m,l)):Av l≤s.length:=by
 unfold Ay at h;simp only at h;split at h
 ·simp only[BH]at h;obtain⟨L,H,a⟩:=h;cases a;split at H
  ·have:=fW _ _ _ H;have:=Lo s [59];omega
  cases H;simp[Av]
 cases h
theorem fX(s:Bs):((Ay s).getD ([],[])).1.length≤s.length∧Av ((Ay s).getD ([],[])).2≤s.length:=by
 cases h:Ay s with
 |none=>simp[Av]
 |some x=>
  obtain⟨m,l⟩:=x;exact⟨(Oy h).1,SH h⟩
theorem SI(v:Bs):(v.flatMap Dk).length≤2*v.length:=by
 induction v with
 |nil=>simp
 |cons c v ih=>
  have:(Dk c).length≤2:=by unfold Dk;split<;>(try split)<;>simp
  rw[BT,AH,AO];omega
theorem fY(v:Bs):(D3 v).length≤2*v.length+2:=by
 have:=SI v;unfold D3;split
 ·omega
 rw[AO,AH];show _+1+1≤_;omega
theorem fZ:∀(l:List A4)(o:Bs),Dq l=some o→o.length≤5*Av l
 |[],o,h=>by cases h;simp
 |p::l,o,h=>by
  unfold Dq at h;cases H:Gd p with
  |none=>rw[H]at h;cases h
  |some x=>
   rw[H]at h;simp only[BH]at h;obtain⟨O,a,rfl⟩:=h;have b:=fZ l _ a;have c:x.length≤5*(p.1.length+p.2.length+1):=by
    unfold Gd at H;split at H
    ·cases H;have:=fY p.2;simp;omega
    cases H
   rw[AH,Ge];omega
theorem SJ(h:Cz m l=some o):o.length≤m.length+5*Av l:=by
 unfold Cz at h;simp only at h;split at h
 ·simp only[BH]at h;obtain⟨O,H,rfl⟩:=h;have:=fZ _ _ H;simp;omega
 cases h
theorem gC(n b:Bs):∀l:List A4,Av (Ch l n b)≤Av l+b.length
 |[]=>by simp[Ch,Av]
 |f::l=>by
  unfold Ch;have:=gC n b l;split<;>(simp only[Ge];omega)
theorem SK(v b:Bs):(El v b).length≤6*v.length+5*b.length:=by
 unfold El;have H:=fX v;have a:=gC C9 b ((Ay v).getD ([],[])).2;simp only;cases h:Cz ((Ay v).getD ([],[])).1 (Ch ((Ay v).getD ([],[])).2 C9 b)with
 |none=>simp
 |some o=>have:=SJ h;simp only[CT];omega
theorem X3(b:Bs):∀l:List A4,Av (Dr l b)≤6*Av l+5*b.length
 |[]=>by simp[Dr,Av]
 |f::l=>by
  unfold Dr;have h:=SK f.2 b;have H:=X3 b l;split
  ·simp only[Ge];omega
  simp only[Ge];omega
theorem Tq(l:List A4):Av (Bz l)≤Av l:=Tp _ l
def Ft:Nat→A8→Prop
 |0,_=>False
 |n+1,.mk h b _ P=>Av h≤120000∧b.length≤40000000∧P.length≤1000000∧∀p∈P,Ft n p
theorem X4(l:List Bs)(H:l.length≤1000000)(h:∀x∈l,x.length≤4000000000):(Cj l).length≤22:=by
 have a:=aF [45,45,98] l;have b:=R8 h;have c:l.length*4000000000≤4000000000000000:=by omega
 have:=CJ (Hy [45,45,98] l:Nat) (by omega) (by omega);unfold Cj;simp;omega
theorem R9(b:Bs):∀l:List Bs,(Dw b l).length=Bd l+l.length*(b.length+6)
 |[]=>by simp[Dw,Bd]
 |s::l=>by
  have ih:=R9 b l;have e:Bd (s::l)=s.length+Bd l:=by simp[Bd]
  have E:Dw b (s::l)=(45::45::(b++13::10::(s++[13,10])))++Dw b l:=rfl;rw[e,E,AH,ih,show(s::l).length*(b.length+6)=l.length*(b.length+6)+(b.length+6)from DN _ _];simp;omega
def Tr(w l:Nat)(r:Except Int (Bs×Nat))(e:Ending)(w':World):Prop:=(∃s n,r=.ok (s,n)∧n<l∧s.length≤(l-n)*100000000∧e=.returned (.tuple #[.string ⟨s.toArray⟩,.nilIface])∧A1 w' w #[.int .i64 n] 172)∨(∃c s v,r=.error c∧e=.returned (.tuple #[.string s,v])∧Ly w' v c)
theorem gD(v:Value)(l:List A4)(B:Nat)(w:World)(n:Bk w B v l)(k:L7 l)(H:Gr w)(b:3<B)(a:B≤w.heap.size):Calls prog 193 #[v,.func (.func 195) #[] #[]] w fun e W=>∃V,e=.returned V∧Bk W B V (Bz l)∧Below B w W:=(RT v l B w n k H b).mono fun _ _⟨V,c,d,f⟩=>⟨V,c,d,by
  rcases f with h|⟨g,H,h⟩
  ·exact h.mono a
  exact(h.mono a).shut H⟩
theorem gE(a p:Option Go.Addr)(n c P b:Nat)(body:Bs)(m:Bool)(W:Nat)(d l:Int)(w:World)(H:A1 w W #[.int .i64 l] 172)(g:0≤l∧l≤40)(i:1≤d∧d≤5)(h:d=5∨l=0):Calls prog 106 #[.pointer (some ⟨W,0,none⟩),.agg #[.slice a n c,.string ⟨body.toArray⟩,.bool m,.slice p P b],.int .i64 d] w fun e f=>e=.returned (.tuple #[.string ⟨#[]⟩,.iface 30 (.int .i64 4)])∧A5 W w.heap.size w f:=by
 have k:=H.cell 0;have K:=H.free 0;have s:(w.setCell ⟨W,0,none⟩ (.int .i64 (l-1))).cell? ⟨W,0,none⟩=some (.int .i64 (l-1)):=(H.set 0 _).cell 0;have j:=H.lt;have o:w.heap.size≠W:=by omega
 have B:A5 W w.heap.size w (w.setCell ⟨W,0,none⟩ (.int .i64 (l-1))):=(A5.refl _ _ _).set _;by_cases q:l-1<0
 ·go_enter func106,ntmps106;go_wp2_with fail;go_ret2;exact⟨rfl,B.trans (A5.of ((AD _ _).alloc (by simp) _))⟩
 have r:d>4:=by omega
 clear h;go_enter func106,ntmps106;go_wp2_with fail;go_ret2;exact⟨rfl,B.trans (A5.of ((AD _ _).alloc (by simp) _))⟩
theorem gF(d l:Nat)(h:List A4)(body:Bs)(ps:List A8):Bh (d+1) (l+1) (.mk h body false ps)=if Ca h=false then .error 1 else match Bg h with
  |none=>.error 1
  |some o=>if o.isSome then .error 1 else if ps≠[]then .error 1 else match Nh h body with
   |none=>.error 1
   |some s=>.ok (s,l):=by
 conv=>lhs;unfold Bh
 split
 ·rfl
 cases Bg h with
 |none=>rfl
 |some o=>cases o<;>cases ps<;>rfl
theorem SL(d l:Nat)(x D:Option Go.Addr)(y E:Nat)(h:List A4)(body:Bs)(ps:List A8)(W:Nat)(F L:Int)(w:World)(a6:Hid (F=5-((d+1:Nat):Int)))(c1:d+1≤4)(a2:Hid (L=((l+1:Nat):Int)))(hl:l+1≤40)(hg:Gz w)(a7:8<W)(q:A1 w W #[.int .i64 L] 172)
  (B:Aq 2 Au (fun b=>b≠W) w (.slice x h.length y) h) (a8:Av h≤120000) (c2:body.length≤40000000):
  Calls prog 106 #[.pointer (some ⟨W,0,none⟩),.agg #[.slice x h.length y,.string ⟨body.toArray⟩,.bool false,.slice D ps.length E],.int .i64 F] w fun e w'=>Tr W (l+1) (Bh (d+1) (l+1) (.mk h body false ps)) e w'∧A5 W w.heap.size w w':=by
 have P:=AB (gF d l h body ps);have c3:1≤L∧L≤40:=by have:=a2.o;omega
 have c4:1≤F∧F≤4:=by have:=a6.o;omega
 have a9:=AB (by have:=a2.o;omega:L-1=(l:Int));have kc:=q.cell 0;have kf:=q.free 0;have b0:(w.setCell ⟨W,0,none⟩ (.int .i64 (L-1))).cell? ⟨W,0,none⟩=some (.int .i64 (L-1)):=(q.set 0 _).cell 0;have c5:=q.lt;have c6:w.heap.size≠W:=by omega
 have BO:A5 W w.heap.size w (w.setCell ⟨W,0,none⟩ (.int .i64 (L-1))):=(A5.refl _ _ _).set _;have r:¬L-1<0:=by omega
 have G:=(AD (w.setCell ⟨W,0,none⟩ (.int .i64 (L-1))).heap.size (w.setCell ⟨W,0,none⟩ (.int .i64 (L-1)))).alloc (AC _) (.cells #[.slice x h.length y,.string ⟨body.toArray⟩,.bool false,.slice D ps.length E] 44);have H:A1 (w.setCell ⟨W,0,none⟩ (.int .i64 (L-1))) W #[.int .i64 (L-1)] 172:=q.set 0 _;have H:=H.next G H.lt;have p:=A1.new (w.setCell ⟨W,0,none⟩ (.int .i64 (L-1))) #[.slice x h.length y,.string ⟨body.toArray⟩,.bool false,.slice D ps.length E] 44;rw[EL]at p;have A:=BO.next G (by simp);have B:=(B.set (a:=⟨W,0,none⟩) (.int .i64 (L-1)) (fun h=>h rfl)).next G;have T:=hg.Ag A a7;have b1:((w.setCell ⟨W,0,none⟩ (.int .i64 (L-1))).alloc (.cells #[.slice x h.length y,.string ⟨body.toArray⟩,.bool false,.slice D ps.length E] 44)).heap.size=w.heap.size+1:=by simp
 have I:=(Em a8).mono (m:=1000000) (by decide);have R:=Va _ h _ B.rd (I.ok (by decide));generalize b2:Ca h=rf at R P;clear b2 BO G hg q;go_enter func106,ntmps106;go_wp2_with fail;generalize World.alloc _ _=W1 at H p A B T b1 R⊢;clear kc kf b0 r;have K:=p.cell;with_reducible refine R.mono ?_
 rintro e w2⟨rfl,f⟩;have H:=H.next f H.lt;have p:=p.next f p.lt;have B:=B.next f;have U:=T.next f;have J:=A.next f A.size;have c7:=f.size;clear R f T A K;cases rf with
 |false=>
  have N:=AB (show Bh (d+1) (l+1) (.mk h body false ps)=.error 1 from P.o);clear P;go_wp2_with fail;go_ret2;exact⟨Or.inr ⟨1,_,_,N.o,rfl,Or.inl rfl⟩,J⟩
 |true=>
 have P:=AB (show Bh (d+1) (l+1) (.mk h body false ps)=match Bg h with
  |none=>.error 1
  |some ob=>if ob.isSome then .error 1 else if ps≠[]then .error 1 else match Nh h body with
   |none=>.error 1
   |some s=>.ok (s,l)from P.o)
 have V:=Wr _ h w2 B.rd I U.r;generalize Bg h=rb at V P;have K:=p.cell;go_wp2_with fail;with_reducible refine V.mono ?_
 rintro e X⟨Y,g⟩;have H:=H.next g H.lt;have p:=p.next g p.lt;have B:=B.next g;have M:=U.next g;have C:=J.next g J.size;have c8:=g.size;have K:=p.cell;clear V g U J;rcases Y with⟨b,rfl,rfl⟩|⟨rfl,rfl⟩|⟨rfl,rfl⟩
 case inl=>
  have N:=AB (show Bh (d+1) (l+1) (.mk h body false ps)=.error 1 from P.o);clear P;go_wp2_with fail;go_ret2;exact⟨Or.inr ⟨1,_,_,N.o,rfl,Or.inl rfl⟩,C⟩
 case inr.inr=>
  have N:=AB (show Bh (d+1) (l+1) (.mk h body false ps)=.error 1 from P.o);clear P;go_wp2_with fail;go_ret2;exact⟨Or.inr ⟨1,_,_,N.o,rfl,Or.inl rfl⟩,C⟩
 by_cases r:ps=[]
 case neg=>
  have N:=AB (by rw[P.o];simp[r]:Bh (d+1) (l+1) (.mk h body false ps)=.error 1);have h1:0<ps.length:=BE.2 r;have h2:(0:Int)<ps.length:=by omega
  clear P r;go_wp2_with fail;go_ret2;exact⟨Or.inr ⟨1,_,_,N.o,rfl,Or.inl rfl⟩,C⟩
 subst r;have P:=AB (show Bh (d+1) (l+1) (.mk h body false [])=match Nh h body with
  |none=>.error 1
  |some s=>.ok (s,l)from by rw[P.o];simp)
 have a3:=eU _ h X B.rd (by have:=I.1;omega);go_wp2_with fail;with_reducible refine a3.mono ?_
 rintro e w4⟨v4,rfl,n,i⟩;have H:=H.next i H.lt;have p:=p.next i p.lt;have Z:=M.next i;have B4:=C.next i C.size;have hD:=gD v4 h X.heap.size w4 n (I.ok (by decide)) Z.r (by have:=M.size;omega) i.size;have c9:=p.lt;have d0:=i.size;clear a3 i n;go_wp2_with fail;with_reducible refine hD.mono ?_
 rintro e w5⟨v5,rfl,n,t⟩;have H:=H.next t (by omega);have p:=p.next t (by omega);have a0:Gz w5:=Z.keep fun b b3=>t.block b (by have:=M.size;omega)
 have B5:A5 W w.heap.size w w5:=B4.trans (A5.of (t.mono (by omega)));have d1:=t.size;have O:=SB body w5 (by omega) a0.r;have j:=AB (by rfl:Nh h body=(D0 (Bz h++[(Bl,(Ck body).1)])).map (·++(Ck body).2));have b4:=(fQ body).1;have b5:=fU body;generalize(Ck body).1=c at O j b4;generalize(Ck body).2=bt at O j b5;have K:=p.cell;clear hD t Z B4;go_wp2_with fail;with_reducible refine O.mono ?_
 rintro e k⟨rfl,u⟩;have H:=H.next u H.lt;have n:=A0.next n u;have a1:=a0.next u;have B6:=B5.next u B5.size;have c0:k.cell? ⟨2,1,none⟩=some (.string ⟨#[67,111,110,116,101,110,116,45,84,114,97,110,115,102,101,114,45,69,110,99,111,100,105,110,103]⟩):=a1.r.ours 1 (by decide);have d2:=Tq h;have d3:(Bz h).length≤120000:=by have:=Qo (Bz h);omega
 have d4:=u.size;clear O u B5 a0 K;go_wp2_with(at_builtin;refine Kt (α:=A4) (cs:=Au) (size:=2) (z:=.agg #[.string ByteArray.empty,.string ByteArray.empty]) Ah Ju Kj rfl (by decide) underlying42 rfl _ _ rfl X.heap.size _ (Bz h) [(Bl,c)] ⟨k.heap.size,0,none⟩ 1 1 rfl rfl (A0.alloc n _) rfl (Gl k (Bl,c) _) (by simp;omega) (by unfold maxLen;simp;omega) (by simp;omega) ?_;intro v7 w7 b6 a4 Q b7);have H:=(H.alloc (.cells #[.string ⟨Bl.toArray⟩,.string ⟨c.toArray⟩] 92)).next Q (by omega);have a4:Gz w7:=(a1.next ((AD k.heap.size k).alloc (AC _) (.cells #[.string ⟨Bl.toArray⟩,.string ⟨c.toArray⟩] 92))).keep fun b b3=>Q.block b (by have:=M.size;omega)
 have B7:A5 W w.heap.size w w7:=(B6.next ((AD k.heap.size k).alloc (AC _) (.cells #[.string ⟨Bl.toArray⟩,.string ⟨c.toArray⟩] 92)) B6.size).trans (A5.of (Q.mono (by omega)));have b9:Av (Bz h++[(Bl,c)])≤130000:=by
  rw[Nk,Ge];have:(Bl,c).1.length=25:=rfl;rw[this,(by rfl:Av []=0)];simp only;omega
 have a5:=(Em b9).mono (m:=1000000) (by decide);have hW:=Zi v7 _ w7 (A0.rd (by decide) Ah b6) a5.1 a5.2 a4.r.g;have S:=fun o(h:D0 (Bz h++[(Bl,c)])=some o)=>Pl h
 clear a1 B6 c0 b7 Q n;generalize D0 (Bz h++[(Bl,c)])=ro at hW j S;go_wp2_with fail;with_reducible refine hW.mono ?_
 rintro e w8⟨Y,b8⟩;have H:=H.next b8 H.lt;have B8:=B7.next b8 B7.size;clear hW b8 B7;rcases Y with⟨o,rfl,rfl⟩|⟨v,rfl,rfl,hv⟩
 ·have d5:=S o rfl;have N:=AB (by rw[P.o,j.o];rfl:Bh (d+1) (l+1) (.mk h body false [])=.ok (o++bt,l));have i1:¬(9223372036854775807:Int)<(o.length:Int)+bt.length:=by omega
  clear P j S;go_wp2_with fail;go_ret2;refine⟨Or.inl ⟨_,_,N.o,by omega,?_,rfl,?_⟩,B8⟩
  ·rw[AH];omega
  rw[a9.o]at H;exact H
 have N:=AB (by rw[P.o,j.o];rfl:Bh (d+1) (l+1) (.mk h body false [])=.error 1);clear P j S;go_wp2_with fail;go_ret2;exact⟨Or.inr ⟨1,_,_,N.o,rfl,hv.n (by decide)⟩,B8⟩
end Go.Proofs.YtignjjnflcpiiaaGreatDoor
