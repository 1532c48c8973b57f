/- How long what links say can be. No program, no condition; -/
import Derived.Test.YtignjjnflcpiiaaGreatDoorS25
import Derived.Test.YtignjjnflcpiiaaGreatDoorS26
set_option linter.all false
set_option maxHeartbeats 8000000
set_option maxRecDepth 100000
namespace Go.Proofs.YtignjjnflcpiiaaGreatDoor
open Go Go.RowKit Proofs.Tryz Lib
theorem TC(j:Nat):(Cf.getD j ([],[])).1.length≤(Cf.getD j ([],[])).2.length∧((Cf.getD j ([],[])).1.length≤1):=by
 match j with
 |0=>decide
 |1=>decide
 |2=>decide
 |3=>decide
 |4=>decide
 |j+5=>simp[Cf]
theorem X5:∀(k:Nat)(l:Bs),(J9 k l).length≤l.length
 |0,l=>by simp[J9]
 |k+1,l=>by
  unfold J9;split
  ·simp
  rename_i h;have H:0<l.length:=BE.2 h;cases s:Gk l with
  |none=>
   have:=X5 k (l.drop 1);simp only[AH,BV,AS]at*;omega
  |some j=>
   have:=X5 k (l.drop (Cf.getD j ([],[])).2.length);have a:=TC j;simp only[AH,AS]at*;omega
theorem TD(l:Bs):(Cr l).length≤l.length:=X5 _ _
def Fu(l:List Aj):Prop:=∀x∈l,x.2.2.length≤x.2.1
theorem Fu.nil:Fu []:=fun x h=>by cases h
theorem Fu.append{l m:List Aj}(H:Fu l)(a:Fu m):Fu (l++m):=fun x h=>by
 rcases BP.1 h with h|h
 ·exact H x h
 exact a x h
theorem TE(s name:Bs)(i:Nat):Fu (Dl s name i).2.2:=by
 unfold Dl;cases s.drop i with
 |nil=>exact Fu.nil
 |cons c l=>
  simp only;generalize(if(c==34||c==39)=true then indexByte l c else indexAny (c::l) [32,9,13,10,62])=k;generalize(if(c==34||c==39)=true then 1 else 0)=o;by_cases h:k<0
  ·rw[AM h];exact Fu.nil
  rw[AI h];simp only;split
  ·intro x H;simp only[CP]at H;subst H;refine BC (TD _) ?_;simp only[BV];omega
  exact Fu.nil
theorem TF(s:Bs)(i:Nat):Fu (Bv s i).2.2:=by
 unfold Bv;simp only;cases s.drop (i+Br (s.drop i) [32,9,13,10,47])with
 |nil=>exact Fu.nil
 |cons c l=>
  simp only;split
  ·exact Fu.nil
  split
  ·exact Fu.nil
  split
  ·exact TE _ _ _
  exact Fu.nil
theorem X6(s:Bs):∀f i,Fu (Ja s f i).2
 |0,_=>Fu.nil
 |f+1,i=>by
  have h:=TF s i;unfold Ja;generalize Bv s i=r at h;obtain⟨b,j,l⟩:=r;cases b with
  |true=>exact h.append (X6 s f j)
  |false=>exact h
theorem TG(s:Bs)(i:Nat):Fu (Cu s i).2:=by
 unfold Cu;simp only;split
 ·exact X6 _ _ _
 exact X6 _ _ _
theorem Ra(s:Bs):∀f i,Fu (Hg s f i)
 |0,_=>Fu.nil
 |f+1,i=>by
  unfold Hg;simp only;cases s.drop (Cc s [60] i)with
  |nil=>exact Fu.nil
  |cons c l=>
   simp only;split
   ·exact Ra s f _
   split
   ·exact Ra s f _
   split
   ·exact(TG _ _).append (Ra s f _)
   exact Ra s f _
theorem gM(s:Bs):Fu (Bf s):=Ra s _ _
theorem Bt.sum:∀{l:List Aj}{i j:Nat},Bt i l j→i+(l.map fun x=>x.2.1).sum≤j
 |[],i,j,h=>by have:=h.le;simpa using this
 |x::l,i,j,h=>by
  have ih:=Bt.sum (l:=l) h.2;have:=h.1;simp only[DM,IS];omega
theorem Bt.mem:∀{l:List Aj}{i j:Nat},Bt i l j→∀x∈l,x.1+x.2.1≤j
 |x::l,i,j,h,y,H=>by
  rcases CF.1 H with rfl|H
  ·exact Bt.le (l:=l) h.2
  exact Bt.mem (l:=l) h.2 y H
theorem TH(s:Bs):((Bf s).map fun x=>x.2.1).sum≤s.length:=by
 have:=(Jb s).1.sum;omega
theorem Rb(s:Bs):∀x∈Bf s,x.2.2.length≤s.length:=fun x h=>by
 have H:=gM s x h;have a:=(Jb s).1.mem x h;omega
theorem TI(s:Bs)(V:List Bs)(vv:Value)(w:World)(hg:Gr w)(hs:s.length≤1000000000)(hv:E7 1 Bi w vv V)(d4:V.length≤1000000)(a5:∀x∈V,x.length≤1000000):Calls prog 45 #[.string ⟨s.toArray⟩,vv] w fun e w'=>Qh 1 (Gt s V) e w'∧Below w.heap.size w w':=by
 obtain⟨va,d5,rfl,a6⟩:=hv.opens Cw;have b6:=AB a6;have b7:=AB a5;clear a6 hv a5;have u:=AB (by rfl:Gt s V=if(Bf s).length=V.length then some (F9 s ((Bf s).zip V) 0)else none);have O:=(Jb s).1;have P:=Tj s;have Q:=Wx s w hg hs;generalize Bf s=L at u O P Q;go_enter func45,ntmps45;go_wp2_with fail;with_reducible refine Q.mono ?_
 rintro e b⟨v,rfl,a7,c⟩;obtain⟨a,d6,rfl,hc⟩:=(A0.rd (by decide) Gq a7).opens Gq;have HC:=AB hc;clear Q hc a7;by_cases hn:L.length=V.length
 case neg=>
  have H:=AB (by rw[u.o,AI hn]:Gt s V=none);have b8:¬((L.length:Int)=(V.length:Int)):=by omega
  go_wp2_with fail;go_ret2;exact⟨Or.inr ⟨_,H.o,rfl,Or.inr (Or.inl rfl)⟩,c⟩
 have H:=AB (by rw[u.o,AM hn]:Gt s V=some (F9 s (L.zip V) 0));have b8:(L.length:Int)=(V.length:Int):=by omega
 have HP:=AB P;have d:=pL b;have HL:=AB O;clear u P O;go_wp2_with fail;go_loopw[8,23] (fun c0 i wr=>∃(k p:Nat)(o:Bs),c0=.int .i64 p∧i=.int .i64 k∧k≤L.length∧p≤s.length∧Bt p (L.drop k) s.length∧o.length≤p+k*6000002∧J1 b.heap.size b.heap.size o wr∧Hid (o++F9 s ((L.zip V).drop k) p=F9 s (L.zip V) 0)∧Below b.heap.size b wr) (fun _ i _=>L.length-(intOf i).toNat)
 case atStart=>exact⟨0,0,[],rfl,rfl,by omega,by omega,HL.o,by simp,d,AB rfl,by go_grown⟩
 obtain⟨k,p,o,rfl,rfl,hk,hp,R,d7,f,z,B⟩:=hrel;clear HL;by_cases S:k<L.length
 ·obtain⟨d,rfl,T,h⟩:=HC.o k S;obtain⟨m,c1,A,g⟩:=b6.o k (by omega);have U:=(B.cell (p:=⟨d,k*3,none⟩) T).trans (h 0 (by decide));have Y:=(B.cell (p:=⟨d,k*3+1,none⟩) T).trans (h 1 (by decide));have Z:=(B.cell (p:=⟨d,k*3+2,none⟩) T).trans (h 2 (by decide));have d0:=(B.cell (p:=⟨m,k,none⟩) (CG A c.size)).trans ((c.cell (p:=⟨m,k,none⟩) A).trans (by have:=g 0 (by decide);simpa using this));have a8:=HP.o _ (AN S);have c2:=b7.o _ (AN (show k<V.length by omega));have D:=AB (RD s (L.zip V) k p (by simp;omega));simp only[GI]at D;rw[AE S]at R;clear h g;subst c1;generalize L[k]=x at U Y Z a8 D R;generalize V[k]=v at d0 c2 D;obtain⟨x1,X,n⟩:=x;obtain⟨y,rfl⟩:∃y,x1=y+1:=⟨x1-1,by simp only at a8;omega⟩;obtain⟨c3,C⟩:=R;have c4:=C.le;simp only at c3 C c4;have c5:y<s.length:=by omega
  have a9:=AB (by unfold Kv;rw[AK];simp[c5]:Kv s (y+1,X,n)=s[y]);have E:=AB (by rw[←z.o,D.o,a9.o];simp:(o++((s.drop p).take (y+1-p)++J5 (s[y]) v))++F9 s ((L.zip V).drop (k+1)) (y+1+X)=F9 s (L.zip V) 0);clear D z a9;have kf:=A1.new wr #[.int .i64 ((y:Int)+1),.int .i64 (X:Int),.string ⟨n.toArray⟩] 96;have d8:=f.lt;have f:=f.next ((AD wr.heap.size wr).alloc (AC _) (.cells #[.int .i64 ((y:Int)+1),.int .i64 (X:Int),.string ⟨n.toArray⟩] 96));have B2:=B.alloc B.size (.cells #[.int .i64 ((y:Int)+1),.int .i64 (X:Int),.string ⟨n.toArray⟩] 96);have e0:wr.cell? ⟨d,k*3,none⟩=some (.int .i64 ((y:Int)+1)):=U;have e1:wr.cell? ⟨d,k*3+1,none⟩=some (.int .i64 (X:Int)):=Y;have e2:wr.cell? ⟨d,k*3+2,none⟩=some (.string ⟨n.toArray⟩):=Z;clear U Y Z;have i1:(p:Int)≤(y:Int)+1:=by omega
  have i2:(y:Int)+1≤s.length:=by omega
  have i3:((y:Int)+1).toNat=y+1:=by omega
  have i4:(0:Int)≤p:=by omega
  have kc:=kf.cell;have j:=Ve b.heap.size b.heap.size o ((s.drop p).take (y+1-p)) _ f (by simp;omega) (by have:=B2.size;omega);have a0:wr.heap.size≠b.heap.size:=by omega
  have DV:=AB (show b.cell? ⟨m,k,none⟩=some (.string ⟨v.toArray⟩)from(B.cell (p:=⟨m,k,none⟩) (CG A c.size)).symm.trans d0);have c6:m<b.heap.size:=CG A c.size;clear d0;go_wp2_with fail;with_reducible refine j.mono ?_
  rintro e w3⟨rfl,b0,b3,b1⟩;have F:=kf.Vf b1 a0 (by decide);have G:=B2.trans b3;have d3:=(G.cell (p:=⟨m,k,none⟩) c6).trans DV.o;have c7:=F.cell;clear j kc f b1 b3 kf;go_wp2_with fail;refine(xP v _ ((hg.next c).next G) (by omega)).mono ?_;rintro e w4⟨rfl,I⟩;have K:=F.next I F.lt;have J:=b0.next I;have M:=G.trans (I.mono G.size);have i5:(y:Int)<s.length:=by omega
  have i6:(0:Int)≤y:=by omega
  have c8:(s[y].toNat:Int)<256:=by have:=(s[y]).toNat_lt;omega
  have HQ:=AB (Wv s[y]);have b2:=K.cell;clear c7 d3 I b0 F;go_upto_region 12 with fail;go_cut[12,43,49] (fun _ _ t wx=>t=.bool (!(Eu s[y]))∧wx=w4)
  case first=>
   have b4:((s[y].toNat:Int)=34∨(s[y].toNat:Int)=39)∨((s[y].toNat:Int)≠34∧(s[y].toNat:Int)≠39):=by omega
   have l:=AB (fun c b5(h:((s[y].toNat:Int)==34)=c)(g:((s[y].toNat:Int)==39)=b5)=>show Eu s[y]=(c||b5)from by rw[HQ.o,h,g]);clear HQ;generalize(s[y].toNat:Int)=cI at l b4 c8⊢;rcases b4 with(rfl|rfl)|⟨h,g⟩
   ·have H:=AB (l.o true false rfl rfl);clear l;go_wp2_with fail;go_meet;exact⟨by rw[H.o];rfl,rfl⟩
   ·have H:=AB (l.o false true rfl rfl);clear l;go_wp2_with fail;go_meet;exact⟨by rw[H.o];rfl,rfl⟩
   have H:=AB (l.o false false (by rw[AG];exact h) (by rw[AG];exact g));have e1:(cI !=34)=true:=by rw[CZ];exact h
   have e2:(cI !=39)=true:=by rw[CZ];exact g
   clear l h g;go_wp2_with fail;go_meet;exact⟨by rw[H.o];rfl,rfl⟩
  case rest=>
  obtain⟨rfl,c9⟩:=hcut;obtain rfl:=c9.symm;have d9:=Wy v;generalize N:Eu s[y]=qb;have N:=AB N;clear HQ;cases qb with
  |false=>
   have a1:=AB (by unfold J5;rw[N.o];rfl:J5 (s[y]) v=34::(Ej v++[34]));have j:=Ve b.heap.size b.heap.size (o++(s.drop p).take (y+1-p)) (34::(Ej v++[34])) w4 J (by simp;omega) (by have:=M.size;omega);go_wp2_with fail;with_reducible refine j.mono ?_
   rintro e w5⟨rfl,a2,q,r⟩;have a3:=K.Vf r a0 (by decide);have B5:=M.trans q;have d1:=a3.cell;have a4:=AB (by rw[←E.o,a1.o];simp:(o++(s.drop p).take (y+1-p))++(34::(Ej v++[34]))++F9 s ((L.zip V).drop (k+1)) (y+1+X)=F9 s (L.zip V) 0);clear j J q r b2 K E;go_wp2_with fail;go_roundw
   case rel=>exact⟨k+1,y+1+X,_,by go_num,by go_num,by omega,by omega,C,by simp;omega,a2,a4,B5⟩
   simp[intOf];omega
  |true=>
   have a1:=AB (by unfold J5;rw[N.o];rfl:J5 (s[y]) v=Ej v);have j:=Ve b.heap.size b.heap.size (o++(s.drop p).take (y+1-p)) (Ej v) w4 J (by simp;omega) (by have:=M.size;omega);go_wp2_with fail;with_reducible refine j.mono ?_
   rintro e w5⟨rfl,a2,q,r⟩;have a3:=K.Vf r a0 (by decide);have B5:=M.trans q;have d1:=a3.cell;have a4:=AB (by rw[←E.o,a1.o];simp:(o++(s.drop p).take (y+1-p))++(Ej v)++F9 s ((L.zip V).drop (k+1)) (y+1+X)=F9 s (L.zip V) 0);clear j J q r b2 K E;go_wp2_with fail;go_roundw
   case rel=>exact⟨k+1,y+1+X,_,by go_num,by go_num,by omega,by omega,C,by simp;omega,a2,a4,B5⟩
   simp[intOf];omega
 obtain rfl:k=L.length:=by omega
 have HT:=AB (by rw[←z.o,BK (by simp;omega)];rfl:F9 s (L.zip V) 0=o++s.drop p);have HR:=AB (by rw[H.o,HT.o]:Gt s V=some (o++s.drop p));have d2:=fun W f hB=>pM b.heap.size b.heap.size o W f hB
 have i1:(p:Int)≤s.length:=by omega
 have i2:(0:Int)≤p:=by omega
 have i3:¬(9223372036854775807:Int)<(o.length:Int)+(s.length-p:Nat):=by omega
 have i4:¬9223372036854775807<o.length+(s.length-p):=by omega
 have hB:=B.size;clear z HT H;go_wp2_with fail
 go_region_with ((go_at_call 80;refine(d2 wr.drew f.drew hB).mono ?_;rintro e w9⟨rfl,e3,b9,e4⟩))
 all_goals
  go_wp2_with fail;go_ret2;exact⟨Or.inl ⟨_,HR.o,rfl⟩,c.trans ((B.trans (GY (by first|exact b9|exact(AD _ _).drew.trans b9) (AC _))).mono c.size)⟩
def J6(T t:Bs)(n:Nat):Prop:=T=t∨∃U V v,T=U++V∧t=U++v∧U.length=n
theorem X7{p:UInt8→Bool}:∀{U V:Bs}(v:Bs),((U++V).takeWhile p).length<U.length→(U++v).takeWhile p=(U++V).takeWhile p
 |[],_,_,h=>by simp at h
 |c::U,V,v,h=>by
  rw[CK,DG]at h;rw[CK,CK,DG,DG];split
  ·rename_i H;rw[AM H]at h;rw[X7 (U:=U) (V:=V) v (by simpa using h)]
  rfl
variable {n i j a I:Nat}{T t s S e x y p:Bs}{z:List (Aj × Bs)}{v o:List Bs}
theorem J6.run(h:J6 T t n)(o:Bs)(H:Br T o<n):Br t o=Br T o:=by
 rcases h with rfl|⟨U,V,v,rfl,rfl,rfl⟩
 ·rfl
 unfold Br at H⊢;rw[X7 v H]
theorem J6.indexAny{T t:Bs}{n:Nat}{cs:Bs}(h:J6 T t n)(a:0≤indexAny T cs)(H:(indexAny T cs).toNat<n):indexAny t cs=indexAny T cs:=by
 rcases h with rfl|⟨U,V,v,rfl,rfl,rfl⟩
 ·rfl
 rw[Of]at a H⊢;rw[Of];split at a
 ·omega
 rename_i b;rw[AI b]at H⊢;rw[DO]at H;have e:=X7 v H;rw[e,AI];rw[AH];omega
theorem gN{p:Bs}:∀{U V a b:Bs},Ab p (U++V)=some (a,b)→a.length+p.length≤U.length→∃B,Ab p U=some (a,B)
 |[],V,a,b,h,n=>by
  rw[BN]at n;have f:a=[]:=DI.1 (by omega);have H:p=[]:=DI.1 (by omega);subst f H;exact⟨[],rfl⟩
 |c::U,V,a,b,h,n=>by
  rw[CK]at h;unfold Ab at h⊢;by_cases H:p.isPrefixOf (c::(U++V))=true
  ·rw[AM H]at h;simp at h;obtain⟨rfl,_⟩:=h;have d:p.isPrefixOf (c::U)=true:=by
    obtain⟨y,g⟩:=BR.1 H;have i:p=(c::(U++V)).take p.length:=by rw[←g];simp
    rw[BR,i,←CK,CY (by simpa using n)];exact JD _ _
   rw[AM d];exact⟨_,rfl⟩
  rw[AI H]at h;have d:¬p.isPrefixOf (c::U)=true:=fun j=>H (by
   have:=rR V (x:=c::U) j;exact this)
  rw[AI d];cases e:Ab p (U++V)with
  |none=>rw[e]at h;cases h
  |some x=>
   obtain⟨A,l⟩:=x;rw[e]at h;simp at h;obtain⟨rfl,rfl⟩:=h;obtain⟨B,k⟩:=gN e (by simp at n;omega);exact⟨B,by rw[k];rfl⟩
theorem J6.index{T t:Bs}{n:Nat}{p:Bs}(h:J6 T t n)(c:0≤index T p)(H:(index T p).toNat+p.length≤n):index t p=index T p:=by
 rcases h with rfl|⟨U,V,v,rfl,rfl,rfl⟩
 ·rfl
 rw[He]at c H⊢;rw[He];cases d:Ab p (U++V)with
 |none=>rw[d]at c;exact absurd c (by decide)
 |some x=>
  obtain⟨a,b⟩:=x;rw[d]at H;simp at H;obtain⟨B,e⟩:=gN d H;rw[aR v e]
theorem J6.tail{c d:UInt8}(h:J6 (c::T) (d::t) (n+1)):c=d∧J6 T t n:=by
 rcases h with h|⟨U,V,v,H,a,b⟩
 ·injection h with H a;exact⟨H,Or.inl a⟩
 cases U with
 |nil=>simp at b
 |cons u U=>
  injection H with A e;injection a with B f;exact⟨A.trans B.symm,Or.inr ⟨U,V,v,e,f,by simpa using b⟩⟩
theorem J6.take{T t:Bs}{n m:Nat}(h:J6 T t n)(H:m≤n):t.take m=T.take m:=by
 rcases h with rfl|⟨U,V,v,rfl,rfl,rfl⟩
 ·rfl
 rw[CY H,CY H]
def Jm(s:Bs)(z:List (Aj×Bs))(i:Nat)(S:Bs)(I:Nat):Prop:=S.drop I=F9 s z i∧i≤s.length∧I≤S.length
def Io(z:List (Aj×Bs)):List Aj:=z.map (·.1)
theorem TJ(l:Bs)(h:i≤j):l.take j=l.take i++(l.drop i).take (j-i):=by
 have:=List.take_add (l:=l) (i:=i) (j:=j-i);rw[show i+(j-i)=j by omega]at this;exact this
theorem TK(H:i≤a)(h:z=[]∨Bt a (Io z) s.length):F9 s z i=(s.drop i).take (a-i)++F9 s z a:=by
 cases z with
 |nil=>
  show s.drop i=(s.drop i).take (a-i)++s.drop a;have:=BQ (a-i) (s.drop i);rw[DW,show i+(a-i)=a by omega]at this;exact this.symm
 |cons x l=>
  have b:a≤x.1.1:=by
   rcases h with h|h
   ·cases h
   exact h.1
  show(s.drop i).take (x.1.1-i)++_=(s.drop i).take (a-i)++((s.drop a).take (x.1.1-a)++_);rw[TJ (s.drop i) (show a-i≤x.1.1-i by omega),DW,show i+(a-i)=a by omega,show x.1.1-i-(a-i)=x.1.1-a by omega,AJ]
theorem Jm.to(h:Jm s z i S I)(b:i≤a)(c:a≤s.length)(f:z=[]∨Bt a (Io z) s.length):Jm s z a S (I+(a-i))∧S.drop I=(s.drop i).take (a-i)++S.drop (I+(a-i)):=by
 obtain⟨H,g,j⟩:=h;have e:=TK b f;have l:((s.drop i).take (a-i)).length=a-i:=by rw[BV,AS];omega
 have d:S.drop (I+(a-i))=F9 s z a:=by
  rw[←DW,H,e,DH l]
 have n:=AF List.length (H.trans e);rw[AS,AH,l]at n;exact⟨⟨d,c,by omega⟩,by rw[d,H,e]⟩
theorem Jm.TL(h:Jm s z i S I)(H:i≤a)(b:a≤s.length)(c:z=[]∨Bt a (Io z) s.length):J6 (s.drop i) (S.drop I) (a-i):=by
 have d:=(h.to H b c).2;refine Or.inr ⟨_,s.drop a,_,?_,d,by rw[BV,AS];omega⟩;have:=BQ (a-i) (s.drop i);rw[DW,show i+(a-i)=a by omega]at this;exact this.symm
theorem Jm.same(h:Jm s [] i S I):S.drop I=s.drop i∧S.length=I+(s.length-i):=by
 obtain⟨H,a,b⟩:=h;have H:S.drop I=s.drop i:=H;have:=AF List.length H;rw[AS,AS]at this;exact⟨H,by omega⟩
def Rc(s:Bs)(z:List (Aj×Bs))(j:Nat):Prop:=z=[]∨Bt (j+1) (Io z) s.length
theorem Rc.lt(h:Rc s z j):z=[]∨(j<s.length∧Bt (j+1) (Io z) s.length):=by
 rcases h with h|h
 ·exact Or.inl h
 exact Or.inr ⟨by have:=h.le;omega,h⟩
theorem Jm.TM(h:Jm s z i S I)(b:i≤j)(H:Rc s z j):J6 (s.drop i) (S.drop I) (j+1-i):=by
 rcases H.lt with rfl|⟨c,a⟩
 ·exact Or.inl h.same.1.symm
 exact h.TL (by omega) (by omega) (Or.inr a)
theorem Jm.cons{s S l:Bs}{z:List (Aj×Bs)}{i I j:Nat}{c:UInt8}(h:Jm s z i S I)(a:i≤j)(b:Rc s z j)(d:s.drop i=c::l):∃L,S.drop I=c::L∧J6 l L (j-i):=by
 have H:=h.TM a b;rw[d]at H;rcases H with H|⟨U,V,v,E,f,e⟩
 ·exact⟨l,H.symm,Or.inl rfl⟩
 cases U with
 |nil=>simp at e;omega
 |cons u U=>
  injection E with A g;refine⟨U++v,by rw[f,A];rfl,Or.inr ⟨U,V,v,g,rfl,?_⟩⟩;simp at e;omega
theorem Jm.nil(h:Jm s z i S I)(a:Rc s z i)(H:s.drop i=[]):S.drop I=[]:=by
 rcases a.lt with rfl|⟨b,c⟩
 ·rw[h.same.1,H]
 have:=AF List.length H;rw[AS]at this;simp at this;omega
inductive N0 where
 |stop:Nat→N0
 |bare:Nat→N0
 |val:Bs→Nat→N0
def N0.pos:N0→Nat| .stop j=>j| .bare d=>d| .val _ d=>d
def N0.map(g:Nat→Nat):N0→N0| .stop j=>.stop (g j)| .bare d=>.bare (g d)| .val n d=>.val n (g d)
theorem gO{l:List Aj}(h:v.length=l.length):Io (l.zip v)=l:=by
 unfold Io;rw[←List.unzip_fst,List.unzip_zip_left (by omega)]
def Ip(e x:Bs):Prop:=¬e<:+:x
theorem Ip.of(h:Ip e x)(H:y<:+:x):Ip e y:=fun a=>h (a.trans H)
theorem Ip.nil(H:e≠[]):Ip e []:=fun h=>H (List.infix_nil.1 h)
theorem X8{a b:Bs}(i:(47:UInt8)∉e)(h:e<:+:a++47::b):e<:+:a∨e<:+:b:=by
 obtain⟨u,t,h⟩:=h;rcases GX.1 h with⟨c,H,f⟩|⟨c,H,f⟩
 ·
  exact Or.inl ⟨u,c,H.symm⟩
 ·
  cases c with
  |nil=>exact Or.inl ⟨u,[],by rw[BM]at H⊢;exact H⟩
  |cons y c=>
   rw[CK]at f;injection f with j f;subst j;rcases GX.1 H with⟨d,G,g⟩|⟨d,G,g⟩
   ·exact absurd (by rw[g];simp) i
   cases d with
   |nil=>exact absurd (by rw[DK]at g;rw[←g];simp) i
   |cons z d=>
    rw[CK]at g;injection g with _ g;exact Or.inr ⟨d,t,by rw[f,g]⟩
theorem TN(x y:Bs)(r:List Bs)(p:Bs):join (x::y::r) p=x++(p++join (y::r) p):=by
 rw[join_cons,join_cons];simp[joinTail]
theorem gP{e:Bs}(H:e≠[])(a:(47:UInt8)∉e):∀l:List Bs,e<:+:join l [47]→∃s∈l,e<:+:s
 |[],h=>by rw[join_nil]at h;exact absurd (List.infix_nil.1 h) H
 |[x],h=>by rw[join_one]at h;exact⟨x,by simp,h⟩
 |x::y::r,h=>by
  rw[TN]at h;rcases X8 a h with h|h
  ·exact⟨x,by simp,h⟩
  obtain⟨s,b,h⟩:=gP H a (y::r) h;exact⟨s,CA _ b,h⟩
theorem TO{f l:Bool}(h:x∈Gn f l o s):x=[]∨x=s∨x∈o:=by
 unfold Gn at h;split at h
 ·split at h
  ·rcases BP.1 h with h|h
   ·exact Or.inr (Or.inr h)
   exact Or.inl (CP.1 h)
  exact Or.inr (Or.inr h)
 split at h
 ·have k:∀y,y∈(if 1<o.length∨(o.length=1∧o≠[[]])then o.dropLast else o)→y∈o:=by
   intro y H;split at H
   ·exact(List.dropLast_sublist o).subset H
   exact H
  split at h
  ·rcases BP.1 h with h|h
   ·exact Or.inr (Or.inr (k _ h))
   exact Or.inl (CP.1 h)
  exact Or.inr (Or.inr (k _ h))
 rcases BP.1 h with h|h
 ·exact Or.inr (Or.inr h)
 exact Or.inr (Or.inl (CP.1 h))
theorem gQ{l:List Bs}{x:Bs}:∀k,x∈F1 l k→x=[]∨x∈l
 |0,h=>by cases h
 |k+1,h=>by
  unfold F1 at h;rcases TO h with h|h|h
  ·exact Or.inl h
  ·rcases CN k l.length with H|H
   ·rw[AK,AZ H]at h;exact Or.inr (h▸AN H)
   rw[AK,CW H]at h;exact Or.inl h
  exact gQ k h
theorem gR{c:UInt8}:∀{l h:Bs}{t:List Bs},Bo c l=h::t→h<+:l
 |[],h,t,e=>by simp[Bo]at e;rw[e.1];exact List.prefix_rfl
 |x::l,h,t,e=>by
  unfold Bo at e;split at e
  ·injection e with e _;rw[←e];exact List.nil_prefix
  split at e
  ·rename_i E;exact absurd E (N3 c l)
  rename_i H T E;injection e with e _;rw[←e];exact(List.prefix_cons_inj x).2 (gR E)
theorem Ts{c:UInt8}:∀{l s:Bs},s∈Bo c l→s<:+:l
 |[],s,h=>by simp[Bo]at h;rw[h];exact List.infix_rfl
 |x::l,s,h=>by
  unfold Bo at h;split at h
  ·rcases CF.1 h with h|h
   ·rw[h];exact List.nil_infix
   exact(Ts h).trans (List.suffix_cons x l).isInfix
  split at h
  ·rename_i e;exact absurd e (N3 c l)
  rename_i H t e;rcases CF.1 h with h|h
  ·rw[h];exact((List.prefix_cons_inj x).2 (gR e)).isInfix
  exact(Ts (l:=l) (by rw[e];exact CA _ h)).trans (List.suffix_cons x l).isInfix
def Tt(e:Bs):Prop:=e≠[]∧∀c∈e,c≠47∧c≠38∧c≠34∧c≠39∧c≠60∧c≠62
theorem Tt.no(h:Tt e):(47:UInt8)∉e:=fun H=>(h.2 _ H).1 rfl
theorem Ip.Tu(a:Tt e)(h:Ip e p):Ip e (G7 p):=by
 intro H;obtain⟨s,b,H⟩:=gP a.1 a.no _ H;rcases gQ _ b with rfl|b
 ·exact Ip.nil a.1 H
 exact h (H.trans (Ts b))
theorem gS(s:ByteArray)(c:Int):∀k:Nat,0≤Lib.lastIdx s c k→((s.data[(Lib.lastIdx s c k).toNat]!).toNat:Int)=c
 |0,h=>by simp[Lib.lastIdx]at h
 |k+1,h=>by
  unfold Lib.lastIdx at h⊢;split
  ·rename_i H;simpa using H
  rename_i H;rw[AI H]at h;exact gS s c k h
theorem TP(p:Bs):P3 p=[]∨∃q,P3 p=q++[47]∧q<+:p:=by
 unfold P3;have b:=bI p 47;by_cases h:lastIndexByte ⟨p.toArray⟩ 47<0
 ·left;rw[show(lastIndexByte ⟨p.toArray⟩ 47+1).toNat=0 by omega];rfl
 right;have H:=gS ⟨p.toArray⟩ 47 p.length (by
  have:lastIndexByte ⟨p.toArray⟩ 47=Lib.lastIdx ⟨p.toArray⟩ 47 p.length:=rfl;omega)
 have e:Lib.lastIdx ⟨p.toArray⟩ 47 p.length=lastIndexByte ⟨p.toArray⟩ 47:=rfl;rw[e]at H;generalize lastIndexByte ⟨p.toArray⟩ 47=K at H b h⊢;obtain⟨k,rfl⟩:∃k:Nat,K=(k:Int):=⟨K.toNat,by omega⟩;rw[DO]at H;have a:k<p.length:=by omega
 have c:p[k]=47:=by
  have E:(⟨p.toArray⟩:ByteArray).data[k]! =p[k]:=by
   show p.toArray[k]! =p[k];rw[List.getElem!_toArray];exact getElem!_pos p k a
  rw[E]at H;exact BJ.1 (by exact_mod_cast H)
 refine⟨p.take k,?_,JD _ _⟩;rw[show((k:Int)+1).toNat=k+1 by omega,AU a,c]
theorem Ip.resolve{b a:A3}(H:Tt e)(f:Ip e b.path)(d:Ip e a.path):Ip e (Be b a).path:=by
 unfold Be;split
 ·exact d.Tu H
 split
 ·exact d.Tu H
 split
 ·exact f
 rename_i c l p;split
 ·rw[←p];exact d.Tu H
 rw[←p];refine Ip.Tu H ?_;unfold Jg;split
 ·intro i;rcases X8 (a:=[]) H.no i with h|h
  ·exact Ip.nil H.1 h
  exact d h
 rcases TP b.path with h|⟨q,h,g⟩
 ·rw[h];exact d
 rw[h,AJ];intro i;rcases X8 H.no i with h|h
 ·exact f (h.trans g.isInfix)
 exact d h
def gT(s:Bs)(l:List Aj):Prop:=∀x∈l,∃y,y<:+:s∧x.2.2=Cr y
theorem gT.nil(s:Bs):gT s []:=fun x h=>by cases h
end Go.Proofs.YtignjjnflcpiiaaGreatDoor
namespace Go.Proofs.YtignjjnflcpiiaaGreatDoor
open Go Go.RowKit Proofs.Tryz Lib
theorem gU(s:Bs)(w:World)(u:s.length≤1000000000)(j:Cb w):Calls prog 115 #[.string ⟨s.toArray⟩] w fun e m=>e=.returned (.bool (Ji s))∧Below w.heap.size w m:=by
 have S:=Uw s 47 w (by omega) j;have h:=AB (by rfl:Ji s=(decide ((Bo 47 s).length≤2)&&(Ae ((Bo 47 s).headD [])&&Ae ((Bo 47 s).getLastD []))));have f:=N3 47 s;have b:∀x∈Bo 47 s,x.length≤1000000000:=fun x o=>by
  have:=(Ts o).length_le;omega
 have c:(Bo 47 s).length≤1000000001:=by
  rw[Q1];have:=GM (a:=(47:UInt8)) (l:=s);omega
 generalize Bo 47 s=L at S h f b c;have B:=(AD w.heap.size w).alloc (AC _) (.cells (Fk L) 9);have k:=A1.new w (Fk L) 9;go_enter func115,ntmps115;go_wp2_with fail;with_reducible refine S.mono ?_
 rintro e W⟨rfl,rfl⟩;generalize World.alloc _ _=W at k B⊢
 match L,f,b,c,h,k with
 |[x],_,b,_,h,k=>
  have H:=AB (by rw[h.o];simp:Ji s=Ae x);have T:=P9 x W (by have:=b x (by simp);omega);have C:W.cell? ⟨w.heap.size,0,none⟩=some (.string ⟨x.toArray⟩):=by rw[k.cell];rfl
  generalize Ae x=q at T H;cases q with
  |true=>
   go_wp2_with fail;with_reducible refine T.mono ?_
   rintro e d⟨rfl,rfl⟩;go_wp2_with fail;with_reducible refine T.mono ?_
   rintro e p⟨rfl,rfl⟩;go_wp2_with fail;go_ret;exact⟨Ba H.o.symm,B⟩
  |false=>
   go_wp2_with fail;with_reducible refine T.mono ?_
   rintro e d⟨rfl,rfl⟩;go_wp2_with fail;go_ret;exact⟨Ba H.o.symm,B⟩
 |[x,y],_,b,_,h,k=>
  have H:=AB (by rw[h.o];simp[List.getLastD]:Ji s=(Ae x&&Ae y));have T:=P9 x W (by have:=b x (by simp);omega);have g:=P9 y W (by have:=b y (by simp);omega);have C:W.cell? ⟨w.heap.size,0,none⟩=some (.string ⟨x.toArray⟩):=by rw[k.cell];rfl
  have v:W.cell? ⟨w.heap.size,1,none⟩=some (.string ⟨y.toArray⟩):=by rw[k.cell];rfl
  generalize Ae x=q at T H;generalize Ae y=Q at g H;cases q with
  |true=>
   go_wp2_with fail;with_reducible refine T.mono ?_
   rintro e d⟨rfl,rfl⟩;go_wp2_with fail;with_reducible refine g.mono ?_
   rintro e p⟨rfl,rfl⟩;go_wp2_with fail;go_ret;exact⟨Ba (by rw[H.o];rfl),B⟩
  |false=>
   go_wp2_with fail;with_reducible refine T.mono ?_
   rintro e d⟨rfl,rfl⟩;go_wp2_with fail;go_ret;exact⟨Ba (by rw[H.o];rfl),B⟩
 |x::y::z::t,_,_,c,h,_=>
  have H:=AB (show Ji s=false from by
   rw[h.o,AX (by simp)];rfl)
  have i:¬((x::y::z::t).length:Int)≤2:=by simp;omega
  have r:decide (((x::y::z::t).length:Int)≤2)=false:=AX i;generalize(x::y::z::t).length=n at i r c⊢;go_wp2_with fail;go_ret;exact⟨Ba H.o.symm,B⟩
def Rd(l:List A4):Prop:=∀f∈l,Eg f.1=true
variable {x s B:Bs}{o l H:List A4}{p q:A8}
theorem TQ(h:J8 o x=some l)(c:Rd o):Rd l:=by
 unfold J8 at h;split at h
 ·cases d:o.getLast? with
  |none=>rw[d]at h;cases h
  |some f=>
   rw[d]at h;simp at h;subst h;intro g H;rcases BP.1 H with H|H
   ·exact c g ((List.dropLast_sublist o).subset H)
   rw[CP.1 H];exact c f (EY d)
 cases e:Ab [58] x with
 |none=>rw[e]at h;cases h
 |some y=>
  obtain⟨a,b⟩:=y;rw[e]at h;simp only at h;split at h
  ·rename_i n;simp at h;subst h;intro g H;rcases BP.1 H with H|H
   ·exact c g H
   rw[CP.1 H];exact n
  cases h
theorem gV:∀(k:Nat)(o l:List A4)(s r:Bs),Gb k o s=some (l,r)→Rd o→Rd l
 |0,_,_,_,_,h,_=>by cases h
 |k+1,o,l,s,r,h,H=>by
  by_cases b:s=[]
  ·subst b;simp[Gb]at h;rw[←h.1];exact H
  rw[Vb b]at h;split at h
  ·simp at h;rw[←h.1];exact H
  cases a:J8 o (cut s [13,10]).1 with
  |none=>rw[a]at h;cases h
  |some O=>
   rw[a]at h;exact gV k O l _ r h (TQ a H)
theorem gW:∀{L l:List A4},Cq L=some l→Rd L→Ca l=true
 |[],l,h,_=>by simp[Cq]at h;subst h;rfl
 |f::L,l,h,n=>by
  unfold Cq at h;split at h
  ·rename_i v;simp only[BH]at h;obtain⟨b,a,rfl⟩:=h;have ih:=Jz.1 (gW a (fun g H=>n g (CA _ H)));refine Jz.2 fun g H=>?_
   rcases CF.1 H with rfl|H
   ·exact⟨n f (CD ..),v⟩
   exact ih g H
  cases h
theorem gX{α β:Type}{f:Nat→α→Except Int (β×Nat)}{P:β→Prop}(g:∀a x y b,f a x=.ok (y,b)→P y):∀{l:List α}{n m:Nat}{Y:List β},By f n l=.ok (Y,m)→∀y∈Y,P y
 |[],n,m,Y,h=>by
  simp[By]at h;rw[h.1];simp
 |x::l,n,m,Y,h=>by
  unfold By at h;cases H:f n x with
  |error e=>rw[H]at h;cases h
  |ok r=>
   obtain⟨y,N⟩:=r;rw[H]at h;simp only at h;cases c:By f N l with
   |error e=>rw[c]at h;cases h
   |ok r=>
    obtain⟨Z,k⟩:=r;rw[c]at h;simp only[FG,EC]at h;rw[←h.1];intro z d;rcases CF.1 d with rfl|d
    ·exact g _ _ _ _ H
    exact gX g c z d
def Ny(q:A8):Prop:=Ca q.head=true∧((q.many=false∧Bg q.head=some none∧q.parts=[])∨(q.many=true∧(∃b,Bg q.head=some (some b))∧q.body=[]))
theorem TR(d L n:Nat)(s:Bs)(q:A8)(h:Az d L s=.ok (q,n)):Ny q∧∀r∈q.parts,Ny r:=by
 induction d generalizing L n s q with
 |zero=>cases h
 |succ d ih=>
  cases L with
  |zero=>cases h
  |succ L=>
   unfold Az at h;cases j:Dj s with
   |none=>rw[j]at h;cases h
   |some x=>
    obtain⟨p,B⟩:=x;rw[j]at h;simp only at h;cases k:Cq p with
    |none=>rw[k]at h;cases h
    |some l=>
     rw[k]at h;simp only at h;have g:Ca l=true:=gW k (gV _ _ _ _ _ j (fun f t=>by cases t));cases i:Bg l with
     |none=>rw[i]at h;cases h
     |some O=>
      rw[i]at h;cases O with
      |none=>
       simp only at h;cases H:Dg l B with
       |error e=>rw[H]at h;cases h
       |ok b=>
        rw[H]at h;simp only[FG,EC]at h;rw[←h.1];exact⟨⟨g,Or.inl ⟨rfl,i,rfl⟩⟩,fun r g=>by cases g⟩
      |some b=>
       simp only at h;cases H:Dm B b with
       |none=>rw[H]at h;cases h
       |some u=>
        rw[H]at h;simp only at h;cases o:By (Az d) L u with
        |error e=>rw[o]at h;cases h
        |ok r=>
         obtain⟨Q,m⟩:=r;rw[o]at h;simp only[FG,EC]at h;rw[←h.1];exact⟨⟨g,Or.inr ⟨rfl,⟨b,i⟩,rfl⟩⟩,gX (P:=Ny) (fun a x y c e=>(ih a c x y e).1) o⟩
theorem TS(h:E8 s=.ok p):Ny p∧∀r∈p.parts,Ny r:=by
 unfold E8 at h;split at h
 ·cases h
 cases H:Az 4 40 s with
 |error e=>rw[H]at h;cases h
 |ok r=>
  obtain⟨q,n⟩:=r;rw[H]at h;have:q=p:=by simpa[Except.map]using h
  rw[←this];exact TR _ _ _ _ _ H
theorem Ny.leaf(h:Ny q)(m:q.many=false):tM q:=by
 obtain⟨a,H|H⟩:=h
 ·exact⟨a,H.2.1,H.1,H.2.2⟩
 rw[m]at H;exact absurd H.1 (by decide)
theorem TT(h:Bg H=some (some B)):∃v m p,Ai H Bu=some v∧Ay v=some (m,p)∧hasPrefix m Jv=true∧C5 p C9=some B∧J0 B=false:=by
 unfold Bg at h;cases g:Ai H Bu with
 |none=>rw[g]at h;cases h
 |some v=>
  rw[g]at h;simp only at h;cases k:Ay v with
  |none=>rw[k]at h;cases h
  |some x=>
   obtain⟨m,p⟩:=x;rw[k]at h;simp only at h;split at h
   ·rename_i c;cases a:C5 p C9 with
    |none=>rw[a]at h;cases h
    |some b=>
     rw[a]at h;simp only at h;split at h
     ·cases h
     rename_i d;simp at h;subst h;exact⟨v,m,p,rfl,k,c,a,by simpa using d⟩
   simp at h
def Nz(x:Aj×Bs)(t:Bs):Bs:=t.take x.1.1++(J5 (Kv t x.1) x.2++t.drop (x.1.1+x.1.2.1))
def Jn(s:Bs)(z:List (Aj×Bs)):Bs:=z.foldr Nz s
theorem X9{s:Bs}:∀(z:List (Aj×Bs))(i:Nat),Bt i (Io z) s.length→i≤s.length→(∀x∈z,1≤x.1.1)→(Jn s z).drop i=F9 s z i∧(Jn s z).take i=s.take i∧i≤(Jn s z).length
 |[],i,_,H,_=>⟨rfl,rfl,H⟩
 |x::l,i,h,H,p=>by
  have e:i≤x.1.1:=h.1;have a:Bt (x.1.1+x.1.2.1) (Io l) s.length:=h.2;have f:=a.le;have o:=p x (CD ..);obtain⟨I,b,j⟩:=X9 l (x.1.1+x.1.2.1) a f (fun y c=>p y (CA _ c));show(Nz x (Jn s l)).drop i=_∧(Nz x (Jn s l)).take i=_∧i≤(Nz x (Jn s l)).length;generalize Jn s l=t at I b j⊢;unfold Nz;have d:t.take x.1.1=s.take x.1.1:=by
   have E:(t.take (x.1.1+x.1.2.1)).take x.1.1=t.take x.1.1:=by rw[GQ,EN (by omega)]
   have k:(s.take (x.1.1+x.1.2.1)).take x.1.1=s.take x.1.1:=by rw[GQ,EN (by omega)]
   rw[←E,b,k]
  have m:Kv t x.1=Kv s x.1:=by
   unfold Kv;have g:∀y:Bs,x.1.1≤y.length→y.getD (x.1.1-1) 0=(y.take x.1.1).getD (x.1.1-1) 0:=by
    intro y c;rw[AK,AK,EA,AM (by omega)]
   rw[g t (by omega),g s (by omega),d]
  have q:(t.take x.1.1).length=x.1.1:=by rw[BV];omega
  rw[m,I,d];have n:(s.take x.1.1).length=x.1.1:=by rw[BV];omega
  refine⟨?_,?_,?_⟩
  ·rw[JJ (by omega),List.drop_take];rfl
  ·rw[CY (by omega),GQ,EN e]
  rw[AH,n];omega
theorem TU(s:Bs)(v:List Bs)(h:(Bf s).length=v.length):Gt s v=some (Jn s ((Bf s).zip v)):=by
 have H:Io ((Bf s).zip v)=Bf s:=gO (by omega);have p:∀x∈(Bf s).zip v,1≤x.1.1:=fun x a=>by
  have:x.1∈Io ((Bf s).zip v):=List.mem_map_of_mem a;rw[H]at this;exact Tj s _ this
 have:=(X9 ((Bf s).zip v) 0 (by rw[H];exact(Jb s).1) (CX _) p).1;unfold Gt;rw[AM h,←this];rfl
end Go.Proofs.YtignjjnflcpiiaaGreatDoor
