/- A head read, by the document's answer: as the program rea -/
import Derived.Test.YtignjjnflcpiiaaGreatDoorV19
set_option maxHeartbeats 4000000
set_option maxRecDepth 100000 set_option linter.all false
namespace Go.Proofs.YtignjjnflcpiiaaGreatDoor
open Go Go.RowKit Proofs.Tryz Lib
abbrev bE(w:World)(b:Nat):Prop:=A0 w b #[.int .i64 0,.int .i64 0] 113
def nL(s p:Bs):(index s p=-1/\cut s p=(s,[],false))\/∃a b,index s p=(a.length:Int)/\cut s p=(a,b,true)/\s.take a.length=a/\s.drop (a.length+p.length)=b/\a.length+p.length+b.length=s.length:=by
 rw[Jl,Gs];cases h:Ao p s with
 |none=>exact Or.inl ⟨rfl,rfl⟩
 |some x=>
  obtain⟨a,b⟩:=x;have e:=F7 h;refine Or.inr ⟨a,b,rfl,rfl,?_,?_,?_⟩
  ·rw[e,AP,List.take_left]
  ·rw[e,KU ah,BP ah,CT]
  rw[e];simp;omega
theorem YN(out:List A4)(x:UInt8)(l:Bs):L7 out (x::l)=if Iw x&&!out.isEmpty then(match out.getLast? with
  |none=>none
  |some f=>some (out.dropLast++[(f.1,f.2++x::l)]))
 else match Ao [58] (x::l)with
  |none=>none
  |some (a,b)=>if Ez a then some (out++[(a,b)])else none:=by
 have g:Rn (x::l)=Iw x:=rfl;unfold L7;rw[g];cases h:Iw x with
 |false=>rfl
 |true=>
  cases out with
  |cons f out=>rfl
  |nil=>
   simp only[FR,List.isEmpty_nil,EK,CC,DM,DK,List.getLast?_nil];cases d:Ao [58] (x::l)with
   |none=>rfl
   |some y=>
    obtain⟨a,b⟩:=y;have e:=F7 d;have H:Ki x=false/\x≠58:=by
     unfold Iw at h;simp at h;rcases h with rfl|rfl<;>decide
    cases a with
    |nil=>simp at e;exact absurd e.1 H.2
    |cons c a=>
     simp at e;obtain⟨rfl,_⟩:=e;have:Ez (x::a)=false:=by simp[Ez,H.1]
     simp[this]
def YO(B:Nat)(r:Option (List A4×Bs))(e:Ending)(w':World):Prop:=(∃o rest v,r=some (o,rest)/\o.length<=1000000000/\Tk 0 o/\rest.length<=1000000000/\e=.returned (.tuple #[v,.string ⟨rest.toArray⟩,.agg #[.int .i64 0,.int .i64 (-1)]])/\Bt w' B v o)\/(r=none/\∃n:Int,e=.returned (.tuple #[.slice none 0 0,.string ⟨#[]⟩,.agg #[.int .i64 3,n]]))
def YP(s:Bs)(w:World)(hl:s.length<=1000000000)(V:Cj w):Calls prog 204 #[s] w fun e w'=>YO w.heap.size (E7 s) e w'/\Below w.heap.size w w':=by
 have K:=A0.new w #[.int .i64 0,.int .i64 0] 113;have B:=(AG w.heap.size w).alloc (AF _) (.cells #[.int .i64 0,.int .i64 0] 113);have b0:=fun W=>U1 0 W
 go_enter func204,ntmps204;go_wp2_with fail;generalize w.alloc (.cells #[.int .i64 0,.int .i64 0] 113)=w1 at K B|-;go_loopw[0,5,6] (fun t o i wr=>∃(rest:Bs)(out:List A4)(n F:Nat),t=rest/\i=n/\n+rest.length<=1000000000/\out.length<=n/\Bt wr (w.heap.size+1) o out/\rest.length<F/\Hid (Hj F out rest=E7 s)/\Tk rest.length out/\bE wr w.heap.size/\Below w.heap.size w wr) (fun t _ _ _=>Jn t)
 case atStart=>exact⟨s,[],0,s.length+1,rfl,rfl,aa,ah,A1.nil _ _ _ _ _,aa,AE rfl,fun f X=>by simp at X,K,B⟩
 clear K B;obtain⟨rest,out,n,F,rfl,rfl,d4,c1,d,d5,Y,b1,K,B⟩:=hrel;have J:=AE b1;clear b1;obtain⟨F,rfl⟩:∃m,F=m+1:=⟨F-1,aa⟩;by_cases h0:rest=[]
 ·subst h0;have N:=AE (by rw[<-Y.o];rfl:E7 s=some (out,[]));clear Y;go_wp2_with fail;with_reducible refine(b0 _).mono ?_
  rintro e C⟨rfl,p⟩;have K:=K.next p K.lt;have d:=A1.next d p;have B:=B.trans (p.mono B.size);have kc:=K.cell;have b2:=K.free;clear p;go_wp2_with fail;refine AO (v:=.tuple #[u5,.string ⟨#[]⟩,.agg #[.int .i64 0,.int .i64 (-1)]]) (by simp[results,results204,go_sem,kc]) rfl ⟨Or.inl ⟨out,[],_,N.o,aa,J.o,ah,rfl,((d.A6 (DZ _) _).A6 (DZ _) _).mono aa⟩,(B.setCell (AF _) _).setCell (AF _) _⟩
 have a3:=Tj h0 [13,10] ae;have hu:=Yk (k:=F) (out:=out) h0;rw[Y.o]at hu;have U:=AE hu;clear hu Y;have d6:rest.isEmpty=false:=ed
 have a4:=AE (nL rest [13,10]);clear h0;have E:=Yf rest [13,10] wr aa (V.next B);generalize cut rest [13,10]=c at a3 U a4;obtain⟨l,r,ok⟩:=c;simp only at a3 U;obtain⟨b3,d7,Z⟩:=a3;go_upto_if 21 with(go_at_call 66;with_reducible refine E.mono ?_;rintro e C⟨rfl,rfl⟩);clear E;go_cut[7,8,9] (fun _ x y wx=>x=l/\y=r/\Below wr.heap.size wr wx)
 case first=>
  rcases a4.o with⟨D,A⟩|⟨a,b,D,A,P,Q,R⟩
  ·rw[D];have H2:=AE A;clear D A;go_wp2;go_meet;have h:=H2.o;simp only[EB]at h;obtain⟨rfl,rfl,_⟩:=h;exact⟨rfl,rfl,AG _ _⟩
  rw[D];have H2:=AE A;have S:=AE P;have H4:=AE Q;simp only[AK,BG]at R;have c2:a.length+2<=rest.length:=aa
  have c3:wrap64 ((a.length:Int)+2)=(a.length:Int)+2:=da
  clear D A P Q R;go_wp2_with fail;go_quiet(fail);go_wp2;go_meet;have h:=H2.o;simp only[EB]at h;obtain⟨rfl,rfl,_⟩:=h;exact⟨by rw[S.o],by rw[<-H4.o];rfl,CO (AG _ _) _⟩
 case rest=>
 clear a4;obtain⟨rfl,rfl,p⟩:=hcut;obtain⟨C,rfl⟩:∃x:World,x=wc:=⟨_,rfl⟩;have K:=K.next p K.lt;have d:=A1.next d p;have B:=B.trans (p.mono B.size);clear p;cases l with
 |nil=>
  have Z:=Z rfl;subst Z;have N:=AE (by rw[U.o,AN ⟨rfl,rfl⟩]:E7 s=some (out,r));have c4:=AE (show Tk 0 out from fun f X=>⟨(J.o f X).1,by have:=(J.o f X).2;omega⟩);go_wp2_with fail;with_reducible refine(b0 _).mono ?_
  rintro e G⟨rfl,p⟩;have K:=K.next p K.lt;have d:=A1.next d p;have B:=B.trans (p.mono B.size);have kc:=K.cell;have b2:=K.free;clear p;go_wp2_with fail;refine AO (v:=.tuple #[u5,r,.agg #[.int .i64 0,.int .i64 (-1)]]) (by simp[results,results204,go_sem,kc]) rfl ⟨Or.inl ⟨out,r,_,N.o,aa,c4.o,aa,rfl,((d.A6 (DZ _) _).A6 (DZ _) _).mono aa⟩,(B.setCell (AF _) _).setCell (AF _) _⟩
 |cons x L=>
  clear Z;have M:=AE (by rw[U.o,AL (fun h=>by cases h.1)];rfl:E7 s=match L7 out (x::L)with|none=>none|some o=>Hj F o r);clear U;have O:=AE (YN out x L);have a0:=fun W=>Wk x W
  obtain⟨va,vc,rfl,_⟩:=Cq.open (A1.rd ae Af d);go_upto_region 13 with fail;go_cut[42] (fun t wx=>t=.bool (Iw x&&!out.isEmpty)/\wx=C)
  case first=>
   generalize H:Iw x=q at a0;have Hq:=AE H;clear H;cases q with
   |false=>
    go_wp2_with fail;with_reducible refine(a0 _).mono ?_
    rintro e G⟨rfl,rfl⟩;go_wp2;go_meet;exact⟨by rw[Hq.o];rfl,rfl⟩
   |true=>
    have HE:=AE (show decide (0<out.length)=!out.isEmpty by cases out<;>simp);go_wp2_with fail;with_reducible refine(a0 _).mono ?_
    rintro e G⟨rfl,rfl⟩;go_wp2;go_meet;exact⟨by rw[HE.o,Hq.o];rfl,rfl⟩
  case rest=>
  clear a0;obtain⟨rfl,hw⟩:=hcut;obtain rfl:=hw.symm;clear hw;have a1:=Tj (GL x L) [58] ae;have I:=AE (Gs [58] (x::L));have T:=AE (nL (x::L) [58]);have c5:(x::L).length<=1000000000:=aa
  have a2:=AE (show(Iw x&&!out.isEmpty)=true->out≠[]from fun h=>by cases out<;>simp at h|-);generalize(Iw x&&!out.isEmpty)=go at O a2|-;have c6:(x::L).length+r.length<=rest.length:=b3;generalize x::L=l at M O c5 a1 I T c6|-;clear b3;cases go with
  |true=>
   rcases DH out with ho|⟨a5,f,ho⟩
   ·exact absurd ho (a2.o rfl)
   rw[DI]at ho;subst ho;have N:=AE (by rw[M.o,O.o];simp:Hj F (a5++[(f.1,f.2++l)]) r=E7 s);obtain⟨g,d8,a6,d9,e0,e1,e2⟩:=Bt.last d;simp only[AJ,AK,BG]at c1 a6 d|-;obtain⟨rfl,_,rfl⟩:=Value.slice.inj a6;have c7:=J.o f ah;have c8:=fun y=>Bt.setLast (n:=a5.length+1) rfl d y
   clear a2 T I a1 a6;go_wp2;go_roundw
   case rel=>exact⟨r,a5++[(f.1,f.2++l)],n+1,F,rfl,aj,aa,ag,c8 (f.2++l),aa,N,fun q H=>by
    rcases BY.1 H with H|H
    ·have:=J.o q je;exact⟨this.1,aa⟩
    simp at H;subst H;exact⟨c7.1,ag⟩,K.A6 (ED (show w.heap.size<g by omega)) _,B.setCell (show w.heap.size<=g by omega) _⟩
   simp;omega
  |false=>
   clear a2;have E:=Yf l [58] C aa (V.next B);have b4:=K.cell 0;have b5:=K.cell 1;have b2:=K.free;rcases T.o with⟨D,A⟩|⟨a,b,D,A,P,Q,R⟩
   ·rw[D]at E;have N:=AE (show E7 s=none from by
     rw[M.o,O.o];cases hc:Ao [58] l with
     |none=>rfl
     |some q=>have:=I.o;rw[hc,A]at this;simp at this)
    clear M O I T D A a1;go_wp2_with fail;with_reducible refine E.mono ?_
    rintro e G⟨rfl,rfl⟩;go_wp2_with fail;refine AO (v:=.tuple #[.slice none 0 0,.string ⟨#[]⟩,.agg #[.int .i64 3,n]]) (by simp[results,results204,go_sem,b4,b5]) rfl ⟨Or.inr ⟨N.o,_,rfl⟩,(B.setCell (AF _) _).setCell (AF _) _⟩
   rw[D]at E;have N:=AE (show E7 s=match(if Ez a then some (out++[(a,b)])else none)with|none=>none|some o=>Hj F o r from by
    rw[M.o,O.o];cases hc:Ao [58] l with
    |none=>have:=I.o;rw[hc,A]at this;simp at this
    |some q=>have:=I.o;rw[hc,A]at this;simp at this;rw[this.1,this.2];rfl)
   have S:=AE P;have H4:=AE Q;simp only[AK,BG]at R;have c2:a.length+1+b.length<=l.length:=aa
   have c3:wrap64 ((a.length:Int)+1)=(a.length:Int)+1:=da
   clear M O I T D A P Q R a1;have a7:=fun W=>jJ (l.take a.length) W (by rw[S.o];omega)
   have e3:a.length<=l.length:=aa
   have e4:a.length+1<=l.length:=aa
   have a8:=AE (show Ez (l.take a.length)=Ez a by rw[S.o]);generalize Ez (l.take a.length)=nb at a7 a8;rw[<-a8.o]at N;clear a8;cases nb with
   |false=>
    have a9:=AE (ay:E7 s=none);go_wp2_with fail;with_reducible refine E.mono ?_
    rintro e G⟨rfl,rfl⟩;go_wp2_with fail;with_reducible refine(a7 _).mono ?_
    rintro e G⟨rfl,rfl⟩;go_wp2_with fail;refine AO (v:=.tuple #[.slice none 0 0,.string ⟨#[]⟩,.agg #[.int .i64 3,n]]) (by simp[results,results204,go_sem,b4,b5]) rfl ⟨Or.inr ⟨a9.o,_,rfl⟩,(B.setCell (AF _) _).setCell (AF _) _⟩
   |true=>
    have a9:=AE (ay:Hj F (out++[(a,b)]) r=E7 s);go_wp2_with fail;with_reducible refine E.mono ?_
    rintro e G⟨rfl,rfl⟩;go_wp2_with fail;with_reducible refine(a7 _).mono ?_
    rintro e G⟨rfl,rfl⟩;go_wp2_with fail;have i1:(a.length:Int)<=l.length:=aa
    have i2:(0:Int)<=a.length:=aa
    have i3:(a.length:Int)+1<=l.length:=aa
    have i4:(0:Int)<=(a.length:Int)+1:=aa
    have z1:IntKind.i64.wrap ((a.length:Int)+1)=(a.length:Int)+1:=CQ _ aa;have z3:((a.length:Int)+1).toNat=a.length+1:=aa
    have c9:=B.size;have b6:Bt ((C.alloc (.cells #[l.take a.length,l.drop (a.length+1)] 92)).drew) (w.heap.size+1) (.slice va out.length vc) out:=A1.alloc d _;have b7:∀j u,([(l.take a.length,l.drop (a.length+1))].flatMap Bc)[j]?=some u->((C.alloc (.cells #[l.take a.length,l.drop (a.length+1)] 92)).drew).cell? ((⟨C.heap.size,0,none⟩:Go.Addr).add j)=some u:=I0 C (l.take a.length,l.drop (a.length+1)) _;have q1:=AE (ag:(out.length+[(l.take a.length,l.drop (a.length+1))].length)*32<=140737488355328);have q2:=AE (ao:out.length+[(l.take a.length,l.drop (a.length+1))].length<=maxLen);have b8:=AE (by have:=K.lt;show _<=(C.alloc _).heap.size;simp;omega:w.heap.size+1<=((C.alloc (.cells #[l.take a.length,l.drop (a.length+1)] 92)).drew).heap.size);go_region_law((refine Lg (α:=A4) (cs:=Bc) (size:=2) (z:=.agg #[.string ByteArray.empty,.string ByteArray.empty]) Af M0 My rfl ae underlying42 rfl _ _ rfl (w.heap.size+1) _ out [(l.take a.length,l.drop (a.length+1))] ⟨C.heap.size,0,none⟩ 1 1 rfl ae rfl b6 rfl b7 q1.o q2.o b8.o ?_;intro v' e5 d0 b9 c0));all_goals
     have d1:=((K.alloc (.cells #[l.take a.length,l.drop (a.length+1)] 92)).drew).grown b9 (fun g V=>by have:=A1.Ha d g V;omega);have d2:=((B.alloc c9 (.cells #[l.take a.length,l.drop (a.length+1)] 92)).drew).trans (c0.mono (IF _));have d3:=AE (by rw[S.o,show l.drop (a.length+1)=b from H4.o];exact a9.o:Hj F (out++[(l.take a.length,l.drop (a.length+1))]) r=E7 s);have Hl:=AE (ag:(l.take a.length).length+(l.drop (a.length+1)).length<=l.length);clear b9 c0 b7 b6 q1 q2 b8;go_wp2;go_roundw
     case rel=>exact⟨r,out++[(l.take a.length,l.drop (a.length+1))],n+1,F,rfl,aj,aa,ag,d0,aa,d3,fun q H=>by
      have:=Hl.o;rcases BY.1 H with H|H
      ·have:=J.o q H;exact⟨this.1,aa⟩
      simp at H;subst H;exact⟨ai,ai⟩,d1,d2⟩
     simp;omega
def YQ(B:Nat)(r:Option (List A4))(e:Ending)(w':World):Prop:=(∃o v,r=some o/\e=.returned (.tuple #[v,.agg #[.int .i64 0,.int .i64 (-1)]])/\Bt w' B v o)\/(r=none/\∃n:Int,e=.returned (.tuple #[.slice none 0 0,.agg #[.int .i64 1,n]]))
def YR(v:Value)(l:List A4)(w:World)(s:Cq w v l)(n:Nk l):Calls prog 205 #[v] w fun e t=>YQ w.heap.size (Cz l) e t/\Below w.heap.size w t:=by
 have a7:=n.1;have U:=AE n.2;clear n;obtain⟨a,a8,rfl,A⟩:=s.open;have X:=AE A;clear A s;have K:=A0.new w #[.int .i64 0,.int .i64 0] 113;have B:=(AG w.heap.size w).alloc (AF _) (.cells #[.int .i64 0,.int .i64 0] 113);have Y:=fun W=>U1 0 W
 go_enter func205,ntmps205;go_wp2_with fail;generalize w.alloc (.cells #[.int .i64 0,.int .i64 0] 113)=w1 at K B|-;go_loopw[4,9] (fun o i wr=>∃(k:Nat)(O:List A4),i=k/\k<=l.length/\O.length=k/\Bt wr (w.heap.size+1) o O/\Hid ((Cz (l.drop k)).map (O++·)=Cz l)/\bE wr w.heap.size/\Below w.heap.size w wr) (fun _ i _=>l.length-(intOf i).toNat)
 case atStart=>exact⟨0,[],rfl,aa,rfl,A1.nil _ _ _ _ _,AE ah,K,B⟩
 clear K B;obtain⟨k,O,rfl,hk,a9,h,m,K,B⟩:=hrel;by_cases E:k<l.length
 ·obtain⟨b,rfl,F,G,I⟩:=X.o k E;have q:=U.o l[k] (AQ _);have D:=AE (by rw[AH E];rfl:Cz (l.drop k)=if Gd (trimS l[k].2 [32,9])then(Cz (l.drop (k+1))).map ((l[k].1,trimS l[k].2 [32,9])::·)else none);have C:=(B.cell (p:=⟨b,k*2,none⟩) F).trans G;have r:=(B.cell (p:=⟨b,k*2+1,none⟩) F).trans I;clear G I;generalize l[k]=f at q D C r;obtain⟨x,y⟩:=f;simp only at q D C r;obtain⟨hx,hy⟩:=q;have d:=A0.new wr #[x,y] 92;have B:=B.alloc B.size (.cells #[x,y] 92);have h:=h.alloc (.cells #[x,y] 92);have K:=K.alloc (.cells #[x,y] 92);have T:=fun W=>Wl y W aa
  have Z:=Ro y [32,9];generalize trimS y [32,9]=z at T Z D;have V:=fun W=>jM z W aa
  generalize Gd z=bz at V D;go_wp2_with fail;generalize World.alloc _ _=w2 at d B h K|-;with_reducible refine(T _).mono ?_
  rintro e w3⟨rfl,rfl⟩;go_wp2_with fail;with_reducible refine(V _).mono ?_
  rintro e c⟨rfl,H⟩;have d:=d.next H d.lt;have K:=K.next H K.lt;have h:=A1.next h H;have B:=B.trans (H.mono B.size);clear H C r V;cases bz with
  |false=>
   have N:=AE (by rw[<-m.o,D.o];rfl:Cz l=none);have a0:=K.cell 0;have a1:=K.cell 1;have a2:=K.free;go_wp2_with fail;refine AO (v:=.tuple #[.slice none 0 0,.agg #[.int .i64 1,k]]) (by simp[results,results205,go_sem,a0,a1]) rfl ⟨Or.inr ⟨N.o,_,rfl⟩,(B.setCell (AF _) _).setCell (AF _) _⟩
  |true=>
   have N:=AE (by rw[<-m.o,D.o];simp only[DK];cases Cz (l.drop (k+1))<;>simp:(Cz (l.drop (k+1))).map ((O++[(x,z)])++·)=Cz l);clear D m;have kd:=(A0.drew d).cell;have a3:=B.size;have b0:=K.lt;have J:Bt ((c.alloc (.cells #[x,z] 92)).drew) (w.heap.size+1) _ O:=A1.alloc h _;have L:∀j u,([(x,z)].flatMap Bc)[j]?=some u->((c.alloc (.cells #[x,z] 92)).drew).cell? ((⟨c.heap.size,0,none⟩:Go.Addr).add j)=some u:=I0 c (x,z) _;have Q:=AE (ag:(O.length+[(x,z)].length)*32<=140737488355328);have M:=AE (ao:O.length+[(x,z)].length<=maxLen);have P:=AE (by show _<=(c.alloc _).heap.size;simp;omega:w.heap.size+1<=((c.alloc (.cells #[x,z] 92)).drew).heap.size);go_upto_region 7 with fail;go_region_law((first
    |(refine Lg (α:=A4) (cs:=Bc) (size:=2) (z:=.agg #[.string ByteArray.empty,.string ByteArray.empty]) Af M0 My rfl ae underlying42 rfl _ _ rfl (w.heap.size+1) _ O [(x,z)] ⟨c.heap.size,0,none⟩ 1 1 rfl ae rfl J rfl L Q.o M.o P.o ?_;intro v' b1 a4 R S)
    |(go_simp;with_reducible refine(T _).mono ?_;rintro e b2⟨rfl,rfl⟩)))
   all_goals
    have a5:=((K.alloc (.cells #[x,z] 92)).drew).grown R (fun g hg=>by have:=A1.Ha h g hg;omega);have a6:=((B.alloc a3 (.cells #[x,z] 92)).drew).trans (S.mono (IF _));clear R S L J Q M P;go_wp2;go_roundw
    case rel=>exact⟨k+1,O++[(x,z)],aj,aa,ag,a4,N,a5,a6⟩
    simp[intOf];omega
 obtain rfl:k=l.length:=aa
 have N:=AE (by rw[<-m.o,AS];simp[Cz]:Cz l=some O);go_wp2_with fail;with_reducible refine(Y _).mono ?_
 rintro e w2⟨rfl,H⟩;have K:=K.next H K.lt;have h:=A1.next h H;have B:=B.trans (H.mono B.size);have kc:=K.cell;have a2:=K.free;clear H;go_wp2_with fail;refine AO (v:=.tuple #[u4,.agg #[.int .i64 0,.int .i64 (-1)]]) (by simp[results,results205,go_sem,kc]) rfl ⟨Or.inl ⟨O,_,N.o,rfl,((h.A6 (DZ _) _).A6 (DZ _) _).mono aa⟩,(B.setCell (AF _) _).setCell (AF _) _⟩
end Go.Proofs.YtignjjnflcpiiaaGreatDoor
