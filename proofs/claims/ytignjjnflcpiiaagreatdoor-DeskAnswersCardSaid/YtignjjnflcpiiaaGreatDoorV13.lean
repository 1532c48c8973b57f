/- How long addresses can be. No program, no condition; Smal -/
import Derived.Test.YtignjjnflcpiiaaGreatDoorV07
import Derived.Test.YtignjjnflcpiiaaGreatDoorV08
import Derived.Test.YtignjjnflcpiiaaGreatDoorV09
set_option maxHeartbeats 4000000
set_option maxRecDepth 100000 set_option linter.all false
namespace Go.Proofs.YtignjjnflcpiiaaGreatDoor
open Go Go.RowKit Proofs.Tryz Lib
def zS(l:Bs):(Ib l).1.length+(Ib l).2.length<=l.length:=by
 unfold Ib;cases h:Ao [58] l with
 |none=>simp
 |some x=>
  obtain⟨a,b⟩:=x;have e:=CI List.length (F7 h);simp at e;simp only;split
  ·simp only;omega
  simp
def zT(l:Bs):(Nl l).2.1.length+(Nl l).2.2.length<=l.length:=by
 unfold Nl;split
 ·cases h:Ao [47] (l.drop 2)with
  |none=>simp
  |some x=>
   obtain⟨a,b⟩:=x;have e:=CI List.length (F7 h);simp at e;simp;omega
 simp
variable {s l p r:Bs}{a b k:Int}{i:Nat}{c:UInt8}
def Iv{x:A3}(h:Be s=some x):x.len<=3*s.length:=by
 unfold Be at h;split at h
 ·cases h;have H:=Ru s [35];have a:=Ru (cut s [35]).1 [63];have b:=zS (cut (cut s [35]).1 [63]).1;have c:=zT (Ib (cut (cut s [35]).1 [63]).1).2;unfold Oe A3.len;simp only;omega
 cases h
def Nw(x y:A3):(Ar x y).len<=2*x.len+2*y.len+4/\(Ar x y).path.length<=2*x.len+2*y.len+4:=by
 have a:=Qf y.path;have h:=Qf (M8 x++y.path);have b:=Yy x;simp only[AJ]at h;unfold Ar A3.len;split
 ·simp only;omega
 split
 ·simp only;omega
 split
 ·cases q:y.hasQuery<;>simp<;>omega
 rename_i c l H;rw[H]at a h;rw[H];split<;>simp only<;>omega
def zU(x:A3):(Cn x).len<=x.len:=by unfold Cn A3.len A2;simp
def Pp(a:A3):(Ea a).length<=a.len+5:=by
 unfold Ea A3.len;simp only[AJ];have h:(if a.scheme=[]then([]:Bs)else a.scheme++[58]).length<=a.scheme.length+1:=by split<;>simp
 have H:(if a.hasAuth then([47,47]++a.auth:Bs)else[]).length<=a.auth.length+2:=by split<;>simp
 have b:(if a.hasQuery then([63]++a.query:Bs)else[]).length<=a.query.length+1:=by split<;>simp
 have c:(if a.hasFrag then([35]++a.frag:Bs)else[]).length<=a.frag.length+1:=by split<;>simp
 omega
def Iw(c:UInt8):Bool:=c==32||c==9
def F2(c d:UInt8):(c==d)=((c.toNat:Int)==(d.toNat:Int)):=by
 rw[DY,BL,BL];constructor
 ·intro h;rw[h]
 intro h;exact BQ.1 aa
def Wk(c:UInt8)(w:World):Calls prog 208 #[.int .u8 c.toNat] w fun e W=>e=.returned (.bool (Iw c))/\W=w:=by
 have H:=AE (by unfold Iw;rw[F2,F2];rfl:Iw c=(((c.toNat:Int)==32)||((c.toNat:Int)==9)));go_enter func208,ntmps208
 go_wp2
 all_goals
  go_ret;exact⟨Bm ez,rfl⟩
def U4(c:UInt8)(w:World):Calls prog 212 #[.int .u8 c.toNat] w fun e W=>e=.returned (.bool (Am c))/\W=w:=by
 have H:=AE (by unfold Am;rw[F2,F2,F2,F2];rfl:Am c=(((((c.toNat:Int)==13)||((c.toNat:Int)==10))||((c.toNat:Int)==32))||((c.toNat:Int)==9)));go_enter func212,ntmps212
 go_wp2
 all_goals
  go_ret;exact⟨Bm ez,rfl⟩
def jJ(s:Bs)(w:World)(f:s.length<=1000000000000):Calls prog 273 #[s] w fun e W=>e=.returned (.bool (Ez s))/\w=W:=by
 go_enter func273,ntmps273;go_wp2_with fail;go_loop[6] (fun i=>∃k:Nat,i=k/\k<=s.length/\s.all Ki=(s.drop k).all Ki) (fun i=>s.length-(intOf i).toNat)
 case atStart=>exact⟨0,rfl,aa,ah⟩
 obtain⟨k,rfl,g,l⟩:=hrel;have h:=AE l;clear l;by_cases a:k<s.length
 ·have A:=AE (Ti Ki a);have I:=AE (dW s[k]);have j:(s[k].toNat:Int)<256:=by have:=s[k].toNat_lt;omega
  go_upto_region 4 with fail;go_cut[20] (fun t x=>t=.bool (!Ki s[k])/\x=w)
  case first=>
   go_wp2_with fail;with_reducible refine(Ju _ _ _ _).mono ?_
   rintro e m⟨rfl,rfl⟩;go_wp2_with fail;all_goals
    go_meet;exact⟨fi,rfl⟩
  obtain⟨rfl,rfl⟩:=hcut;generalize Ki s[k]=b at A|-;cases b with
  |false=>
   have c:=AE (by unfold Ez;rw[h.o,A.o];rfl:Ez s=false);go_wp2;go_ret;exact⟨Bm c.o.symm,rfl⟩
  |true=>
   go_wp2_with fail
   go_round
   case rel=>exact⟨k+1,aj,aa,vu⟩
   simp[intOf];omega
 obtain rfl:k=s.length:=aa
 have H:=AE (by unfold Ez;rw[h.o,AS];rfl:Ez s=!s.isEmpty);by_cases h0:s=[]
 ·subst h0;go_wp2;go_ret;exact⟨Bm bu,rfl⟩
 have d:s.isEmpty=false:=ed
 have p:=BK.2 h0;go_wp2;go_ret;exact⟨Bm (by rw[H.o,d];first|(simp;done)|(simp;omega)),rfl⟩
def zV(s:Bs)(cs:Bs):trimRightS (trimLeftS s cs) cs=trimS s cs:=by
 induction s with
 |nil=>rfl
 |cons c s ih=>
  cases h:cs.contains c with
  |true=>
   rw[xA h];have:trimLeftS (c::s) cs=trimLeftS s cs:=by unfold trimLeftS;rw[FC h]
   rw[this,ih]
  |false=>
   have H:trimLeftS (c::s) cs=c::s:=by unfold trimLeftS;rw[DW ko]
   unfold trimS;rw[H,Tv,h];unfold trimLeftS;split
   ·rw[AL ae,DW ko]
   rw[DW ko]
def jK(s:Bs)(c:UInt8)(cs:Bs):trimRightS (s++[c]) cs=if cs.contains c=true then trimRightS s cs else s++[c]:=by
 unfold trimRightS;rw[JS,List.reverse_singleton,JF,EY];split
 ·rfl
 simp
def Sf(c:UInt8):Iw c=([32,9]:Bs).contains c:=by
 unfold Iw;rw[DY];simp
def Wl(s:Bs)(w:World)(r:s.length<=1000000000000):Calls prog 114 #[s] w fun e m=>e=.returned (trimS s [32,9])/\m=w:=by
 have T:=AE (zV s [32,9]);go_enter func114,ntmps114;go_wp2_with fail;go_loopw[0] (fun x wr=>∃l:Bs,x=l/\l.length<=s.length/\Hid (trimLeftS l [32,9]=trimLeftS s [32,9])/\wr=w) (fun x _=>Jn x)
 case atStart=>exact⟨s,rfl,AF _,AE rfl,rfl⟩
 obtain⟨l,rfl,g,L,rfl⟩:=hrel;cases l with
 |nil=>
  have E:=AE (by rw[<-T.o,<-L.o];rfl:trimS s [32,9]=[]);go_wp2_with fail;go_loopw[0] (fun x W=>∃y:Bs,x=y/\y=[]/\W=wr) (fun _ _=>0)
  case atStart=>exact⟨[],rfl,rfl,rfl⟩
  obtain⟨y,rfl,rfl,rfl⟩:=hrel;go_wp2;go_ret;refine⟨?_,rfl⟩;rw[E.o];rfl
 |cons c l=>
  have H:=Wk c wr;cases a:Iw c with
  |true=>
   rw[a]at H;have n:=AE (show trimLeftS l [32,9]=trimLeftS s [32,9]from by
    rw[<-L.o];unfold trimLeftS;rw[FC (by rw[<-Sf,a])])
   simp only[AK]at g;go_wp2_with fail;with_reducible refine H.mono ?_
   rintro e i⟨rfl,rfl⟩;go_wp2;go_roundw
   case rel=>exact⟨l,ah,aa,n,trivial⟩
   simp
  |false=>
   rw[a]at H;have X:=AE (show trimS s [32,9]=trimRightS (c::l) [32,9]from by
    rw[<-T.o,<-L.o];unfold trimLeftS;rw[DW (by rw[<-Sf,a];decide)])
   go_wp2_with fail;with_reducible refine H.mono ?_
   rintro e i⟨rfl,rfl⟩;go_wp2_with fail;go_loopw[0] (fun x W=>∃y:Bs,x=y/\y.length<=s.length/\Hid (trimRightS y [32,9]=trimS s [32,9])/\W=i) (fun x _=>Jn x)
   case atStart=>exact⟨c::l,rfl,g,AE X.o.symm,rfl⟩
   obtain⟨y,rfl,t,Y,rfl⟩:=hrel;by_cases b:y=[]
   ·subst b;have E:=AE (by rw[<-Y.o];rfl:trimS s [32,9]=[]);go_wp2;go_ret;refine⟨?_,rfl⟩;rw[E.o];rfl
   obtain⟨k,u⟩:∃k,y.length=k+1:=⟨y.length-1,by have:=BK.2 b;omega⟩;have o:k<y.length:=aa
   have S:=AE (show trimRightS y [32,9]=if([32,9]:Bs).contains y[k]=true then trimRightS (y.take k) [32,9]else y from by
    have e:y=y.take k++[y[k]]:=by
     rw[<-AZ o,CM aa]
    have j:=jK (y.take k) y[k] [32,9];rw[<-e]at j;exact j)
   have d:=Wk y[k] wr;have v:y.isEmpty=false:=by rw[AT];intro h;exact b (GK.1 h)
   have z:wrap64 ((k:Int)+1-1)=(k:Int):=da
   rw[<-Sf]at S;generalize Iw y[k]=q at S d;cases q with
   |true=>
    have f:=AE (by rw[<-Y.o,S.o];rfl:trimRightS (y.take k) [32,9]=trimS s [32,9]);go_wp2_with fail;with_reducible refine d.mono ?_
    rintro e p⟨rfl,rfl⟩;go_wp2_with fail;refine⟨⟨y.take k,?_,?_,f,?_⟩,?_⟩
    ·simp
    ·rw[CH];omega
    ·first|rfl|trivial
    simp;omega
   |false=>
    have f:=AE (by rw[<-Y.o,S.o];rfl:y=trimS s [32,9]);go_wp2_with fail;with_reducible refine d.mono ?_
    rintro e p⟨rfl,rfl⟩;go_wp2;go_ret;refine⟨?_,rfl⟩;rw[<-f.o];rfl
def zW(l:Bs)(k:Nat)(h:k<l.length):A2 (l.take (k+1))=A2 (l.take k)++[Bx l[k]]:=by
 unfold A2;rw[AZ h,FJ];rfl
def aH(l:Bs):(A2 l).length=l.length:=by simp[A2]
def Ix(l:Bs)(w:World)(m:l.length<=140737488355328):Calls prog 67 #[l] w fun e W=>e=.returned (A2 l)/\Below w.heap.size w W:=by
 go_enter func67,ntmps67
 go_wp2
 go_loopw[3,8] (fun o i wr=>∃k:Nat,k<=l.length/\i=k/\o=(A2 (l.take k))/\Below w.heap.size w wr) (fun _ i _=>l.length-(intOf i).toNat)
 case atStart=>exact⟨0,DE _,rfl,by simp[A2],cu⟩
 obtain⟨k,p,rfl,rfl,h⟩:=hrel;by_cases t:k<l.length
 ·have H:=zW l k t;have n:(A2 (l.take k)).length=k:=by rw[aH];simp;omega
  generalize A2 (l.take k)=o at H n;have b:∀(c:UInt8)(v:Int)(_:v=c.toNat),(convert 126 9 (.slice (some ⟨wr.heap.size,0,none⟩) 1 1)).run prog (wr.alloc (.cells #[.int .u8 v] 5))=.ok ([c]:Bs) (wr.alloc (.cells #[.int .u8 v] 5)):=fun c v e=>
   EP (P:=prog) (wr.alloc (.cells #[.int .u8 v] 5)) 126 9 5 ⟨wr.heap.size,0,none⟩ 1 [c] underlying126 underlying5 underlying9
    (fun j d=>by
     obtain rfl:j=0:=by simpa using d
     rw[Er,(A0.new _ _ _).cell,e];rfl)
  by_cases a:(65:Int)<=l[k].toNat/\(l[k].toNat:Int)<=90
  ·obtain⟨f,g⟩:=a;have b:=b (Bx l[k]) _ (dU _ f g);generalize Bx l[k]=c at H b
   go_wp2
   go_roundw
   case rel=>exact⟨k+1,aa,aj,by rw[H],h.alloc h.size _⟩
   simp[intOf];omega
  have b:=b l[k] _ rfl;rw[dV _ a]at H
  go_wp2
  all_goals first
   |omega
   |(
    go_roundw
    case rel=>exact⟨k+1,aa,aj,by rw[H],h.alloc h.size _⟩
    simp[intOf];omega)
 obtain rfl:k=l.length:=aa
 rw[CY]
 go_wp2
 go_ret;exact⟨rfl,h⟩
def jL(a:A3)(w:World)(j:a.scheme.length<=140737488355328)(l:a.auth.length<=140737488355328):Calls prog 58 #[a.val] w fun e m=>e=.returned (Cn a).val/\Below w.heap.size w m:=by
 obtain⟨s,h,u,p,H,q,c,f⟩:=a;simp only at j l;go_enter func58,ntmps58;go_upto_region 1 with fail;have R:=(A0.new w (A3.cells ⟨s,h,u,p,H,q,c,f⟩) 36).alloc (.cells Bg 36);have r:=A0.new (w.alloc (.cells (A3.cells ⟨s,h,u,p,H,q,c,f⟩) 36)) Bg 36;rw[AX]at r;have B:Below w.heap.size w _:=((AG w.heap.size w).alloc (AF _) (.cells (A3.cells ⟨s,h,u,p,H,q,c,f⟩) 36)).alloc ea (.cells Bg 36);generalize n:(w.alloc (.cells (A3.cells ⟨s,h,u,p,H,q,c,f⟩) 36)).alloc (.cells Bg 36)=b at R r B|-;clear n;have o:=(A0.drew R).cell;have g:=(AG b.heap.size b).drew;have t:=(A0.drew r).free;have i:=(A0.drew r).cell;have d:w.heap.size+1<=b.heap.size:=by have:=r.lt;omega
 have x:Below (w.heap.size+1) b b.drew:=g.mono d;go_region_held3(fun W=>(∀k,W.cell? ⟨w.heap.size,k,none⟩=(A3.cells ⟨s,h,u,p,H,q,c,f⟩)[k]?)/\Below (w.heap.size+1) b W)
  (first
   |with_reducible exact⟨o,x⟩
   |with_reducible exact⟨(R.next K R.lt).cell,K.mono d⟩
   |(refine⟨(R.next (B:=w.heap.size+1) ?_ ah).cell,?_⟩<;>(have M:=K.mono d;repeat (first|with_reducible exact M|refine Below.setCell ?_ ah _))))
  ((go_at_call 67;go_split_ands;with_reducible refine(Ix _ _ ax).mono ?_;rintro e z⟨rfl,y⟩;have K:=Bp y (w0:=b) (by first|with_reducible exact g|with_reducible exact K);have t:=(r.next K r.lt).free;have i:=(r.next K r.lt).cell;have A:=B.trans (K.mono B.size)))
 go_wp2_with fail;refine AO (v:=(Cn ⟨s,h,u,p,H,q,c,f⟩).val) (by simp[results,results58,go_sem,Cn,i]) rfl ⟨rfl,cu⟩
def jM(s:Bs)(w:World)(a:s.length<=1000000000000):Calls prog 274 #[s] w fun e W=>e=.returned (.bool (Gd s))/\Below w.heap.size w W:=by
 go_enter func274,ntmps274;go_wp2_with fail;go_loop[6] (fun i=>∃k:Nat,i=k/\k<=s.length/\s.all Gx=(s.drop k).all Gx) (fun i=>s.length-(intOf i).toNat)
 case atStart=>exact⟨0,rfl,aa,ah⟩
 obtain⟨k,rfl,d,l⟩:=hrel;have h:=AE l;clear l;by_cases c:k<s.length
 ·have A:=AE (Ti Gx c);have I:=AE (dX s[k]);have f:(s[k].toNat:Int)<256:=by have:=s[k].toNat_lt;omega
  go_upto_region 4 with fail;go_cut[24] (fun t x=>t=.bool (!Gx s[k])/\x=w)
  case first=>
   go_wp2_with fail;all_goals
    go_meet;exact⟨fi,rfl⟩
  obtain⟨rfl,rfl⟩:=hcut;generalize Gx s[k]=b at A|-;cases b with
  |false=>
   go_wp2;go_ret;exact⟨Bm (by unfold Gd;rw[h.o,A.o];rfl),AG _ _⟩
  |true=>
   go_wp2_with fail
   go_round
   case rel=>exact⟨k+1,aj,aa,vu⟩
   simp[intOf];omega
 obtain rfl:k=s.length:=aa
 have H:=AE (by unfold Gd;rw[h.o,AS];rfl:Gd s=(trimS s [32,9]==s));go_wp2_with fail;with_reducible refine(Wl s _ a).mono ?_
 rintro e g⟨rfl,rfl⟩;go_wp2;go_ret;exact⟨Bm ix,AG _ _⟩
def jN(v:Value)(l:List A4)(w:World)(r:Cq w v l)(c:Nk l):Calls prog 214 #[v] w fun e W=>e=.returned (.bool (Ck l))/\Below w.heap.size w W:=by
 have G:=c.1;have u:=AE c.2;clear c;obtain⟨a,I,rfl,g⟩:=r.open;have z:=AE g;clear g r;go_enter func214,ntmps214;go_wp2_with fail;go_loopw[7] (fun i wr=>∃k:Nat,i=k/\k<=l.length/\Ck l=Ck (l.drop k)/\Below w.heap.size w wr) (fun i _=>l.length-(intOf i).toNat)
 case atStart=>exact⟨0,rfl,aa,ah,AG _ _⟩
 obtain⟨k,rfl,J,j,B⟩:=hrel;have h:=AE j;clear j;by_cases t:k<l.length
 ·obtain⟨b,rfl,m,n,o⟩:=z.o k t;have d:=u.o l[k] (AQ _);have H:=AE (by unfold Ck;rw[AH t,FP]:Ck (l.drop k)=(Ez l[k].1&&Gd l[k].2&&Ck (l.drop (k+1))));have C:=(B.cell (p:=⟨b,k*2,none⟩) m).trans n;have q:=(B.cell (p:=⟨b,k*2+1,none⟩) m).trans o;clear n o;generalize l[k]=f at d H C q;obtain⟨x,y⟩:=f;simp only at d H C q;obtain⟨A,D⟩:=d;go_wp2_with fail;refine(jJ x _ A).mono ?_;rintro e W⟨rfl,rfl⟩;generalize Ez x=E at H|-;cases E with
  |false=>
   go_wp2;go_ret;exact⟨Bm od,B.alloc B.size _⟩
  |true=>
   go_wp2_with fail;refine(jM y _ D).mono ?_;rintro e K⟨rfl,s⟩;generalize Gd y=F at H|-;cases F with
   |false=>
    go_wp2;go_ret;exact⟨Bm od,(B.alloc B.size _).trans (s.mono (B.alloc B.size _).size)⟩
   |true=>
    go_wp2;go_roundw
    case rel=>exact⟨k+1,aj,aa,od,(B.alloc B.size _).trans (s.mono (B.alloc B.size _).size)⟩
    simp[intOf];omega
 obtain rfl:k=l.length:=aa
 go_wp2;go_ret;exact⟨Bm (by rw[h.o,AS];rfl),B⟩
def Sg(v:Value)(l:List A4)(s:Bs)(w:World)(r:Cq w v l)(c:Nk l)(I:s.length<=1000000000000):Calls prog 54 #[v,s] w fun e W=>e=.returned (.tuple #[(Aj l s).getD [],.bool (Aj l s).isSome])/\Below w.heap.size w W:=by
 have J:=c.1;have E:=AE c.2;clear c;obtain⟨a,L,rfl,o⟩:=r.open;have F:=AE o;clear o r;go_enter func54,ntmps54;go_wp2_with fail;go_loopw[10] (fun i wr=>∃k:Nat,i=k/\k<=l.length/\Aj l s=Aj (l.drop k) s/\Below w.heap.size w wr) (fun i _=>l.length-(intOf i).toNat)
 case atStart=>exact⟨0,rfl,aa,ah,AG _ _⟩
 obtain⟨k,rfl,M,q,B⟩:=hrel;have d:=AE q;clear q;by_cases t:k<l.length
 ·obtain⟨b,rfl,u,z,A⟩:=F.o k t;have g:=E.o l[k] (AQ _);have D:=AE (ir:Aj (l.drop k) s=if A2 l[k].1=A2 s then some l[k].2 else Aj (l.drop (k+1)) s);have C:=(B.cell (p:=⟨b,k*2,none⟩) u).trans z;have j:=(B.cell (p:=⟨b,k*2+1,none⟩) u).trans A;clear z A;generalize l[k]=f at g D C j;obtain⟨x,y⟩:=f;simp only at g D C j;obtain⟨N,O⟩:=g;have K:=A0.new wr #[x,y] 92;have B:=B.alloc B.size (.cells #[x,y] 92);go_wp2_with fail;refine(Ix x _ aa).mono ?_;rintro e P⟨rfl,m⟩;have K:=K.next m K.lt;have B:=B.trans (m.mono B.size);clear m C j;go_wp2_with fail;refine(Ix s _ aa).mono ?_;rintro e Q⟨rfl,n⟩;have K:=K.next n K.lt;have B:=B.trans (n.mono B.size);clear n;have R:=K.cell 1;by_cases h:A2 x=A2 s
  ·have G:(A2 x==A2 s)=true:=by rw[BL];exact h
   have H:=AE (by rw[d.o,D.o,AN h]:Aj l s=some y);clear h;go_wp2;go_ret2;exact⟨bu,B⟩
  have G:(A2 x==A2 s)=false:=su
  have H:=AE (by rw[d.o,D.o,AL h]:Aj l s=Aj (l.drop (k+1)) s);clear h;go_wp2;go_roundw
  case rel=>exact⟨k+1,aj,aa,H.o,B⟩
  simp[intOf];omega
 obtain rfl:k=l.length:=aa
 have H:=AE (oq:Aj l s=none);go_wp2;go_ret2;exact⟨bu,B⟩
def jO(v:Value)(l:List A4)(s:Bs)(w:World)(r:Cq w v l)(z:l.length<=1000000000000):Calls prog 56 #[v,s] w fun e W=>e=.returned (.tuple #[(Cc l s).getD [],.bool (Cc l s).isSome])/\Below w.heap.size w W:=by
 obtain⟨a,A,rfl,d⟩:=r.open;have q:=AE d;clear d r;go_enter func56,ntmps56;go_wp2_with fail;go_loopw[10] (fun i wr=>∃k:Nat,i=k/\k<=l.length/\Cc l s=Cc (l.drop k) s/\Below w.heap.size w wr) (fun i _=>l.length-(intOf i).toNat)
 case atStart=>exact⟨0,rfl,aa,ah,AG _ _⟩
 obtain⟨k,rfl,E,g,B⟩:=hrel;have c:=AE g;clear g;by_cases t:k<l.length
 ·obtain⟨b,rfl,j,m,n⟩:=q.o k t;have D:=AE (ir:Cc (l.drop k) s=if l[k].1=s then some l[k].2 else Cc (l.drop (k+1)) s);have C:=(B.cell (p:=⟨b,k*2,none⟩) j).trans m;have o:=(B.cell (p:=⟨b,k*2+1,none⟩) j).trans n;clear m n;generalize l[k]=f at D C o;obtain⟨x,y⟩:=f;simp only at D C o;have K:=(A0.new wr #[x,y] 119).cell;have B:=B.alloc B.size (.cells #[x,y] 119);by_cases h:x=s
  ·have u:(x==s)=true:=by rw[BL];exact h
   have H:=AE (by rw[c.o,D.o,AN h]:Cc l s=some y);clear h;go_wp2;go_ret2;exact⟨bu,B⟩
  have u:(x==s)=false:=su
  have H:=AE (by rw[c.o,D.o,AL h]:Cc l s=Cc (l.drop (k+1)) s);clear h;go_wp2;go_roundw
  case rel=>exact⟨k+1,aj,aa,H.o,B⟩
  simp[intOf];omega
 obtain rfl:k=l.length:=aa
 have H:=AE (by rw[c.o,AS];rfl:Cc l s=none);go_wp2;go_ret2;exact⟨bu,B⟩
def zX:((List.range 256).all fun n=>Ae n.toUInt8==((decide ((33:Int)<=(n.toUInt8.toNat:Int))&&decide ((n.toUInt8.toNat:Int)<=126))&&!(decide (0<=indexByte Rq n.toUInt8))))=true:=af
def zY(c:UInt8):Ae c=((decide ((33:Int)<=(c.toNat:Int))&&decide ((c.toNat:Int)<=126))&&!(decide (0<=indexByte Rq c))):=by
 have:=AW.1 zX c.toNat (BT.2 c.toNat_lt);rw[show c.toNat.toUInt8=c by simp]at this;exact BL.1 this
def Si(s:Bs)(w:World)(g:s.length<=1000000000000):Calls prog 125 #[s] w fun e W=>e=.returned (.bool (Ag s))/\W=w:=by
 have T:=AE (Qo s);go_enter func125,ntmps125;go_wp2_with fail;go_loop[6] (fun i=>∃k:Nat,i=k/\k<=s.length/\s.all Ae=(s.drop k).all Ae) (fun i=>s.length-(intOf i).toNat)
 case atStart=>exact⟨0,rfl,aa,ah⟩
 obtain⟨k,rfl,j,l⟩:=hrel;have h:=AE l;clear l;by_cases c:k<s.length
 ·have A:=AE (Ti Ae c);have I:=AE (zY s[k]);have m:(s[k].toNat:Int)<256:=by have:=s[k].toNat_lt;omega
  have X:=P5 Rq (s[k].toNat:Int) s[k] ah w;unfold Rq at X;go_upto_region 4 with fail;go_cut[21] (fun t x=>t=.bool (!Ae s[k])/\x=w)
  case first=>
   go_wp2_with fail;with_reducible refine(Ju _ _ _ _).mono ?_
   rintro e n⟨rfl,rfl⟩;generalize(decide ((33:Int)<=(s[k].toNat:Int))&&decide ((s[k].toNat:Int)<=126))=q at I|-;cases q with
   |false=>
    go_wp2;go_meet;exact⟨by rw[I.o];rfl,rfl⟩
   |true=>
    go_wp2_with fail;with_reducible refine X.mono ?_
    rintro e o⟨rfl,rfl⟩;have a:=AE (by rw[I.o];rfl:Ae s[k]=!(decide (0<=indexByte [40,41,60,62,64,44,59,58,92,34,47,91,93,63,61] s[k])));generalize indexByte [40,41,60,62,64,44,59,58,92,34,47,91,93,63,61] s[k]=z at a|-;go_wp2;go_meet;exact⟨by rw[a.o];simp,rfl⟩
  obtain⟨rfl,rfl⟩:=hcut;generalize Ae s[k]=b at A|-;cases b with
  |false=>
   have d:=AE (by rw[T.o,h.o,A.o];simp:Ag s=false);go_wp2;go_ret;exact⟨Bm d.o.symm,rfl⟩
  |true=>
   go_wp2_with fail
   go_round
   case rel=>exact⟨k+1,aj,aa,vu⟩
   simp[intOf];omega
 obtain rfl:k=s.length:=aa
 have H:=AE (by rw[T.o,h.o,AS];simp:Ag s=!s.isEmpty);by_cases h0:s=[]
 ·subst h0;go_wp2;go_ret;exact⟨Bm bu,rfl⟩
 have f:s.isEmpty=false:=ed
 go_wp2;go_ret;exact⟨Bm (by rw[H.o,f];rfl),rfl⟩
def Qs(h:(a !=b)=true):(a==b)=false:=by simpa[bne]using h
def Qt(h:(a !=b)=false):(a==b)=true:=by simpa[bne]using h
def zZ(h:hasPrefix l [13,10]=true):∃r,l=13::10::r:=by
 unfold hasPrefix at h;rw[DG]at h;obtain⟨r,H⟩:=h;exact⟨r,by rw[<-H];rfl⟩
def AA(c:UInt8):Nq c=(C6 c||c==9):=by
 unfold Nq C6;rw[Bool.or_comm]
def AB(s:Bs)(w:World)(l:s.length<=1000000000000):Calls prog 216 #[s] w fun e d=>e=.returned (.bool (Ft s))/\d=w:=by
 go_enter func216,ntmps216;go_wp2_with fail;go_loopw[3] (fun i wr=>∃k:Nat,i=k/\k<=s.length/\Hid (Ft (s.drop k)=Ft s)/\wr=w) (fun i _=>s.length-(intOf i).toNat)
 case atStart=>exact⟨0,rfl,aa,AE ah,rfl⟩
 obtain⟨k,rfl,g,A,rfl⟩:=hrel;by_cases f:k<s.length
 ·have P:=L6 (s.drop k) [13,10] wr;have D:=AE (AH f);cases p:hasPrefix (s.drop k) [13,10]with
  |true=>
   rw[p]at P;obtain⟨r,b⟩:=zZ p;have n:k+2<=s.length:=by
    have:=CI List.length b;simp at this;omega
   have H:=AE (show Ft (s.drop (k+2))=Ft s from by
    rw[<-A.o,b,iK];have:s.drop (k+2)=(s.drop k).drop 2:=by rw[ET]
    rw[this,b];rfl)
   clear p b D;go_wp2_with fail;with_reducible refine P.mono ?_
   rintro e W⟨rfl,rfl⟩;go_wp2;go_roundw
   case rel=>exact⟨k+2,aj,aa,H,bo⟩
   simp[intOf];omega
  |false=>
   rw[p]at P;have H:=AE (show Ft s=(Nq s[k]&&Ft (s.drop (k+1)))from by
    rw[<-A.o,D.o,iL (by rw[<-D.o];exact p)])
   rw[AA]at H;clear p D;have hI:=Ju (s[k].toNat:Int) 32 126 wr;rw[<-Qp]at hI;have a:=F2 s[k] 9;have j:(s[k].toNat:Int)<256:=ku
   generalize C6 s[k]=q at hI H;generalize(s[k]==9)=t at a H;have c:=AE a;clear a;cases q with
   |true=>
    have h:=AE (lu:Ft (s.drop (k+1))=Ft s);go_wp2_with fail;with_reducible refine P.mono ?_
    rintro e W⟨rfl,rfl⟩;go_wp2_with fail;with_reducible refine hI.mono ?_
    rintro e W⟨rfl,rfl⟩;go_wp2;go_roundw
    case rel=>exact⟨k+1,aj,aa,h,bo⟩
    simp[intOf];omega
   |false=>
    cases t with
    |true=>
     have h:=AE (lu:Ft (s.drop (k+1))=Ft s);have a:(s[k].toNat:Int)=9:=by have:=c.o;simpa using this.symm
     rw[a]at hI;go_wp2_with fail;with_reducible refine P.mono ?_
     rintro e W⟨rfl,rfl⟩;go_wp2_with fail;with_reducible refine hI.mono ?_
     rintro e W⟨rfl,rfl⟩;go_wp2;go_roundw
     case rel=>exact⟨k+1,aj,aa,h,bo⟩
     simp[intOf];omega
    |false=>
     have h:=AE (lu:Ft s=false);have a:¬(s[k].toNat:Int)=9:=by have:=c.o;simpa using this.symm
     go_wp2_with fail;with_reducible refine P.mono ?_
     rintro e W⟨rfl,rfl⟩;go_wp2_with fail;with_reducible refine hI.mono ?_
     rintro e W⟨rfl,rfl⟩;go_wp2;go_ret;exact⟨Bm h.o.symm,rfl⟩
 obtain rfl:k=s.length:=aa
 have h:=AE (by rw[<-A.o,AS];rfl:Ft s=true);go_wp2;go_ret;exact⟨Bm h.o.symm,rfl⟩
def Di(s p:Bs)(i:Nat):Nat:=if index (s.drop i) p<0 then s.length else i+(index (s.drop i) p).toNat
def AC(h:hasPrefix (s.drop i) p=true):Di s p i=i:=by
 have:index (s.drop i) p=0:=by
  cases H:s.drop i with
  |nil=>
   rw[H]at h;unfold hasPrefix at h;cases p with
   |nil=>rfl
   |cons c p=>simp at h
  |cons c l=>
   rw[H]at h;unfold hasPrefix at h;unfold index;rw[AN h]
 unfold Di;rw[this];simp
def AD(a:i<s.length)(h:hasPrefix (s.drop i) p=false):Di s p i=Di s p (i+1):=by
 have e:index (s.drop i) p=if index (s.drop (i+1)) p==-1 then-1 else index (s.drop (i+1)) p+1:=by
  rw[AH a]at h|-;unfold hasPrefix at h;conv=>lhs;unfold index
  rw[AL ko]
 unfold Di;rw[e];rcases Od (s.drop (i+1)) p with H|⟨h0,_⟩
 ·have:index (s.drop (i+1)) p=-1:=by
   rw[Jl]at H|-;cases c:Ao p (s.drop (i+1))with
   |none=>rfl
   |some x=>rw[c]at H;simp at H;omega
  rw[this];simp
 have b:(index (s.drop (i+1)) p==-1)=false:=di
 rw[b];simp only[CC,DM];rw[AL aa,AL aa];omega
def RH(H:p≠[])(h:s.length<=i):Di s p i=s.length:=by
 unfold Di;rw[BP h];have:index [] p=-1:=by
  cases p with
  |nil=>exact absurd rfl H
  |cons c p=>rfl
 rw[this];rfl
def Wm(s p:Bs)(i:Nat)(H:i<=s.length):i<=Di s p i/\Di s p i<=s.length:=by
 unfold Di;rcases Od (s.drop i) p with h|⟨b,a⟩
 ·rw[AN h];exact⟨H,AF _⟩
 rw[AL aa];simp at a;omega
def aI(s p:Bs)(i:Nat)(w:World)(l:s.length<=1000000000000)(a:i<=1000000000002)(h:p≠[]):Calls prog 123 #[s,p,i] w fun e W=>e=.returned (.int .i64 (Di s p i:Int))/\W=w:=by
 have b:=AE h;clear h;go_enter func123,ntmps123;go_wp2_with fail;go_loopw[2] (fun x wr=>∃k:Nat,x=k/\k<=1000000000002/\Hid (Di s p k=Di s p i)/\wr=w) (fun x _=>s.length-(intOf x).toNat)
 case atStart=>exact⟨i,rfl,a,AE rfl,rfl⟩
 obtain⟨k,rfl,d,F,rfl⟩:=hrel;by_cases t:k<s.length
 ·have P:=L6 (s.drop k) p wr;cases h:hasPrefix (s.drop k) p with
  |true=>
   rw[h]at P;have H:=AE (by rw[<-F.o,AC h]:Di s p i=k);clear h;go_wp2_with fail;with_reducible refine P.mono ?_
   rintro e c⟨rfl,rfl⟩;go_wp2;go_ret;exact⟨bu,rfl⟩
  |false=>
   rw[h]at P;have H:=AE (by rw[<-F.o,AD t h]:Di s p (k+1)=Di s p i);clear h;go_wp2_with fail;with_reducible refine P.mono ?_
   rintro e c⟨rfl,rfl⟩;go_wp2;go_roundw
   case rel=>exact⟨k+1,aj,aa,H,bo⟩
   simp[intOf];omega
 have f:¬(k:Int)<s.length:=aa
 have H:=AE (by rw[<-F.o,RH b.o aa]:Di s p i=s.length);go_wp2;go_ret;exact⟨bu,rfl⟩
def jP(c:UInt8):Hy c=((decide (33<=(c.toNat:Int))&&decide ((c.toNat:Int)<=126))&&!((c.toNat:Int)==61)):=by
 have h:((List.range 256).all fun n=>Hy n.toUInt8==((decide ((33:Int)<=(n.toUInt8.toNat:Int))&&decide ((n.toUInt8.toNat:Int)<=126))&&!((n.toUInt8.toNat:Int)==61)))=true:=af
 have:=AW.1 h c.toNat (BT.2 c.toNat_lt);rw[show c.toNat.toUInt8=c by simp]at this;exact BL.1 this
def Sj(c:UInt8)(l:Bool):Bool:=((c.toNat:Int)==32||(c.toNat:Int)==9)&&!l
def RI(c:UInt8)(l:Bool):Gc c l=if !(Hy c)&&!(Sj c l)then[61,Mv (c.toNat/16),Mv (c.toNat%16)]else[c]:=by
 have e:Sj c l=((c==32||c==9)&&!l):=by unfold Sj;rw[F2 c 32,F2 c 9];rfl
 unfold Gc;rw[e];cases Hy c<;>cases((c==32||c==9)&&!l)<;>rfl
def jQ(b:Bs)(w:World)(hl:b.length<=1000000000000):Calls prog 158 #[b] w fun e Z=>e=.returned (E5 b)/\Below w.heap.size w Z:=by
 go_enter func158,ntmps158;go_wp2_with fail;go_loopw[3,4,13] (fun o n i wr=>∃(k:Nat)(O l:Bs),i=k/\k<=b.length/\o=O/\n=l/\l.length<=100/\O.length+l.length<=6*k/\Hid (O++(l++Gu (b.drop k) l.length)=E5 b)/\Below w.heap.size w wr) (fun _ _ i _=>b.length-(intOf i).toNat)
 case atStart=>exact⟨0,[],[],rfl,aa,rfl,rfl,ae,ah,AE rfl,AG _ _⟩
 obtain⟨k,O,l,rfl,hk,rfl,rfl,a8,a9,u,B⟩:=hrel;by_cases a0:k<b.length
 ·have y:=AE (Q7 a0);have z:((k:Int)==(b.length:Int)-1)=(b.drop (k+1)).isEmpty:=by
   by_cases h:k+1=b.length
   ·rw[show(b.drop (k+1))=[]from IH.2 aa,BL.2 aa];rfl
   have h1:((k:Int)==(b.length:Int)-1)=false:=di
   rw[h1];symm;simp;omega
  generalize F:b.drop (k+1)=r at z y;have Hr:=AE F;clear F;have a:=AE (by rw[<-y.o];exact u.o:O++(l++Gu (b[k]::r) l.length)=E5 b);have hc:(b[k].toNat:Int)<256:=re
  have G:wrap64 ((b.length:Int)-1)=(b.length:Int)-1:=da
  clear y u;go_upto_region 6 with fail;go_cut[7] (fun t W=>t=.bool r.isEmpty/\W=wr)
  case first=>
   go_wp2;go_meet;exact⟨by rw[<-z],rfl⟩
  case rest=>
  obtain⟨rfl,H⟩:=hcut;obtain rfl:=H.symm;clear H z;generalize I:r.isEmpty=L;have a1:=AE I;clear I;go_upto_region 8 with fail;generalize b[k]=c at hc a|-;have B:=B.alloc B.size (.cells #[.int .u8 (c.toNat:Int)] 5);generalize G:wr.alloc (.cells #[.int .u8 (c.toNat:Int)] 5)=w1 at B|-;clear G;go_cut[9] (fun t W=>t=.bool (Sj c L)/\W=w1)
  case first=>
   have A:=AE (ca:Sj c L=(((c.toNat:Int)==32||(c.toNat:Int)==9)&&!L));by_cases d:((c.toNat:Int)==32)=true
   ·go_wp2;go_meet;exact⟨by rw[A.o,d];rfl,rfl⟩
   have d:=AT.2 d;by_cases j:((c.toNat:Int)==9)=true
   ·go_wp2;go_meet;exact⟨by rw[A.o,d,j];rfl,rfl⟩
   have j:=AT.2 j;go_wp2;go_meet;exact⟨by rw[A.o,d,j];rfl,rfl⟩
  case rest=>
  obtain⟨rfl,H⟩:=hcut;obtain rfl:=H.symm;clear H;have Q:=AE (RI c L);have a2:=Y9 c L;generalize Sj c L=J at Q|-;have hI:=Ju (c.toNat:Int) 33 126 w1;have f:=AE (jP c);go_upto_region 9 with fail;go_cut[48] (fun t W=>t=.bool (!(Hy c)&&!J)/\W=w1)
  case first=>
   generalize(decide (33<=(c.toNat:Int))&&decide ((c.toNat:Int)<=126))=q at hI f;cases q with
   |false=>
    go_wp2_with fail;with_reducible refine hI.mono ?_
    rintro e m⟨rfl,rfl⟩;go_wp2;go_meet;exact⟨by rw[f.o];rfl,rfl⟩
   |true=>
    cases K:((c.toNat:Int)!=61)with
    |false=>
     have C:=AE (Qt K);go_wp2_with fail;with_reducible refine hI.mono ?_
     rintro e m⟨rfl,rfl⟩;go_wp2;go_meet;exact⟨by rw[f.o,C.o];rfl,rfl⟩
    |true=>
     have C:=AE (Qs K);go_wp2_with fail;with_reducible refine hI.mono ?_
     rintro e m⟨rfl,rfl⟩;go_wp2;go_meet;exact⟨by rw[f.o,C.o];rfl,rfl⟩
  case rest=>
  obtain⟨rfl,H⟩:=hcut;obtain rfl:=H.symm;clear H hI f;generalize(!(Hy c)&&!J)=a3 at Q|-;generalize M:Gc c L=p at Q a2;have a4:=AE M;clear M;go_upto_if 48 with fail;go_cut[8] (fun s W=>s=p/\Below w.heap.size w W)
  case first=>
   cases a3 with
   |false=>
    go_wp2;go_meet;exact⟨by rw[Q.o];rfl,B⟩
   |true=>
    have N:c.toNat/16<16:=aa
    have P:c.toNat%16<16:=aa
    have q1:(c.toNat:Int)/16=((c.toNat/16:Nat):Int):=aa
    have q2:(c.toNat:Int)%16=((c.toNat%16:Nat):Int):=aa
    have S:=AE (Rm (c.toNat/16) N);have T:=AE (Rm (c.toNat%16) P);have a5:((c.toNat/16:Nat):Int)<16:=aa
    have a6:((c.toNat%16:Nat):Int)<16:=aa
    generalize c.toNat/16=n1 at N q1 S Q a5;generalize c.toNat%16=n2 at P q2 T Q a6;go_wp2_with fail;go_region;all_goals
     go_wp2;go_meet;exact⟨by rw[Q.o,<-S.o,<-T.o];rfl,(B.alloc B.size _).drew⟩
  case rest=>
  obtain⟨rfl,U⟩:=hcut;obtain⟨m,rfl⟩:∃x:World,x=wc:=⟨_,rfl⟩;clear B Q;have g:=AE (show Gu (c::r) l.length=(if l.length+p.length>(if L then 76 else 75)then[61,13,10]++p++Gu r p.length else p++Gu r (l.length+p.length))from by
   rw[<-a4.o,<-a1.o];rfl)
  have V:=AE (show b.drop (k+1)=r from Hr.o);have X:∃R:Nat,R<=76/\Hid ((if L then 76 else 75)=R):=⟨if L then 76 else 75,by split<;>omega,AE rfl⟩;obtain⟨R,X,D⟩:=X;rw[D.o]at g;go_upto_region 11 with fail;go_upto_if 58 with fail;go_cut[10] (fun v W=>v=R/\W=m)
  case first=>
   cases L with
   |false=>
    have e:R=75:=D.o.symm;subst e;go_wp2;go_meet;exact⟨rfl,rfl⟩
   |true=>
    have e:R=76:=D.o.symm;subst e;go_wp2;go_meet;exact⟨rfl,rfl⟩
  case rest=>
  obtain⟨rfl,H⟩:=hcut;obtain rfl:=H.symm;clear H;by_cases Y:R<l.length+p.length
  ·have E:=AE (show(O++(l++[61,13,10]))++(p++Gu r p.length)=E5 b from by
    rw[<-a.o,g.o,AN Y];simp)
   clear a g;have a7:(R:Int)<(l.length:Int)+(p.length:Int):=aa
   go_wp2;go_roundw
   case rel=>exact⟨k+1,O++(l++[61,13,10]),p,aj,aa,ah,rfl,aa,ag,AE (by rw[V.o,E.o]),U⟩
   simp[intOf];omega
  have E:=AE (show O++((l++p)++Gu r (l++p).length)=E5 b from by
   rw[<-a.o,g.o,AL Y];simp)
  clear a g;have a7:(l.length:Int)+(p.length:Int)<=(R:Int):=aa
  go_wp2;go_roundw
  case rel=>exact⟨k+1,O,l++p,aj,aa,rfl,ah,ag,ag,AE (by rw[V.o,E.o]),U⟩
  simp[intOf];omega
 obtain rfl:k=b.length:=aa
 have HD:=AE (by rw[<-u.o];simp[Gu]:O++l=E5 b);go_wp2;go_ret;exact⟨by rw[<-HD.o];simp,B⟩
def Wn(l:Bs)(c:UInt8)(w:World):Calls prog 66 #[l,.string ⟨#[c]⟩] w fun e W=>∃k,En l c k/\e=.returned (.int .i64 k)/\w=W:=by
 refine(Tryz.strings_Index_one ⟨l.toArray⟩ c w).mono ?_;rintro e W⟨rfl,rfl⟩;exact⟨_,Yt l c,rfl,rfl⟩
def En.aJ(h:En l c k):k<l.length:=by
 rcases h with⟨rfl,_⟩|⟨a,b,rfl,_,rfl⟩
 ·omega
 simp;omega
def En.jR(h:En l c k)(h0:k<0):cut l [c]=(l,[],false):=by
 rcases h with⟨rfl,H⟩|⟨a,b,rfl,H,rfl⟩
 ·rw[Gs,Mu.2 H]
 omega
def En.jS(h:En l c k)(h0:0<=k):cut l [c]=(l.take k.toNat,l.drop (k+1).toNat,true):=by
 rcases h with⟨rfl,H⟩|⟨a,b,rfl,H,rfl⟩
 ·omega
 rw[Gs,P4 H,(aa:((a.length:Int)+1).toNat=a.length+1)];simp
def N4(c:UInt8)(first:Bool):Bool:=(decide (97<=Bx c)&&decide (Bx c<=122))||(!first&&((decide (48<=Bx c)&&decide (Bx c<=57))||Bx c==43||Bx c==45||Bx c==46))
def RJ:((List.range 256).all fun n=>N4 n.toUInt8 true==(Mz.contains n.toUInt8&&Qd.contains n.toUInt8))=true:=af
def RK:((List.range 256).all fun n=>N4 n.toUInt8 false==Qd.contains n.toUInt8)=true:=af
def aK(c:UInt8):c.toNat.toUInt8=c:=ah
def RL(c:UInt8):N4 c true=(Mz.contains c&&Qd.contains c):=by
 have:=AW.1 RJ c.toNat (BT.2 c.toNat_lt);rw[aK]at this;exact BL.1 this
def RM(c:UInt8):N4 c false=Qd.contains c:=by
 have:=AW.1 RK c.toNat (BT.2 c.toNat_lt);rw[aK]at this;exact BL.1 this
def N5(l:Bs):Nat->Bool
 |0=>true
 |k+1=>N5 l k&&N4 (l.getD k 0) (k==0)
def jT{k:Nat}(h:k<l.length):N5 l (k+1)=(N5 l k&&N4 l[k] (k==0)):=by
 show(N5 l k&&N4 (l.getD k 0) (k==0))=_;rw[AM,BC h];rfl
theorem RN(c:UInt8)(l:Bs)(k:Nat)(H:k<=l.length):N5 (c::l) (k+1)=(N4 c true&&(l.take k).all (Qd.contains ·)):=by
 induction k with
 |zero=>simp[N5]
 |succ k ih=>
  rw[jT ag,ih aa];have h:k<l.length:=aa
  rw[AZ h,IL];have e:((k+1:Nat)==0)=false:=rfl;rw[e,List.getElem_cons_succ,RM];simp[IW]
def En.RO(h:En l 58 k)(h0:0<=k):Jp l=(decide (0<k)&&N5 l k.toNat):=by
 rcases h with⟨rfl,H⟩|⟨a,b,rfl,H,rfl⟩
 ·omega
 unfold Jp;rw[P4 H];cases a with
 |nil=>rfl
 |cons x a=>
  have e:(((x::a).length:Int)).toNat=a.length+1:=ah
  rw[e];show(!(x::a).isEmpty&&Rt (x::a))=_;rw[CR,RN x (a++58::b) a.length ah];simp[Rt,RL,IW]
def En.auth(h:En (r++[47]) 47 k):0<=k/\k<=r.length/\Pc r=(true,r.take k.toNat,r.drop k.toNat):=by
 rcases h with⟨rfl,H⟩|⟨a,b,e,H,rfl⟩
 ·exact absurd ah H
 refine⟨aa,?_,?_⟩
 ·have:=CI List.length e;simp at this;omega
 rcases DH b with c|⟨B,y,c⟩
 ·subst c;have E:r=a:=by simpa using List.append_inj_left' e rfl
  subst E;unfold Pc;rw[Mu.2 H];simp
 rw[DI]at c;subst c;have E:r=a++47::B:=List.append_inj_left' (by rw[e];simp:r++[47]=(a++47::B)++[y]) rfl;subst E;unfold Pc;rw[P4 H];simp
def RQ(l:Bs):(Ib l).2.length<=l.length:=by
 unfold Ib;cases h:Ao [58] l with
 |none=>simp
 |some x=>
  obtain⟨a,b⟩:=x;simp only;split
  ·have:=CI List.length (F7 h);simp at this|-;omega
  simp
def RR(s:Bs)(j:Nat)(h:j<s.length):A2 ((s.drop j).take 1)=[Bx s[j]]:=by
 rw[AH h,FT,IR];rfl
def Ht(d:UInt8)(m:Bool):Bool:=(decide (97<=(d.toNat:Int))&&decide ((d.toNat:Int)<=122))||(m&&((decide (48<=(d.toNat:Int))&&decide ((d.toNat:Int)<=57))||((d.toNat:Int)==43)||((d.toNat:Int)==45)||((d.toNat:Int)==46)))
def RT:((List.range 256).all fun n=>Ht (Bx n.toUInt8) false==N4 n.toUInt8 true&&Ht (Bx n.toUInt8) true==N4 n.toUInt8 false)=true:=af
def RU(c:UInt8)(f:Bool):N4 c f=Ht (Bx c) (!f):=by
 have:=AW.1 RT c.toNat (BT.2 c.toNat_lt);rw[aK,BR]at this;cases f
 ·exact(BL.1 this.2).symm
 exact(BL.1 this.1).symm
end Go.Proofs.YtignjjnflcpiiaaGreatDoor
