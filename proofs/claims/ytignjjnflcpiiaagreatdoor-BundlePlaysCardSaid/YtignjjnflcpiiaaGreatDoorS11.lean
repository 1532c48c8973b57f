/- address.Read gives the address that a text is, or ErrForm -/
import Derived.Test.YtignjjnflcpiiaaGreatDoorS06
import Derived.Test.YtignjjnflcpiiaaGreatDoorS07
set_option linter.all false
set_option maxHeartbeats 4000000
set_option maxRecDepth 100000
namespace Go.Proofs.YtignjjnflcpiiaaGreatDoor
open Go Go.RowKit Proofs.Tryz Lib
def Sw(l:Bs)(w:World)(e:Ending)(w':World):Prop:=e=.returned (match Cl l with|some a=>.tuple #[a.val,.nilIface]|none=>.tuple #[A3.zero.val,.iface 30 (.int .i64 3)])∧Below w.heap.size w w'
theorem W7(l:Bs)(w:World)(hl:l.length<4294967281)(V:Cb w):Calls prog 44 #[.string ⟨l.toArray⟩] w (Sw l w):=by
 go_enter func44,ntmps44;go_wp2_with fail;go_loop[12] (fun i=>∃k:Nat,k≤l.length∧i=.int .i64 k∧(l.take k).all Jf=true) (fun i=>l.length-(intOf i).toNat)
 case atStart=>exact⟨0,CX _,rfl,by simp⟩
 obtain⟨k,hk,rfl,g⟩:=hrel;by_cases X:k<l.length
 ·by_cases Y:(33:Int)≤l[k].toNat∧(l[k].toNat:Int)≤126
  ·obtain⟨h1,h2⟩:=Y;go_wp2_with fail
   go_round
   case rel=>exact⟨k+1,by omega,by go_num,Vl Jf X g (Zt h1 h2)⟩
   simp[intOf];omega
  have H:=Zu Jf X (Zs Y);go_wp2_with fail;all_goals
   refine AL (v:=.tuple #[A3.zero.val,.iface 30 (.int .i64 3)]) (by simp[results,results44,go_sem,A3.zero]) rfl ⟨by rw[Cl,H];rfl,by go_grown⟩
 obtain rfl:k=l.length:=by omega
 rw[CQ]at g;have Z:=Ow l [35];generalize a0:cut l [35]=c1 at Z;obtain⟨F,f,H⟩:=c1;have r:=AB a0;clear a0;simp only at Z;go_wp2_with fail;refine(L3 l [35] _ hl (V.next (by go_grown))).mono ?_;rintro e w1⟨rfl,t⟩;rw[r.o];have R:A1 w1 w.heap.size Bb 36:=((A1.new w _ _).alloc _).next t (by go_size);have A:=(A1.new (w.alloc (.cells Bb 36)) Bb 36).next t (by go_size);rw[AV]at A;have B1:Below w.heap.size w w1:=(((AD _ w).alloc (AC _) _).alloc (by go_size) _).trans (t.mono (by go_size));have a1:=Ow F [63];generalize a2:cut F [63]=c2 at a1;obtain⟨s,q,b⟩:=c2;have u:=AB a2;clear a2;simp only at a1;clear t;have z:=A.free;have j:=A.cell;go_wp2_with fail;have G:=(B1.setCell (p:=⟨w.heap.size+1,7,none⟩) (by simp) (.string ⟨f.toArray⟩)).setCell (p:=⟨w.heap.size+1,6,none⟩) (by simp) (.bool H);refine(L3 F [63] _ (by omega) (V.next G)).mono ?_;rintro e w2⟨rfl,x⟩;rw[u.o];have r2:=((R.A6 (a:=⟨w.heap.size+1,7,none⟩) (by simp) (.string ⟨f.toArray⟩)).A6 (a:=⟨w.heap.size+1,6,none⟩) (by simp) (.bool H)).next x (by have:=R.lt;go_size);have y:A1 w2 (w.heap.size+1) #[.string ⟨#[]⟩,.bool false,.string ⟨#[]⟩,.string ⟨#[]⟩,.bool false,.string ⟨#[]⟩,.bool H,.string ⟨f.toArray⟩] _:=((A.set 7 (.string ⟨f.toArray⟩)).set 6 (.bool H)).next x (by have:=A.lt;go_size);have B2:Below w.heap.size w w2:=G.trans (x.mono (by have:=R.lt;go_size));clear x j z A R B1 G;have z:=y.free;have j:=y.cell;have hI:=Mi s 58 58 rfl;have K:Dx s 58 (indexByte s 58):=Vj s 58;generalize indexByte s 58=k at hI K;go_upto_region 11 with(go_at_call 100;refine(hI _).mono ?_;rintro e I⟨rfl,rfl⟩);go_cut[53] (fun a5 W=>a5=.bool (Ih s)∧A1 W w.heap.size Bb 36∧A1 W (w.heap.size+1) #[.string ⟨#[]⟩,.bool false,.string ⟨#[]⟩,.string ⟨#[]⟩,.bool b,.string ⟨q.toArray⟩,.bool H,.string ⟨f.toArray⟩] 36∧Below w.heap.size w W)
 case first=>
  have B:=(r2.A6 (a:=⟨w.heap.size+1,5,none⟩) (by simp) (.string ⟨q.toArray⟩)).A6 (a:=⟨w.heap.size+1,4,none⟩) (by simp) (.bool b);have J:A1 _ (w.heap.size+1) #[.string ⟨#[]⟩,.bool false,.string ⟨#[]⟩,.string ⟨#[]⟩,.bool b,.string ⟨q.toArray⟩,.bool H,.string ⟨f.toArray⟩] _:=(y.set 5 (.string ⟨q.toArray⟩)).set 4 (.bool b);have B3:=(B2.setCell (p:=⟨w.heap.size+1,5,none⟩) (by simp) (.string ⟨q.toArray⟩)).setCell (p:=⟨w.heap.size+1,4,none⟩) (by simp) (.bool b);clear j z;rcases GE 0 k with c|c
  ·have a6:=K.le c;go_wp2_with fail;refine(qB _ _ (by simp;omega)).mono ?_;rintro e w4⟨rfl,L⟩;go_wp2_with fail;go_meet;exact⟨by rw[K.yes c],B.next L B.lt,J.next L J.lt,B3.trans (L.mono (by have:=B.lt;omega))⟩
  go_wp2_with fail;go_meet;exact⟨by rw[K.no c],B,J,B3⟩
 obtain⟨rfl,M,m,N⟩:=hcut;go_upto_if 53 with fail;go_cut[0] (fun s0 W=>s0=.string ⟨(H6 s).2.toArray⟩∧A1 W w.heap.size Bb 36∧A1 W (w.heap.size+1) #[.string ⟨(H6 s).1.toArray⟩,.bool false,.string ⟨#[]⟩,.string ⟨#[]⟩,.bool b,.string ⟨q.toArray⟩,.bool H,.string ⟨f.toArray⟩] 36∧Below w.heap.size w W)
 case first=>
  have z:=m.free;have j:=m.cell;cases O:Ih s with
  |false=>
   go_wp2_with fail;go_meet;have h:=Vk O;exact⟨by rw[h],M,by rw[h];exact m,N⟩
  |true=>
   have h:=K.parse O;have c:=K.pos O;have a6:=K.le c;go_wp2_with fail;go_region;all_goals go_wp2_with fail
   all_goals go_meet
   all_goals exact⟨by rw[h],M.A6 (by simp) _,by rw[h];exact m.set 0 _,(N.setCell (p:=⟨w.heap.size+1,0,none⟩) (by simp) _).drew⟩
 obtain⟨rfl,P,n,B5⟩:=hcut;clear M m N r2 y B2;generalize a3:H6 s=S at P n B5⊢;obtain⟨a7,S⟩:=S;have Q:=AB a3;clear a3;simp only at n⊢;have z:=n.free;have j:=n.cell;have rz:=P.free;have T:=P.cell;have a8:=n.lt;by_cases C:hasPrefix S [47,47]=true
 ·have d:=Uu S [47,47] wc;have U:=AB (Zq C);have HL:=AB (trimPrefix_le S [47,47]);rw[C]at d;generalize trimPrefix S [47,47]=rest at d U HL;have a4:=Mi rest 47 47 rfl;have D:Dx rest 47 (indexByte rest 47):=Vj rest 47;generalize indexByte rest 47=k2 at a4 D;go_wp2_with fail;refine d.mono ?_;rintro e I⟨rfl,rfl⟩;go_wp2_with fail;refine(a4 _).mono ?_;rintro e I⟨rfl,rfl⟩;rcases GE k2 0 with E|E
  ·have o:=D.qD E;go_wp2_with fail;go_region;all_goals go_wp2_with fail
   all_goals
    refine AL (v:=.tuple #[(Ls l).val,.nilIface]) (by rw[Ql r.o u.o Q.o (U.o.trans o)];simp[results,results44,go_sem,T]<;>rfl) rfl ⟨by rw[Cl,g];rfl,by go_grown⟩
  have o:=D.qE E;have a9:=D.qC E;go_wp2_with fail;go_region;all_goals go_wp2_with fail
  all_goals
   refine AL (v:=.tuple #[(Ls l).val,.nilIface]) (by rw[Ql r.o u.o Q.o (U.o.trans o)];simp[results,results44,go_sem,T]<;>rfl) rfl ⟨by rw[Cl,g];rfl,by go_grown⟩
 have d:=Uu S [47,47] wc;have o:=Zr C;rw[AP.2 C]at d;go_wp2_with fail;refine d.mono ?_;rintro e I⟨rfl,rfl⟩;go_wp2_with fail;refine AL (v:=.tuple #[(Ls l).val,.nilIface]) (by rw[Ql r.o u.o Q.o o];simp[results,results44,go_sem,T]<;>rfl) rfl ⟨by rw[Cl,g];rfl,by go_grown⟩
def A3.len(a:A3):Nat:=a.scheme.length+a.auth.length+a.path.length+a.query.length+a.frag.length
def E3(b:Bool)(l:Bs):Bs:=if b then l else[]
theorem Mw(b:Bool)(l:Bs):(E3 b l).length≤l.length:=by cases b<;>simp[E3]
theorem bJ(a:A3):Kl a=E3 (!a.scheme.isEmpty) (a.scheme++[58])++E3 a.hasAuth (47::47::a.auth)++a.path++E3 a.hasQuery (63::a.query)++E3 a.hasFrag (35::a.frag):=by
 unfold Kl E3;cases h:a.scheme<;>simp
theorem sJ(a:A3)(w:World)(t:a.len≤140737488355000):Calls prog 51 #[a.val] w fun e G=>e=.returned (.string ⟨(Kl a).toArray⟩)∧Below w.heap.size w G:=by
 obtain⟨s,h,u,p,b,q,d,f⟩:=a;unfold A3.len at t;simp only at t;go_enter func51,ntmps51;go_upto_if 6 with fail;go_cut[0,2] (fun l S W=>S=.string ⟨#[]⟩∧A1 W w.heap.size (A3.cells ⟨s,h,u,p,b,q,d,f⟩) 36∧Dc (w.heap.size+1) (w.heap.size+1) (E3 (!s.isEmpty) (s++[58])) W∧Below w.heap.size w W)
 case first=>
  have j:=(A1.new w (A3.cells ⟨s,h,u,p,b,q,d,f⟩) 36).alloc (.cells #[.pointer none,.slice none 0 0] 128);have m:=(N9 (w.alloc (.cells (A3.cells ⟨s,h,u,p,b,q,d,f⟩) 36)));rw[AV]at m;have v:Below w.heap.size w _:=((AD _ w).alloc (AC _) (.cells (A3.cells ⟨s,h,u,p,b,q,d,f⟩) 36)).alloc (by go_size) (.cells #[.pointer none,.slice none 0 0] 128);have r:=j.cell;go_wp2_with fail
  ·refine(Jd (w.heap.size+1) _ _ _ _ m (by simp;omega) j.lt).mono ?_;have H:(!List.isEmpty s)=true:=by assumption
   rintro e n⟨rfl,B,c⟩;go_wp2_with fail;go_meet;refine⟨rfl,j.next c (by omega),?_,v.trans (c.mono (by omega))⟩;rw[H];simpa[E3]using B
  go_meet;have H:(!List.isEmpty s)=false:=by assumption
  refine⟨rfl,j,?_,v⟩;rw[H];simpa[E3]using m
 obtain⟨rfl,R,x,y⟩:=hcut;have M:=R.cell;go_upto_if 12 with fail;go_cut[0,2] (fun l S W=>S=.string ⟨#[]⟩∧A1 W w.heap.size (A3.cells ⟨s,h,u,p,b,q,d,f⟩) 36∧Dc (w.heap.size+1) (w.heap.size+1) (E3 (!s.isEmpty) (s++[58])++E3 h (47::47::u)) W∧Below w.heap.size w W)
 case first=>
  have r:=R.cell;go_wp2_with fail
  ·refine(Jd (w.heap.size+1) _ _ _ _ x (by have:=Mw (!s.isEmpty) (s++[58]);simp at*;omega) R.lt).mono ?_;have H:h=true:=by assumption
   rintro e n⟨rfl,B,c⟩;go_wp2_with fail;go_meet;refine⟨rfl,R.next c (by omega),?_,y.trans (c.mono (by omega))⟩;simpa[E3,H]using B
  go_meet;have H:h=false:=by assumption
  refine⟨rfl,R,?_,y⟩;simpa[E3,H]using x
 obtain⟨rfl,k,z,A⟩:=hcut;have r:=k.cell;go_wp2_with fail;refine(Jd (w.heap.size+1) _ _ _ _ z (by have:=Mw (!s.isEmpty) (s++[58]);have:=Mw h (47::47::u);simp at*;omega) k.lt).mono ?_;rintro e N⟨rfl,C,o⟩;have g:=k.next o (by omega);have D:=A.trans (o.mono (by omega));clear r k A o z;have r:=g.cell;go_upto_if 21 with fail;go_cut[0,2] (fun l S W=>S=.string ⟨#[]⟩∧A1 W w.heap.size (A3.cells ⟨s,h,u,p,b,q,d,f⟩) 36∧Dc (w.heap.size+1) (w.heap.size+1) (E3 (!s.isEmpty) (s++[58])++E3 h (47::47::u)++p++E3 b (63::q)) W∧Below w.heap.size w W)
 case first=>
  have r:=g.cell;go_wp2_with fail
  ·refine(Jd (w.heap.size+1) _ _ _ _ C (by have:=Mw (!s.isEmpty) (s++[58]);have:=Mw h (47::47::u);simp at*;omega) g.lt).mono ?_;have H:b=true:=by assumption
   rintro e n⟨rfl,B,c⟩;go_wp2_with fail;go_meet;refine⟨rfl,g.next c (by omega),?_,D.trans (c.mono (by omega))⟩;simpa[E3,H]using B
  go_meet;have H:b=false:=by assumption
  refine⟨rfl,g,?_,D⟩;simpa[E3,H]using C
 obtain⟨rfl,i,E,F⟩:=hcut;have O:=i.cell;go_upto_if 27 with fail;go_cut[0,2] (fun l S W=>S=.string ⟨#[]⟩∧A1 W w.heap.size (A3.cells ⟨s,h,u,p,b,q,d,f⟩) 36∧Dc (w.heap.size+1) (w.heap.size+1) (E3 (!s.isEmpty) (s++[58])++E3 h (47::47::u)++p++E3 b (63::q)++E3 d (35::f)) W∧Below w.heap.size w W)
 case first=>
  have r:=i.cell;go_wp2_with fail
  ·refine(Jd (w.heap.size+1) _ _ _ _ E (by have:=Mw (!s.isEmpty) (s++[58]);have:=Mw h (47::47::u);have:=Mw b (63::q);simp at*;omega) i.lt).mono ?_;have H:d=true:=by assumption
   rintro e n⟨rfl,B,c⟩;go_wp2_with fail;go_meet;refine⟨rfl,i.next c (by omega),?_,F.trans (c.mono (by omega))⟩;simpa[E3,H]using B
  go_meet;have H:d=false:=by assumption
  refine⟨rfl,i,?_,F⟩;simpa[E3,H]using E
 obtain⟨rfl,I,J,K⟩:=hcut;go_wp2_with fail;refine(Oi (w.heap.size+1) _ _ _ J I.lt).mono ?_;rintro e P⟨rfl,L⟩;go_wp2_with fail;go_ret;refine⟨Gx ?_,K.trans (L.mono (by omega))⟩;rw[bJ];simp
theorem Jh(n l h:Int)(w:World):Calls prog 65 #[.int .i64 n,.int .i64 l,.int .i64 h] w fun e W=>e=.returned (.bool (decide (l≤n)&&decide (n≤h)))∧W=w:=by
 go_enter func65,ntmps65
 go_wp2
 all_goals
  go_ret;exact⟨Ba (by simp[*]<;>omega),rfl⟩
theorem P4(e:Int)(w:World):Calls prog 61 #[.int .i64 e] w fun r W=>r=.returned (.agg #[.int .i64 e,.int .i64 (-1)])∧Below w.heap.size w W:=by
 go_enter func61,ntmps61
 go_wp2
 refine AL (v:=.agg #[.int .i64 e,.int .i64 (-1)]) (by simp[results,results61,go_sem]) rfl ⟨rfl,by go_grown⟩
theorem sK(a:A3)(w:World)(h:a.len≤9223372036854775807):Calls prog 18 #[a.val] w fun e W=>e=.returned (.bool (decide (a.len≤400)))∧Below w.heap.size w W:=by
 obtain⟨s,H,u,p,b,q,c,f⟩:=a;unfold A3.len at h⊢;simp only at h⊢;go_enter func18,ntmps18
 go_wp2
 all_goals
  go_ret;exact⟨Ba (by simp[*];omega),by go_grown⟩
theorem sL(a:A3)(w:World)(H:a.len≤140737488355000):Calls prog 70 #[a.val] w fun e W=>e=.returned (.string ⟨(Kl a).toArray⟩)∧Below w.heap.size w W:=by
 have h:=bJ a;obtain⟨s,b,u,p,c,q,d,f⟩:=a;unfold A3.len at H;simp only at H h;rw[h];clear h;go_enter func70,ntmps70;have r:=A1.new w (A3.cells ⟨s,b,u,p,c,q,d,f⟩) 36;have R:=r.cell;cases b<;>cases c<;>cases d<;>cases g:s.isEmpty
 all_goals
  go_wp2_with fail;go_ret;exact⟨Gx (by simp[E3]),by go_grown⟩
def Hk(c:UInt8):Bool:=c==32||c==9
theorem Ei(c d:UInt8):(c==d)=((c.toNat:Int)==(d.toNat:Int)):=by
 rw[DZ,BG,BG];constructor
 ·intro h;rw[h]
 intro h;exact BJ.1 (by omega)
theorem Sx(c:UInt8)(w:World):Calls prog 208 #[.int .u8 c.toNat] w fun e W=>e=.returned (.bool (Hk c))∧W=w:=by
 have H:=AB (by unfold Hk;rw[Ei,Ei];rfl:Hk c=(((c.toNat:Int)==32)||((c.toNat:Int)==9)));go_enter func208,ntmps208
 go_wp2
 all_goals
  go_ret;exact⟨Ba (by rw[H.o]<;>first|(simp[*];done)|(simp_all;done)|(rw[DZ];simp only[EW,BG];omega)|(simp[*];omega)),rfl⟩
theorem Qv(c:UInt8)(w:World):Calls prog 212 #[.int .u8 c.toNat] w fun e W=>e=.returned (.bool (Al c))∧W=w:=by
 have H:=AB (by unfold Al;rw[Ei,Ei,Ei,Ei];rfl:Al c=(((((c.toNat:Int)==13)||((c.toNat:Int)==10))||((c.toNat:Int)==32))||((c.toNat:Int)==9)));go_enter func212,ntmps212
 go_wp2
 all_goals
  go_ret;exact⟨Ba (by rw[H.o]<;>first|(simp[*];done)|(simp_all;done)|(rw[DZ];simp only[EW,BG];omega)|(simp[*];omega)),rfl⟩
theorem bK(s:Bs)(w:World)(g:s.length≤1000000000000):Calls prog 273 #[.string ⟨s.toArray⟩] w fun e W=>e=.returned (.bool (Eg s))∧w=W:=by
 go_enter func273,ntmps273;go_wp2_with fail;go_loop[6] (fun i=>∃k:Nat,i=.int .i64 k∧k≤s.length∧s.all Iv=(s.drop k).all Iv) (fun i=>s.length-(intOf i).toNat)
 case atStart=>exact⟨0,rfl,by omega,by simp⟩
 obtain⟨k,rfl,j,l⟩:=hrel;have h:=AB l;clear l;by_cases c:k<s.length
 ·have A:=AB (Qc Iv c);have I:=AB (Yu s[k]);have m:(s[k].toNat:Int)<256:=by have:=s[k].toNat_lt;omega
  go_upto_region 4 with fail;go_cut[20] (fun t x=>t=.bool (!Iv s[k])∧x=w)
  case first=>
   go_wp2_with fail;with_reducible refine(Jh _ _ _ _).mono ?_
   rintro e n⟨rfl,rfl⟩;go_wp2_with fail;all_goals
    go_meet;exact⟨by rw[I.o];first|(simp[*];done)|(simp[*];omega),rfl⟩
  obtain⟨rfl,rfl⟩:=hcut;generalize Iv s[k]=b at A⊢;cases b with
  |false=>
   have d:=AB (by unfold Eg;rw[h.o,A.o];rfl:Eg s=false);go_wp2_with fail;go_ret;exact⟨Ba d.o.symm,rfl⟩
  |true=>
   go_wp2_with fail
   go_round
   case rel=>exact⟨k+1,by go_num,by omega,by rw[h.o,A.o];rfl⟩
   simp[intOf];omega
 obtain rfl:k=s.length:=by omega
 have H:=AB (by unfold Eg;rw[h.o,AQ];rfl:Eg s=!s.isEmpty);by_cases a:s=[]
 ·subst a;go_wp2_with fail;go_ret;exact⟨Ba (by rw[H.o];rfl),rfl⟩
 have f:s.isEmpty=false:=by rw[AP];simpa using a
 have p:=BE.2 a;go_wp2_with fail;go_ret;exact⟨Ba (by rw[H.o,f];first|(simp;done)|(simp;omega)),rfl⟩
theorem sM(s:Bs)(cs:Bs):trimRightS (trimLeftS s cs) cs=trimS s cs:=by
 induction s with
 |nil=>rfl
 |cons c s ih=>
  cases h:cs.contains c with
  |true=>
   rw[pK h];have:trimLeftS (c::s) cs=trimLeftS s cs:=by unfold trimLeftS;rw[EQ h]
   rw[this,ih]
  |false=>
   have H:trimLeftS (c::s) cs=c::s:=by unfold trimLeftS;rw[DQ (by rw[h];decide)]
   unfold trimS;rw[H,Qi,h];unfold trimLeftS;split
   ·rw[AI (by decide),DQ (by rw[h];decide)]
   rw[DQ (by rw[h];decide)]
theorem bL(s:Bs)(c:UInt8)(cs:Bs):trimRightS (s++[c]) cs=if cs.contains c=true then trimRightS s cs else s++[c]:=by
 unfold trimRightS;rw[IN,List.reverse_singleton,IE,EO];split
 ·rfl
 simp
theorem P5(c:UInt8):Hk c=([32,9]:Bs).contains c:=by
 unfold Hk;rw[DZ];simp
theorem Sy(s:Bs)(w:World)(r:s.length≤1000000000000):Calls prog 114 #[.string ⟨s.toArray⟩] w fun e m=>e=.returned (.string ⟨(trimS s [32,9]).toArray⟩)∧m=w:=by
 have T:=AB (sM s [32,9]);go_enter func114,ntmps114;go_wp2_with fail;go_loopw[0] (fun x wr=>∃l:Bs,x=.string ⟨l.toArray⟩∧l.length≤s.length∧Hid (trimLeftS l [32,9]=trimLeftS s [32,9])∧wr=w) (fun x _=>I9 x)
 case atStart=>exact⟨s,rfl,AC _,AB rfl,rfl⟩
 obtain⟨l,rfl,g,L,rfl⟩:=hrel;cases l with
 |nil=>
  have E:=AB (by rw[←T.o,←L.o];rfl:trimS s [32,9]=[]);go_wp2_with fail;go_loopw[0] (fun x W=>∃y:Bs,x=.string ⟨y.toArray⟩∧y=[]∧W=wr) (fun _ _=>0)
  case atStart=>exact⟨[],rfl,rfl,rfl⟩
  obtain⟨y,rfl,rfl,rfl⟩:=hrel;go_wp2_with fail;go_ret;refine⟨?_,rfl⟩;rw[E.o];rfl
 |cons c l=>
  have H:=Sx c wr;cases a:Hk c with
  |true=>
   rw[a]at H;have n:=AB (show trimLeftS l [32,9]=trimLeftS s [32,9]from by
    rw[←L.o];unfold trimLeftS;rw[EQ (by rw[←P5,a])])
   simp only[AO]at g;go_wp2_with fail;with_reducible refine H.mono ?_
   rintro e i⟨rfl,rfl⟩;go_wp2_with fail;go_roundw
   case rel=>exact⟨l,by simp,by omega,n,trivial⟩
   simp
  |false=>
   rw[a]at H;have X:=AB (show trimS s [32,9]=trimRightS (c::l) [32,9]from by
    rw[←T.o,←L.o];unfold trimLeftS;rw[DQ (by rw[←P5,a];decide)])
   go_wp2_with fail;with_reducible refine H.mono ?_
   rintro e i⟨rfl,rfl⟩;go_wp2_with fail;go_loopw[0] (fun x W=>∃y:Bs,x=.string ⟨y.toArray⟩∧y.length≤s.length∧Hid (trimRightS y [32,9]=trimS s [32,9])∧W=i) (fun x _=>I9 x)
   case atStart=>exact⟨c::l,rfl,g,AB X.o.symm,rfl⟩
   obtain⟨y,rfl,t,Y,rfl⟩:=hrel;by_cases b:y=[]
   ·subst b;have E:=AB (by rw[←Y.o];rfl:trimS s [32,9]=[]);go_wp2_with fail;go_ret;refine⟨?_,rfl⟩;rw[E.o];rfl
   obtain⟨k,u⟩:∃k,y.length=k+1:=⟨y.length-1,by have:=BE.2 b;omega⟩;have o:k<y.length:=by omega
   have S:=AB (show trimRightS y [32,9]=if([32,9]:Bs).contains y[k]=true then trimRightS (y.take k) [32,9]else y from by
    have e:y=y.take k++[y[k]]:=by
     rw[←AU o,CH (by omega)]
    have j:=bL (y.take k) y[k] [32,9];rw[←e]at j;exact j)
   have d:=Sx y[k] wr;have v:y.isEmpty=false:=by rw[AP];intro h;exact b (FL.1 h)
   have z:wrap64 ((k:Int)+1-1)=(k:Int):=by unfold wrap64;omega
   rw[←P5]at S;generalize Hk y[k]=q at S d;cases q with
   |true=>
    have f:=AB (by rw[←Y.o,S.o];rfl:trimRightS (y.take k) [32,9]=trimS s [32,9]);go_wp2_with fail;with_reducible refine d.mono ?_
    rintro e p⟨rfl,rfl⟩;go_wp2_with fail;refine⟨⟨y.take k,?_,?_,f,?_⟩,?_⟩
    ·simp
    ·rw[BV];omega
    ·first|rfl|trivial
    simp;omega
   |false=>
    have f:=AB (by rw[←Y.o,S.o];rfl:y=trimS s [32,9]);go_wp2_with fail;with_reducible refine d.mono ?_
    rintro e p⟨rfl,rfl⟩;go_wp2_with fail;go_ret;refine⟨?_,rfl⟩;rw[←f.o];rfl
theorem sN(l:Bs)(k:Nat)(h:k<l.length):A2 (l.take (k+1))=A2 (l.take k)++[Bw l[k]]:=by
 unfold A2;rw[AU h,ID];rfl
theorem W8(l:Bs):(A2 l).length=l.length:=by simp[A2]
theorem I1(l:Bs)(w:World)(m:l.length≤140737488355328):Calls prog 67 #[.string ⟨l.toArray⟩] w fun e W=>e=.returned (.string ⟨(A2 l).toArray⟩)∧Below w.heap.size w W:=by
 go_enter func67,ntmps67
 go_wp2
 go_loopw[3,8] (fun o i wr=>∃k:Nat,k≤l.length∧i=.int .i64 k∧o=.string ⟨(A2 (l.take k)).toArray⟩∧Below w.heap.size w wr) (fun _ i _=>l.length-(intOf i).toNat)
 case atStart=>exact⟨0,CX _,rfl,by simp[A2],by go_grown⟩
 obtain⟨k,p,rfl,rfl,h⟩:=hrel;by_cases t:k<l.length
 ·have H:=sN l k t;have n:(A2 (l.take k)).length=k:=by rw[W8];simp;omega
  generalize A2 (l.take k)=o at H n;have b:∀(c:UInt8)(v:Int)(_:v=c.toNat),(convert 126 9 (.slice (some ⟨wr.heap.size,0,none⟩) 1 1)).run prog (wr.alloc (.cells #[.int .u8 v] 5))=.ok (.string ⟨[c].toArray⟩) (wr.alloc (.cells #[.int .u8 v] 5)):=fun c v e=>
   EI (P:=prog) (wr.alloc (.cells #[.int .u8 v] 5)) 126 9 5 ⟨wr.heap.size,0,none⟩ 1 [c] underlying126 underlying5 underlying9
    (fun j d=>by
     obtain rfl:j=0:=by simpa using d
     rw[Dz,(A1.new _ _ _).cell,e];rfl)
  by_cases a:(65:Int)≤l[k].toNat∧(l[k].toNat:Int)≤90
  ·obtain⟨f,g⟩:=a;have b:=b (Bw l[k]) _ (Yi _ f g);generalize Bw l[k]=c at H b
   go_wp2
   go_roundw
   case rel=>exact⟨k+1,by omega,by go_num,by rw[H],h.alloc h.size _⟩
   simp[intOf];omega
  have b:=b l[k] _ rfl;rw[Yj _ a]at H
  go_wp2
  all_goals first
   |omega
   |(
    go_roundw
    case rel=>exact⟨k+1,by omega,by go_num,by rw[H],h.alloc h.size _⟩
    simp[intOf];omega)
 obtain rfl:k=l.length:=by omega
 rw[CQ]
 go_wp2
 go_ret;exact⟨rfl,h⟩
theorem bM(a:A3)(w:World)(j:a.scheme.length≤140737488355328)(l:a.auth.length≤140737488355328):Calls prog 58 #[a.val] w fun e m=>e=.returned (Cd a).val∧Below w.heap.size w m:=by
 obtain⟨s,h,u,p,H,q,c,f⟩:=a;simp only at j l;go_enter func58,ntmps58;go_upto_region 1 with fail;have R:=(A1.new w (A3.cells ⟨s,h,u,p,H,q,c,f⟩) 36).alloc (.cells Bb 36);have r:=A1.new (w.alloc (.cells (A3.cells ⟨s,h,u,p,H,q,c,f⟩) 36)) Bb 36;rw[AV]at r;have B:Below w.heap.size w _:=((AD w.heap.size w).alloc (AC _) (.cells (A3.cells ⟨s,h,u,p,H,q,c,f⟩) 36)).alloc (by go_size) (.cells Bb 36);generalize n:(w.alloc (.cells (A3.cells ⟨s,h,u,p,H,q,c,f⟩) 36)).alloc (.cells Bb 36)=b at R r B⊢;clear n;have o:=(A1.drew R).cell;have g:=(AD b.heap.size b).drew;have t:=(A1.drew r).free;have i:=(A1.drew r).cell;have d:w.heap.size+1≤b.heap.size:=by have:=r.lt;omega
 have x:Below (w.heap.size+1) b b.drew:=g.mono d;go_region_held3(fun W=>(∀k,W.cell? ⟨w.heap.size,k,none⟩=(A3.cells ⟨s,h,u,p,H,q,c,f⟩)[k]?)∧Below (w.heap.size+1) b W)
  (first
   |with_reducible exact⟨o,x⟩
   |with_reducible exact⟨(R.next K R.lt).cell,K.mono d⟩
   |(refine⟨(R.next (B:=w.heap.size+1) ?_ (by simp)).cell,?_⟩<;>(have M:=K.mono d;repeat (first|with_reducible exact M|refine Below.setCell ?_ (by simp) _))))
  ((go_at_call 67;go_split_ands;with_reducible refine(I1 _ _ (by assumption)).mono ?_;rintro e z⟨rfl,y⟩;have K:=C4 y (w0:=b) (by first|with_reducible exact g|with_reducible exact K);have t:=(r.next K r.lt).free;have i:=(r.next K r.lt).cell;have A:=B.trans (K.mono B.size)))
 go_wp2_with fail;refine AL (v:=(Cd ⟨s,h,u,p,H,q,c,f⟩).val) (by simp[results,results58,go_sem,Cd,i]) rfl ⟨rfl,by go_grown⟩
theorem Sz(l:Bs)(c:UInt8)(w:World):Calls prog 66 #[.string ⟨l.toArray⟩,.string ⟨#[c]⟩] w fun e W=>∃k,Dx l c k∧e=.returned (.int .i64 k)∧w=W:=by
 refine(Tryz.strings_Index_one ⟨l.toArray⟩ c w).mono ?_;rintro e W⟨rfl,rfl⟩;exact⟨_,Vj l c,rfl,rfl⟩
variable {k:Int}{c:UInt8}{l r:Bs}
theorem Dx.W9(h:Dx l c k):k<l.length:=by
 rcases h with⟨rfl,_⟩|⟨a,b,rfl,_,rfl⟩
 ·omega
 simp;omega
theorem Dx.bN(h:Dx l c k)(d:k<0):cut l [c]=(l,[],false):=by
 rcases h with⟨rfl,H⟩|⟨a,b,rfl,H,rfl⟩
 ·rw[Fx,Ke.2 H]
 omega
theorem Dx.bO(h:Dx l c k)(d:0≤k):cut l [c]=(l.take k.toNat,l.drop (k+1).toNat,true):=by
 rcases h with⟨rfl,H⟩|⟨a,b,rfl,H,rfl⟩
 ·omega
 rw[Fx,Me H,(by omega:((a.length:Int)+1).toNat=a.length+1)];simp
def Kp(c:UInt8)(first:Bool):Bool:=(decide (97≤Bw c)&&decide (Bw c≤122))||(!first&&((decide (48≤Bw c)&&decide (Bw c≤57))||Bw c==43||Bw c==45||Bw c==46))
theorem sO:((List.range 256).all fun n=>Kp n.toUInt8 true==(Kk.contains n.toUInt8&&Nj.contains n.toUInt8))=true:=by kernel_rfl
theorem sP:((List.range 256).all fun n=>Kp n.toUInt8 false==Nj.contains n.toUInt8)=true:=by kernel_rfl
theorem Wa(c:UInt8):c.toNat.toUInt8=c:=by simp
theorem sQ(c:UInt8):Kp c true=(Kk.contains c&&Nj.contains c):=by
 have:=AW.1 sO c.toNat (BY.2 c.toNat_lt);rw[Wa]at this;exact BG.1 this
theorem sR(c:UInt8):Kp c false=Nj.contains c:=by
 have:=AW.1 sP c.toNat (BY.2 c.toNat_lt);rw[Wa]at this;exact BG.1 this
def Kq(l:Bs):Nat→Bool
 |0=>true
 |k+1=>Kq l k&&Kp (l.getD k 0) (k==0)
theorem bP{k:Nat}(h:k<l.length):Kq l (k+1)=(Kq l k&&Kp l[k] (k==0)):=by
 show(Kq l k&&Kp (l.getD k 0) (k==0))=_;rw[AK,AZ h];rfl
theorem sS(c:UInt8)(l:Bs)(k:Nat)(H:k≤l.length):Kq (c::l) (k+1)=(Kp c true&&(l.take k).all (Nj.contains ·)):=by
 induction k with
 |zero=>simp[Kq]
 |succ k ih=>
  rw[bP (by simp;omega),ih (by omega)];have h:k<l.length:=by omega
  rw[AU h,GN];have e:((k+1:Nat)==0)=false:=rfl;rw[e,List.getElem_cons_succ,sR];simp[GV]
theorem Dx.sT(h:Dx l 58 k)(c:0≤k):Ih l=(decide (0<k)&&Kq l k.toNat):=by
 rcases h with⟨rfl,H⟩|⟨a,b,rfl,H,rfl⟩
 ·omega
 unfold Ih;rw[Me H];cases a with
 |nil=>rfl
 |cons x a=>
  have e:(((x::a).length:Int)).toNat=a.length+1:=by simp
  rw[e];show(!(x::a).isEmpty&&Ov (x::a))=_;rw[CK,sS x (a++58::b) a.length (by simp)];simp[Ov,sQ,GV]
theorem Dx.auth(h:Dx (r++[47]) 47 k):0≤k∧k≤r.length∧Ms r=(true,r.take k.toNat,r.drop k.toNat):=by
 rcases h with⟨rfl,H⟩|⟨a,b,e,H,rfl⟩
 ·exact absurd (by simp) H
 refine⟨by omega,?_,?_⟩
 ·have:=AF List.length e;simp at this;omega
 rcases DE b with c|⟨B,y,c⟩
 ·subst c;have E:r=a:=by simpa using List.append_inj_left' e rfl
  subst E;unfold Ms;rw[Ke.2 H];simp
 rw[DF]at c;subst c;have E:r=a++47::B:=List.append_inj_left' (by rw[e];simp:r++[47]=(a++47::B)++[y]) rfl;subst E;unfold Ms;rw[Me H];simp
theorem sU(l:Bs):(H6 l).2.length≤l.length:=by
 unfold H6;cases h:Ab [58] l with
 |none=>simp
 |some x=>
  obtain⟨a,b⟩:=x;simp only;split
  ·have:=AF List.length (Ee h);simp at this⊢;omega
  simp
theorem sV(s:Bs)(j:Nat)(h:j<s.length):A2 ((s.drop j).take 1)=[Bw s[j]]:=by
 rw[AE h,FC,GP];rfl
def Fm(d:UInt8)(m:Bool):Bool:=(decide (97≤(d.toNat:Int))&&decide ((d.toNat:Int)≤122))||(m&&((decide (48≤(d.toNat:Int))&&decide ((d.toNat:Int)≤57))||((d.toNat:Int)==43)||((d.toNat:Int)==45)||((d.toNat:Int)==46)))
theorem sW:((List.range 256).all fun n=>Fm (Bw n.toUInt8) false==Kp n.toUInt8 true&&Fm (Bw n.toUInt8) true==Kp n.toUInt8 false)=true:=by kernel_rfl
theorem sX(c:UInt8)(f:Bool):Kp c f=Fm (Bw c) (!f):=by
 have:=AW.1 sW c.toNat (BY.2 c.toNat_lt);rw[Wa,BL]at this;cases f
 ·exact(BG.1 this.2).symm
 exact(BG.1 this.1).symm
end Go.Proofs.YtignjjnflcpiiaaGreatDoor
namespace Go.Proofs.YtignjjnflcpiiaaGreatDoor
open Go Go.ChangeShapes Go.WideShapes Go.ChangeAt Go.RowKit Go.ChangeMaps
theorem sY{H:Type}{I:TypeId×Value→H}{w:World}{base:Nat}{S:Nat→Bool}{J:Bool}{r:Reach}{K:Nat}{v:Value}{d:DataW H}{ps:List MemPlace}
  (L:Value.okWide Tryz.prog w r K 36 v) (M:DataW.Trod I Tryz.prog w base S J 36 v d ps):
  ∃x:A3,v=x.val∧d=.agg [.lit (.string x.scheme),.lit (.bool x.hasAuth),.lit (.string x.auth),.lit (.string x.path),.lit (.bool x.hasQuery),.lit (.string x.query),.lit (.bool x.hasFrag),.lit (.string x.frag)]∧ps=[]:=by
 obtain⟨N,rfl,s⟩:=okWide_struct Tryz.underlying36 L;obtain⟨a0,O⟩:=M;obtain⟨X,n,rfl,j,hl,P,h⟩:=DataW.trod_struct Tryz.underlying36 O;have Q:Tryz.prog.cellsOf 9=1:=by kernel_rfl
 have R:Tryz.prog.cellsOf 4=1:=by kernel_rfl
 have T:Tryz.prog.cellsOf 36=8:=by kernel_rfl
 rw[T]at s;obtain⟨l⟩:=N
 match l,s with
 |[U,V,W,Y,k4,k5,k6,k7],_=>
  match X,P with
  |[y0,y1,y2,y3,y4,y5,y6,y7],_=>
   have k:=h 0 _ rfl;have m:=h 1 _ rfl;have o:=h 2 _ rfl;have p:=h 3 _ rfl;have q:=h 4 _ rfl;have t:=h 5 _ rfl;have u:=h 6 _ rfl;have y:=h 7 _ rfl;simp[Q,R]at k m o p q t u y;obtain⟨s0,e,z,m0⟩:=FK Tryz.underlying9 k;obtain⟨s1,E,Z⟩:=DataW.trod_bool Tryz.underlying4 m;obtain⟨s2,a,A,m2⟩:=FK Tryz.underlying9 o;obtain⟨s3,b,B,m3⟩:=FK Tryz.underlying9 p;obtain⟨s4,c,C⟩:=DataW.trod_bool Tryz.underlying4 q;obtain⟨s5,f,D,m5⟩:=FK Tryz.underlying9 t;obtain⟨s6,g,F⟩:=DataW.trod_bool Tryz.underlying4 u;obtain⟨s7,i,G,m7⟩:=FK Tryz.underlying9 y;have hp:ps=[]:=by
    have:=AF Prod.snd j;simp only at this;rw[this];simp[z,Z,A,B,C,D,F,G]
   have e:[U]=[_]:=e;have E:[V]=[_]:=E;have a:[W]=[_]:=a;have b:[Y]=[_]:=b;have c:[k4]=[_]:=c;have f:[k5]=[_]:=f;have g:[k6]=[_]:=g;have i:[k7]=[_]:=i;cases e;cases E;cases a;cases b;cases c;cases f;cases g;cases i;refine⟨⟨s0.data.toList,s1,s2.data.toList,s3.data.toList,s4,s5.data.toList,s6,s7.data.toList⟩,?_,?_,hp⟩
   ·unfold A3.val A3.cells;simp only[IU]
   have:=AF Prod.fst j;simp only at this;rw[this];simp[z,Z,A,B,C,D,F,G]
end Go.Proofs.YtignjjnflcpiiaaGreatDoor
namespace Go.Proofs.YtignjjnflcpiiaaGreatDoor
open Go Go.RowKit Proofs.Tryz Lib
theorem bQ(a b:A3)(w:World):(Op.equalIn 10000 36 (.agg a.cells) (.agg b.cells)).run prog w=.ok (decide (a=b)) w:=by
 obtain⟨A,c,d,e,f,g,i,j⟩:=a;obtain⟨B,k,l,m,n,o,p,q⟩:=b;have u:=underlying4;have t:=isAgg4;have z:=sizeOf4;have U:=underlying9;have T:=isAgg9;have Z:=sizeOf9;have h:prog.underlying 36=some (.struct (prog.fieldsOf 36)):=by kernel_rfl
 have H:prog.stoodInHeld 36=false:=by kernel_rfl
 rw[(by rfl:(10000:Nat)=9999+1),run_equalIn_agg w 9999 36 _ _ h H];simp only[Program.fieldsOf,underlying36];go_simp;repeat' split
 all_goals simp[*]
@[go_sem high]theorem bR(a b:A3)(w:World):(binOp .eql 36 (.agg a.cells) (.agg b.cells)).run prog w=.ok (.bool (decide (a=b))) w:=by
 rw[run_eql_struct,bQ];rfl
@[go_sem high]theorem sZ(a b:A3)(w:World):(binOp .neq 36 (.agg a.cells) (.agg b.cells)).run prog w=.ok (.bool (!decide (a=b))) w:=by
 rw[run_neq_struct,bQ];rfl
theorem Qw:prog.eqGuardType prog.depth 36=false:=by kernel_rfl
def Gf(line word:Bs)(first:Bool):Bs×Bs:=if !first&&(!word.isEmpty&&decide (76<line.length+word.length))then(line++[13,10],word)else([],line++word)
def F7:Bs→Bool→Bs→Bs→Bool→Bs
 |[],_,l,w,first=>(Gf l w first).1++((Gf l w first).2++[13,10])
 |c::r,nb,l,w,first=>if c=32∧nb=true then(Gf l w first).1++F7 r (c !=32) (Gf l w first).2 [c] false
  else F7 r (c !=32) l (w++[c]) first
theorem Wb:∀(x r:Bs)(n:Bool)(l w:Bs)(first:Bool),(∀c∈x,c≠32)→F7 (x++r) n l w first=F7 r (n||!x.isEmpty) l (w++x) first
 |[],r,n,l,w,first,_=>by simp
 |c::x,r,n,l,w,first,h=>by
  have H:=h c (CD ..);rw[CK];conv=>lhs;unfold F7
  rw[AI (fun a=>H a.1),Wb x r _ l _ first (fun d b=>h d (CA _ b))];have:(c !=32)=true:=by simpa using H
  rw[this];simp
theorem bS:∀(m:Nat)(r l w:Bs)(first:Bool),F7 (List.replicate m 32++r) false l w first=F7 r false l (w++List.replicate m 32) first
 |0,r,l,w,first=>by simp
 |m+1,r,l,w,first=>by
  rw[IP,CK];conv=>lhs;unfold F7
  rw[AI (by simp)];have:((32:UInt8)!=32)=false:=by decide
  rw[this,bS m r l _ first];simp
theorem tA(l:Bs):l.take (nb l)=List.replicate (nb l) 32:=by
 unfold nb;rw[Rv];refine List.eq_replicate_iff.2 ⟨rfl,fun c h=>?_⟩;have:=AW.1 (GT (p:=fun c:UInt8=>c==32) (l:=l)) c h;simpa using this
theorem bT:∀(k:Nat)(r L w:Bs)(first:Bool),r.length<k→(r=[]∨∃t,r=32::t)→F7 r true L w first=(Gf L w first).1++Hi k (Gf L w first).2 r
 |0,_,_,_,_,h,_=>absurd h (FW _)
 |k+1,r,L,w,first,o,q=>by
  rcases q with rfl|⟨t,rfl⟩
  ·unfold Hi;rw[AM rfl];rfl
  have s:=Vc (show(32::t:Bs)≠[] by simp);have v:=Zd (32::t);have a:=BQ (D8 (32::t)) (32::t);have i:nb (32::t)=nb t+1:=by
   unfold nb;rw[DG];simp
  have d:(32::t).take (D8 (32::t))=List.replicate (nb (32::t)) 32++((32::t).drop (nb (32::t))).takeWhile (fun c=>c !=32):=by
   unfold D8 nw;rw[List.take_add,tA,Rv]
  have x:=pH (32::t);have z:((32::t).drop (D8 (32::t))).length<k:=by rw[AS];simp at o⊢;omega
  have y:∀c∈((32::t).drop (nb (32::t))).takeWhile (fun c=>c !=32),c≠32:=fun c H=>by
   have:=AW.1 (GT (p:=fun c:UInt8=>c !=32) (l:=(32::t).drop (nb (32::t)))) c H;simpa using this
  have e:((32::t).drop (nb (32::t))).takeWhile (fun c=>c !=32)=[]→(32::t).drop (D8 (32::t))=[]:=by
   intro b;have A:D8 (32::t)=nb (32::t):=by unfold D8 nw;rw[b];rfl
   rw[A];cases j:(32::t).drop (nb (32::t))with
   |nil=>rfl
   |cons c u=>
    exfalso;rw[j,DG]at b;have H:c=32:=by
     by_cases H:c=32
     ·exact H
     have B:(c !=32)=true:=by simpa using H
     rw[B]at b;simp at b
    have C:=Up (fun c:UInt8=>c==32) (32::t);have D:((32::t).dropWhile (fun c:UInt8=>c==32))=c::u:=by rw[←C];exact j
    have:=Ot D;rw[H]at this;revert this;decide
  have K:F7 (32::t) true L w first=(Gf L w first).1++F7 ((32::t).drop (D8 (32::t))) true (Gf L w first).2 ((32::t).take (D8 (32::t))) false:=by
   generalize I:(32::t).drop (D8 (32::t))=R at a e⊢;generalize J:((32::t).drop (nb (32::t))).takeWhile (fun c=>c !=32)=Y at d y e;rw[d,i,IP]at a;have E:t=List.replicate (nb t) 32++(Y++R):=by
    rw[CK,CK]at a;injection a with _ h;rw[←AJ];exact h.symm
   conv=>lhs;unfold F7
   rw[AM ⟨rfl,rfl⟩];have F:((32:UInt8)!=32)=false:=by decide
   rw[F];congr 1;conv=>lhs;rw[E]
   rw[bS,Wb Y R _ _ _ _ y,d,i,IP];by_cases f:Y=[]
   ·rw[e f,f];conv=>lhs;unfold F7
    conv=>rhs;unfold F7
    rfl
   have:(false||!Y.isEmpty)=true:=by cases Y<;>simp at f⊢
   rw[this];rfl
  rw[K,bT k _ _ _ false z x];have m:(32::t).take (D8 (32::t))≠[]:=by
   intro h;have:=AF List.length h;rw[BV]at this;simp at this s v;omega
  have n:((32::t).take (D8 (32::t))).length=D8 (32::t):=by rw[BV];omega
  congr 1;conv=>rhs;unfold Hi
  rw[AI (by simp)];generalize M:(Gf L w first).2=g;generalize N:(32::t).take (D8 (32::t))=W at m n;have G:W.isEmpty=false:=by cases W<;>simp at m⊢
  unfold Gf;rw[G,n];by_cases H:g.length+D8 (32::t)>76
  ·rw[AM H,AM H,BD (show 76<g.length+D8 (32::t)from H)];simp
  rw[AI H,AI H,AX (show¬76<g.length+D8 (32::t)from H)];simp
theorem tB(f:A4):F7 f.2 true (f.1++[58,32]) [] true=Lr (f.1++58::32::Fl f) (f.2.drop (Fl f).length):=by
 have d:=pJ f;have r:=pI f;have g:∀c∈Fl f,c≠32:=by
  intro c H;unfold Fl at H;rw[Fx]at H;cases h:Ab [32] f.2 with
  |none=>
   rw[h]at H;exact fun e=>Ke.1 h (e▸H)
  |some x=>
   obtain⟨a,b⟩:=x;rw[h]at H;exact fun e=>(Oa h).2 (e▸H)
 have e:F7 f.2 true (f.1++[58,32]) [] true=F7 (f.2.drop (Fl f).length) true (f.1++[58,32]) (Fl f) true:=by
  conv=>lhs;rw[←d]
  rw[Wb _ _ _ _ _ _ g];simp
 rw[e,bT _ _ _ _ _ (DT _) r];unfold Gf Lr;simp
end Go.Proofs.YtignjjnflcpiiaaGreatDoor
