/- The document's answer's Open: as the program's. Condition -/
import Derived.Test.YtignjjnflcpiiaaGreatDoorS40
import Derived.Test.YtignjjnflcpiiaaGreatDoorS44
import Derived.Test.YtignjjnflcpiiaaGreatDoorS45
set_option linter.all false
set_option maxHeartbeats 16000000
set_option maxRecDepth 100000
namespace Go.Proofs.YtignjjnflcpiiaaGreatDoor
open Go Go.RowKit Proofs.Tryz Lib
def YT(B:Nat)(r:Except Int Aw)(e:Ending)(w':World):Prop:=(∃b p,r=.ok b∧e=.returned (.tuple #[.pointer (some ⟨p,0,none⟩),.int .i64 0])∧F5 (fun k=>B≤k) w' p b)∨(∃c,r=.error c∧1≤c∧e=.returned (.tuple #[.pointer none,.int .i64 c]))
def Y3:Bs:=[99,111,110,116,101,110,116,45,105,100]
theorem YU:A2 Y3=A2 C3:=by decide
def Pw(l:Bool)(r:Nat):Int:=if l then-1 else r
theorem YV(p:A8)(h:(Kc p.head).1=Jl)(H:p.parts≠[]):Ij p=(Dt (Dp A3.zero p.head) ((C5 (Kc p.head).2 Bq).getD []) true 0 [] [] 0 p.parts).map fun x=>⟨p,x.1,x.2.1,x.2.2⟩:=by
 rw[iJ p h H,Rh,Rh];cases C5 (Kc p.head).2 Bq with
 |none=>simp
 |some s=>rfl
variable {b B a n cap e n' k:Nat}{t:TypeId}{w f:World}{i I:List Bs}{V v X:Value}{p P m:List A3}{c C d l o:Array Value}
theorem Ua{x:A3}(h:A1 w b x.cells t):∀j u,([x].flatMap Fv)[j]?=some u→w.cell? ((⟨b,0,none⟩:Go.Addr).add j)=some u:=fun j u H=>by
 rw[Dz,h.cell,←GH];simpa[Fv]using H
theorem Ub{x:Bs}(h:A1 w b #[.string ⟨x.toArray⟩] t):∀j u,([x].flatMap Bi)[j]?=some u→w.cell? ((⟨b,0,none⟩:Go.Addr).add j)=some u:=fun j u H=>by
 rw[Dz,h.cell]
 match j,H with
 |0,H=>exact H
 |j+1,H=>simp[Bi]at H
def Px(r:Ao)(R:Int)(s S:H7):Array Value:=#[A9 r.1,.string ⟨r.2.1.toArray⟩,.bool r.2.2.1,A9 r.2.2.2,.int .i64 R,A9 s,A9 S]
def Py(S:Nat)(b:Nat)(r:Ao)(R:Int)(p:List A3)(I:List Bs)(w:World):Prop:=∃s i:H7,A1 w b (Px r R s i) 57∧Pm w S (A9 s) p∧A0 9 1 Bi w S (A9 i) I∧(∀g,(A9 s).ownBlock=some g→(A9 i).ownBlock≠some g)
structure Gw(S bp b12 b16:Nat)(cb c12 c16:Array Value)(wa:World)(va:Value)(pl:List A3)(vi:Value)(ids:List Bs)(W:World):Prop where
 K:Below S wa W
 kb:A1 W bp cb 57
 k12:A1 W b12 c12 36
 k16:A1 W b16 c16 44
 oa:Pm W S va pl
 oi:A0 9 1 Bi W S vi ids
 ne:∀g,va.ownBlock=some g→vi.ownBlock≠some g
 na:∀g,va.ownBlock=some g→g≠b16
 ni:∀g,vi.ownBlock=some g→g≠b16
 hS:S≤wa.heap.size
 hb:bp<S
 h12:b12<S
theorem Gw.base{S:Nat}{W:World}(h:Gw S b B a c C d w v p V i W):S≤W.heap.size:=BC h.hS h.K.size
theorem Gw.next{S b B a:Nat}{c C d:Array Value}{w:World}{v:Value}{p:List A3}{V:Value}{i:List Bs}{W e:World}(h:Gw S b B a c C d w v p V i W)(H:Below W.heap.size W e):Gw S b B a c C d w v p V i e:=⟨h.K.trans (H.mono h.base),h.kb.next H h.kb.lt,h.k12.next H h.k12.lt,h.k16.next H h.k16.lt,A0.next h.oa H,A0.next h.oi H,h.ne,h.na,h.ni,h.hS,h.hb,h.h12⟩
theorem Gw.alloc{S b B a:Nat}{c C d:Array Value}{w:World}{v:Value}{p:List A3}{V:Value}{i:List Bs}{W:World}(h:Gw S b B a c C d w v p V i W)(o:Obj):Gw S b B a c C d w v p V i (W.alloc o):=h.next ((AD W.heap.size W).alloc (AC _) o)
theorem Gw.drew{S b B a:Nat}{c C d:Array Value}{w:World}{v:Value}{p:List A3}{V:Value}{i:List Bs}{W:World}(h:Gw S b B a c C d w v p V i W):Gw S b B a c C d w v p V i W.drew:=h.next (AD W.heap.size W).drew
theorem Gw.Pp{S p:Nat}{W:World}(h:Gw S p a b c C d f v m V i W){g:Nat}
  (o:Pm w S (.slice (some ⟨g,0,none⟩) n cap) P) (j:W.grownBy w v.ownBlock) (B:Below S W w) (l:v.ownBlock=some g∨g=W.heap.size):Gw S p a b c C d f (.slice (some ⟨g,0,none⟩) n cap) P V i w:=by
 have q:=fun k H=>A0.Fp h.oa k H
 refine⟨h.K.trans B,h.kb.next B h.hb,h.k12.next B h.h12,O4 h.k16 j (fun e=>(h.na b e.symm) rfl),o,A0.grown h.oi j (fun k H e=>h.ne k e H),fun k H e=>?_,fun k H=>?_,h.ni,h.hS,h.hb,h.h12⟩
 ·injection H with H;simp only at H;subst H;rcases l with l|l
  ·exact h.ne _ l e
  have:=A0.Do h.oi _ e;omega
 injection H with H;simp only at H;subst H;rcases l with l|l
 ·exact h.na _ l
 have:=h.k16.lt;omega
theorem Gw.Pq{S p:Nat}{W:World}(h:Gw S p a b c C d f V P v I W){g:Nat}
  (o:A0 9 1 Bi w S (.slice (some ⟨g,0,none⟩) n cap) i) (j:W.grownBy w v.ownBlock) (B:Below S W w) (l:v.ownBlock=some g∨g=W.heap.size):Gw S p a b c C d f V P (.slice (some ⟨g,0,none⟩) n cap) i w:=by
 refine⟨h.K.trans B,h.kb.next B h.hb,h.k12.next B h.h12,O4 h.k16 j (fun e=>(h.ni b e.symm) rfl),A0.grown h.oa j (fun k H e=>h.ne k H e),o,fun k H e=>?_,h.na,fun k H=>?_,h.hS,h.hb,h.h12⟩
 ·injection e with e;simp only at e;subst e;rcases l with l|l
  ·exact h.ne _ H l
  have:=A0.Do h.oa _ H;omega
 injection H with H;simp only at H;subst H;rcases l with l|l
 ·exact h.ni _ l
 have:=h.k16.lt;omega
theorem Uc{S:Nat}{W d:World}{r R a A:Option Go.Addr}{f g i c C:Nat}{t:Int}{j:Bs}{m:Bool}{x:Value}
  (h:Gw S b B k #[.slice r e f,.string ⟨j.toArray⟩,.bool m,.slice R g i,.int .i64 t,x,X] l o w (.slice a n c) p (.slice A n' C) I W) (H:A5 b S d w):
  Py S b ((r,e,f),j,m,(R,g,i)) t p I ((W.setCell ⟨b,5,none⟩ (.slice a n c)).setCell ⟨b,6,none⟩ (.slice A n' C))∧A5 b S d ((W.setCell ⟨b,5,none⟩ (.slice a n c)).setCell ⟨b,6,none⟩ (.slice A n' C)):=by
 refine⟨⟨(a,n,c),(A,n',C),?_,A0.A6 (A0.A6 h.oa h.hb _) h.hb _,A0.A6 (A0.A6 h.oi h.hb _) h.hb _,h.ne⟩,((H.trans (A5.of h.K)).set _).set _⟩;have:=(h.kb.set 5 (.slice a n c)).set 6 (.slice A n' C);simpa[Px,A9]using this
theorem Py.root{S:Nat}{r:Ao}{R:Int}(h:Py S b r R p i w)(H:b<S)(k:Int):Py S b r k p i (w.setCell ⟨b,4,Option.none⟩ (.int .i64 k)):=by
 obtain⟨s,a,c,d,e,f⟩:=h;refine⟨s,a,?_,A0.A6 d H _,A0.A6 e H _,f⟩;have:=c.set 4 (.int .i64 k);simpa[Px]using this
theorem YW(s:Bs)(w:World)(hs:s.length≤1000000000000)(V:Gr w):Calls prog 19 #[.string ⟨s.toArray⟩] w fun e w'=>YT w.heap.size (Cx s) e w'∧Below w.heap.size w w':=by
 have hP:=XK s w hs V;have HN:=AB (by rfl:Cx s=match E8 s with| .error e=>.error e| .ok p=>Ij p);have b5:=fun p(h:E8 s=.ok p)=>Xa h
 generalize E8 s=rp at hP HN b5;go_enter func19,ntmps19;go_wp2_with fail;with_reducible refine hP.mono ?_
 rintro e w1⟨hh,c6⟩;have i9:=c6.size;rcases hh with⟨p,f9,rfl,rfl,J⟩|⟨c,rfl,j0,rfl⟩
 case inr=>
  have HN:=AB (show Cx s=.error c from HN.o);have B1:=c6.alloc i9 (.cells Bn 44);unfold Bn at B1⊢;have n2:=AB j0;have v1:¬c=0:=by omega
  clear c6 hP b5 j0;go_wp2_with fail;go_ret2;exact⟨Or.inr ⟨c,HN.o,n2.o,rfl⟩,B1⟩
 have HN:=AB (show Cx s=Ij p from HN.o);have b5:=b5 p rfl;have e6:=Em b5.head.1;have v2:=b5.head.2.2;have c7:=J.Po;obtain⟨⟨ra,rn,rc⟩,rb,rm,⟨b1,n3,a6⟩⟩:=f9;have n4:n3=p.parts.length:=by
  obtain⟨j1,⟨a,c,e,_⟩,hl,_⟩:=J.parts;simp only[A9]at e;injection e with _ e _;omega
 subst n4;simp only[A9]at c7;simp only[Bm,A9];have A:=(AD w1.heap.size w1).alloc (AC _) (.cells #[.slice ra rn rc,.string ⟨rb.toArray⟩,.bool rm,.slice b1 p.parts.length a6] 44);have r:=A1.new w1 #[.slice ra rn rc,.string ⟨rb.toArray⟩,.bool rm,.slice b1 p.parts.length a6] 44;have g0:=(V.next c6).next A;have J:=J.next A;have c7:=c7.next A;have B2:=c6.trans (A.mono i9);have n5:w1.heap.size+1≤(w1.alloc (.cells #[.slice ra rn rc,.string ⟨rb.toArray⟩,.bool rm,.slice b1 p.parts.length a6] 44)).heap.size:=by simp
 clear A hP;go_upto_region 4 with fail;generalize World.alloc _ _=w2 at r g0 J c7 B2 n5⊢;have hG:=P8 (.slice ra rn rc) p.head O6 w2 c7.rd (e6.ok (by decide)) (by decide);rw[Pt p.head Y0]at hG;have HK:=AB (by rfl:Kc p.head=(Ay ((Ai p.head Bu).getD [])).getD ([],[]));have n6:=Re (s:=Bu) e6;generalize(Ai p.head Bu).getD []=kv at hG HK n6;generalize(Ai p.head Bu).isSome=kb at hG;have kc:=r.cell;unfold O6 at hG;go_wp2_with fail;with_reducible refine hG.mono ?_
 rintro e w3⟨rfl,c8⟩;have B3:=B2.trans (c8.mono (by omega));have r:=r.next c8 r.lt;have d6:=g0.next c8;have J:=J.next c8;have v3:=c8.size;have j2:=Rk kv w3 (by omega) d6.g;clear hG c8 B2 g0 kc c7;go_wp2_with fail;with_reducible refine j2.mono ?_
 rintro e f⟨hh,c9⟩;obtain⟨m,ps,v4,v5,v6,rfl,e7,b6,_,n7⟩:=hh.get;have b6:=AB (HK.o.trans b6);have B4:=B3.trans (c9.mono B3.size);have r:=r.next c9 r.lt;have j3:=d6.next c9;have J:=J.next c9;have v7:=c9.size;have kc:=r.cell;clear j2 c9 B3 d6 hh HK;by_cases hm:m=Jl
 case neg=>
  have HN:=AB (by rw[HN.o];unfold Ij;rw[b6.o,AM hm]:Cx s=.error 6);have j4:(m==[109,117,108,116,105,112,97,114,116,47,114,101,108,97,116,101,100])=false:=by simpa[Jl]using hm
  clear hm;go_wp2_with fail;go_ret2;exact⟨Or.inr ⟨6,HN.o,by decide,rfl⟩,B4⟩
 subst hm;have j4:(Jl==[109,117,108,116,105,112,97,114,116,47,114,101,108,97,116,101,100])=true:=rfl;unfold Jl at j4;unfold Jl;by_cases d7:p.parts.length=0
 ·have HN:=AB (by rw[HN.o];unfold Ij;rw[b6.o,AI (by simp),AM (JI d7)]:Cx s=.error 8);have n8:((p.parts.length:Int)==0)=true:=by rw[d7];rfl
  clear d7;go_wp2_with fail;go_ret2;exact⟨Or.inr ⟨8,HN.o,by decide,rfl⟩,B4⟩
 have n8:((p.parts.length:Int)==0)=false:=by rw[AG];omega
 have HN:=AB (show Cx s=(Dt (Dp A3.zero p.head) ((C5 ps Bq).getD []) true 0 [] [] 0 p.parts).map fun x=>⟨p,x.1,x.2.1,x.2.2⟩from by
  rw[HN.o,YV p (by rw[b6.o]) (fun h=>d7 (by rw[h];rfl)),b6.o])
 have g2:=fun v W hr V=>jF A3.zero v p.head W hr (e6.mono (by decide)) (by decide) V
 have j5:=U0 (base:=A3.zero) e6;have j6:A3.zero.len=0:=rfl;rw[j6]at j5;clear j6;generalize Dp A3.zero p.head=base at HN j5 g2;have d8:=fun v W hr=>cT v ps Bq W hr (by have:=n7.1;omega)
 unfold Bq at d8 HN;generalize(C5 ps _).getD []=st at HN d8;generalize(C5 ps _).isSome=v8 at d8;clear d7 b6;go_upto_region 10 with fail;have J:=A7.Ad (Q:=fun b=>w.heap.size≤b∧b<f.heap.size) (fun b h1 h2=>⟨h1,h2⟩) J;have kb:=A1.new f #[.slice ra rn rc,.string ⟨rb.toArray⟩,.bool rm,.slice b1 p.parts.length a6,.int .i64 (-1),.slice none 0 0,.slice none 0 0] 57;have A:=(AD f.heap.size f).alloc (AC _) (.cells #[.slice ra rn rc,.string ⟨rb.toArray⟩,.bool rm,.slice b1 p.parts.length a6,.int .i64 (-1),.slice none 0 0,.slice none 0 0] 57);go_upto_region 11 with fail;have n9:f.heap.size<(f.alloc (.cells #[.slice ra rn rc,.string ⟨rb.toArray⟩,.bool rm,.slice b1 p.parts.length a6,.int .i64 (-1),.slice none 0 0,.slice none 0 0] 57)).heap.size:=by simp
 generalize World.alloc _ _=w5 at kb A n9⊢;have B5:=B4.trans (A.mono B4.size);have r:=r.next A r.lt;have e8:=j3.next A;have J:=J.next A;have e7:=A0.next e7 A;have o0:=B5.size;have hG:=d8 _ w5 (A0.rd (by decide) Ah e7);clear A B4 j3 d8 e7;go_wp2_with fail;with_reducible refine hG.mono ?_
 rintro e w6⟨rfl,b7⟩;have B6:=B5.trans (b7.mono o0);have r:=r.next b7 r.lt;have kb:=kb.next b7 kb.lt;have g3:=e8.next b7;have J:=J.next b7;have v9:=b7.size;have a4:=g2 (.slice ra rn rc) w6 J.Po.rd g3;change Calls _ _ #[.agg #[.string ⟨#[]⟩,.bool false,.string ⟨#[]⟩,.string ⟨#[]⟩,.bool false,.string ⟨#[]⟩,.bool false,.string ⟨#[]⟩],.slice ra rn rc] _ _ at a4;have kc:=r.cell;clear hG b7 B5 e8 g2;go_wp2_with fail;with_reducible refine a4.mono ?_
 rintro e o⟨rfl,b9⟩;have B7:=B6.trans (b9.mono B6.size);have r:=r.next b9 r.lt;have kb:=kb.next b9 kb.lt;have d9:=g3.next b9;have J:=J.next b9;have w0:=b9.size;clear a4 b9 B6 g3 kc;have b8:=(AD o.heap.size o).alloc (AC _) (.cells base.cells 36);have e9:=A1.new o base.cells 36;go_upto_region 14 with fail;have a7:o.heap.size<(o.alloc (.cells base.cells 36)).heap.size:=by simp
 generalize World.alloc _ _=t at e9 b8 a7⊢;have B8:=B7.trans (b8.mono B7.size);have r:=r.next b8 r.lt;have kb:=kb.next b8 kb.lt;have g4:=d9.next b8;have J:=J.next b8;have w4:=b8.size;have kc:=r.cell;have w7:=kb.lt;have w8:w1.heap.size≠f.heap.size:=by have:=c6.size;omega
 clear b8 B7 d9;have j7:=AB J;clear J;go_wp2_with fail;go_loopw[62] (fun I wr=>∃(k:Nat)(lk:Bool)(R:Nat)(l:List A3)(n:List Bs),I=.int .i64 k∧k≤p.parts.length∧l.length=k∧n.length=k∧R≤k∧Py t.heap.size f.heap.size ((ra,rn,rc),rb,rm,(b1,p.parts.length,a6)) (Pw lk R) l n wr∧(lk=true→R=0)∧Hid (Cx s=(Dt base st lk R l n k (p.parts.drop k)).map fun x=>⟨p,x.1,x.2.1,x.2.2⟩)∧A5 f.heap.size t.heap.size t wr) (fun I _=>p.parts.length-(intOf I).toNat)
 case atStart=>exact⟨0,true,0,[],[],rfl,by omega,rfl,rfl,by omega,⟨(none,0,0),(none,0,0),kb,A0.nil _ _ _ _ _,A0.nil _ _ _ _ _,fun g h=>by cases h⟩,fun _=>rfl,HN,A5.refl _ _ _⟩
 obtain⟨k,lk,R,l,n,rfl,hk,w9,x0,x1,g5,j8,e0,B⟩:=hrel;have f0:=AB j8;have g6:=B.size;clear j8;by_cases d0:k<p.parts.length
 ·have f1:=A7.Ag j7.o B (by omega);obtain⟨j1,g7,x2,j9⟩:=f1.parts;simp only[A9]at g7;obtain⟨pb,rfl,x3,x4,e1⟩:=g7.at Db k (by omega);have hq:=j9 k (by omega) d0;have k0:=b5.part (AN d0);have c0:=AB (show∀q,p.parts[k]=q→q.many=true→Cx s=.error 13 from fun q hq hm=>by
   rw[e0.o,AE d0,hq];unfold Dt;rw[AM hm];rfl)
  have S:=AB (show∀q,p.parts[k]=q→q.many=false→Cx s=(if lk&&(st !=[]&&st==F4 (Fa q.head))then Dt base st false k (l++[Dp base q.head]) (n++[Fa q.head]) (k+1) (p.parts.drop (k+1))
   else Dt base st lk R (l++[Dp base q.head]) (n++[Fa q.head]) (k+1) (p.parts.drop (k+1))).map (fun x=>(⟨p,x.1,x.2.1,x.2.2⟩:Aw))from fun q hq hm=>by
   rw[e0.o,AE d0,hq];rw[Dt.eq_def];simp only[hm];rfl)
  have g8:=e1 0 (by decide);have g9:=e1 1 (by decide);have f2:=e1 2 (by decide);have h0:=e1 3 (by decide);have c0:=AB (c0.o _ rfl);have e2:=AB (S.o _ rfl);clear e1 j9 e0 S g7;generalize p.parts[k]=q at hq k0 c0 e2;generalize j1[k]'(by omega)=f9 at hq g8 g9 f2 h0;have k1:=hq.iY;have h4:=hq.Po;obtain⟨⟨u,y,C⟩,N,qm,⟨O,T,U⟩⟩:=f9;simp only[D5,A9,BI,AR,AT]at g8 g9 f2 h0 k1 h4;subst k1;have f3:=Em k0.head.1;clear hq;generalize q.many=bm at c0 e2 f2;have f4:w.heap.size≤f.heap.size:=by omega
  have a7:w.heap.size≤t.heap.size:=by omega
  have B9:=B8.trans ((B.mono a7).shut f4);have f5:=AB B9;cases bm with
  |true=>
   have HE:=AB (c0.o rfl);clear c0 e2;go_wp2_with fail;go_ret2;exact⟨Or.inr ⟨13,HE.o,by decide,rfl⟩,f5.o.alloc (BC a7 g6) _⟩
  |false=>
  have S:=AB (e2.o rfl);clear c0 e2;have A:=(AD wr.heap.size wr).alloc (AC _) (.cells #[.slice u y C,.string ⟨N.toArray⟩,.bool false,.slice O T U] 44);have f6:=A1.new wr #[.slice u y C,.string ⟨N.toArray⟩,.bool false,.slice O T U] 44;have x5:w.heap.size≤t.heap.size:=a7;obtain⟨⟨X,Y,Z⟩,⟨a0,a1,a2⟩,a8,h5,h6,k2⟩:=g5;have hM:Gw t.heap.size f.heap.size o.heap.size wr.heap.size _ base.cells _ _ _ l _ n _:=⟨AD t.heap.size _,a8.next A a8.lt,(e9.Ag B (by omega)).next A (e9.Ag B (by omega)).lt,f6,A0.next h5 A,A0.next h6 A,k2,fun g V=>DX (A0.Do h5 g V),fun g V=>DX (A0.Do h6 g V),BC g6 A.size,by omega,e9.lt⟩;unfold Px at hM;simp only[A9]at hM;have x6:=V.size;have k3:=(g4.Ag B (by omega)).next A;have HQ:=AB (fun W(hW:Below t.heap.size _ W)=>(h4.keep (w':=W) (BC A.size hW.size) (fun b hP d0=>(hW.block b (by have:=hP.2;omega)).trans (A.block b d0))).rd);have a4:=fun W hr V=>jF base (.slice u y C) q.head W hr (f3.mono (by decide)) (by omega) V
  have a9:=fun W hr=>P8 (.slice u y C) q.head Y3 W hr (f3.ok (by decide)) (by decide)
  simp only[Pt q.head YU]at a9;have o1:=Xi f3;have c1:=AB (by rfl:Fa q.head=M0 ((Ai q.head C3).getD []));have k4:=Re (s:=C3) f3;generalize Dp base q.head=P at S a4;generalize Fa q.head=I at S c1 o1;generalize(Ai q.head C3).getD []=x at c1 a9 k4;generalize(Ai q.head C3).isSome=x7 at a9;unfold Y3 at a9;have k5:=f6.cell;clear a8 h5 h6 k2 h4;go_upto_region 19 with fail;clear g8 g9 f2 h0;generalize World.alloc _ _=h7 at hM k3 HQ A f6 k5⊢;go_cut[18] (fun v wx=>v=.string ⟨x.toArray⟩∧Below h7.heap.size h7 wx)
  case first=>
   clear a4 S;go_wp2_with fail;with_reducible refine(a9 _ (HQ.o _ (AD _ _))).mono ?_
   rintro e wb⟨rfl,bb⟩;go_wp2_with fail;go_meet;exact⟨rfl,bb⟩
  case rest=>
  obtain⟨rfl,bb⟩:=hcut;obtain⟨wa,rfl⟩:∃x:World,x=wc:=⟨_,rfl⟩;obtain⟨gd,k6⟩:∃q:Bool,q=decide (2<x.length∧x.getD 0 0=60∧x.getD (x.length-1) 0=62):=⟨_,rfl⟩;have b2:=AB k6;clear k6;go_upto_region 20 with fail;go_cut[90] (fun v wx=>v=.bool (!gd)∧wx=wa)
  case first=>
   clear a4 S c1 a9;by_cases h2:2<x.length
   case neg=>
    have c2:=AB (b2.o.trans (AX (fun h=>h2 h.1)));have h3:(x.length:Int)<3:=by omega
    clear h2;go_wp2_with fail;go_meet;exact⟨by rw[c2.o];rfl,by first|rfl|trivial⟩
   have h3:¬(x.length:Int)<3:=by omega
   have e3:x.getD 0 0=x[0]'(by omega):=by rw[AK];simp[show 0<x.length by omega]
   have e4:x.getD (x.length-1) 0=x[x.length-1]'(by omega):=by rw[AK];simp[show x.length-1<x.length by omega]
   have z1:(0:Int)≤(x.length:Int)-1:=by omega
   have z2:(x.length:Int)-1<x.length:=by omega
   have z3:((x.length:Int)-1).toNat=x.length-1:=by omega
   have hp:0<x.length:=by omega
   by_cases ha:x.getD 0 0=60
   case neg=>
    have c2:=AB (b2.o.trans (AX (fun h=>ha h.2.1)));have k7:((x[0].toNat:Int)!=60)=true:=by
     rw[CZ];intro h;apply ha;rw[e3];apply BJ.1;show x[0].toNat=60;omega
    clear ha e3 e4;go_wp2_with fail;go_meet;exact⟨by rw[c2.o];rfl,by first|rfl|trivial⟩
   have k7:((x[0].toNat:Int)!=60)=false:=by
    rw[FV,←e3,ha];rfl
   by_cases hb:x.getD (x.length-1) 0=62
   case neg=>
    have c2:=AB (b2.o.trans (AX (fun h=>hb h.2.2)));have o2:((x[x.length-1].toNat:Int)!=62)=true:=by
     rw[CZ];intro h;apply hb;rw[e4];apply BJ.1;show x[x.length-1].toNat=62;omega
    have x8:=AB k7;clear ha hb e3 e4;go_wp2_with fail;go_meet;exact⟨by rw[c2.o];rfl,by first|rfl|trivial⟩
   have c2:=AB (b2.o.trans (BD ⟨h2,ha,hb⟩));have o2:((x[x.length-1].toNat:Int)!=62)=false:=by
    rw[FV,←e4,hb];rfl
   clear ha hb e3 e4;go_wp2_with fail;go_meet;exact⟨by rw[c2.o];rfl,by first|rfl|trivial⟩
  case rest=>
  obtain⟨rfl,b3⟩:=hcut;obtain rfl:=b3.symm;clear b3;go_upto_if 90 with fail;go_cut[18] (fun v wx=>v=.string ⟨(if gd then x else[60,62]).toArray⟩∧wx=wa)
  case first=>
   clear a4 S c1 a9 b2;cases gd with
   |true=>
    rw[ED];go_wp2_with fail;go_meet;exact⟨rfl,by first|rfl|trivial⟩
   |false=>
    rw[EH];go_wp2_with fail;go_meet;exact⟨rfl,by first|rfl|trivial⟩
  case rest=>
  obtain⟨rfl,b3⟩:=hcut;obtain rfl:=b3.symm;clear b3;go_upto_region 22 with fail;go_cut[18] (fun v wx=>v=.string ⟨I.toArray⟩∧wx=wa)
  case first=>
   clear a4 S a9;cases gd with
   |true=>
    have h2:=EE b2.o.symm;have HI:=AB (c1.o.trans (hJ h2));rw[AM rfl];have h3:2<x.length:=h2.1;have z1:(1:Int)≤(x.length:Int)-1:=by omega
    have z2:(x.length:Int)-1≤x.length:=by omega
    have z3:((x.length:Int)-1).toNat=x.length-1:=by omega
    clear h2;go_wp2_with fail;go_meet;exact⟨by rw[HI.o,List.drop_one],by first|rfl|trivial⟩
   |false=>
    have h2:=of_decide_eq_false b2.o.symm;have HI:=AB (c1.o.trans (Tw h2));rw[AI (by decide)];clear h2;go_wp2_with fail;go_meet;exact⟨by rw[HI.o];rfl,by first|rfl|trivial⟩
  case rest=>
  obtain⟨rfl,b3⟩:=hcut;obtain rfl:=b3.symm;clear b3 c1 a9 k4 k5 b2;have e5:=AB (B.next A g6);have hM:=hM.next bb;have h8:=AB (fun W(hW:Below t.heap.size h7 W)=>k3.keep (w':=W) fun b hb=>hW.block b (by omega));have Md:=hM.drew;clear A f6 bb;go_upto_region 23 with fail;go_cut[119] (fun _ wx=>Py t.heap.size f.heap.size ((ra,rn,rc),rb,rm,(some ⟨pb,0,none⟩,p.parts.length,a6)) (Pw lk R) (l++[P]) (n++[I]) wx∧A5 f.heap.size t.heap.size t wx)
  case first=>
   have k8:=Md.kb.cell;have o3:=Md.k12.cell;have o4:=Md.k16.cell;have q1:=AB (by simp;omega:(l.length+[P].length)*104≤140737488355328);have q2:=AB (by unfold maxLen;simp;omega:l.length+[P].length≤maxLen);have q3:=AB (by simp;omega:(n.length+[I].length)*16≤140737488355328);have q4:=AB (by unfold maxLen;simp;omega:n.length+[I].length≤maxLen);have x9:o.heap.size≠f.heap.size:=by omega
   have y0:wr.heap.size≠f.heap.size:=by omega
   have a3:(fun W=>(∀k,W.cell? ⟨o.heap.size,k,none⟩=base.cells[k]?)∧(∀k,W.cell? ⟨wr.heap.size,k,none⟩=(#[.slice u y C,.string ⟨N.toArray⟩,.bool false,.slice O T U])[k]?)∧W.cell? ⟨f.heap.size,5,none⟩=some (.slice X Y Z)∧W.cell? ⟨f.heap.size,6,none⟩=some (.slice a0 a1 a2)) wa.drew:=⟨o3,o4,k8 5,k8 6⟩;refine Zc 22 (fun W=>(∀k,W.cell? ⟨o.heap.size,k,none⟩=base.cells[k]?)∧(∀k,W.cell? ⟨wr.heap.size,k,none⟩=(#[.slice u y C,.string ⟨N.toArray⟩,.bool false,.slice O T U])[k]?)∧W.cell? ⟨f.heap.size,5,none⟩=some (.slice X Y Z)∧W.cell? ⟨f.heap.size,6,none⟩=some (.slice a0 a1 a2)) (by kernel_rfl) ?_;refine Ap.take (i:=0) (v:=?_) rfl (by kernel_rfl) (by kernel_rfl) (by kernel_rfl) (by kernel_rfl) (by decide) (fun _ _ _ h=>h) (Or.inl ⟨by rfl,?_⟩) a3 ?_;rotate_left
   ·(intro W d;(try dsimp only at d);obtain⟨D,E,F,G⟩:=d;go_simp;try with_reducible rfl)
   simp only[Act.put];refine Ap.Zb (i:=1) (v:=?_) rfl (by kernel_rfl) (by kernel_rfl) (by kernel_rfl) (by decide) (fun _ _ _ h=>h) (Or.inl ⟨by rfl,?_⟩) a3 ?_;rotate_left
   ·(intro W;go_simp;try with_reducible rfl)
   simp only[Act.put];refine Ap.take (i:=2) (v:=?_) rfl (by kernel_rfl) (by kernel_rfl) (by kernel_rfl) (by kernel_rfl) (by decide) (fun _ _ _ h=>h) (Or.inl ⟨by rfl,?_⟩) a3 ?_;rotate_left
   ·(intro W d;(try dsimp only at d);obtain⟨D,E,F,G⟩:=d;go_simp;try with_reducible rfl)
   simp only[Act.put];refine Ap.take (i:=3) (v:=?_) rfl (by kernel_rfl) (by kernel_rfl) (by kernel_rfl) (by kernel_rfl) (by decide) (fun _ _ _ h=>h) (Or.inl ⟨by rfl,?_⟩) a3 ?_;rotate_left
   ·(intro W d;(try dsimp only at d);obtain⟨D,E,F,G⟩:=d;go_simp;try with_reducible rfl)
   simp only[Act.put];refine Ap.take (i:=4) (v:=?_) rfl (by kernel_rfl) (by kernel_rfl) (by kernel_rfl) (by kernel_rfl) (by decide) (fun _ _ _ h=>h) (Or.inl ⟨by rfl,?_⟩) a3 ?_;rotate_left
   ·(intro W d;(try dsimp only at d);obtain⟨D,E,F,G⟩:=d;go_simp;try with_reducible rfl)
   simp only[Act.put];refine Ap.take (i:=5) (v:=?_) rfl (by kernel_rfl) (by kernel_rfl) (by kernel_rfl) (by kernel_rfl) (by decide) (fun _ _ _ h=>h) (Or.inl ⟨by rfl,?_⟩) a3 ?_;rotate_left
   ·(intro W d;(try dsimp only at d);obtain⟨D,E,F,G⟩:=d;go_simp;try with_reducible rfl)
   simp only[Act.put];refine Ap.take (i:=6) (v:=?_) rfl (by kernel_rfl) (by kernel_rfl) (by kernel_rfl) (by kernel_rfl) (by decide) (fun _ _ _ h=>h) (Or.inl ⟨by rfl,?_⟩) a3 ?_;rotate_left
   ·(intro W d;(try dsimp only at d);obtain⟨D,E,F,G⟩:=d;go_simp;try with_reducible rfl)
   simp only[Act.put];refine Ap.take (i:=7) (v:=?_) rfl (by kernel_rfl) (by kernel_rfl) (by kernel_rfl) (by kernel_rfl) (by decide) (fun _ _ _ h=>h) (Or.inl ⟨by rfl,?_⟩) a3 ?_;rotate_left
   ·(intro W d;(try dsimp only at d);obtain⟨D,E,F,G⟩:=d;go_simp;try with_reducible rfl)
   simp only[Act.put];refine Ap.take (i:=8) (v:=?_) rfl (by kernel_rfl) (by kernel_rfl) (by kernel_rfl) (by kernel_rfl) (by decide) (fun _ _ _ h=>h) (Or.inl ⟨by rfl,?_⟩) a3 ?_;rotate_left
   ·(intro W d;(try dsimp only at d);obtain⟨D,E,F,G⟩:=d;go_simp;try with_reducible rfl)
   simp only[Act.put];refine Ap.take (i:=9) (v:=?_) rfl (by kernel_rfl) (by kernel_rfl) (by kernel_rfl) (by kernel_rfl) (by decide) (fun _ _ _ h=>h) (Or.inl ⟨by rfl,?_⟩) a3 ?_;rotate_left
   ·(intro W d;(try dsimp only at d);obtain⟨D,E,F,G⟩:=d;go_simp;try with_reducible rfl)
   simp only[Act.put];refine Ap.take (i:=13) (v:=?_) rfl (by kernel_rfl) (by kernel_rfl) (by kernel_rfl) (by kernel_rfl) (by decide) (fun _ _ _ h=>h) (Or.inl ⟨by rfl,?_⟩) a3 ?_;rotate_left
   ·(intro W d;(try dsimp only at d);obtain⟨D,E,F,G⟩:=d;go_simp;try with_reducible rfl)
   simp only[Act.put];refine Ap.take (i:=14) (v:=?_) rfl (by kernel_rfl) (by kernel_rfl) (by kernel_rfl) (by kernel_rfl) (by decide) (fun _ _ _ h=>h) (Or.inl ⟨by rfl,?_⟩) a3 ?_;rotate_left
   ·(intro W d;(try dsimp only at d);obtain⟨D,E,F,G⟩:=d;go_simp;try with_reducible rfl)
   simp only[Act.put];refine Ap.take (i:=15) (v:=?_) rfl (by kernel_rfl) (by kernel_rfl) (by kernel_rfl) (by kernel_rfl) (by decide) (fun _ _ _ h=>h) (Or.inl ⟨by rfl,?_⟩) a3 ?_;rotate_left
   ·(intro W d;(try dsimp only at d);obtain⟨D,E,F,G⟩:=d;go_simp;try with_reducible rfl)
   simp only[Act.put];refine Ap.take (i:=16) (v:=?_) rfl (by kernel_rfl) (by kernel_rfl) (by kernel_rfl) (by kernel_rfl) (by decide) (fun _ _ _ h=>h) (Or.inl ⟨by rfl,?_⟩) a3 ?_;rotate_left
   ·(intro W d;(try dsimp only at d);obtain⟨D,E,F,G⟩:=d;go_simp;try with_reducible rfl)
   simp only[Act.put];refine Ap.take (i:=17) (v:=?_) rfl (by kernel_rfl) (by kernel_rfl) (by kernel_rfl) (by kernel_rfl) (by decide) (fun _ _ _ h=>h) (Or.inl ⟨by rfl,?_⟩) a3 ?_;rotate_left
   ·(intro W d;(try dsimp only at d);obtain⟨D,E,F,G⟩:=d;go_simp;try with_reducible rfl)
   simp only[Act.put];refine Ap.all [10,18] (by kernel_rfl) (by decide) (by decide) (Ia.cons rfl (fun K H=>?_) (Ia.cons rfl (fun K H=>?_) Ia.nil))
   ·go_simp;with_reducible refine(a4 _ (HQ.o _ Md.K) (h8.o _ Md.K)).mono ?_
    rintro e b0⟨rfl,o5⟩;have M1:=Md.next o5;have k9:=M1.kb.cell;have D:(fun W=>(∀k,W.cell? ⟨o.heap.size,k,none⟩=base.cells[k]?)∧(∀k,W.cell? ⟨wr.heap.size,k,none⟩=(#[.slice u y C,.string ⟨N.toArray⟩,.bool false,.slice O T U])[k]?)∧W.cell? ⟨f.heap.size,5,none⟩=some (.slice X Y Z)∧W.cell? ⟨f.heap.size,6,none⟩=some (.slice a0 a1 a2)) b0:=⟨M1.k12.cell,M1.k16.cell,k9 5,k9 6⟩;refine H.o _ _ D ?_;clear H K;refine Ap.all [11,18] (by kernel_rfl) (by decide) (by decide) (Ia.cons rfl (fun K H=>?_) (Ia.cons rfl (fun K H=>?_) Ia.nil))
    ·go_simp;have M2:=M1.alloc (.cells P.cells 36);have kA:=A1.new b0 P.cells 36;have l0:=M2.kb.cell;have E:(fun W=>(∀k,W.cell? ⟨o.heap.size,k,none⟩=base.cells[k]?)∧(∀k,W.cell? ⟨wr.heap.size,k,none⟩=(#[.slice u y C,.string ⟨N.toArray⟩,.bool false,.slice O T U])[k]?)∧W.cell? ⟨f.heap.size,5,none⟩=some (.slice X Y Z)∧W.cell? ⟨f.heap.size,6,none⟩=some (.slice a0 a1 a2)) (b0.alloc (.cells P.cells 36)):=⟨M2.k12.cell,M2.k16.cell,l0 5,l0 6⟩;refine H.o _ _ E ?_;clear H K;refine Ap.all [12,18] (by kernel_rfl) (by decide) (by decide) (Ia.cons rfl (fun K H=>?_) (Ia.cons rfl (fun K H=>?_) Ia.nil))
     ·have c3:=AB (Ua kA);have o6:=AB M2.oa;have o7:=AB M2.base;refine Lm (α:=A3) (cs:=Fv) (size:=8) (z:=.agg #[.string ByteArray.empty,.bool false,.string ByteArray.empty,.string ByteArray.empty,.bool false,.string ByteArray.empty,.bool false,.string ByteArray.empty]) Jo Rf Rg rfl (by decide) underlying54 rfl _ _ rfl t.heap.size _ l [P] ⟨_,0,none⟩ 1 1 rfl (by decide) rfl o6.o rfl c3.o q1.o q2.o o7.o ?_;intro gA a5 h9 o8 d6 o9 p0;have M3:=M2.Pp o8 d6 o9 p0;have l1:=M3.kb.cell;have F:(fun W=>(∀k,W.cell? ⟨o.heap.size,k,none⟩=base.cells[k]?)∧(∀k,W.cell? ⟨wr.heap.size,k,none⟩=(#[.slice u y C,.string ⟨N.toArray⟩,.bool false,.slice O T U])[k]?)∧W.cell? ⟨f.heap.size,5,none⟩=some (.slice X Y Z)∧W.cell? ⟨f.heap.size,6,none⟩=some (.slice a0 a1 a2)) h9:=⟨M3.k12.cell,M3.k16.cell,l1 5,l1 6⟩;refine H.o _ _ F ?_;clear H K;simp only[Act.put];refine Ap.one (j:=18) (by kernel_rfl) rfl (by decide) (fun K H=>?_);go_simp;have M4:=M3.alloc (.cells #[.string ⟨I.toArray⟩] 9);have kA:=kA.alloc (.cells #[.string ⟨I.toArray⟩] 9);have L:=A1.new h9 #[.string ⟨I.toArray⟩] 9;have b4:=AB (fun g V=>DX (A0.Do M3.oa g V));have l2:=M4.kb.cell;have G:(fun W=>(∀k,W.cell? ⟨o.heap.size,k,none⟩=base.cells[k]?)∧(∀k,W.cell? ⟨wr.heap.size,k,none⟩=(#[.slice u y C,.string ⟨N.toArray⟩,.bool false,.slice O T U])[k]?)∧W.cell? ⟨f.heap.size,5,none⟩=some (.slice X Y Z)∧W.cell? ⟨f.heap.size,6,none⟩=some (.slice a0 a1 a2)) (h9.alloc (.cells #[.string ⟨I.toArray⟩] 9)):=⟨M4.k12.cell,M4.k16.cell,l2 5,l2 6⟩;refine H.o _ _ G ?_;clear H K;refine Ap.one (j:=19) (by kernel_rfl) rfl (by decide) (fun K H=>?_);have c4:=AB (Ub L);have p1:=AB M4.oi;have p2:=AB M4.base;refine Lm (α:=Bs) (cs:=Bi) (size:=1) (z:=.string ByteArray.empty) Cw Mu Rj rfl (by decide) underlying55 rfl _ _ rfl t.heap.size _ n [I] ⟨_,0,none⟩ 1 1 rfl (by decide) rfl p1.o rfl c4.o q3.o q4.o p2.o ?_;intro gI i0 p3 p4 e8 p5 p6;have M:=M4.Pq p4 e8 p5 p6;have i1:=M.kb.free;have l3:=M.kb.cell;have i2:(fun W=>(∀k,W.cell? ⟨o.heap.size,k,none⟩=base.cells[k]?)∧(∀k,W.cell? ⟨wr.heap.size,k,none⟩=(#[.slice u y C,.string ⟨N.toArray⟩,.bool false,.slice O T U])[k]?)∧W.cell? ⟨f.heap.size,5,none⟩=some (.slice X Y Z)∧W.cell? ⟨f.heap.size,6,none⟩=some (.slice a0 a1 a2)) p3:=⟨M.k12.cell,M.k16.cell,l3 5,l3 6⟩;refine H.o _ _ i2 ?_;clear H K;simp only[Act.put];refine Ap.take (i:=20) (v:=?_) rfl (by kernel_rfl) (by kernel_rfl) (by kernel_rfl) (by kernel_rfl) (by decide) (fun _ _ _ h=>h) (Or.inl ⟨by rfl,?_⟩) i2 ?_;rotate_left
      ·(intro W d;(try dsimp only at d);obtain⟨D,E,F,G⟩:=d;go_simp;try with_reducible rfl)
      simp only[Act.put];refine Ap.take (i:=21) (v:=?_) rfl (by kernel_rfl) (by kernel_rfl) (by kernel_rfl) (by kernel_rfl) (by decide) (fun _ _ _ h=>h) (Or.inl ⟨by rfl,?_⟩) i2 ?_;rotate_left
      ·(intro W d;(try dsimp only at d);obtain⟨D,E,F,G⟩:=d;go_simp;try with_reducible rfl)
      simp only[Act.put];refine Ap.stop (by kernel_rfl) rfl (fun K H=>?_);go_simp;refine H.o _ _ ?_;clear H K;refine FP (i:=23) (v:=?_) rfl (by kernel_rfl) (by kernel_rfl) (by kernel_rfl) (fun _ _ _ h=>h) (Or.inl ⟨by rfl,?_⟩) ?_;rotate_left
      ·(intro W;go_simp;try with_reducible rfl)
      simp only[Act.put];refine FP (i:=24) (v:=?_) rfl (by kernel_rfl) (by kernel_rfl) (by kernel_rfl) (fun _ _ _ h=>h) (Or.inl ⟨by rfl,?_⟩) ?_;rotate_left
      ·(intro W;go_simp;try with_reducible rfl)
      simp only[Act.put];have d1:=(M.kb.set 5 (.slice (some ⟨gA,0,none⟩) (l.length+[P].length) a5)).cell;have i3:=(M.kb.set 5 (.slice (some ⟨gA,0,none⟩) (l.length+[P].length) a5)).free;refine Qe (j:=25) (by kernel_rfl) rfl (fun K H=>?_);go_simp;refine H.o _ _ ?_;clear H K;refine JB (by kernel_rfl) ?_ _;go_wp2_with fail;go_meet;rw[(by simp;omega:l.length+[P].length=k+1),(by simp;omega:n.length+[I].length=k+1)]at M;exact Uc M e5.o
     go_simp;have M6:=M2.alloc (.cells #[.string ⟨I.toArray⟩] 9);have kA:=kA.alloc (.cells #[.string ⟨I.toArray⟩] 9);have L:=A1.new (b0.alloc (.cells P.cells 36)) #[.string ⟨I.toArray⟩] 9;have b4:=AB (fun g V=>DX (A0.Do M2.oa g V));simp only[AV]at L;simp only[AV]at b4;have l4:=M6.kb.cell;have p7:(fun W=>(∀k,W.cell? ⟨o.heap.size,k,none⟩=base.cells[k]?)∧(∀k,W.cell? ⟨wr.heap.size,k,none⟩=(#[.slice u y C,.string ⟨N.toArray⟩,.bool false,.slice O T U])[k]?)∧W.cell? ⟨f.heap.size,5,none⟩=some (.slice X Y Z)∧W.cell? ⟨f.heap.size,6,none⟩=some (.slice a0 a1 a2)) ((b0.alloc (.cells P.cells 36)).alloc (.cells #[.string ⟨I.toArray⟩] 9)):=⟨M6.k12.cell,M6.k16.cell,l4 5,l4 6⟩;refine H.o _ _ p7 ?_;clear H K;refine Ap.one (j:=12) (by kernel_rfl) rfl (by decide) (fun K H=>?_);have c3:=AB (Ua kA);have p8:=AB M6.oa;have p9:=AB M6.base;refine Lm (α:=A3) (cs:=Fv) (size:=8) (z:=.agg #[.string ByteArray.empty,.bool false,.string ByteArray.empty,.string ByteArray.empty,.bool false,.string ByteArray.empty,.bool false,.string ByteArray.empty]) Jo Rf Rg rfl (by decide) underlying54 rfl _ _ rfl t.heap.size _ l [P] ⟨_,0,none⟩ 1 1 rfl (by decide) rfl p8.o rfl c3.o q1.o q2.o p9.o ?_;intro gA a5 q0 q5 d9 q6 q7;have M7:=M6.Pp q5 d9 q6 q7;have L:=O4 L d9 (fun e=>b4.o _ e.symm rfl);have l5:=M7.kb.cell;have q8:(fun W=>(∀k,W.cell? ⟨o.heap.size,k,none⟩=base.cells[k]?)∧(∀k,W.cell? ⟨wr.heap.size,k,none⟩=(#[.slice u y C,.string ⟨N.toArray⟩,.bool false,.slice O T U])[k]?)∧W.cell? ⟨f.heap.size,5,none⟩=some (.slice X Y Z)∧W.cell? ⟨f.heap.size,6,none⟩=some (.slice a0 a1 a2)) q0:=⟨M7.k12.cell,M7.k16.cell,l5 5,l5 6⟩;refine H.o _ _ q8 ?_;clear H K;simp only[Act.put];refine Ap.one (j:=19) (by kernel_rfl) rfl (by decide) (fun K H=>?_);have c4:=AB (Ub L);have q9:=AB M7.oi;have r0:=AB M7.base;refine Lm (α:=Bs) (cs:=Bi) (size:=1) (z:=.string ByteArray.empty) Cw Mu Rj rfl (by decide) underlying55 rfl _ _ rfl t.heap.size _ n [I] ⟨_,0,none⟩ 1 1 rfl (by decide) rfl q9.o rfl c4.o q3.o q4.o r0.o ?_;intro gI i0 r1 r2 g4 r3 r4;have M:=M7.Pq r2 g4 r3 r4;have i1:=M.kb.free;have l6:=M.kb.cell;have i4:(fun W=>(∀k,W.cell? ⟨o.heap.size,k,none⟩=base.cells[k]?)∧(∀k,W.cell? ⟨wr.heap.size,k,none⟩=(#[.slice u y C,.string ⟨N.toArray⟩,.bool false,.slice O T U])[k]?)∧W.cell? ⟨f.heap.size,5,none⟩=some (.slice X Y Z)∧W.cell? ⟨f.heap.size,6,none⟩=some (.slice a0 a1 a2)) r1:=⟨M.k12.cell,M.k16.cell,l6 5,l6 6⟩;refine H.o _ _ i4 ?_;clear H K;simp only[Act.put];refine Ap.take (i:=20) (v:=?_) rfl (by kernel_rfl) (by kernel_rfl) (by kernel_rfl) (by kernel_rfl) (by decide) (fun _ _ _ h=>h) (Or.inl ⟨by rfl,?_⟩) i4 ?_;rotate_left
     ·(intro W d;(try dsimp only at d);obtain⟨D,E,F,G⟩:=d;go_simp;try with_reducible rfl)
     simp only[Act.put];refine Ap.take (i:=21) (v:=?_) rfl (by kernel_rfl) (by kernel_rfl) (by kernel_rfl) (by kernel_rfl) (by decide) (fun _ _ _ h=>h) (Or.inl ⟨by rfl,?_⟩) i4 ?_;rotate_left
     ·(intro W d;(try dsimp only at d);obtain⟨D,E,F,G⟩:=d;go_simp;try with_reducible rfl)
     simp only[Act.put];refine Ap.stop (by kernel_rfl) rfl (fun K H=>?_);go_simp;refine H.o _ _ ?_;clear H K;refine FP (i:=23) (v:=?_) rfl (by kernel_rfl) (by kernel_rfl) (by kernel_rfl) (fun _ _ _ h=>h) (Or.inl ⟨by rfl,?_⟩) ?_;rotate_left
     ·(intro W;go_simp;try with_reducible rfl)
     simp only[Act.put];refine FP (i:=24) (v:=?_) rfl (by kernel_rfl) (by kernel_rfl) (by kernel_rfl) (fun _ _ _ h=>h) (Or.inl ⟨by rfl,?_⟩) ?_;rotate_left
     ·(intro W;go_simp;try with_reducible rfl)
     simp only[Act.put];have d1:=(M.kb.set 5 (.slice (some ⟨gA,0,none⟩) (l.length+[P].length) a5)).cell;have i3:=(M.kb.set 5 (.slice (some ⟨gA,0,none⟩) (l.length+[P].length) a5)).free;refine Qe (j:=25) (by kernel_rfl) rfl (fun K H=>?_);go_simp;refine H.o _ _ ?_;clear H K;refine JB (by kernel_rfl) ?_ _;go_wp2_with fail;go_meet;rw[(by simp;omega:l.length+[P].length=k+1),(by simp;omega:n.length+[I].length=k+1)]at M;exact Uc M e5.o
    go_simp;have M9:=M1.alloc (.cells #[.string ⟨I.toArray⟩] 9);have L:=A1.new b0 #[.string ⟨I.toArray⟩] 9;have b4:=AB (fun g V=>DX (A0.Do M1.oa g V));have l7:=M9.kb.cell;have r5:(fun W=>(∀k,W.cell? ⟨o.heap.size,k,none⟩=base.cells[k]?)∧(∀k,W.cell? ⟨wr.heap.size,k,none⟩=(#[.slice u y C,.string ⟨N.toArray⟩,.bool false,.slice O T U])[k]?)∧W.cell? ⟨f.heap.size,5,none⟩=some (.slice X Y Z)∧W.cell? ⟨f.heap.size,6,none⟩=some (.slice a0 a1 a2)) (b0.alloc (.cells #[.string ⟨I.toArray⟩] 9)):=⟨M9.k12.cell,M9.k16.cell,l7 5,l7 6⟩;refine H.o _ _ r5 ?_;clear H K;refine Ap.one (j:=11) (by kernel_rfl) rfl (by decide) (fun K H=>?_);go_simp;have d2:=M9.alloc (.cells P.cells 36);have L:=L.alloc (.cells P.cells 36);have kA:=A1.new (b0.alloc (.cells #[.string ⟨I.toArray⟩] 9)) P.cells 36;simp only[AV]at kA;have l8:=d2.kb.cell;have r6:(fun W=>(∀k,W.cell? ⟨o.heap.size,k,none⟩=base.cells[k]?)∧(∀k,W.cell? ⟨wr.heap.size,k,none⟩=(#[.slice u y C,.string ⟨N.toArray⟩,.bool false,.slice O T U])[k]?)∧W.cell? ⟨f.heap.size,5,none⟩=some (.slice X Y Z)∧W.cell? ⟨f.heap.size,6,none⟩=some (.slice a0 a1 a2)) ((b0.alloc (.cells #[.string ⟨I.toArray⟩] 9)).alloc (.cells P.cells 36)):=⟨d2.k12.cell,d2.k16.cell,l8 5,l8 6⟩;refine H.o _ _ r6 ?_;clear H K;refine Ap.one (j:=12) (by kernel_rfl) rfl (by decide) (fun K H=>?_);have c3:=AB (Ua kA);have r7:=AB d2.oa;have r8:=AB d2.base;refine Lm (α:=A3) (cs:=Fv) (size:=8) (z:=.agg #[.string ByteArray.empty,.bool false,.string ByteArray.empty,.string ByteArray.empty,.bool false,.string ByteArray.empty,.bool false,.string ByteArray.empty]) Jo Rf Rg rfl (by decide) underlying54 rfl _ _ rfl t.heap.size _ l [P] ⟨_,0,none⟩ 1 1 rfl (by decide) rfl r7.o rfl c3.o q1.o q2.o r8.o ?_;intro gA a5 r9 s0 l9 s1 s2;have d3:=d2.Pp s0 l9 s1 s2;have L:=O4 L l9 (fun e=>b4.o _ e.symm rfl);have m0:=d3.kb.cell;have s3:(fun W=>(∀k,W.cell? ⟨o.heap.size,k,none⟩=base.cells[k]?)∧(∀k,W.cell? ⟨wr.heap.size,k,none⟩=(#[.slice u y C,.string ⟨N.toArray⟩,.bool false,.slice O T U])[k]?)∧W.cell? ⟨f.heap.size,5,none⟩=some (.slice X Y Z)∧W.cell? ⟨f.heap.size,6,none⟩=some (.slice a0 a1 a2)) r9:=⟨d3.k12.cell,d3.k16.cell,m0 5,m0 6⟩;refine H.o _ _ s3 ?_;clear H K;simp only[Act.put];refine Ap.one (j:=19) (by kernel_rfl) rfl (by decide) (fun K H=>?_);have c4:=AB (Ub L);have s4:=AB d3.oi;have s5:=AB d3.base;refine Lm (α:=Bs) (cs:=Bi) (size:=1) (z:=.string ByteArray.empty) Cw Mu Rj rfl (by decide) underlying55 rfl _ _ rfl t.heap.size _ n [I] ⟨_,0,none⟩ 1 1 rfl (by decide) rfl s4.o rfl c4.o q3.o q4.o s5.o ?_;intro gI i0 s6 s7 s8 s9 t0;have M:=d3.Pq s7 s8 s9 t0;have i1:=M.kb.free;have m1:=M.kb.cell;have i5:(fun W=>(∀k,W.cell? ⟨o.heap.size,k,none⟩=base.cells[k]?)∧(∀k,W.cell? ⟨wr.heap.size,k,none⟩=(#[.slice u y C,.string ⟨N.toArray⟩,.bool false,.slice O T U])[k]?)∧W.cell? ⟨f.heap.size,5,none⟩=some (.slice X Y Z)∧W.cell? ⟨f.heap.size,6,none⟩=some (.slice a0 a1 a2)) s6:=⟨M.k12.cell,M.k16.cell,m1 5,m1 6⟩;refine H.o _ _ i5 ?_;clear H K;simp only[Act.put];refine Ap.take (i:=20) (v:=?_) rfl (by kernel_rfl) (by kernel_rfl) (by kernel_rfl) (by kernel_rfl) (by decide) (fun _ _ _ h=>h) (Or.inl ⟨by rfl,?_⟩) i5 ?_;rotate_left
    ·(intro W d;(try dsimp only at d);obtain⟨D,E,F,G⟩:=d;go_simp;try with_reducible rfl)
    simp only[Act.put];refine Ap.take (i:=21) (v:=?_) rfl (by kernel_rfl) (by kernel_rfl) (by kernel_rfl) (by kernel_rfl) (by decide) (fun _ _ _ h=>h) (Or.inl ⟨by rfl,?_⟩) i5 ?_;rotate_left
    ·(intro W d;(try dsimp only at d);obtain⟨D,E,F,G⟩:=d;go_simp;try with_reducible rfl)
    simp only[Act.put];refine Ap.stop (by kernel_rfl) rfl (fun K H=>?_);go_simp;refine H.o _ _ ?_;clear H K;refine FP (i:=23) (v:=?_) rfl (by kernel_rfl) (by kernel_rfl) (by kernel_rfl) (fun _ _ _ h=>h) (Or.inl ⟨by rfl,?_⟩) ?_;rotate_left
    ·(intro W;go_simp;try with_reducible rfl)
    simp only[Act.put];refine FP (i:=24) (v:=?_) rfl (by kernel_rfl) (by kernel_rfl) (by kernel_rfl) (fun _ _ _ h=>h) (Or.inl ⟨by rfl,?_⟩) ?_;rotate_left
    ·(intro W;go_simp;try with_reducible rfl)
    simp only[Act.put];have d1:=(M.kb.set 5 (.slice (some ⟨gA,0,none⟩) (l.length+[P].length) a5)).cell;have i3:=(M.kb.set 5 (.slice (some ⟨gA,0,none⟩) (l.length+[P].length) a5)).free;refine Qe (j:=25) (by kernel_rfl) rfl (fun K H=>?_);go_simp;refine H.o _ _ ?_;clear H K;refine JB (by kernel_rfl) ?_ _;go_wp2_with fail;go_meet;rw[(by simp;omega:l.length+[P].length=k+1),(by simp;omega:n.length+[I].length=k+1)]at M;exact Uc M e5.o
   go_simp;have M:=Md.alloc (.cells #[.string ⟨I.toArray⟩] 9);have L:=A1.new wa.drew #[.string ⟨I.toArray⟩] 9;have b4:=AB (fun g V=>DX (A0.Do Md.oa g V));rw[World.alloc_drew]at M;simp only[World.alloc_drew,heap_drew]at L;simp only[heap_drew]at b4;have m2:=M.kb.cell;have t1:(fun W=>(∀k,W.cell? ⟨o.heap.size,k,none⟩=base.cells[k]?)∧(∀k,W.cell? ⟨wr.heap.size,k,none⟩=(#[.slice u y C,.string ⟨N.toArray⟩,.bool false,.slice O T U])[k]?)∧W.cell? ⟨f.heap.size,5,none⟩=some (.slice X Y Z)∧W.cell? ⟨f.heap.size,6,none⟩=some (.slice a0 a1 a2)) (wa.alloc (.cells #[.string ⟨I.toArray⟩] 9)).drew:=⟨M.k12.cell,M.k16.cell,m2 5,m2 6⟩;refine H.o _ _ t1 ?_;clear H K;refine Ap.one (j:=10) (by kernel_rfl) rfl (by decide) (fun K H=>?_);go_simp;with_reducible refine(a4 _ (HQ.o _ M.K) (h8.o _ M.K)).mono ?_
   rintro e i6⟨rfl,m3⟩;have f7:=M.next m3;have L:=L.next m3 L.lt;have d1:=f7.kb.cell;have t2:(fun W=>(∀k,W.cell? ⟨o.heap.size,k,none⟩=base.cells[k]?)∧(∀k,W.cell? ⟨wr.heap.size,k,none⟩=(#[.slice u y C,.string ⟨N.toArray⟩,.bool false,.slice O T U])[k]?)∧W.cell? ⟨f.heap.size,5,none⟩=some (.slice X Y Z)∧W.cell? ⟨f.heap.size,6,none⟩=some (.slice a0 a1 a2)) i6:=⟨f7.k12.cell,f7.k16.cell,d1 5,d1 6⟩;refine H.o _ _ t2 ?_;clear H K;refine Ap.one (j:=11) (by kernel_rfl) rfl (by decide) (fun K H=>?_);go_simp;have d4:=f7.alloc (.cells P.cells 36);have L:=L.alloc (.cells P.cells 36);have kA:=A1.new i6 P.cells 36;have m4:=d4.kb.cell;have t3:(fun W=>(∀k,W.cell? ⟨o.heap.size,k,none⟩=base.cells[k]?)∧(∀k,W.cell? ⟨wr.heap.size,k,none⟩=(#[.slice u y C,.string ⟨N.toArray⟩,.bool false,.slice O T U])[k]?)∧W.cell? ⟨f.heap.size,5,none⟩=some (.slice X Y Z)∧W.cell? ⟨f.heap.size,6,none⟩=some (.slice a0 a1 a2)) (i6.alloc (.cells P.cells 36)):=⟨d4.k12.cell,d4.k16.cell,m4 5,m4 6⟩;refine H.o _ _ t3 ?_;clear H K;refine Ap.one (j:=12) (by kernel_rfl) rfl (by decide) (fun K H=>?_);have c3:=AB (Ua kA);have t4:=AB d4.oa;have t5:=AB d4.base;refine Lm (α:=A3) (cs:=Fv) (size:=8) (z:=.agg #[.string ByteArray.empty,.bool false,.string ByteArray.empty,.string ByteArray.empty,.bool false,.string ByteArray.empty,.bool false,.string ByteArray.empty]) Jo Rf Rg rfl (by decide) underlying54 rfl _ _ rfl t.heap.size _ l [P] ⟨_,0,none⟩ 1 1 rfl (by decide) rfl t4.o rfl c3.o q1.o q2.o t5.o ?_;intro gA a5 t6 t7 m5 t8 t9;have d5:=d4.Pp t7 m5 t8 t9;have L:=O4 L m5 (fun e=>b4.o _ e.symm rfl);have m6:=d5.kb.cell;have u0:(fun W=>(∀k,W.cell? ⟨o.heap.size,k,none⟩=base.cells[k]?)∧(∀k,W.cell? ⟨wr.heap.size,k,none⟩=(#[.slice u y C,.string ⟨N.toArray⟩,.bool false,.slice O T U])[k]?)∧W.cell? ⟨f.heap.size,5,none⟩=some (.slice X Y Z)∧W.cell? ⟨f.heap.size,6,none⟩=some (.slice a0 a1 a2)) t6:=⟨d5.k12.cell,d5.k16.cell,m6 5,m6 6⟩;refine H.o _ _ u0 ?_;clear H K;simp only[Act.put];refine Ap.one (j:=19) (by kernel_rfl) rfl (by decide) (fun K H=>?_);have c4:=AB (Ub L);have u1:=AB d5.oi;have u2:=AB d5.base;refine Lm (α:=Bs) (cs:=Bi) (size:=1) (z:=.string ByteArray.empty) Cw Mu Rj rfl (by decide) underlying55 rfl _ _ rfl t.heap.size _ n [I] ⟨_,0,none⟩ 1 1 rfl (by decide) rfl u1.o rfl c4.o q3.o q4.o u2.o ?_;intro gI i0 u3 u4 u5 u6 u7;have M:=d5.Pq u4 u5 u6 u7;have i1:=M.kb.free;have m7:=M.kb.cell;have i7:(fun W=>(∀k,W.cell? ⟨o.heap.size,k,none⟩=base.cells[k]?)∧(∀k,W.cell? ⟨wr.heap.size,k,none⟩=(#[.slice u y C,.string ⟨N.toArray⟩,.bool false,.slice O T U])[k]?)∧W.cell? ⟨f.heap.size,5,none⟩=some (.slice X Y Z)∧W.cell? ⟨f.heap.size,6,none⟩=some (.slice a0 a1 a2)) u3:=⟨M.k12.cell,M.k16.cell,m7 5,m7 6⟩;refine H.o _ _ i7 ?_;clear H K;simp only[Act.put];refine Ap.take (i:=20) (v:=?_) rfl (by kernel_rfl) (by kernel_rfl) (by kernel_rfl) (by kernel_rfl) (by decide) (fun _ _ _ h=>h) (Or.inl ⟨by rfl,?_⟩) i7 ?_;rotate_left
   ·(intro W d;(try dsimp only at d);obtain⟨D,E,F,G⟩:=d;go_simp;try with_reducible rfl)
   simp only[Act.put];refine Ap.take (i:=21) (v:=?_) rfl (by kernel_rfl) (by kernel_rfl) (by kernel_rfl) (by kernel_rfl) (by decide) (fun _ _ _ h=>h) (Or.inl ⟨by rfl,?_⟩) i7 ?_;rotate_left
   ·(intro W d;(try dsimp only at d);obtain⟨D,E,F,G⟩:=d;go_simp;try with_reducible rfl)
   simp only[Act.put];refine Ap.stop (by kernel_rfl) rfl (fun K H=>?_);go_simp;refine H.o _ _ ?_;clear H K;refine FP (i:=23) (v:=?_) rfl (by kernel_rfl) (by kernel_rfl) (by kernel_rfl) (fun _ _ _ h=>h) (Or.inl ⟨by rfl,?_⟩) ?_;rotate_left
   ·(intro W;go_simp;try with_reducible rfl)
   simp only[Act.put];refine FP (i:=24) (v:=?_) rfl (by kernel_rfl) (by kernel_rfl) (by kernel_rfl) (fun _ _ _ h=>h) (Or.inl ⟨by rfl,?_⟩) ?_;rotate_left
   ·(intro W;go_simp;try with_reducible rfl)
   simp only[Act.put];have d1:=(M.kb.set 5 (.slice (some ⟨gA,0,none⟩) (l.length+[P].length) a5)).cell;have i3:=(M.kb.set 5 (.slice (some ⟨gA,0,none⟩) (l.length+[P].length) a5)).free;refine Qe (j:=25) (by kernel_rfl) rfl (fun K H=>?_);go_simp;refine H.o _ _ ?_;clear H K;refine JB (by kernel_rfl) ?_ _;go_wp2_with fail;go_meet;rw[(by simp;omega:l.length+[P].length=k+1),(by simp;omega:n.length+[I].length=k+1)]at M;exact Uc M e5.o
  case rest=>
  obtain⟨hR,KB⟩:=hcut;obtain⟨y1,rfl⟩:∃x:World,x=wc:=⟨_,rfl⟩;have HR:=AB hR;have f8:=AB KB;obtain⟨⟨y2,y3,y4⟩,⟨y5,y6,y7⟩,a8,_,_,_⟩:=hR;unfold Px at a8;simp only[A9]at a8;have m8:=a8.cell;have y8:=a8.free;have i8:f.heap.size<t.heap.size:=by omega
  clear a8 hM a4 HQ Md e5 h8;have S:=AB (show Cx s=(if lk&&(!(st==[])&&(st==60::(I++[62])))then Dt base st false k (l++[P]) (n++[I]) (k+1) (p.parts.drop (k+1))
   else Dt base st lk R (l++[P]) (n++[I]) (k+1) (p.parts.drop (k+1))).map (fun x=>(⟨p,x.1,x.2.1,x.2.2⟩:Aw))from S.o)
  generalize m9:(st==[])=be at S;generalize u8:(st==60::(I++[62]))=bq at S;have y9:st.isEmpty=be:=by rw[←m9];cases st<;>rfl
  clear m9;cases be with
  |true=>
   have c5:=AB (by rw[S.o];simp:Cx s=(Dt base st lk R (l++[P]) (n++[I]) (k+1) (p.parts.drop (k+1))).map (fun x=>(⟨p,x.1,x.2.1,x.2.2⟩:Aw)));clear S u8;go_wp2_with fail;go_roundw
   case rel=>exact⟨k+1,lk,R,l++[P],n++[I],by go_num,by omega,by simp;omega,by simp;omega,by omega,HR.o,f0.o,c5,f8.o⟩
   simp[intOf];omega
  |false=>
  cases bq with
  |false=>
   have c5:=AB (by rw[S.o];simp:Cx s=(Dt base st lk R (l++[P]) (n++[I]) (k+1) (p.parts.drop (k+1))).map (fun x=>(⟨p,x.1,x.2.1,x.2.2⟩:Aw)));clear S;go_wp2_with fail;go_roundw
   case rel=>exact⟨k+1,lk,R,l++[P],n++[I],by go_num,by omega,by simp;omega,by simp;omega,by omega,HR.o,f0.o,c5,f8.o⟩
   simp[intOf];omega
  |true=>
  cases lk with
  |false=>
   have c5:=AB (by rw[S.o];simp:Cx s=(Dt base st false R (l++[P]) (n++[I]) (k+1) (p.parts.drop (k+1))).map (fun x=>(⟨p,x.1,x.2.1,x.2.2⟩:Aw)));have u9:¬(R:Int)<0:=by omega
   simp only[Pw,BU,DJ]at m8;clear S;go_wp2_with fail;go_roundw
   case rel=>exact⟨k+1,false,R,l++[P],n++[I],by go_num,by omega,by simp;omega,by simp;omega,by omega,HR.o,f0.o,c5,f8.o⟩
   simp[intOf];omega
  |true=>
   have c5:=AB (by rw[S.o];simp:Cx s=(Dt base st false k (l++[P]) (n++[I]) (k+1) (p.parts.drop (k+1))).map (fun x=>(⟨p,x.1,x.2.1,x.2.2⟩:Aw)));simp only[Pw,DC]at m8;clear S;go_wp2_with fail;go_roundw
   case rel=>exact⟨k+1,false,k,l++[P],n++[I],by go_num,by omega,by simp;omega,by simp;omega,by omega,HR.o.root i8 k,(fun h=>by cases h),c5,f8.o.set _⟩
   simp[intOf];omega
 obtain rfl:k=p.parts.length:=by omega
 have HD:=AB (by rw[e0.o,AQ];rfl:Cx s=.ok ⟨p,R,l,n⟩);have i8:f.heap.size<t.heap.size:=by omega
 have f4:w.heap.size≤f.heap.size:=by omega
 have a7:w.heap.size≤t.heap.size:=by omega
 have f1:=A7.Ag j7.o (B.set (j:=4) (.int .i64 (R:Int))) (by omega);have v0:=g5.root i8 (R:Int);obtain⟨sa,si,h1,h2,h3,_⟩:=v0;have f5:=AB (B8.trans (((B.set (j:=4) (.int .i64 (R:Int))).mono a7).shut f4));have n0:=AB (show F5 (fun k=>w.heap.size≤k) (wr.setCell ⟨f.heap.size,4,none⟩ (.int .i64 (R:Int))) f.heap.size ⟨p,R,l,n⟩from⟨((ra,rn,rc),rb,rm,(b1,p.parts.length,a6)),sa,si,f4,h1,A7.Ad (fun b hb _=>hb.1) f1,Aq.Ad (A0.Dn (by decide) Jo h2) (fun b hb _=>BC a7 hb.1),Aq.Ad (A0.Dn (by decide) Cw h3) (fun b hb _=>BC a7 hb.1)⟩);obtain⟨z0,z4,g1,_,_,_⟩:=g5;unfold Px at g1;have n1:=g1.cell;have z5:=g1.free;clear e0 f1 h1 h2 h3 B g1;cases lk with
 |true=>
  obtain rfl:=f0.o rfl;simp only[Pw,DC]at n1;go_wp2_with fail;go_ret2;exact⟨Or.inl ⟨_,_,HD.o,rfl,n0.o⟩,f5.o⟩
 |false=>
  have u9:(0:Int)≤(R:Int):=by omega
  simp only[Pw,BU,DJ]at n1;go_wp2_with fail;go_ret2;exact⟨Or.inl ⟨_,_,HD.o,rfl,n0.o⟩,f5.o⟩
end Go.Proofs.YtignjjnflcpiiaaGreatDoor
