/- bundle.Open. Condition: what the variables hold; at most -/
import Derived.Test.YtignjjnflcpiiaaGreatDoorS05
import Derived.Test.YtignjjnflcpiiaaGreatDoorS36
set_option linter.all false
set_option maxHeartbeats 16000000
set_option maxRecDepth 100000
namespace Go.Proofs.YtignjjnflcpiiaaGreatDoor
open Go Go.RowKit Proofs.Tryz Lib
theorem _root_.Go.Shut.o{p:Prop}(h:Shut p):p:=h
def WI(B:Nat)(r:Except Int Aw)(e:Ending)(w':World):Prop:=(∃b p,r=.ok b∧e=.returned (.tuple #[.pointer (some ⟨p,0,none⟩),.nilIface])∧Er (fun k=>B≤k) w' p b)∨(∃c,r=.error c∧e=.returned (.tuple #[.pointer none,.iface 30 (.int .i64 c)]))
variable {w w' f:World}{z V v x X:Value}{b e n B a cap n' k R:Nat}{r:Ao}{P:Nat → Prop}{i I:List Bs}{p m:List A3}{c C d l:Array Value}
theorem Lm{α:Type}{size:Nat}{cs:α→List Value}{t:Nat}(l:∀x,(cs x).length=size)(n:∀x,∀u∈cs x,u.oneCell'=true)
  (p:(prog.info? e).map (fun i=>(i.zero,i.size,i.bytes))=some (some z,size,b)) (q:z.cells.size=size) (r:0<size) (D:prog.underlying t=some (.slice e))
  {O:Array Oper} {o:Oper} {a:Act} {K:Act→World→Prop} {Q:Exit→Act→World→Prop} {E:Prop} (F:o.guard=none) (s x:Operand)
  (G:o.op=.call {callee:=.builtin .append,args:=#[s,x],argTypes:=#[t,t]}) (B:Nat) (v:Value) (xs Y:List α) (A:Go.Addr) (m c:Nat) (I:m=Y.length) (J:0<m)
  (L:a.eval s=v) (H:A0 e size cs w B v xs) (M:a.eval x=.slice (some A) m c) (N:∀j u,(Y.flatMap cs)[j]?=some u→w.cell? (A.add j)=some u) (P:(xs.length+Y.length)*b≤140737488355328) (R:xs.length+Y.length≤maxLen) (d:B≤w.heap.size)
  (h:∀g C W,A0 e size cs W B (.slice (some ⟨g,0,none⟩) (xs.length+Y.length) C) (xs++Y)→w.grownBy W v.ownBlock→Below B w W→(v.ownBlock=some g∨g=w.heap.size)→K (a.put o.dst (.slice (some ⟨g,0,none⟩) (xs.length+Y.length) C)) W):if Region.wanted o (yielded O a.tmps)=true then Oper.wp prog o a w K Q else E:=by
 subst I;obtain⟨S,T,U,V,X⟩:=FQ p;refine step_append_lies (w:=w) F s x t G B e S z size b D T U V X q r v xs.length _ L H A Y.length c (Y.flatMap cs) M (Ix l Y) N (fun u Z=>?_) J R P d _ rfl ?_
 ·obtain⟨y,_,hy⟩:=FD.1 Z;exact n y u hy
 intro g C W h1 f h3 _;refine h g C W ?_ f ((AD B w).grown f d fun k hk=>A0.Fp H k hk) h3;unfold A0;rw[CR,AH];exact h1
theorem Rj:(prog.info? 9).map (fun i=>(i.zero,i.size,i.bytes))=some (some (.string ByteArray.empty),1,16):=by kernel_rfl
def Ir(S:Nat)(b:Nat)(r:Ao)(R:Nat)(p:List A3)(I:List Bs)(w:World):Prop:=∃s i:H7,A1 w b (Gi r R s i) 83∧Pm w S (A9 s) p∧A0 9 1 Bi w S (A9 i) I∧(∀g,(A9 s).ownBlock=some g→(A9 i).ownBlock≠some g)
theorem A7.Po{p:A8}(h:A7 P (n+1) w r p):Aq 2 Au P w (A9 r.1) p.head:=by
 obtain⟨a,b,c,d⟩:=p;exact h.2.2.1
theorem A7.iY{p:A8}(h:A7 P (n+1) w r p):r.2.2.1=p.many:=by
 obtain⟨a,b,c,d⟩:=p;exact h.2.1
theorem WJ(w:World)(x:A3)(t:TypeId)(b:Nat)(h:b=w.heap.size):∀j u,([x].flatMap Fv)[j]?=some u→(w.alloc (.cells x.cells t)).cell? ((⟨b,0,none⟩:Go.Addr).add j)=some u:=fun j u H=>by
 subst h;rw[Dz,(A1.new w x.cells t).cell,←GH];simpa[Fv]using H
theorem WK(w:World)(x:Bs)(t:TypeId)(b:Nat)(H:b=w.heap.size):∀j u,([x].flatMap Bi)[j]?=some u→(w.alloc (.cells #[.string ⟨x.toArray⟩] t)).cell? ((⟨b,0,none⟩:Go.Addr).add j)=some u:=fun j u h=>by
 subst H;rw[Dz,(A1.new w #[.string ⟨x.toArray⟩] t).cell]
 match j,h with
 |0,h=>exact h
 |j+1,h=>simp[Bi]at h
structure Gv(S bp b12 b16:Nat)(cb c12 c16:Array Value)(wa:World)(va:Value)(pl:List A3)(vi:Value)(ids:List Bs)(W:World):Prop where
 K:Below S wa W
 kb:A1 W bp cb 83
 k12:A1 W b12 c12 36
 k16:A1 W b16 c16 44
 oa:Pm W S va pl
 oi:A0 9 1 Bi W S vi ids
 ne:∀g,va.ownBlock=some g→vi.ownBlock≠some g
 na:∀g,va.ownBlock=some g→g≠b16
 ni:∀g,vi.ownBlock=some g→g≠b16
 hS:S≤wa.heap.size
 hb:bp<S
 h12:b12<S
theorem Gv.base{S:Nat}{W:World}(h:Gv S b B a c C d w v p V i W):S≤W.heap.size:=BC h.hS h.K.size
theorem Gv.next{S b B a:Nat}{c C d:Array Value}{w:World}{v:Value}{p:List A3}{V:Value}{i:List Bs}{W e:World}(h:Gv S b B a c C d w v p V i W)(H:Below W.heap.size W e):Gv S b B a c C d w v p V i e:=⟨h.K.trans (H.mono h.base),h.kb.next H h.kb.lt,h.k12.next H h.k12.lt,h.k16.next H h.k16.lt,A0.next h.oa H,A0.next h.oi H,h.ne,h.na,h.ni,h.hS,h.hb,h.h12⟩
theorem Gv.alloc{S b B a:Nat}{c C d:Array Value}{w:World}{v:Value}{p:List A3}{V:Value}{i:List Bs}{W:World}(h:Gv S b B a c C d w v p V i W)(o:Obj):Gv S b B a c C d w v p V i (W.alloc o):=h.next ((AD W.heap.size W).alloc (AC _) o)
theorem Gv.drew{S b B a:Nat}{c C d:Array Value}{w:World}{v:Value}{p:List A3}{V:Value}{i:List Bs}{W:World}(h:Gv S b B a c C d w v p V i W):Gv S b B a c C d w v p V i W.drew:=h.next (AD W.heap.size W).drew
theorem O4{t:TypeId}{r:Option Nat}(h:A1 w b c t)(H:w.grownBy w' r)(n:some b≠r):A1 w' b c t:=(H.block b h.lt n).trans h
theorem Gv.Pp{S p:Nat}{W:World}(h:Gv S p a b c C d f v m V i W){g:Nat}{P:List A3}
  (o:Pm w S (.slice (some ⟨g,0,none⟩) n cap) P) (j:W.grownBy w v.ownBlock) (B:Below S W w) (l:v.ownBlock=some g∨g=W.heap.size):Gv S p a b c C d f (.slice (some ⟨g,0,none⟩) n cap) P V i w:=by
 have q:=fun k H=>A0.Fp h.oa k H
 refine⟨h.K.trans B,h.kb.next B h.hb,h.k12.next B h.h12,O4 h.k16 j (fun e=>(h.na b e.symm) rfl),o,A0.grown h.oi j (fun k H e=>h.ne k e H),fun k H e=>?_,fun k H=>?_,h.ni,h.hS,h.hb,h.h12⟩
 ·injection H with H;simp only at H;subst H;rcases l with l|l
  ·exact h.ne _ l e
  have:=A0.Do h.oi _ e;omega
 injection H with H;simp only at H;subst H;rcases l with l|l
 ·exact h.na _ l
 have:=h.k16.lt;omega
theorem Gv.Pq{S p:Nat}{P:List A3}{W:World}(h:Gv S p a b c C d f V P v I W){g:Nat}
  (o:A0 9 1 Bi w S (.slice (some ⟨g,0,none⟩) n cap) i) (j:W.grownBy w v.ownBlock) (B:Below S W w) (l:v.ownBlock=some g∨g=W.heap.size):Gv S p a b c C d f V P (.slice (some ⟨g,0,none⟩) n cap) i w:=by
 refine⟨h.K.trans B,h.kb.next B h.hb,h.k12.next B h.h12,O4 h.k16 j (fun e=>(h.ni b e.symm) rfl),A0.grown h.oa j (fun k H e=>h.ne k H e),o,fun k H e=>?_,h.na,fun k H=>?_,h.hS,h.hb,h.h12⟩
 ·injection e with e;simp only at e;subst e;rcases l with l|l
  ·exact h.ne _ H l
  have:=A0.Do h.oa _ H;omega
 injection H with H;simp only at H;subst H;rcases l with l|l
 ·exact h.ni _ l
 have:=h.k16.lt;omega
theorem WL{S:Nat}{o:Array Value}{W d:World}{r R a A:Option Go.Addr}{f g i c C t:Nat}{j:Bs}{m:Bool}
  (h:Gv S b B k #[.slice r e f,.string ⟨j.toArray⟩,.bool m,.slice R g i,.int .i64 (t:Int),x,X] l o w (.slice a n c) p (.slice A n' C) I W) (H:A5 b S d w):
  Ir S b ((r,e,f),j,m,(R,g,i)) t p I ((W.setCell ⟨b,5,none⟩ (.slice a n c)).setCell ⟨b,6,none⟩ (.slice A n' C))∧A5 b S d ((W.setCell ⟨b,5,none⟩ (.slice a n c)).setCell ⟨b,6,none⟩ (.slice A n' C)):=by
 refine⟨⟨(a,n,c),(A,n',C),?_,A0.A6 (A0.A6 h.oa h.hb _) h.hb _,A0.A6 (A0.A6 h.oi h.hb _) h.hb _,h.ne⟩,((H.trans (A5.of h.K)).set _).set _⟩;have:=(h.kb.set 5 (.slice a n c)).set 6 (.slice A n' C);simpa[Gi,A9]using this
theorem Ir.root{S:Nat}(h:Ir S b r R p i w)(H:b<S)(k:Nat):Ir S b r k p i (w.setCell ⟨b,4,Option.none⟩ (.int .i64 (k:Int))):=by
 obtain⟨s,a,c,d,e,f⟩:=h;refine⟨s,a,?_,A0.A6 d H _,A0.A6 e H _,f⟩;have:=c.set 4 (.int .i64 (k:Int));simpa[Gi]using this
theorem WM(s:Bs)(w:World)(hs:s.length≤1000000000000)(X:Gr w):Calls prog 10 #[.string ⟨s.toArray⟩] w fun e w'=>WI w.heap.size (Cx s) e w'∧Below w.heap.size w w':=by
 have hP:=yT s w hs X;have N:=AB (by rfl:Cx s=match E8 s with| .error e=>.error e| .ok p=>Ij p);have b5:=fun p(h:E8 s=.ok p)=>Xa h
 generalize E8 s=rp at hP N b5;go_enter func10,ntmps10;go_wp2_with fail;with_reducible refine hP.mono ?_
 rintro e w1⟨hh,c4⟩;have g3:=c4.size;rcases hh with⟨p,e5,rfl,rfl,o⟩|⟨c,rfl,rfl⟩
 case inr=>
  have N:=AB (show Cx s=.error c from N.o);have B1:=c4.alloc g3 (.cells Bn 44);unfold Bn at B1⊢;clear c4 hP b5;go_wp2_with fail;go_ret2;exact⟨Or.inr ⟨c,N.o,rfl⟩,B1⟩
 have N:=AB (show Cx s=Ij p from N.o);have b5:=b5 p rfl;have d6:=Em b5.head.1;have m6:=b5.head.2.2;have c5:=o.Po;obtain⟨⟨L,M,O⟩,rb,rm,⟨a5,j2,a2⟩⟩:=e5;have j3:j2=p.parts.length:=by
  obtain⟨g4,⟨a,c,e,_⟩,hl,_⟩:=o.parts;simp only[A9]at e;injection e with _ e _;omega
 subst j3;simp only[A9]at c5;simp only[Bm,A9];have A:=(AD w1.heap.size w1).alloc (AC _) (.cells #[.slice L M O,.string ⟨rb.toArray⟩,.bool rm,.slice a5 p.parts.length a2] 44);have l:=A1.new w1 #[.slice L M O,.string ⟨rb.toArray⟩,.bool rm,.slice a5 p.parts.length a2] 44;have e6:=(X.next c4).next A;have o:=o.next A;have c5:=c5.next A;have B2:=c4.trans (A.mono g3);have j4:w1.heap.size+1≤(w1.alloc (.cells #[.slice L M O,.string ⟨rb.toArray⟩,.bool rm,.slice a5 p.parts.length a2] 44)).heap.size:=by simp
 clear A hP;go_upto_region 4 with fail;generalize World.alloc _ _=w2 at l e6 o c5 B2 j4⊢;have hG:=Oq (.slice L M O) p.head Bu w2 c5.rd (d6.ok (by decide)) (by decide);have HK:=AB (by rfl:Kc p.head=(Ay ((Ai p.head Bu).getD [])).getD ([],[]));have j5:=Re (s:=Bu) d6;generalize(Ai p.head Bu).getD []=kv at hG HK j5;generalize(Ai p.head Bu).isSome=J at hG;have kc:=l.cell;unfold Bu at hG;go_wp2_with fail;with_reducible refine hG.mono ?_
 rintro e w3⟨rfl,c6⟩;have B3:=B2.trans (c6.mono (by omega));have l:=l.next c6 l.lt;have e7:=e6.next c6;have o:=o.next c6;have m7:=c6.size;have g5:=P0 kv w3 (by omega) e7.g;clear hG c6 B2 e6 kc c5;go_wp2_with fail;with_reducible refine g5.mono ?_
 rintro e d⟨hh,c7⟩;obtain⟨m,ps,v9,m8,rfl,a6,b7,_,j6,_⟩:=hh.get;have b7:=AB (HK.o.trans b7);have B4:=B3.trans (c7.mono B3.size);have l:=l.next c7 l.lt;have g6:=e7.next c7;have o:=o.next c7;have m9:=c7.size;have kc:=l.cell;clear g5 c7 B3 e7 hh HK;by_cases hm:m=Jl
 case neg=>
  have N:=AB (by rw[N.o];unfold Ij;rw[b7.o,AM hm]:Cx s=.error 6);have g7:(m==[109,117,108,116,105,112,97,114,116,47,114,101,108,97,116,101,100])=false:=by simpa[Jl]using hm
  clear hm;go_wp2_with fail;go_ret2;exact⟨Or.inr ⟨6,N.o,rfl⟩,B4⟩
 subst hm;have g7:(Jl==[109,117,108,116,105,112,97,114,116,47,114,101,108,97,116,101,100])=true:=rfl;unfold Jl at g7;unfold Jl;by_cases d1:p.parts.length=0
 ·have N:=AB (by rw[N.o];unfold Ij;rw[b7.o,AI (by simp),AM (JI d1)]:Cx s=.error 8);have j7:((p.parts.length:Int)==0)=true:=by rw[d1];rfl
  clear d1;go_wp2_with fail;go_ret2;exact⟨Or.inr ⟨8,N.o,rfl⟩,B4⟩
 have j7:((p.parts.length:Int)==0)=false:=by rw[AG];omega
 have N:=AB (show Cx s=(Dt (Dp A3.zero p.head) ((C5 ps Bq).getD []) (C5 ps Bq).isSome 0 [] [] 0 p.parts).map fun x=>⟨p,x.1,x.2.1,x.2.2⟩from by
  rw[N.o,iJ p (by rw[b7.o]) (fun h=>d1 (by rw[h];rfl)),b7.o])
 have e8:=fun v W hr X=>hO A3.zero v p.head W (by decide) hr (d6.mono (by decide)) X
 have g8:=U0 (base:=A3.zero) d6;have g9:A3.zero.len=0:=rfl;rw[g9]at g8;clear g9;generalize Dp A3.zero p.head=base at N g8 e8;have d2:=fun v W hr=>aW v ps Bq W hr (by have:=j6.1;omega)
 unfold Bq at d2 N;generalize(C5 ps _).getD []=E at N d2;generalize(C5 ps _).isSome=lk at N d2;clear d1 b7;go_upto_region 10 with fail;have o:=A7.Ad (Q:=fun b=>w.heap.size≤b∧b<d.heap.size) (fun b h1 h2=>⟨h1,h2⟩) o;have J:=A1.new d #[.slice L M O,.string ⟨rb.toArray⟩,.bool rm,.slice a5 p.parts.length a2,.int .i64 0,.slice none 0 0,.slice none 0 0] 83;have A:=(AD d.heap.size d).alloc (AC _) (.cells #[.slice L M O,.string ⟨rb.toArray⟩,.bool rm,.slice a5 p.parts.length a2,.int .i64 0,.slice none 0 0,.slice none 0 0] 83);go_upto_region 11 with fail;have j8:d.heap.size<(d.alloc (.cells #[.slice L M O,.string ⟨rb.toArray⟩,.bool rm,.slice a5 p.parts.length a2,.int .i64 0,.slice none 0 0,.slice none 0 0] 83)).heap.size:=by simp
 generalize World.alloc _ _=w5 at J A j8⊢;have B5:=B4.trans (A.mono B4.size);have l:=l.next A l.lt;have e9:=g6.next A;have o:=o.next A;have a6:=A0.next a6 A;have j9:=B5.size;have a3:=e8 (.slice L M O) w5 o.Po.rd e9;change Calls _ _ #[.agg #[.string ⟨#[]⟩,.bool false,.string ⟨#[]⟩,.string ⟨#[]⟩,.bool false,.string ⟨#[]⟩,.bool false,.string ⟨#[]⟩],.slice L M O] _ _ at a3;have kc:=l.cell;clear A B4 g6 e8;go_wp2_with fail;with_reducible refine a3.mono ?_
 rintro e F⟨rfl,b6⟩;have B6:=B5.trans (b6.mono j9);have l:=l.next b6 l.lt;have J:=J.next b6 J.lt;have h0:=e9.next b6;have o:=o.next b6;have a6:=A0.next a6 b6;have n0:=b6.size;clear a3 b6 B5 e9 kc;have A:=(AD F.heap.size F).alloc (AC _) (.cells base.cells 36);have b9:=A1.new F base.cells 36;go_upto_region 12 with fail;have k0:F.heap.size<(F.alloc (.cells base.cells 36)).heap.size:=by simp
 generalize World.alloc _ _=w7 at b9 A k0⊢;have B7:=B6.trans (A.mono B6.size);have l:=l.next A l.lt;have J:=J.next A J.lt;have h3:=h0.next A;have o:=o.next A;have a6:=A0.next a6 A;have hG:=d2 v9 w7 (A0.rd (by decide) Ah a6);clear A B6 h0 d2 a6;go_wp2_with fail;with_reducible refine hG.mono ?_
 rintro e G⟨rfl,b8⟩;have B8:=B7.trans (b8.mono B7.size);have l:=l.next b8 l.lt;have J:=J.next b8 J.lt;have b9:=b9.next b8 b9.lt;have k1:=h3.next b8;have o:=o.next b8;have n1:=b8.size;have kc:=l.cell;have n2:=J.lt;have n3:w1.heap.size≠d.heap.size:=by have:=c4.size;omega
 clear hG b8 B7 h3;have h4:=AB o;clear o;go_wp2_with fail;go_loopw[14,15,16,62] (fun lv _ _ I wr=>∃(k:Nat)(lk:Bool)(R:Nat)(P:List A3)(f:List Bs),I=.int .i64 k∧lv=.bool lk∧k≤p.parts.length∧P.length=k∧f.length=k∧R≤k∧Ir G.heap.size d.heap.size ((L,M,O),rb,rm,(a5,p.parts.length,a2)) R P f wr∧Hid (Cx s=(Dt base E lk R P f k (p.parts.drop k)).map fun x=>⟨p,x.1,x.2.1,x.2.2⟩)∧A5 d.heap.size G.heap.size G wr) (fun _ _ _ I _=>p.parts.length-(intOf I).toNat)
 case atStart=>exact⟨0,lk,0,[],[],rfl,rfl,by omega,rfl,rfl,by omega,⟨(none,0,0),(none,0,0),J,A0.nil _ _ _ _ _,A0.nil _ _ _ _ _,fun g h=>by cases h⟩,N,A5.refl _ _ _⟩
 obtain⟨k,lk,R,P,f,rfl,rfl,hk,n4,k2,n5,h5,d3,B⟩:=hrel;have f0:=B.size;by_cases c8:k<p.parts.length
 ·have d7:=A7.Ag h4.o B (by omega);obtain⟨g4,f1,n6,h6⟩:=d7.parts;simp only[A9]at f1;obtain⟨pb,rfl,n7,n8,a7⟩:=f1.at Db k (by omega);have hq:=h6 k (by omega) c8;have h7:=b5.part (AN c8);have c0:=AB (show∀q,p.parts[k]=q→q.many=true→Cx s=.error 13 from fun q hq hm=>by
   rw[d3.o,AE c8,hq];unfold Dt;rw[AM hm];rfl)
  have S:=AB (show∀q,p.parts[k]=q→q.many=false→Cx s=(if lk&&(E !=[]&&E==F4 (Fa q.head))then Dt base E false k (P++[Dp base q.head]) (f++[Fa q.head]) (k+1) (p.parts.drop (k+1))
   else Dt base E lk R (P++[Dp base q.head]) (f++[Fa q.head]) (k+1) (p.parts.drop (k+1))).map (fun x=>(⟨p,x.1,x.2.1,x.2.2⟩:Aw))from fun q hq hm=>by
   rw[d3.o,AE c8,hq];rw[Dt.eq_def];simp only[hm];rfl)
  have f2:=a7 0 (by decide);have f3:=a7 1 (by decide);have d8:=a7 2 (by decide);have f4:=a7 3 (by decide);have c0:=AB (c0.o _ rfl);have d4:=AB (S.o _ rfl);clear a7 h6 d3 S f1;generalize p.parts[k]=q at hq h7 c0 d4;generalize g4[k]'(by omega)=e5 at hq f2 f3 d8 f4;have h8:=hq.iY;have f5:=hq.Po;obtain⟨⟨T,U,V⟩,Y,qm,⟨Z,a0,a1⟩⟩:=e5;simp only[D5,A9,BI,AR,AT]at f2 f3 d8 f4 h8 f5;subst h8;have f6:=Em h7.head.1;clear hq;generalize q.many=bm at c0 d4 d8;have d9:w.heap.size≤d.heap.size:=by omega
  have c1:w.heap.size≤G.heap.size:=by omega
  have B9:=B8.trans ((B.mono c1).shut d9);have f7:=AB B9;cases bm with
  |true=>
   have HE:=AB (c0.o rfl);clear c0 d4;go_wp2_with fail;go_ret2;exact⟨Or.inr ⟨13,HE.o,rfl⟩,f7.o.alloc (BC c1 f0) _⟩
  |false=>
  have S:=AB (d4.o rfl);clear c0 d4;have A:=(AD wr.heap.size wr).alloc (AC _) (.cells #[.slice T U V,.string ⟨Y.toArray⟩,.bool false,.slice Z a0 a1] 44);have f8:=A1.new wr #[.slice T U V,.string ⟨Y.toArray⟩,.bool false,.slice Z a0 a1] 44;have n9:w.heap.size≤G.heap.size:=c1;obtain⟨⟨a8,a9,b0⟩,⟨b1,b2,b3⟩,a4,f9,c2,h9⟩:=h5;have hM:Gv G.heap.size d.heap.size F.heap.size wr.heap.size _ base.cells _ _ _ P _ f _:=⟨AD G.heap.size _,a4.next A a4.lt,(b9.Ag B (by omega)).next A (b9.Ag B (by omega)).lt,f8,A0.next f9 A,A0.next c2 A,h9,fun g X=>DX (A0.Do f9 g X),fun g X=>DX (A0.Do c2 g X),BC f0 A.size,by omega,b9.lt⟩;unfold Gi at hM;simp only[A9]at hM;have o0:=X.size;have g0:=((k1.Ag B (by omega)).next A).next ((AD _ _).drew);have HQ:=AB (fun W(hW:Below G.heap.size _ W)=>(f5.keep (w':=W) (BC A.size hW.size) (fun b hP c8=>(hW.block b (by have:=hP.2;omega)).trans (A.block b c8))).rd);have a3:=fun W hr X=>hO base (.slice T U V) q.head W (by omega) hr (f6.mono (by decide)) X
  have g1:=fun W hr=>TY (.slice T U V) q.head W hr (f6.mono (by decide))
  have k3:=Xi f6;generalize Dp base q.head=r at S a3;generalize Fa q.head=I at S g1 k3;have k4:=f8.cell;clear a4 f9 c2 h9 f5;go_upto_region 18 with fail;clear f2 f3 d8 f4 f8 k4;generalize World.alloc _ _=wa at hM g0 HQ A⊢;have i0:=AB (B.next A f0);have Md:=hM.drew;have a3:=a3 _ (HQ.o _ Md.K) g0;clear g0 A;go_cut[94] (fun _ wx=>Ir G.heap.size d.heap.size ((L,M,O),rb,rm,(some ⟨pb,0,none⟩,p.parts.length,a2)) R (P++[r]) (f++[I]) wx∧A5 d.heap.size G.heap.size G wx)
  case first=>
   have i1:=Md.kb.cell;have k5:=Md.k12.cell;have k6:=Md.k16.cell;have q1:=AB (by simp;omega:(P.length+[r].length)*104≤140737488355328);have q2:=AB (by unfold maxLen;simp;omega:P.length+[r].length≤maxLen);have q3:=AB (by simp;omega:(f.length+[I].length)*16≤140737488355328);have q4:=AB (by unfold maxLen;simp;omega:f.length+[I].length≤maxLen);have o1:F.heap.size≠d.heap.size:=by omega
   have o2:wr.heap.size≠d.heap.size:=by omega
   have D:(fun W=>(∀k,W.cell? ⟨F.heap.size,k,none⟩=base.cells[k]?)∧(∀k,W.cell? ⟨wr.heap.size,k,none⟩=(#[.slice T U V,.string ⟨Y.toArray⟩,.bool false,.slice Z a0 a1])[k]?)∧W.cell? ⟨d.heap.size,5,none⟩=some (.slice a8 a9 b0)∧W.cell? ⟨d.heap.size,6,none⟩=some (.slice b1 b2 b3)) wa.drew:=⟨k5,k6,i1 5,i1 6⟩;refine Zc 23 (fun W=>(∀k,W.cell? ⟨F.heap.size,k,none⟩=base.cells[k]?)∧(∀k,W.cell? ⟨wr.heap.size,k,none⟩=(#[.slice T U V,.string ⟨Y.toArray⟩,.bool false,.slice Z a0 a1])[k]?)∧W.cell? ⟨d.heap.size,5,none⟩=some (.slice a8 a9 b0)∧W.cell? ⟨d.heap.size,6,none⟩=some (.slice b1 b2 b3)) (by kernel_rfl) ?_;refine Ap.take (i:=0) (v:=?_) rfl (by kernel_rfl) (by kernel_rfl) (by kernel_rfl) (by kernel_rfl) (by decide) (fun _ _ _ h=>h) (Or.inl ⟨by rfl,?_⟩) D ?_;rotate_left
   ·(intro W H;(try dsimp only at H);obtain⟨t,u,y,C⟩:=H;go_simp;try with_reducible rfl)
   simp only[Act.put];refine Ap.Zb (i:=1) (v:=?_) rfl (by kernel_rfl) (by kernel_rfl) (by kernel_rfl) (by decide) (fun _ _ _ h=>h) (Or.inl ⟨by rfl,?_⟩) D ?_;rotate_left
   ·(intro W;go_simp;try with_reducible rfl)
   simp only[Act.put];refine Ap.take (i:=2) (v:=?_) rfl (by kernel_rfl) (by kernel_rfl) (by kernel_rfl) (by kernel_rfl) (by decide) (fun _ _ _ h=>h) (Or.inl ⟨by rfl,?_⟩) D ?_;rotate_left
   ·(intro W H;(try dsimp only at H);obtain⟨t,u,y,C⟩:=H;go_simp;try with_reducible rfl)
   simp only[Act.put];refine Ap.take (i:=3) (v:=?_) rfl (by kernel_rfl) (by kernel_rfl) (by kernel_rfl) (by kernel_rfl) (by decide) (fun _ _ _ h=>h) (Or.inl ⟨by rfl,?_⟩) D ?_;rotate_left
   ·(intro W H;(try dsimp only at H);obtain⟨t,u,y,C⟩:=H;go_simp;try with_reducible rfl)
   simp only[Act.put];refine Ap.take (i:=4) (v:=?_) rfl (by kernel_rfl) (by kernel_rfl) (by kernel_rfl) (by kernel_rfl) (by decide) (fun _ _ _ h=>h) (Or.inl ⟨by rfl,?_⟩) D ?_;rotate_left
   ·(intro W H;(try dsimp only at H);obtain⟨t,u,y,C⟩:=H;go_simp;try with_reducible rfl)
   simp only[Act.put];refine Ap.take (i:=5) (v:=?_) rfl (by kernel_rfl) (by kernel_rfl) (by kernel_rfl) (by kernel_rfl) (by decide) (fun _ _ _ h=>h) (Or.inl ⟨by rfl,?_⟩) D ?_;rotate_left
   ·(intro W H;(try dsimp only at H);obtain⟨t,u,y,C⟩:=H;go_simp;try with_reducible rfl)
   simp only[Act.put];refine Ap.take (i:=6) (v:=?_) rfl (by kernel_rfl) (by kernel_rfl) (by kernel_rfl) (by kernel_rfl) (by decide) (fun _ _ _ h=>h) (Or.inl ⟨by rfl,?_⟩) D ?_;rotate_left
   ·(intro W H;(try dsimp only at H);obtain⟨t,u,y,C⟩:=H;go_simp;try with_reducible rfl)
   simp only[Act.put];refine Ap.take (i:=7) (v:=?_) rfl (by kernel_rfl) (by kernel_rfl) (by kernel_rfl) (by kernel_rfl) (by decide) (fun _ _ _ h=>h) (Or.inl ⟨by rfl,?_⟩) D ?_;rotate_left
   ·(intro W H;(try dsimp only at H);obtain⟨t,u,y,C⟩:=H;go_simp;try with_reducible rfl)
   simp only[Act.put];refine Ap.take (i:=8) (v:=?_) rfl (by kernel_rfl) (by kernel_rfl) (by kernel_rfl) (by kernel_rfl) (by decide) (fun _ _ _ h=>h) (Or.inl ⟨by rfl,?_⟩) D ?_;rotate_left
   ·(intro W H;(try dsimp only at H);obtain⟨t,u,y,C⟩:=H;go_simp;try with_reducible rfl)
   simp only[Act.put];refine Ap.take (i:=12) (v:=?_) rfl (by kernel_rfl) (by kernel_rfl) (by kernel_rfl) (by kernel_rfl) (by decide) (fun _ _ _ h=>h) (Or.inl ⟨by rfl,?_⟩) D ?_;rotate_left
   ·(intro W H;(try dsimp only at H);obtain⟨t,u,y,C⟩:=H;go_simp;try with_reducible rfl)
   simp only[Act.put];refine Ap.take (i:=13) (v:=?_) rfl (by kernel_rfl) (by kernel_rfl) (by kernel_rfl) (by kernel_rfl) (by decide) (fun _ _ _ h=>h) (Or.inl ⟨by rfl,?_⟩) D ?_;rotate_left
   ·(intro W H;(try dsimp only at H);obtain⟨t,u,y,C⟩:=H;go_simp;try with_reducible rfl)
   simp only[Act.put];refine Ap.take (i:=14) (v:=?_) rfl (by kernel_rfl) (by kernel_rfl) (by kernel_rfl) (by kernel_rfl) (by decide) (fun _ _ _ h=>h) (Or.inl ⟨by rfl,?_⟩) D ?_;rotate_left
   ·(intro W H;(try dsimp only at H);obtain⟨t,u,y,C⟩:=H;go_simp;try with_reducible rfl)
   simp only[Act.put];refine Ap.take (i:=15) (v:=?_) rfl (by kernel_rfl) (by kernel_rfl) (by kernel_rfl) (by kernel_rfl) (by decide) (fun _ _ _ h=>h) (Or.inl ⟨by rfl,?_⟩) D ?_;rotate_left
   ·(intro W H;(try dsimp only at H);obtain⟨t,u,y,C⟩:=H;go_simp;try with_reducible rfl)
   simp only[Act.put];refine Ap.take (i:=16) (v:=?_) rfl (by kernel_rfl) (by kernel_rfl) (by kernel_rfl) (by kernel_rfl) (by decide) (fun _ _ _ h=>h) (Or.inl ⟨by rfl,?_⟩) D ?_;rotate_left
   ·(intro W H;(try dsimp only at H);obtain⟨t,u,y,C⟩:=H;go_simp;try with_reducible rfl)
   simp only[Act.put];refine Ap.take (i:=17) (v:=?_) rfl (by kernel_rfl) (by kernel_rfl) (by kernel_rfl) (by kernel_rfl) (by decide) (fun _ _ _ h=>h) (Or.inl ⟨by rfl,?_⟩) D ?_;rotate_left
   ·(intro W H;(try dsimp only at H);obtain⟨t,u,y,C⟩:=H;go_simp;try with_reducible rfl)
   simp only[Act.put];refine Ap.one (j:=9) (by kernel_rfl) rfl (by decide) (fun K n=>?_);go_simp;with_reducible refine a3.mono ?_
   rintro e e0⟨rfl,k7⟩;have M9:=Md.next k7;have i2:=M9.kb.cell;have t:(fun W=>(∀k,W.cell? ⟨F.heap.size,k,none⟩=base.cells[k]?)∧(∀k,W.cell? ⟨wr.heap.size,k,none⟩=(#[.slice T U V,.string ⟨Y.toArray⟩,.bool false,.slice Z a0 a1])[k]?)∧W.cell? ⟨d.heap.size,5,none⟩=some (.slice a8 a9 b0)∧W.cell? ⟨d.heap.size,6,none⟩=some (.slice b1 b2 b3)) e0:=⟨M9.k12.cell,M9.k16.cell,i2 5,i2 6⟩;refine n.o _ _ t ?_;clear n K D;have c9:=AB (M9.alloc (.cells r.cells 36));have i3:=c9.o.kb.cell;have k8:=AB (WJ e0 r 36 _ rfl);refine Ap.one (j:=10) (by kernel_rfl) rfl (by decide) (fun K n=>?_);go_simp;have u:(fun W=>(∀k,W.cell? ⟨F.heap.size,k,none⟩=base.cells[k]?)∧(∀k,W.cell? ⟨wr.heap.size,k,none⟩=(#[.slice T U V,.string ⟨Y.toArray⟩,.bool false,.slice Z a0 a1])[k]?)∧W.cell? ⟨d.heap.size,5,none⟩=some (.slice a8 a9 b0)∧W.cell? ⟨d.heap.size,6,none⟩=some (.slice b1 b2 b3)) (e0.alloc (.cells r.cells 36)):=⟨c9.o.k12.cell,c9.o.k16.cell,i3 5,i3 6⟩;refine n.o _ _ u ?_;clear n K t;refine Ap.one (j:=11) (by kernel_rfl) rfl (by decide) (fun K n=>?_)
   (refine Lm (α:=A3) (cs:=Fv) (size:=8) (z:=.agg #[.string ByteArray.empty,.bool false,.string ByteArray.empty,.string ByteArray.empty,.bool false,.string ByteArray.empty,.bool false,.string ByteArray.empty]) Jo Rf Rg rfl (by decide) underlying54 rfl _ _ rfl G.heap.size _ P [r] ⟨e0.heap.size,0,none⟩ 1 1 rfl (by decide) rfl c9.o.oa rfl k8.o q1.o q2.o c9.o.base ?_)
   intro gA i4 k9 l0 l1 l2 l3;have d5:=c9.o.Pp l0 l1 l2 l3;have i5:=d5.kb.cell;have y:(fun W=>(∀k,W.cell? ⟨F.heap.size,k,none⟩=base.cells[k]?)∧(∀k,W.cell? ⟨wr.heap.size,k,none⟩=(#[.slice T U V,.string ⟨Y.toArray⟩,.bool false,.slice Z a0 a1])[k]?)∧W.cell? ⟨d.heap.size,5,none⟩=some (.slice a8 a9 b0)∧W.cell? ⟨d.heap.size,6,none⟩=some (.slice b1 b2 b3)) k9:=⟨d5.k12.cell,d5.k16.cell,i5 5,i5 6⟩;refine n.o _ _ y ?_;clear n K u;simp only[Act.put];refine Ap.one (j:=18) (by kernel_rfl) rfl (by decide) (fun K n=>?_);go_simp;with_reducible refine(g1 _ (HQ.o _ d5.K)).mono ?_
   rintro e e1⟨rfl,l4⟩;have e2:=d5.next l4;have i6:=e2.kb.cell;have C:(fun W=>(∀k,W.cell? ⟨F.heap.size,k,none⟩=base.cells[k]?)∧(∀k,W.cell? ⟨wr.heap.size,k,none⟩=(#[.slice T U V,.string ⟨Y.toArray⟩,.bool false,.slice Z a0 a1])[k]?)∧W.cell? ⟨d.heap.size,5,none⟩=some (.slice a8 a9 b0)∧W.cell? ⟨d.heap.size,6,none⟩=some (.slice b1 b2 b3)) e1:=⟨e2.k12.cell,e2.k16.cell,i6 5,i6 6⟩;refine n.o _ _ C ?_;clear n K y;have d0:=AB (e2.alloc (.cells #[.string ⟨I.toArray⟩] 9));have i7:=d0.o.kb.cell;have l5:=AB (WK e1 I 9 _ rfl);refine Ap.one (j:=19) (by kernel_rfl) rfl (by decide) (fun K n=>?_);go_simp;have i8:(fun W=>(∀k,W.cell? ⟨F.heap.size,k,none⟩=base.cells[k]?)∧(∀k,W.cell? ⟨wr.heap.size,k,none⟩=(#[.slice T U V,.string ⟨Y.toArray⟩,.bool false,.slice Z a0 a1])[k]?)∧W.cell? ⟨d.heap.size,5,none⟩=some (.slice a8 a9 b0)∧W.cell? ⟨d.heap.size,6,none⟩=some (.slice b1 b2 b3)) (e1.alloc (.cells #[.string ⟨I.toArray⟩] 9)):=⟨d0.o.k12.cell,d0.o.k16.cell,i7 5,i7 6⟩;refine n.o _ _ i8 ?_;clear n K C;refine Ap.one (j:=20) (by kernel_rfl) rfl (by decide) (fun K n=>?_)
   (refine Lm (α:=Bs) (cs:=Bi) (size:=1) (z:=.string ByteArray.empty) Cw Mu Rj rfl (by decide) underlying55 rfl _ _ rfl G.heap.size _ f [I] ⟨e1.heap.size,0,none⟩ 1 1 rfl (by decide) rfl d0.o.oi rfl l5.o q3.o q4.o d0.o.base ?_)
   intro gI o3 l6 l7 l8 l9 m0;have b4:=d0.o.Pq l7 l8 l9 m0;have i9:=b4.kb.cell;have o4:=b4.kb.free;have e3:(fun W=>(∀k,W.cell? ⟨F.heap.size,k,none⟩=base.cells[k]?)∧(∀k,W.cell? ⟨wr.heap.size,k,none⟩=(#[.slice T U V,.string ⟨Y.toArray⟩,.bool false,.slice Z a0 a1])[k]?)∧W.cell? ⟨d.heap.size,5,none⟩=some (.slice a8 a9 b0)∧W.cell? ⟨d.heap.size,6,none⟩=some (.slice b1 b2 b3)) l6:=⟨b4.k12.cell,b4.k16.cell,i9 5,i9 6⟩;refine n.o _ _ e3 ?_;clear n K i8;simp only[Act.put];refine Ap.take (i:=21) (v:=?_) rfl (by kernel_rfl) (by kernel_rfl) (by kernel_rfl) (by kernel_rfl) (by decide) (fun _ _ _ h=>h) (Or.inl ⟨by rfl,?_⟩) e3 ?_;rotate_left
   ·(intro W H;(try dsimp only at H);obtain⟨t,u,y,C⟩:=H;go_simp;try with_reducible rfl)
   simp only[Act.put];refine Ap.take (i:=22) (v:=?_) rfl (by kernel_rfl) (by kernel_rfl) (by kernel_rfl) (by kernel_rfl) (by decide) (fun _ _ _ h=>h) (Or.inl ⟨by rfl,?_⟩) e3 ?_;rotate_left
   ·(intro W H;(try dsimp only at H);obtain⟨t,u,y,C⟩:=H;go_simp;try with_reducible rfl)
   simp only[Act.put];refine Ap.stop (by kernel_rfl) rfl (fun K n=>?_);go_simp;refine n.o _ _ ?_;clear n K e3;refine FP (i:=24) (v:=?_) rfl (by kernel_rfl) (by kernel_rfl) (by kernel_rfl) (fun _ _ _ h=>h) (Or.inl ⟨by rfl,?_⟩) ?_;rotate_left
   ·(intro W;go_simp;try with_reducible rfl)
   simp only[Act.put];refine FP (i:=25) (v:=?_) rfl (by kernel_rfl) (by kernel_rfl) (by kernel_rfl) (fun _ _ _ h=>h) (Or.inl ⟨by rfl,?_⟩) ?_;rotate_left
   ·(intro W;go_simp;try with_reducible rfl)
   simp only[Act.put];have o5:=(b4.kb.set 5 (.slice (some ⟨gA,0,none⟩) (P.length+[r].length) i4)).cell;have o6:=(b4.kb.set 5 (.slice (some ⟨gA,0,none⟩) (P.length+[r].length) i4)).free;refine Qe (j:=26) (by kernel_rfl) rfl (fun K n=>?_);go_simp;refine n.o _ _ ?_;clear n K;refine JB (by kernel_rfl) ?_ _;go_wp2_with fail;go_meet;rw[(by simp;omega:P.length+[r].length=k+1),(by simp;omega:f.length+[I].length=k+1)]at b4;exact WL b4 i0.o
  case rest=>
  obtain⟨hR,KB⟩:=hcut;obtain⟨w9,rfl⟩:∃x:World,x=wc:=⟨_,rfl⟩;have HR:=AB hR;have e4:=AB KB;obtain⟨⟨o7,o8,o9⟩,⟨p0,m1,p1⟩,a4,_,c2,_⟩:=hR;unfold Gi at a4;simp only[A9]at a4 c2;have g2:=A0.Dn (by decide) Cw c2;have m2:m1=k+1:=by
   obtain⟨a,c,e,_⟩:=g2;injection e with _ e _;rw[e];simp;omega
  subst m2;obtain⟨ib,rfl,_,p2,a7⟩:=g2.at Cw k (by simp;omega);have j0:(f++[I])[k]'(by simp;omega)=I:=by subst k2;simp
  have ci:=a7 0 (by decide);rw[j0]at ci;simp only[Bi,IJ,BI,AR]at ci;have p3:=a4.cell;have p4:=a4.free;have m3:d.heap.size<G.heap.size:=by omega
  have r1:(k:Int)<(k:Int)+1:=by omega
  clear a7 j0 g2 c2 a4 hM a3 g1 HQ Md i0;cases lk with
  |false=>
   have c3:=AB (by rw[S.o];rfl:Cx s=(Dt base E false R (P++[r]) (f++[I]) (k+1) (p.parts.drop (k+1))).map (fun x=>(⟨p,x.1,x.2.1,x.2.2⟩:Aw)));clear S;go_wp2_with fail;go_roundw
   case rel=>exact⟨k+1,false,R,P++[r],f++[I],by go_num,rfl,by omega,by simp;omega,by simp;omega,by omega,HR.o,c3,e4.o⟩
   simp[intOf];omega
  |true=>
  have S:=AB (show Cx s=(if !(E==[])&&(E==60::(I++[62]))then Dt base E false k (P++[r]) (f++[I]) (k+1) (p.parts.drop (k+1))
   else Dt base E true R (P++[r]) (f++[I]) (k+1) (p.parts.drop (k+1))).map (fun x=>(⟨p,x.1,x.2.1,x.2.2⟩:Aw))from S.o)
  generalize p5:(E==[])=be at S;generalize m4:(E==60::(I++[62]))=bq at S;cases be with
  |true=>
   have c3:=AB (show Cx s=(Dt base E true R (P++[r]) (f++[I]) (k+1) (p.parts.drop (k+1))).map (fun x=>(⟨p,x.1,x.2.1,x.2.2⟩:Aw))from S.o);clear S m4;go_wp2_with fail;go_roundw
   case rel=>exact⟨k+1,true,R,P++[r],f++[I],by go_num,rfl,by omega,by simp;omega,by simp;omega,by omega,HR.o,c3,e4.o⟩
   simp[intOf];omega
  |false=>
  cases bq with
  |false=>
   have c3:=AB (show Cx s=(Dt base E true R (P++[r]) (f++[I]) (k+1) (p.parts.drop (k+1))).map (fun x=>(⟨p,x.1,x.2.1,x.2.2⟩:Aw))from S.o);clear S;go_wp2_with fail;go_roundw
   case rel=>exact⟨k+1,true,R,P++[r],f++[I],by go_num,rfl,by omega,by simp;omega,by simp;omega,by omega,HR.o,c3,e4.o⟩
   simp[intOf];omega
  |true=>
   have c3:=AB (show Cx s=(Dt base E false k (P++[r]) (f++[I]) (k+1) (p.parts.drop (k+1))).map (fun x=>(⟨p,x.1,x.2.1,x.2.2⟩:Aw))from S.o);clear S;go_wp2_with fail;go_roundw
   case rel=>exact⟨k+1,false,k,P++[r],f++[I],by go_num,rfl,by omega,by simp;omega,by simp;omega,by omega,HR.o.root m3 k,c3,e4.o.set _⟩
   simp[intOf];omega
 obtain rfl:k=p.parts.length:=by omega
 have HD:=AB (by rw[d3.o,AQ];rfl:Cx s=.ok ⟨p,R,P,f⟩);have d7:=A7.Ag h4.o B (by omega);obtain⟨sa,si,h1,h2,j1,_⟩:=h5;have d9:w.heap.size≤d.heap.size:=by omega
 have c1:w.heap.size≤G.heap.size:=by omega
 have f7:=AB (B8.trans ((B.mono c1).shut d9));have m5:=AB (show Er (fun k=>w.heap.size≤k) wr d.heap.size ⟨p,R,P,f⟩from⟨((L,M,O),rb,rm,(a5,p.parts.length,a2)),sa,si,d9,h1,A7.Ad (fun b hb _=>hb.1) d7,Aq.Ad (A0.Dn (by decide) Jo h2) (fun b hb _=>BC c1 hb.1),Aq.Ad (A0.Dn (by decide) Cw j1) (fun b hb _=>BC c1 hb.1)⟩);clear d3 d7 h1 h2 j1 B;go_wp2_with fail;go_ret2;exact⟨Or.inl ⟨_,_,HD.o,rfl,m5.o⟩,f7.o⟩
end Go.Proofs.YtignjjnflcpiiaaGreatDoor
