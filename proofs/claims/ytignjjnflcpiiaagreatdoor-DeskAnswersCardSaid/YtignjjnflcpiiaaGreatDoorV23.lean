/- What stands in quotes, by the reader of the document's an -/
import Derived.Test.YtignjjnflcpiiaaGreatDoorV20
set_option maxHeartbeats 8000000
set_option maxRecDepth 100000 set_option linter.all false
namespace Go.Proofs.YtignjjnflcpiiaaGreatDoor
open Go Go.RowKit Proofs.Tryz Lib
def WZ(b:Nat)(s:Bs)(ok:Bool)(e:Ending)(w':World):Prop:=(∃v r,Bj s=some (v,r)/\e=.returned (.string ⟨v.toArray⟩)/\Hv w' b r ok)\/(Bj s=none/\e=.returned (.string ⟨#[]⟩)/\∃r:Bs,Hv w' b r false/\r.length<=s.length)
def XA{c:UInt8}{r:Bs}(h:c≠34):Bj (c::r)=match r with
  |[]=>none
  |d::R=>if c=92 then(if C6 d then(Bj R).map fun x=>(d::x.1,x.2)else none)else if C6 c then(Bj (d::R)).map fun x=>(c::x.1,x.2)else none:=by
 cases r with
 |nil=>unfold Bj;rw[AL h]
 |cons d R=>
  conv=>lhs;unfold Bj
  rw[AL h]
def Ug(b:Nat)(s:Bs)(ok:Bool)(c:UInt8)(n:Int)(h:(c.toNat:Int)=n)(w:World)(H:Hv w b s ok)(l:s.length<=1000000000000):Calls prog 116 #[.pointer (some ⟨b,0,none⟩),.int .u8 n] w fun e W=>e=.returned (.bool (Dy c s).1)/\Hv W b (Dy c s).2 ok/\A5 b w.heap.size w W:=by
 subst h;exact VW b s ok c w H l
def XB(b:Nat)(s:Bs)(ok:Bool)(w:World)(U:Hv w b s ok)(hl:s.length<=1000000000000):Calls prog 119 #[.pointer (some ⟨b,0,none⟩)] w fun e L=>WZ b s ok e L/\A5 b w.heap.size w L:=by
 go_enter func119,ntmps119;go_wp2_with fail;go_loopw[3] (fun x wr=>∃l o:Bs,x=o/\l.length+o.length<=s.length/\Hv wr b l ok/\Hid (Bj s=(Bj l).map fun x=>(o++x.1,x.2))/\A5 b w.heap.size w wr) (fun _ wr=>match wr.cell? ⟨b,0,none⟩with|some v=>Jn v|none=>0)
 case atStart=>exact⟨s,[],rfl,ah,U,AE (by cases Bj s<;>simp),A5.refl _ _ _⟩
 obtain⟨l,o,rfl,f,u,Q,B⟩:=hrel;have M:=u.cell;have V:=u.free;have C:wr.cell? ⟨b,0,none⟩=some l:=by rw[M];rfl
 cases l with
 |nil=>
  have N:=AE (by rw[Q.o];rfl:Bj s=none);have H:=u.set 1 false;go_wp2;go_ret;exact⟨Or.inr ⟨N.o,rfl,[],el,DE _⟩,B.set _⟩
 |cons c r=>
  simp only[AK]at f;have T:=Ug b (c::r) ok 34 34 rfl wr u ag;by_cases D:c=34
  ·subst D;have E:Dy 34 (34::r)=(true,r):=by simp[Dy]
   rw[E]at T;have X:=AE (show Bj s=some (o,r)from by
    rw[Q.o];have:Bj (34::r)=some ([],r):=by cases r<;>simp[Bj]
    rw[this];simp)
   go_wp2_with fail;with_reducible refine T.mono ?_
   rintro e y⟨rfl,K,z⟩;go_wp2;go_ret;exact⟨Or.inl ⟨o,r,X.o,rfl,K⟩,B.trans (z.mono B.size)⟩
  have E:Dy 34 (c::r)=(false,c::r):=by simp[Dy,D]
  rw[E]at T;have F:=AE (XA (r:=r) D);go_wp2_with fail;with_reducible refine T.mono ?_
  rintro e y⟨rfl,K,z⟩;have i:=B.trans (z.mono B.size);have O:=K.cell;have P:=K.free;clear T M V z;cases r with
  |nil=>
   have N:=AE (by rw[Q.o,F.o];rfl:Bj s=none);have hI:=Ju (c.toNat:Int) 32 126 y;rw[<-Qp]at hI;generalize C6 c=q at hI;have S:(c.toNat:Int)<256:=eo
   cases q with
   |false=>
    have H:=K.set 1 false;go_wp2_with fail;with_reducible refine hI.mono ?_
    rintro e A⟨rfl,rfl⟩;go_wp2;go_ret;exact⟨Or.inr ⟨N.o,rfl,[c],el,ag⟩,i.set _⟩
   |true=>
    have H:Hv (World.setCell y ⟨b,0,none⟩ (.string ByteArray.empty)) b [] ok:=by have h:=K.set 0 (.string ByteArray.empty);exact h
    go_wp2_with fail;with_reducible refine hI.mono ?_
    rintro e g⟨rfl,rfl⟩;go_wp2_with fail;have m:(World.setCell g ⟨b,0,none⟩ (.string ByteArray.empty)).cell? ⟨b,0,none⟩=some (.string ⟨#[]⟩):=by rw[H.cell 0];rfl
    refine⟨⟨([]:Bs),o++[c],ah,ja,H,AE ay,i.set _⟩,?_⟩;rw[C,m];first|(simp;done)|(simp;omega)
  |cons d R=>
   have j:=Ug b (c::d::R) ok 92 92 rfl y K ja;by_cases G:c=92
   ·subst G;have I:Dy 92 (92::d::R)=(true,d::R):=by simp[Dy]
    rw[I]at j;have n:=AE (ui:Bj (92::d::R)=if C6 d then(Bj R).map fun x=>(d::x.1,x.2)else none);have hI:=fun W=>Ju (d.toNat:Int) 32 126 W
    rw[<-Qp]at hI;go_wp2_with fail;with_reducible refine j.mono ?_
    rintro e A⟨rfl,k,p⟩;have t:=i.trans (p.mono i.size);have Y:=k.cell;have Z:=k.free;have hI:=hI A;have S:(d.toNat:Int)<256:=by have:=d.toNat_lt;omega
    clear j O P p;cases a:C6 d with
    |false=>
     have N:=AE (by rw[Q.o,n.o,a];rfl:Bj s=none);rw[a]at hI;clear a;have H:=k.set 1 false;go_wp2_with fail;with_reducible refine hI.mono ?_
     rintro e g⟨rfl,rfl⟩;go_wp2;go_ret;exact⟨Or.inr ⟨N.o,rfl,d::R,el,ja⟩,t.set _⟩
    |true=>
     have J:=AE (by rw[Q.o,n.o,a];cases Bj R<;>simp:Bj s=(Bj R).map fun x=>(o++[d]++x.1,x.2));rw[a]at hI;clear a;have H:=k.set 0 R;go_wp2_with fail;with_reducible refine hI.mono ?_
     rintro e g⟨rfl,rfl⟩;go_wp2_with fail;have m:(World.setCell g ⟨b,0,none⟩ R).cell? ⟨b,0,none⟩=some R:=by rw[H.cell 0];rfl
     refine⟨⟨R,o++[d],ah,ja,el,J,t.set _⟩,?_⟩;rw[C,m];first|(simp;done)|(simp;omega)
   have I:Dy 92 (c::d::R)=(false,c::d::R):=by simp[Dy,G]
   rw[I]at j;have n:=AE (by rw[F.o];simp only;rw[AL G]:Bj (c::d::R)=if C6 c then(Bj (d::R)).map fun x=>(c::x.1,x.2)else none);have hI:=fun W=>Ju (c.toNat:Int) 32 126 W
   rw[<-Qp]at hI;go_wp2_with fail;with_reducible refine j.mono ?_
   rintro e A⟨rfl,k,p⟩;have t:=i.trans (p.mono i.size);have Y:=k.cell;have Z:=k.free;have hI:=hI A;have S:(c.toNat:Int)<256:=eo
   clear j O P p;cases a:C6 c with
   |false=>
    have N:=AE (by rw[Q.o,n.o,a];rfl:Bj s=none);rw[a]at hI;clear a;have H:=k.set 1 false;go_wp2_with fail;with_reducible refine hI.mono ?_
    rintro e g⟨rfl,rfl⟩;go_wp2;go_ret;exact⟨Or.inr ⟨N.o,rfl,c::d::R,el,ja⟩,t.set _⟩
   |true=>
    have J:=AE (by rw[Q.o,n.o,a];cases Bj (d::R)<;>simp:Bj s=(Bj (d::R)).map fun x=>(o++[c]++x.1,x.2));rw[a]at hI;clear a;have H:=k.set 0 (d::R:Bs);go_wp2_with fail;with_reducible refine hI.mono ?_
    rintro e g⟨rfl,rfl⟩;go_wp2_with fail;have m:(World.setCell g ⟨b,0,none⟩ (d::R:Bs)).cell? ⟨b,0,none⟩=some (d::R:Bs):=by rw[H.cell 0];rfl
    refine⟨⟨(d::R),o++[c],ah,ja,el,J,t.set _⟩,?_⟩;rw[C,m];first|(simp;done)|(simp;omega)
def Qy(q:Bool)(s v S:Bs)(Q:Bool):Prop:=(q=false->Q=false)/\(q=true->match Jt s with
 |none=>Q=false
 |some (V,r)=>Q=true/\v=V/\S=r)
def Ig(q:Bool)(s:Bs):Bool:=q&&(decide (s=[])||decide (s.head?=some 59))
variable {q:Bool}{rest v s:Bs}
def XC(h:Qy ((Dy 61 (Ah ((Ah rest).dropWhile Ae))).1&&!((Ah rest).takeWhile Ae).isEmpty) (Ah (Dy 61 (Ah ((Ah rest).dropWhile Ae))).2) v s q):We rest=if Ig q (Ah s)then some ((A2 ((Ah rest).takeWhile Ae),v),Ah s)else none:=by
 unfold We;obtain⟨a,H⟩:=h;generalize(Ah rest).takeWhile Ae=t at a H|-;generalize Ah ((Ah rest).dropWhile Ae)=u at a H|-;by_cases b:t=[]
 ·subst b;have:=a ah;subst this;simp[Ig]
 rw[AL b];have g:(!t.isEmpty)=true:=by cases t<;>simp at b|-
 rw[g,JY]at a H;cases u with
 |nil=>
  have:=a rfl;subst this;simp[Ig]
 |cons c r=>
  by_cases d:c=61
  ·subst d;have E:Dy 61 (61::r)=(true,r):=by simp[Dy]
   rw[E]at H;have H:=H rfl;simp only at H|-;cases f:Jt (Ah r)with
   |none=>
    rw[f]at H;simp only at H;subst H;simp[Ig]
   |some x=>
    obtain⟨V,R⟩:=x;rw[f]at H;obtain⟨rfl,rfl,rfl⟩:=H;simp only[Ig,FR,FM,EL]
  have E:Dy 61 (c::r)=(false,c::r):=by simp[Dy,d]
  rw[E]at a;have:=a rfl;subst this;simp only[Ig,Bool.false_and,CC,DM];split
  ·rename_i e;injection e with e _;exact absurd e d
  rfl
def Ih(q:Bool)(fuel:Nat)(s:Bs):Option (List A4):=if q then(match s with
 |[]=>some []
 |c::r=>if c=59 then Ia fuel r else none)else none
def XD(fuel:Nat)(h:Qy ((Dy 61 (Ah ((Ah rest).dropWhile Ae))).1&&!((Ah rest).takeWhile Ae).isEmpty) (Ah (Dy 61 (Ah ((Ah rest).dropWhile Ae))).2) v s q):Ih true (fuel+1) (59::rest)=(Ih (Ig q (Ah s)) fuel (Ah s)).map ((A2 ((Ah rest).takeWhile Ae),v)::·):=by
 have H:=XC h;rw[xO]at H;generalize A2 ((Ah rest).takeWhile Ae)=t at H|-;generalize Ah s=z at H|-;have e:Ih true (fuel+1) (59::rest)=match Hk rest with|none=>none|some (f,r)=>match r with|[]=>some [f]|c::R=>if c=59 then(Ia fuel R).map (f::·)else none:=by
  unfold Ih;simp only[DK];rfl
 rw[e];cases g:Ig q z with
 |false=>
  rw[g]at H;simp only[CC,DM]at H;cases o:Hk rest with
  |none=>simp[Ih]
  |some x=>
   obtain⟨f,r⟩:=x;rw[o]at H;simp only at H;cases r with
   |nil=>simp at H
   |cons c R=>
    have a:¬c=59:=by intro a;simp[a]at H
    simp[Ih,a]
 |true=>
  rw[g]at H;simp only[DK]at H;cases o:Hk rest with
  |none=>rw[o]at H;simp at H
  |some x=>
   obtain⟨f,r⟩:=x;rw[o]at H;simp only at H;split at H
   ·rename_i b;injection H with H;obtain⟨rfl,rfl⟩:=Prod.mk.inj H;cases r with
    |nil=>simp[Ih]
    |cons c R=>
     simp at b;subst b;simp[Ih]
   cases H
def XE(c:UInt8)(s:Bs):(Dy c s).2.length<=s.length:=by
 cases s with
 |nil=>simp[Dy]
 |cons d r=>by_cases h:d=c<;>simp[Dy,h]
def X9(s:Bs):(Ah s).length<=s.length:=by
 unfold Ah trimLeftS;exact(EM _).length_le
theorem XF(s:Bs):∃c S:Bs,s=c++S/\((S=[]/\59∉s)\/∃r,S=59::r/\59∉c)/\Ay s=if Ld (A2 (trimS c [32,9]))then(Ih true S.length S).map fun l=>(A2 (trimS c [32,9]),l)else none:=by
 have H:Ay s=if Ag (cut (A2 (trimS (cut s [59]).1 [32,9])) [47]).1&&(!(cut (A2 (trimS (cut s [59]).1 [32,9])) [47]).2.2||Ag (cut (A2 (trimS (cut s [59]).1 [32,9])) [47]).2.1)then((if(cut s [59]).2.2 then Ia ((cut s [59]).2.1.length+1) (cut s [59]).2.1 else some []).map fun l=>(A2 (trimS (cut s [59]).1 [32,9]),l))else none:=rfl
 rw[<-iN]at H;rcases Wd s 59 with⟨h,e⟩|⟨a,b,rfl,h,e⟩
 ·rw[e]at H;exact⟨s,[],ah,Or.inl ⟨rfl,h⟩,by rw[H];simp[Ih]⟩
 rw[e]at H;exact⟨a,59::b,rfl,Or.inr ⟨b,rfl,h⟩,H⟩
end Go.Proofs.YtignjjnflcpiiaaGreatDoor
