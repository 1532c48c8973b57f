/- What the document's answer's writePart gives, in the word -/
import Derived.Test.YtignjjnflcpiiaaGreatDoorS31
import Derived.Test.YtignjjnflcpiiaaGreatDoorS32
set_option linter.all false
namespace Go.Proofs.YtignjjnflcpiiaaGreatDoor
open Go Go.RowKit Proofs.Tryz Lib
def Xd(h:List A4)(l:List Bs):Bs:=((D0 (Dr (Bz h) (Cj l))).getD [])++(Dw (Cj l) l++45::45::(Cj l++[45,45,13,10]))
def Xe(h:List A4)(body:Bs):Bs:=((D0 (Bz h++[(Bl,(Ck body).1)])).getD [])++(Ck body).2
def O0(h:List A4)(body:Bs)(m:Bool)(l:List Bs):Bs:=if m then Xd h l else Xe h body
def Ky(h:List A4)(body:Bs)(m:Bool)(n:Nat):Bool:=Ca h&&(match Bg h with
 |none=>false
 |some o=>(o.isSome==m)&&(!(m&&!body.isEmpty)&&!(!m&&decide (0<n))))
theorem UJ(d L:Nat)(h:List A4)(body:Bs)(m:Bool)(ps:List A8):Bh (d+1) (L+1) (.mk h body m ps)=if Ky h body m ps.length=false then .error 1 else match By (Bh d) L ps with
  | .error e=>.error e
  | .ok (l,n)=>.ok (O0 h body m l,n):=by
 cases H:Ca h with
 |false=>
  have a:Ky h body m ps.length=false:=by unfold Ky;rw[H];rfl
  rw[AM a];unfold Bh;rw[AM H]
 |true=>
  cases b:Bg h with
  |none=>
   have a:Ky h body m ps.length=false:=by unfold Ky;rw[H,b];rfl
   rw[AM a];unfold Bh;rw[AI (by rw[H];decide),b]
  |some o=>
   have a:Ky h body m ps.length=((o.isSome==m)&&(!(m&&!body.isEmpty)&&!(!m&&decide (0<ps.length)))):=by unfold Ky;rw[H,b];rfl
   rw[a];cases m with
   |false=>
    rw[gF,AI (by rw[H];decide),b];cases o with
    |some B=>simp
    |none=>
     cases ps with
     |cons p ps=>simp
     |nil=>
      obtain⟨t,g⟩:=Zj (tJ (cH (fun f=>!(A2 f.1==A2 Bl)) H) (tL body));have w:Nh h body=some (Xe h body):=by
       unfold Nh Xe;rw[(by rfl:Bz h=h.filter (fun f=>!(A2 f.1==A2 Bl))),g];rfl
      rw[w];simp[By,O0]
   |true=>
    rw[gG,AI (by rw[H];decide),b];cases o with
    |none=>simp
    |some B=>
     cases body with
     |cons c body=>simp
     |nil=>
      obtain⟨v,M,P,i,k,z,A,_⟩:=TT b;have j:∀l,Mq h l=some (Xd h l):=fun l=>by
       obtain⟨C,D,E⟩:=tO l;obtain⟨O,q⟩:=rO k;obtain⟨V,W,F,r⟩:=rL O (cJ (n:=C9) C q);have s:El v (Cj l)=V:=by
        unfold El;rw[k];simp only[CT];rw[W];rfl
       have u:Ai (Bz h) Bu=some v:=by rw[tI h (fun h=>tH h.symm),i]
       have y:Ca (Dr (Bz h) (Cj l))=true:=cK (v:=v) (by rw[s];exact r) (cH _ H) u;obtain⟨t,g⟩:=Zj y;unfold Mq Xd;rw[g];rfl
      simp only[j];simp only[EK,ne_eq,not_true_eq_false,DJ,O0,DC];cases By (Bh d) L ps with
      |error e=>simp
      |ok x=>simp
def Ct(m n:Bool)(b:Bs)(l:List A4):List A4:=if(m&&!n)=true then Dr (Bz l) b else Bz l
theorem UK(m n:Bool)(b:Bs):Ct m n b []=[]:=by cases m<;>cases n<;>rfl
variable {l:List A4}{f:A4}{b:Bs}{m n:Bool}
theorem UL(h:(A2 f.1==A2 Bl)=true):Ct m n b (f::l)=Ct m n b l:=by
 have:Bz (f::l)=Bz l:=by unfold Bz;rw[DA,h];rfl
 unfold Ct;rw[this]
theorem iC(h:(A2 f.1==A2 Bl)=false):Bz (f::l)=f::Bz l:=by unfold Bz;rw[DA,h];rfl
theorem UM(h:(A2 f.1==A2 Bl)=false)(H:((m&&!n)&&(A2 f.1==A2 Bu))=false):Ct m n b (f::l)=f::Ct m n b l:=by
 unfold Ct;rw[iC h];cases a:(m&&!n)with
 |false=>rfl
 |true=>
  rw[a,FB]at H;rw[AM rfl,AM rfl,Dr,AI (by simpa using H)]
theorem UN(h:(A2 f.1==A2 Bl)=false)(H:(A2 f.1==A2 Bu)=true):Ct true false b (f::l)=(f.1,El f.2 b)::Ct true true b l:=by
 unfold Ct;rw[iC h];simp only[EH,Bool.and_self,DC,ED,GU,BU,DJ];rw[Dr,AM (by simpa using H)]
theorem UO(h:List A4)(body:Bs)(m:Bool)(l:List Bs):O0 h body m l=if m then((D0 (Ct m false (Cj l) h)).getD [])++(Dw (Cj l) l++45::45::(Cj l++[45,45,13,10]))else((D0 (Ct m false (Cj l) h++[(Bl,(Ck body).1)])).getD [])++(Ck body).2:=by
 cases m<;>rfl
end Go.Proofs.YtignjjnflcpiiaaGreatDoor
