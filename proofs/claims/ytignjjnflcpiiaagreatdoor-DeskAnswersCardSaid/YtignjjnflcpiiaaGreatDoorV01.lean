/- A contract of a call run alone gives the leaving form. No -/
import Derived.Test.YtignjjnflcpiiaaGreatDoorProg
import Derived.Conc.HoldsTime
import Derived.HandedShaped
import Derived.SevenTiedAt
set_option linter.all false
namespace Go.Proofs.YtignjjnflcpiiaaGreatDoor
open Go Go.RowKit Proofs.Tryz
theorem tN{P:Program}{l:Machine}{w:World}{t:Trace}(h:aloneAtReturn P l w t):leavingAtReturn P l w t:=by
 obtain⟨H,a,b⟩:=h;exact⟨a,onlyLeaving_of_quiet H,b⟩
theorem tO{a:Assume}{C:Checked}{o:Os}{f:FuncId}{r:Reach}{P:World→Array Value→Prop}{p:World→Array Value→Value→World→Prop}
  (O:ownKnob C.prog.godebug=none) (s:o.Started) (N:C.prog.inits.idxOf? f=none)
  (b:∃(w:World)(t:Tape)(i:Input),w.os=o∧(w.forCall t i).Shaped C.prog∧i.vars=[]∧Input.okWide C.prog (w.forCall t i) r w.heap.size f i∧P (w.forCall t i).memory i.args∧a.holds C.prog (lone (Frame.enter C.prog f i.args .normal) [] (w.forCall t i)))
  (c:∀(w:World)(t:Tape)(i:Input),w.os=o→(w.forCall t i).ShapedOpen C.prog→i.vars=[]→Input.okWide C.prog (w.forCall t i) r w.heap.size f i→P (w.forCall t i).memory i.args→a.holds C.prog (lone (Frame.enter C.prog f i.args .normal) [] (w.forCall t i))→Calls C.prog f i.args (w.forCall t i) fun
    | .returned v,W=>p (w.forCall t i).blind i.args v W.blind
    |_,_=>False):
  ReturnsInLeavingWide a C o f r P p:=fun e=>by
 obtain⟨g,T,I,A,j,k,l,m,q⟩:=b;refine⟨e,O,s,⟨g,T,I,A,j,k,l,m,q,trivial⟩,fun w t i h=>?_⟩;obtain⟨n,v,W,F,H,d,u⟩:=(c w t i h.1 h.2.1 h.2.2.1 h.2.2.2.1 h.2.2.2.2.1 h.2.2.2.2.2.1).done_lone N;exact⟨n+1,v,W,d,(clean_of_lone H).2,roomy_placeholder ..,u,⟨n,_,H,step_of_runs H d,tN (alone_of_lone H)⟩,fun _ _ _=>trivial⟩
end Go.Proofs.YtignjjnflcpiiaaGreatDoor
namespace Go.Proofs.YtignjjnflcpiiaaGreatDoor
open Go Go.ChangeShapes Go.WideShapes Go.ChangeAt Go.RowKit Go.Conc Go.ConcM
theorem tP{H:Type}{enc:TypeId×Value→H}{a:Assume}{C:Checked}{o:Os}{f:FuncId}{n:Func}{s:ChangeSpec}{F:Stop.Interp}{h:List PathCond}{b k l:Bool}{X:World→Array Value→Prop}
  (q:∀(w w':World)(A:Array Value),w.heap=w'.heap→X w A→X w' A)
  (O:ownKnob C.prog.godebug=none) (S:o.Started) (N:C.prog.inits.idxOf? f=none) (r:C.prog.funcs[f]?=some n)
  (u:∃(w:World)(T:Tape)(i:Input),w.os=o∧(w.forCall T i).Shaped C.prog∧i.vars=[]∧Input.okWide C.prog (w.forCall T i) .any w.heap.size f i∧((s.pre enc C.prog n h b (w.forCall T i).memory i.args∧X (w.forCall T i).memory i.args)∧sizedMet enc C.prog n (OpenSpec.ofChange s) b (w.forCall T i).memory i.args)∧a.holds C.prog (lone (Frame.enter C.prog f i.args .normal) [] (w.forCall T i)))
  (x:∀(W:World)(y:Nat)(A:Array Value)(d g:List (DataW H))(B:List MemPlace),(∀(j:Nat)t v,n.params[j]?=some t→A[j]?=some v→Value.okWide C.prog W .any y t v)→DataW.Whole enc C.prog n.params.toList s.vars b W A.toList d g B→(DataW.weightsEach C.prog (n.params.toList++s.plain.varTypes C.prog) (d++g)).all (·≤reachBytes)=true→X W A→W.ShapedOpen C.prog→Calls C.prog f A W fun e c=>∃v,e=.returned v∧s.post enc C.prog n b k l false W A v c∧c.os=W.os):
  ReturnsInLeavingWide a C o f .any (fun w A=>(s.pre enc C.prog n h b w A∧X w A)∧sizedMet enc C.prog n (OpenSpec.ofChange s) b w A) ((OpenSpec.ofChange s).postWith enc C.prog n F (outsideKept [.timePasses]) b k l):=by
 refine tO O S N u ?_;intro w T i _ z _ D E R;obtain⟨_,_,_,G,I,_,_,_,_,J⟩:=D;have e:G=n:=Option.some.inj (I.symm.trans r);subst e;obtain⟨⟨⟨d,g,B,m,U⟩,K⟩,L⟩:=E;have M:=DataW.Whole.of_heap (w':=w.forCall T i) (by rfl) m;refine(x (w.forCall T i) w.heap.size i.args d g B J M (L.weights m) (q _ _ _ (by rfl) K) z).mono fun e c⟨v,P,Q,p⟩=>?_
 subst P;refine postWith_blind (postWith_of_post ?_ (p▸OsLater.refl _));rw[←p];exact Q
end Go.Proofs.YtignjjnflcpiiaaGreatDoor
namespace Go.Proofs.YtignjjnflcpiiaaGreatDoor
open Go Go.RowKit Proofs.Tryz
theorem tQ(L:Looks){p:Pinned}{s:OpenSpec}{c:OpenClaim}(kinds:List LaidKind)(T:Bool)(H:Bool×String)(l g:Bool)
  (a:c.holds p s) (w:c.wfByText s=true) (e:c.laidByTextAt L p kinds T)
  (b:c.start=.entering) (d:c.noBlocks=false∧c.again=false) (m:p.checked.prog.mainIs=some (H.1,H.2.toList)) (n:(!H.1&&H.2.isEmpty&&!l)=false)
  (i:∀f F,p.checked.prog.funcNamed c.func=some f→p.checked.prog.funcs[f]?=some F→l=p.checked.prog.looks []∧∀(j:Nat)t,F.params[j]?=some t→p.checked.prog.wantsStandIn t=false)
  (k:g=c.goesBy p.checked.prog):
  Claim7.holds p (.plain s) {stood:={row:=c,standIns:=[],harness:=H,looks:=l},kinds:=[],alts:=[],goes:=g,laidByText:=true,laidKinds:=kinds,laidTests:=T,laidLooks:=L}:=by
 have o:∀r:OpenClaim,Claim7.isSixth {stood:={row:=r,standIns:=[],harness:=H,looks:=l},kinds:=[]}=false:=fun r=>by simpa[Claim7.isSixth]using n
 exact⟨Claim7.tied_new_at L kinds T (Claim7.new_of_sixth a H l b d m (o c) i) w,(fun D q=>nomatch (show D∈([]:List (List PathCond))from q)),e,(fun h=>nomatch (show false=true from h)),k⟩
end Go.Proofs.YtignjjnflcpiiaaGreatDoor
