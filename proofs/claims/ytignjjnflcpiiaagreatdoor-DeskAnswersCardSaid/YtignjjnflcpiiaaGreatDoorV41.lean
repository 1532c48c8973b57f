/- A session's lines, one after the other. No program; The a -/
import Derived.Test.YtignjjnflcpiiaaGreatDoorV39
set_option linter.all false
namespace Go.Proofs.YtignjjnflcpiiaaGreatDoor
open Go Go.RowKit Proofs.Tryz Lib
def Hx:Ap->List Bs->Ap
 |d,[]=>d
 |d,s::l=>Hx (Cb d s).1 l
theorem qE:∀(l:List Bs)(d:Ap)(x:Bs),Hx d (l++[x])=(Cb (Hx d l) x).1
 |[],_,_=>rfl
 |s::l,d,x=>by
  show Hx (Cb d s).1 (l++[x])=_;rw[qE l];rfl
theorem cT:∀(l k:List Bs)(d:Ap),Ed d (l++k)=Ed d l++Ed (Hx d l) k
 |[],_,_=>rfl
 |s::l,k,d=>by
  show(Cb d s).2++10::Ed (Cb d s).1 (l++k)=_;rw[cT l];show _=((Cb d s).2++10::Ed (Cb d s).1 l)++Ed (Hx (Cb d s).1 l) k;simp
def qF(l:List Bs)(d:Ap)(x:Bs):Ed d (l++[x])=Ed d l++((Cb (Hx d l) x).2++[10]):=by
 rw[cT];rfl
def qw(d:Ap)(w:List Bs):(Gn d w).1.said.length<=d.said.length:=by
 unfold Gn;split
 ·exact AF _
 split<;>simp
def qx(d:Ap)(n:Bs)(w:List Bs):(Cd d n w).1.said.length<=d.said.length+(Ax w).length+2:=by
 rcases Ss n with rfl|rfl|rfl|rfl|rfl|rfl|rfl|rfl|rfl|rfl|rfl|rfl|rfl|rfl|rfl|rfl|h
 ·show(d.said++(Ax w++[13,10])).length<=_;simp;omega
 ·show d.said.length<=_;omega
 ·show d.said.length<=_;omega
 ·show d.said.length<=_;omega
 ·show d.said.length<=_;omega
 ·show d.said.length<=_;omega
 ·show d.said.length<=_;omega
 ·show d.said.length<=_;omega
 ·show d.said.length<=_;omega
 ·have:=qw d w;show(Gn d w).1.said.length<=_;omega
 ·show d.said.length<=_;omega
 ·show d.said.length<=_;omega
 ·show d.said.length<=_;omega
 ·show d.said.length<=_;omega
 ·show d.said.length<=_;omega
 ·show d.said.length<=_;omega
 rw[St h];show d.said.length<=_;omega
def qG(d:Ap)(s:Bs):(Cb d s).1.said.length<=d.said.length+s.length+3:=by
 unfold Cb;cases h:I8 s with
 |nil=>simp only;omega
 |cons n l=>
  have h0:=V5 s;rw[h]at h0;simp only[CD,DT,AK]at h0;have H:=(V6 (l:=l) (n:=s.length+1) aa).1;have a:=qx d n l;simp only;omega
theorem qH:∀(l:List Bs)(d:Ap),(Hx d l).said.length<=d.said.length+lens l+3*l.length
 |[],_=>by simp[Hx]
 |s::l,d=>by
  have h:=qH l (Cb d s).1;have H:=qG d s;show(Hx (Cb d s).1 l).said.length<=_;simp[lens]at h|-;omega
variable {p xs l:List Bs}{b:Al}{s:Bs}{d:Ap}
def qz(h:p<+:xs):lens p<=lens xs/\p.length<=xs.length:=by
 obtain⟨r,rfl⟩:=h;simp[lens]
theorem cU{x:Bs}:∀{l:List Bs},x∈l->x.length<=lens l
 |y::l,h=>by
  simp only[lens,CD,DT];rcases CG.1 h with rfl|h
  ·omega
  have:=cU h;simp[lens]at this;omega
def rj(d:Ap)(h:p<+:xs):(Ed d p).length<=(Ed d xs).length:=by
 obtain⟨r,rfl⟩:=h;rw[cT];simp
theorem qI(c:UInt8)(b:Bs):∀a:Bs,Ad c (a++c::b)=Ad c a++Ad c b
 |[]=>by simp[Ad]
 |x::a=>by
  have ih:=qI c b a;show Ad c (x::(a++c::b))=_;generalize Ad c b=B at ih|-;unfold Ad;by_cases H:x=c
  ·rw[AN H,AN H,ih];rfl
  rw[AL H,AL H,ih];cases h:Ad c a with
  |nil=>exact absurd h (Lx c a)
  |cons y r=>rfl
def rl(a:Bs):trimSuffix (a++[10]) [10]=a:=by
 unfold trimSuffix hasSuffix;simp
theorem rq(h:C4 s=.ok b):∀a∈b.places,a.len<=400000:=by
 unfold C4 at h;cases H:Ef s with
 |error e=>rw[H]at h;cases h
 |ok p=>
  rw[H]at h;have g:=Xd H;simp only[Iz]at h;split at h
  ·cases h
  split at h
  ·cases h
  split at h
  ·cases h
  cases h;obtain⟨P,l,m,j⟩:=p;have w:=F1 g.1;have h0:A3.zero.len=0:=rfl;have n:=Sv (base:=A3.zero) w;have f:∀q∈j,Dw 20000 q.head:=fun q f=>by
   have:=g.2.2.2 q f;obtain⟨a,c,d,e⟩:=q;exact F1 this.1
  intro a i;simp only[A7.parts,DN]at i;obtain⟨q,k,rfl⟩:=i;have:=Sv (base:=E3 A3.zero P) (f q k);simp only[A7.head]at*;omega
def Lw(d:Ap):Prop:=∀b,d.bundle=some b->Fx b/\(∀a∈b.places,a.len<=400000)/\b.root<=20002
def rr(h:Lw d)(l:List Bs):Lw (Gn d l).1:=by
 unfold Gn;split
 ·exact h
 cases H:C4 d.said with
 |error e=>exact h
 |ok b=>intro B a;cases a;exact⟨Sw H,rq H,Xn H⟩
def rs(h:Lw d)(n:Bs)(l:List Bs):Lw (Cd d n l).1:=by
 rcases Ss n with rfl|rfl|rfl|rfl|rfl|rfl|rfl|rfl|rfl|rfl|rfl|rfl|rfl|rfl|rfl|rfl|H
 ·exact h
 ·exact h
 ·exact h
 ·exact h
 ·exact h
 ·exact h
 ·exact h
 ·exact h
 ·exact h
 ·exact rr h l
 ·exact h
 ·exact h
 ·exact h
 ·exact h
 ·exact h
 ·exact h
 rw[St H];exact h
def rv(h:Lw d)(s:Bs):Lw (Cb d s).1:=by
 unfold Cb;split
 ·exact h
 exact rs h _ _
def cV{α:Type}(f:α->Bs)(c:Nat)(l:List α)(h:∀x∈l,(f x).length<=c):(D4 (l.map f)).length<=l.length*(c+2):=by
 have H:=cR (l.map f) [44,32];have d:((l.map f).map List.length).sum<=l.length*c:=by
  clear H;induction l with
  |nil=>simp
  |cons x l ih=>
   have e:=h x ah;have a:=ih (fun y b=>h y (by simp[b]));simp only[CD,DT,AK,Nat.add_mul]at a|-;omega
 unfold D4;simp only[DQ,AK,BG]at H;rw[Nat.mul_add];omega
def sb{n:Int}{l:List (Bs×Int)}(f:Fx b)(g:∀a∈b.places,a.len<=400000)(h:Ca b n=some l):l.length<=60002/\∀x∈l,(F5 x).length<=3510026:=by
 obtain⟨G,i⟩:=cS f h;refine⟨G,fun x H=>?_⟩;have d:=(i x H).2;have o:=BE x.2 d.1 d.2;have q:x.1.length<=1170000:=by
  unfold Ca at h;split at h
  ·cases h
  cases c:b.whole.parts[n.toNat]?with
  |none=>rw[c]at h;cases h
  |some p=>
   cases e:b.places[n.toNat]?with
   |none=>rw[c,e]at h;cases h
   |some a=>
    rw[c,e]at h;cases h;have j:=f.whole.part (CP c);have s:=g a (CP e);have t:=j.fl.2;have v:=O5 p.body;unfold Fw at H;split at H
    ·obtain⟨y,k,rfl⟩:=DN.1 H;have d:=v y k;unfold Fv;cases m:Be y.2.2 with
     |none=>simp only;omega
     |some r=>
      have u:=Iv m;have w:=(Nw a r).1;have z:=Pp (Ar a r);simp only;omega
    cases H
 have A:=L2 x.1;unfold F5;simp only[AJ,AK];omega
abbrev Ew:Nat:=30500000000
def sd(S:Lw d)(h:G7 d l=.ok s):s.length<=Ew:=by
 unfold G7 at h;split at h
 ·cases h
 cases c:d.bundle with
 |none=>rw[c]at h;cases h
 |some b=>
  rw[c]at h;obtain⟨_,q,_⟩:=S b c;simp only at h;cases e:E4 (l.getD 0 [])with
  |none=>rw[e]at h;cases h
  |some n=>
   rw[e]at h;simp only at h;cases H:Hw b n with
   |none=>rw[H]at h;cases h
   |some a=>
    rw[H]at h;cases h;have f:=Pp a;have g:a.len<=400000:=by
     unfold Hw at H;split at H
     ·cases H
     exact q a (CP H)
    unfold Ew Kb;simp only[AK];omega
def sg(S:Lw d)(h:Hi d l=.ok s):s.length<=Ew:=by
 unfold Hi at h;split at h
 ·cases h
 cases H:d.bundle with
 |none=>rw[H]at h;cases h
 |some b=>
  rw[H]at h;obtain⟨q,_,_⟩:=S b H;cases h;have n:=q.whole.head.2.2;have e:=cV Gp 200000 b.whole.parts (fun p a=>by
   have c:=(q.whole.part a).fl;have f:=L2 p.body;have g:=BE (p.head.length:Int) (by have:=c.2;omega) (by have i:=(q.whole.part a).head.1;have e:=S4 p.head;omega);unfold Gp;simp only[AJ,AK];have:=c.2;omega)
  have j:b.whole.parts.length*200002<=20002*200002:=CV _ n;unfold Ew;simp only[AK];omega
def sj(h:G8 d l=.ok s):s.length<=Ew:=by
 unfold G8 at h;split at h
 ·cases h
 cases a:d.bundle with
 |none=>rw[a]at h;cases h
 |some b=>
  rw[a]at h;simp only at h;cases H:Jz b with
  |error e=>rw[H]at h;cases h
  |ok o=>
   rw[H]at h;cases h;have c:=L2 o;have f:o.length<=20000:=by
    unfold Jz Iu at H;split at H
    ·cases H
    split at H
    ·cases H
    cases H;omega
   unfold Ew;omega
def sk(S:Lw d)(h:G9 d l=.ok s):s.length<=213000000000:=by
 unfold G9 at h;split at h
 ·cases h
 cases H:d.bundle with
 |none=>rw[H]at h;cases h
 |some b=>
  rw[H]at h;obtain⟨q,Q,_⟩:=S b H;simp only at h;cases c:E4 (l.getD 0 [])with
  |none=>rw[c]at h;cases h
  |some n=>
   rw[c]at h;simp only at h;cases a:Ca b n with
   |none=>rw[a]at h;cases h
   |some L=>
    rw[a]at h;cases h;obtain⟨p,P⟩:=sb q Q a;have:=cV F5 3510026 L P;have e:L.length*3510028<=60002*3510028:=CV _ p;simp only[AK];omega
def sr(H:∀x∈l,x.length<=2510)(h:Nc l=.ok s):s.length<=Ew:=by
 unfold Nc at h;split at h
 ·cases h
 cases h;have a:(l.getD 0 []).length<=2510:=by
  cases l with
  |nil=>simp
  |cons x l=>exact H x ah
 have:=Qf (l.getD 0 []);unfold Ew Kb;simp only[AK];omega
def ss(S:Lw d)(h:Hf d l=.ok s):s.length<=Ew:=by
 unfold Hf at h;split at h
 ·cases h
 cases H:d.bundle with
 |none=>rw[H]at h;cases h
 |some b=>
  rw[H]at h;simp only at h;split at h
  ·cases h
  cases h;rename_i a _;have c:=Xl (S b H).1 a;have:=BE (D8 b a) c.1 c.2;unfold Ew;omega
def sw(h:L1 l=.ok s):s.length<=Ew:=by
 unfold L1 at h;split at h
 ·cases h
 cases h;decide
def sz(b:(Ax l).length<=2510)(h:Nd l=.ok s):s.length<=Ew:=by
 unfold Nd at h;split at h
 ·cases h
 rename_i m p H;split at h
 ·cases h
 rename_i o a;cases h;have c:=mP a;have d:=mL H;have e:=(eF H).1;unfold Ew;omega
def td(h:(Gn d l).2=.ok s):s.length<=Ew:=by
 unfold Gn at h;split at h
 ·cases h
 cases H:C4 d.said with
 |error e=>rw[H]at h;cases h
 |ok b=>
  rw[H]at h;cases h;have a:=(Sw H).whole.head.2.2;have c:=Xn H;have f:=BE (b.whole.parts.length:Int) aa aa;have g:=BE (b.root:Int) aa aa;unfold Ew;simp only[AJ,AK];omega
def tf(H:(Ax l).length<=2510)(h:Um l=.ok s):s.length<=Ew:=by
 cases h;have a:=L2 (Dn (Ax l));have b:=cQ (Ax l);unfold Ew;omega
def tg(H:(Ax l).length<=2510)(h:Un l=.ok s):s.length<=Ew:=by
 cases h;have a:=L2 (E5 (Ax l));have b:=Q4 (Ax l);unfold Ew;omega
def th(d:∀x∈l,x.length<=2510)(h:Lq l=.ok s):s.length<=Ew:=by
 unfold Lq at h;split at h
 ·cases h
 rename_i g;split at h
 ·cases h
 rename_i a e;split at h
 ·cases h
 rename_i b f;cases h;have H:∀k,(l.getD k []).length<=2510:=fun k=>by
  by_cases c:k<l.length
  ·rw[AM,BC c];exact d _ (AQ c)
  rw[AM,DC aa];simp
 have i:=Iv e;have j:=Iv f;have G:=H 0;have m:=H 1;have n:=(Nw a b).1;have o:=Pp (Ar a b);unfold Ew Kb;simp only[AK];omega
def tj(b:(Ax l).length<=2510)(h:Lr l=.ok s):s.length<=Ew:=by
 unfold Lr at h;split at h
 ·cases h
 rename_i o H;cases h;have a:=L2 o;have c:=Tu _ _ _ _ _ H;unfold Ew;omega
def tn(b:(Ax l).length<=2510)(h:Ls l=.ok s):s.length<=Ew:=by
 unfold Ls at h;split at h
 ·cases h
 rename_i o H;cases h;have a:=L2 o;have c:=cP H;unfold Ew;omega
def tp(b:(Ax l).length<=2510)(h:R3 l=.ok s):s.length<=Ew:=by
 cases h;have n:=(I3 (Ax l)).2;have c:=cV Hg 8000 (Bf (Ax l)) (fun x H=>by
  have d:=O5 _ x H;have e:=(I3 (Ax l)).1.mem x H;have f:=L2 x.2.2;have g:=BE (x.1:Int) aa aa;have a:=BE (x.2.1:Int) aa aa;unfold Hg;simp only[AJ,AK];omega)
 have a:(Bf (Ax l)).length*8002<=2510*8002:=CV _ aa;unfold Ew;simp only[AK];omega
def tq(S:Lw d)(n:Bs)(H:(Ax l).length<=2510)(a:∀x∈l,x.length<=2510)(h:(Cd d n l).2=.ok s):s.length<=Ew\/(n=Ik/\s.length<=213000000000):=by
 rcases Ss n with rfl|rfl|rfl|rfl|rfl|rfl|rfl|rfl|rfl|rfl|rfl|rfl|rfl|rfl|rfl|rfl|o
 ·left;cases h;decide
 ·exact Or.inl (sd S h)
 ·exact Or.inl (sj h)
 ·exact Or.inl (sr a h)
 ·exact Or.inl (ss S h)
 ·exact Or.inl (sw h)
 ·exact Or.inl (sz H h)
 ·exact Or.inr ⟨rfl,sk S h⟩
 ·exact Or.inl (tp H h)
 ·exact Or.inl (td h)
 ·exact Or.inl (tf H h)
 ·exact Or.inl (sg S h)
 ·exact Or.inl (tg H h)
 ·exact Or.inl (th a h)
 ·exact Or.inl (tj H h)
 ·exact Or.inl (tn H h)
 rw[St o]at h;cases h
theorem tr(S:Lw d)(s:Bs)(f:s.length<=2505):(Cb d s).2.length+1<=42600000001*(s.length+1):=by
 unfold Cb;cases w:I8 s with
 |nil=>simp only[AK,BG];omega
 |cons n l=>
  have h0:=V5 s;rw[w]at h0;simp only[CD,DT,AK]at h0;obtain⟨g,i,a⟩:=V6 (l:=l) (n:=s.length+1) aa;simp only;cases H:(Cd d n l).2 with
  |error e=>
   have j:=bR d n l e H;have:=BE e aa aa;unfold R4 Nf;simp only[AK];omega
  |ok o=>
   show o.length+1<=_;rcases tq S n aa (fun x b=>by have:=a x b;omega) H with h|⟨rfl,h⟩
   ·unfold Ew at h;omega
   have c:Ik.length=4:=rfl;rw[c]at h0;omega
theorem qJ:∀(l:List Bs)(d:Ap),Lw d->(∀s∈l,s.length<=2505)->(Ed d l).length<=42600000001*(lens l+l.length)
 |[],_,_,_=>by simp[Ed]
 |s::l,d,h,H=>by
  have c:=tr h s (H s ah);have e:=qJ l (Cb d s).1 (rv h s) (fun y a=>H y (by simp[a]));show((Cb d s).2++10::Ed (Cb d s).1 l).length<=_;have b:lens (s::l)=s.length+lens l:=by simp[lens]
  rw[b];simp only[AJ,AK];omega
def qK(t:Bs)(h:t.length<=2502):(Ed ⟨none,[]⟩ (Ad 10 (trimSuffix t [10]))).length<=140737488355328:=by
 have c:=KW t [10];have d:=Rv 10 (trimSuffix t [10]);have e:=qJ (Ad 10 (trimSuffix t [10])) ⟨none,[]⟩ (fun b H=>by cases H) (fun x a=>by have:=cU a;omega);omega
end Go.Proofs.YtignjjnflcpiiaaGreatDoor
