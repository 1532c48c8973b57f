/- What a part that was read has, and what a bundle that is -/
import Derived.Test.YtignjjnflcpiiaaGreatDoorV24
import Derived.Test.YtignjjnflcpiiaaGreatDoorV27
set_option maxHeartbeats 8000000
set_option maxRecDepth 100000 set_option linter.all false
namespace Go.Proofs.YtignjjnflcpiiaaGreatDoor
open Go Go.RowKit Proofs.Tryz Lib
def Ul(l:List A4):Prop:=∀f∈l,Ez f.1=true
variable {x s B:Bs}{o l H:List A4}{p q:A7}
def ZM(h:L7 o x=some l)(c:Ul o):Ul l:=by
 unfold L7 at h;split at h
 ·cases d:o.getLast? with
  |none=>rw[d]at h;cases h
  |some f=>
   rw[d]at h;simp at h;subst h;intro g H;rcases BY.1 H with H|H
   ·exact c g ((List.dropLast_sublist o).subset H)
   rw[CS.1 H];exact c f (FN d)
 cases e:Ao [58] x with
 |none=>rw[e]at h;cases h
 |some y=>
  obtain⟨a,b⟩:=y;rw[e]at h;simp only at h;split at h
  ·rename_i n;simp at h;subst h;intro g H;rcases BY.1 H with H|H
   ·exact c g H
   rw[CS.1 H];exact n
  cases h
theorem oB:∀(k:Nat)(o l:List A4)(s r:Bs),Hj k o s=some (l,r)->Ul o->Ul l
 |0,_,_,_,_,h,_=>ee
 |k+1,o,l,s,r,h,H=>by
  by_cases b:s=[]
  ·subst b;simp[Hj]at h;rw[<-h.1];exact H
  rw[Yk b]at h;split at h
  ·simp at h;rw[<-h.1];exact H
  cases a:L7 o (cut s [13,10]).1 with
  |none=>rw[a]at h;cases h
  |some O=>
   rw[a]at h;exact oB k O l _ r h (ZM a H)
theorem oC:∀{L l:List A4},Cz L=some l->Ul L->Ck l=true
 |[],l,h,_=>by simp[Cz]at h;subst h;rfl
 |f::L,l,h,n=>by
  unfold Cz at h;split at h
  ·rename_i v;simp only[BM]at h;obtain⟨b,a,rfl⟩:=h;have ih:=Mh.1 (oC a (fun g H=>n g (CJ _ H)));refine Mh.2 fun g H=>?_
   rcases CG.1 H with rfl|H
   ·exact⟨n f (CN ..),v⟩
   exact ih g H
  cases h
theorem oD{α β:Type}{f:Nat->α->Except Int (β×Nat)}{P:β->Prop}(g:∀a x y b,f a x=.ok (y,b)->P y):∀{l:List α}{n m:Nat}{Y:List β},Bz f n l=.ok (Y,m)->∀y∈Y,P y
 |[],n,m,Y,h=>by
  simp[Bz]at h;rw[h.1];simp
 |x::l,n,m,Y,h=>by
  unfold Bz at h;cases H:f n x with
  |error e=>rw[H]at h;cases h
  |ok r=>
   obtain⟨y,N⟩:=r;rw[H]at h;simp only at h;cases c:Bz f N l with
   |error e=>rw[c]at h;cases h
   |ok r=>
    obtain⟨Z,k⟩:=r;rw[c]at h;simp only[GA,EB]at h;rw[<-h.1];intro z d;rcases CG.1 d with rfl|d
    ·exact g _ _ _ _ H
    exact oD g c z d
def R1(q:A7):Prop:=Ck q.head=true/\((q.many=false/\Bo q.head=some none/\q.parts=[])\/(q.many=true/\(∃b,Bo q.head=some (some b))/\q.body=[]))
def ZN(d L n:Nat)(s:Bs)(q:A7)(h:Bd d L s=.ok (q,n)):R1 q/\∀r∈q.parts,R1 r:=by
 induction d generalizing L n s q with
 |zero=>cases h
 |succ d ih=>
  cases L with
  |zero=>cases h
  |succ L=>
   unfold Bd at h;cases j:E7 s with
   |none=>rw[j]at h;cases h
   |some x=>
    obtain⟨p,B⟩:=x;rw[j]at h;simp only at h;cases k:Cz p with
    |none=>rw[k]at h;cases h
    |some l=>
     rw[k]at h;simp only at h;have g:Ck l=true:=oC k (oB _ _ _ _ _ j (fun f t=>by cases t));cases i:Bo l with
     |none=>rw[i]at h;cases h
     |some O=>
      rw[i]at h;cases O with
      |none=>
       simp only at h;cases H:Dd l B with
       |error e=>rw[H]at h;cases h
       |ok b=>
        rw[H]at h;simp only[GA,EB]at h;rw[<-h.1];exact⟨⟨g,Or.inl ⟨rfl,i,rfl⟩⟩,fun r g=>by cases g⟩
      |some b=>
       simp only at h;cases H:Eb B b with
       |none=>rw[H]at h;cases h
       |some u=>
        rw[H]at h;simp only at h;cases o:Bz (Bd d) L u with
        |error e=>rw[o]at h;cases h
        |ok r=>
         obtain⟨Q,m⟩:=r;rw[o]at h;simp only[GA,EB]at h;rw[<-h.1];exact⟨⟨g,Or.inr ⟨rfl,⟨b,i⟩,rfl⟩⟩,oD (P:=R1) (fun a x y c e=>(ih a c x y e).1) o⟩
def ZO(h:Ef s=.ok p):R1 p/\∀r∈p.parts,R1 r:=by
 unfold Ef at h;split at h
 ·cases h
 cases H:Bd 4 40 s with
 |error e=>rw[H]at h;cases h
 |ok r=>
  obtain⟨q,n⟩:=r;rw[H]at h;have:q=p:=by simpa[Except.map]using h
  rw[<-this];exact ZN _ _ _ _ _ H
def R1.leaf(h:R1 q)(m:q.many=false):zF q:=by
 obtain⟨a,H|H⟩:=h
 ·exact⟨a,H.2.1,H.1,H.2.2⟩
 rw[m]at H;exact absurd H.1 ae
def ZP(h:Bo H=some (some B)):∃v m p,Aj H C2=some v/\Ay v=some (m,p)/\hasPrefix m Mb=true/\Cc p Ch=some B/\Km B=false:=by
 unfold Bo at h;cases g:Aj H C2 with
 |none=>rw[g]at h;cases h
 |some v=>
  rw[g]at h;simp only at h;cases k:Ay v with
  |none=>rw[k]at h;cases h
  |some x=>
   obtain⟨m,p⟩:=x;rw[k]at h;simp only at h;split at h
   ·rename_i c;cases a:Cc p Ch with
    |none=>rw[a]at h;cases h
    |some b=>
     rw[a]at h;simp only at h;split at h
     ·cases h
     rename_i d;simp at h;subst h;exact⟨v,m,p,rfl,k,c,a,by simpa using d⟩
   simp at h
end Go.Proofs.YtignjjnflcpiiaaGreatDoor
namespace Go.Proofs.YtignjjnflcpiiaaGreatDoor
open Go Go.RowKit Proofs.Tryz Lib
def bM(h:List A4)(l:List Bs):Bs:=((D7 (Eg (C8 h) (Cu l))).getD [])++(Eo (Cu l) l++45::45::(Cu l++[45,45,13,10]))
def bN(h:List A4)(body:Bs):Bs:=((D7 (C8 h++[(Bn,(Cv body).1)])).getD [])++(Cv body).2
def R2(h:List A4)(body:Bs)(m:Bool)(l:List Bs):Bs:=if m then bM h l else bN h body
def Nb(h:List A4)(body:Bs)(m:Bool)(n:Nat):Bool:=Ck h&&(match Bo h with
 |none=>false
 |some o=>(o.isSome==m)&&(!(m&&!body.isEmpty)&&!(!m&&decide (0<n))))
def ZQ(d L:Nat)(h:List A4)(body:Bs)(m:Bool)(ps:List A7):Bh (d+1) (L+1) (.mk h body m ps)=if Nb h body m ps.length=false then .error 1 else match Bz (Bh d) L ps with
  | .error e=>.error e
  | .ok (l,n)=>.ok (R2 h body m l,n):=by
 cases H:Ck h with
 |false=>
  have a:Nb h body m ps.length=false:=by unfold Nb;rw[H];rfl
  rw[AN a];unfold Bh;rw[AN H]
 |true=>
  cases b:Bo h with
  |none=>
   have a:Nb h body m ps.length=false:=by unfold Nb;rw[H,b];rfl
   rw[AN a];unfold Bh;rw[AL (by rw[H];decide),b]
  |some o=>
   have a:Nb h body m ps.length=((o.isSome==m)&&(!(m&&!body.isEmpty)&&!(!m&&decide (0<ps.length)))):=by unfold Nb;rw[H,b];rfl
   rw[a];cases m with
   |false=>
    rw[mT,AL (by rw[H];decide),b];cases o with
    |some B=>simp
    |none=>
     cases ps with
     |cons p ps=>simp
     |nil=>
      obtain⟨t,g⟩:=gF (zC (iV (fun f=>!(A2 f.1==A2 Bn)) H) (zE body));have w:Qk h body=some (bN h body):=by
       unfold Qk bN;rw[(ca:C8 h=h.filter (fun f=>!(A2 f.1==A2 Bn))),g];rfl
      rw[w];simp[Bz,R2]
   |true=>
    rw[nM,AL (by rw[H];decide),b];cases o with
    |none=>simp
    |some B=>
     cases body with
     |cons c body=>simp
     |nil=>
      obtain⟨v,M,P,i,k,z,A,_⟩:=ZP b;have j:∀l,Pj h l=some (bM h l):=fun l=>by
       obtain⟨C,D,E⟩:=zH l;obtain⟨O,q⟩:=xM k;obtain⟨V,W,F,r⟩:=xJ O (iW (n:=Ch) C q);have s:Fa v (Cu l)=V:=by
        unfold Fa;rw[k];simp only[DA];rw[W];rfl
       have u:Aj (C8 h) C2=some v:=by rw[zB h (fun h=>zA h.symm),i]
       have y:Ck (Eg (C8 h) (Cu l))=true:=iX (v:=v) (by rw[s];exact r) (iV _ H) u;obtain⟨t,g⟩:=gF y;unfold Pj bM;rw[g];rfl
      simp only[j];simp only[EE,ne_eq,not_true_eq_false,DM,R2,DK];cases Bz (Bh d) L ps with
      |error e=>simp
      |ok x=>simp
def D0(m n:Bool)(b:Bs)(l:List A4):List A4:=if(m&&!n)=true then Eg (C8 l) b else C8 l
def ZR(m n:Bool)(b:Bs):D0 m n b []=[]:=by cases m<;>cases n<;>rfl
variable {l:List A4}{f:A4}{b:Bs}{m n:Bool}
def ZS(h:(A2 f.1==A2 Bn)=true):D0 m n b (f::l)=D0 m n b l:=by
 have:C8 (f::l)=C8 l:=by unfold C8;rw[DB,h];rfl
 unfold D0;rw[this]
def oE(h:(A2 f.1==A2 Bn)=false):C8 (f::l)=f::C8 l:=by unfold C8;rw[DB,h];rfl
def ZT(h:(A2 f.1==A2 Bn)=false)(H:((m&&!n)&&(A2 f.1==A2 C2))=false):D0 m n b (f::l)=f::D0 m n b l:=by
 unfold D0;rw[oE h];cases a:(m&&!n)with
 |false=>rfl
 |true=>
  rw[a,FR]at H;rw[AN rfl,AN rfl,Eg,AL el]
def ZU(h:(A2 f.1==A2 Bn)=false)(H:(A2 f.1==A2 C2)=true):D0 true false b (f::l)=(f.1,Fa f.2 b)::D0 true true b l:=by
 unfold D0;rw[oE h];simp only[EN,Bool.and_self,DK,EK,IV,CC,DM];rw[Eg,AN el]
def ZV(h:List A4)(body:Bs)(m:Bool)(l:List Bs):R2 h body m l=if m then((D7 (D0 m false (Cu l) h)).getD [])++(Eo (Cu l) l++45::45::(Cu l++[45,45,13,10]))else((D7 (D0 m false (Cu l) h++[(Bn,(Cv body).1)])).getD [])++(Cv body).2:=by
 cases m<;>rfl
end Go.Proofs.YtignjjnflcpiiaaGreatDoor
namespace Go.Proofs.YtignjjnflcpiiaaGreatDoor
open Go Go.RowKit Proofs.Tryz Lib
def J0(n:Nat):UInt8:=([48,49,50,51,52,53,54,55,56,57,97,98,99,100,101,102]:Bs).getD n 0
def Lm(c:UInt8):Bool:=decide (c<33)||decide (126<c)||c==37
def Fy(c:UInt8):Bs:=if Lm c then[37,J0 (c.toNat/16),J0 (c.toNat%16)]else[c]
def C1(s:Bs):Bs:=34::(s.flatMap Fy++[34])
def E4(s:Bs):Option Int:=match atoiAll s with
 | .ok n=>if itoa n=s then some n else none
 |_=>none
def Ec:Bs->Bs->List Bs
 |[],[]=>[]
 |x::l,[]=>[x::l]
 |[],c::s=>if c=32 then Ec [] s else Ec [c] s
 |x::l,c::s=>if c=32 then(x::l)::Ec [] s else Ec (x::l++[c]) s
def I8(s:Bs):List Bs:=Ec [] s
structure Ap where
 bundle:Option Al
 said:Bs
abbrev Ff:=Except Int Bs
def Kb(a:Bs):Bs:=105::115::32::a
def D4(l:List Bs):Bs:=join l [44,32]
def Ax(l:List Bs):Bs:=join l [32]
def Kx:Bs:=[97,100,100]
def Jj:Bs:=[97,116]
def Ln:Bs:=[98,105,110,100]
def Mn:Bs:=[100,111,116,115]
def Lo:Bs:=[102,105,110,100]
def Mo:Bs:=[104,101,108,112]
def Kc:Bs:=[107,105,110,100]
def Ik:Bs:=[108,101,97,100]
def Lp:Bs:=[108,105,110,107,115]
def Ky:Bs:=[111,112,101,110]
def Mp:Bs:=[112,97,99,107]
def Kz:Bs:=[112,97,114,116,115]
def Mq:Bs:=[113,117,111,116,101]
def L0:Bs:=[114,101,115,111,108,118,101]
def Mr:Bs:=[117,110,112,97,99,107]
def Ms:Bs:=[117,110,113,117,111,116,101]
def bO:Bs:=[97,100,100,32,97,116,32,98,105,110,100,32,100,111,116,115,32,102,105,110,100,32,104,101,108,112,32,107,105,110,100,32,108,101,97,100,32,108,105,110,107,115,32,111,112,101,110,32,112,97,99,107,32,112,97,114,116,115,32,113,117,111,116,101,32,114,101,115,111,108,118,101,32,117,110,112,97,99,107,32,117,110,113,117,111,116,101]
def bP(d:Ap)(w:List Bs):Ap×Ff:=(⟨d.bundle,d.said++(Ax w++[13,10])⟩,.ok Kx)
def G7(d:Ap)(w:List Bs):Ff:=if w.length≠1 then .error 3 else match d.bundle with
 |none=>.error 7
 |some b=>match E4 (w.getD 0 [])with
  |none=>.error 3
  |some n=>match Hw b n with
   |none=>.error 2
   |some a=>.ok (Kb (Ea a))
def G8(d:Ap)(w:List Bs):Ff:=if w.length≠0 then .error 3 else match d.bundle with
 |none=>.error 7
 |some b=>match Jz b with
  | .error e=>.error e
  | .ok s=>.ok (C1 s)
def Nc(w:List Bs):Ff:=if w.length≠1 then .error 3 else .ok (Kb (Fh (w.getD 0 [])))
def Hf(d:Ap)(w:List Bs):Ff:=if w.length≠1 then .error 3 else match d.bundle with
 |none=>.error 7
 |some b=>match Be (w.getD 0 [])with
  |none=>.error 3
  |some a=>.ok (itoa (D8 b a))
def L1(w:List Bs):Ff:=if w.length≠0 then .error 3 else .ok bO
def Nd(w:List Bs):Ff:=match Ay (Ax w)with
 |none=>.error 3
 |some (m,l)=>match Cl m l with
  |none=>.error 1
  |some s=>.ok s
def F5(x:Bs×Int):Bs:=C1 x.1++32::itoa x.2
def G9(d:Ap)(w:List Bs):Ff:=if w.length≠1 then .error 3 else match d.bundle with
 |none=>.error 7
 |some b=>match E4 (w.getD 0 [])with
  |none=>.error 3
  |some n=>match Ca b n with
   |none=>.error 2
   |some l=>.ok (108::101::97::100::115::32::D4 (l.map F5))
def Hg(x:Av):Bs:=itoa x.1++32::(itoa x.2.1++32::C1 x.2.2)
def R3(w:List Bs):Ff:=.ok (108::105::110::107::115::32::D4 ((Bf (Ax w)).map Hg))
def Gn(d:Ap)(w:List Bs):Ap×Ff:=if w.length≠0 then(d,.error 3)else match C4 d.said with
 | .error e=>(⟨d.bundle,[]⟩,.error e)
 | .ok b=>(⟨some b,[]⟩,.ok (itoa b.whole.parts.length++32::itoa b.root))
def Um(w:List Bs):Ff:=.ok (C1 (Dn (Ax w)))
def Un(w:List Bs):Ff:=.ok (C1 (E5 (Ax w)))
def Gp(p:A7):Bs:=itoa p.head.length++32::C1 p.body
def Hi(d:Ap)(w:List Bs):Ff:=if w.length≠0 then .error 3 else match d.bundle with
 |none=>.error 7
 |some b=>.ok (112::97::114::116::115::32::D4 (b.whole.parts.map Gp))
def Lq(w:List Bs):Ff:=if w.length≠2 then .error 3 else match Be (w.getD 0 [])with
 |none=>.error 3
 |some a=>match Be (w.getD 1 [])with
  |none=>.error 3
  |some b=>.ok (Kb (Ea (Ar a b)))
def Lr(w:List Bs):Ff:=match Dr (Ax w)with
 |none=>.error 3
 |some s=>.ok (C1 s)
def Ls(w:List Bs):Ff:=match Df (Ax w)with
 |none=>.error 3
 |some s=>.ok (C1 s)
def Cd(d:Ap)(n:Bs)(w:List Bs):Ap×Ff:=
 if n=Kx then bP d w else if n=Jj then(d,G7 d w)else if n=Ln then(d,G8 d w)else if n=Mn then(d,Nc w)
 else if n=Lo then(d,Hf d w)else if n=Mo then(d,L1 w)else if n=Kc then(d,Nd w)else if n=Ik then(d,G9 d w)
 else if n=Lp then(d,R3 w)else if n=Ky then Gn d w else if n=Mp then(d,Um w)else if n=Kz then(d,Hi d w)
 else if n=Mq then(d,Un w)else if n=L0 then(d,Lq w)else if n=Mr then(d,Lr w)else if n=Ms then(d,Ls w)
 else(d,.error 3)
def Nf(e:Int):Bs:=101::114::114::111::114::32::itoa e
def R4:Ff->Bs
 | .ok s=>s
 | .error e=>Nf e
def Cb(d:Ap)(s:Bs):Ap×Bs:=match I8 s with
 |[]=>(d,[111,107])
 |n::w=>((Cd d n w).1,R4 (Cd d n w).2)
def Ed:Ap->List Bs->Bs
 |_,[]=>[]
 |d,s::l=>(Cb d s).2++10::Ed (Cb d s).1 l
def oF(n:Nat)(h:n<16):(⟨#[48,49,50,51,52,53,54,55,56,57,97,98,99,100,101,102]⟩:ByteArray)[n]' xy=J0 n:=by
 show _=([48,49,50,51,52,53,54,55,56,57,97,98,99,100,101,102]:Bs).getD n 0;rw[AM,BC (show n<([48,49,50,51,52,53,54,55,56,57,97,98,99,100,101,102]:Bs).length from h)];rfl
def ZW:((List.range 256).all fun n=>Lm n.toUInt8==(decide ((n.toUInt8.toNat:Int)<33)||decide (126<(n.toUInt8.toNat:Int))||((n.toUInt8.toNat:Int)==37)))=true:=af
def ZX(c:UInt8):Lm c=(decide ((c.toNat:Int)<33)||decide (126<(c.toNat:Int))||((c.toNat:Int)==37)):=by
 have:=AW.1 ZW c.toNat (BT.2 c.toNat_lt);rw[Rl]at this;exact BL.1 this
def oG(c:UInt8):(Fy c).length<=3:=by unfold Fy;split<;>simp
def oH(s:Bs):(s.flatMap Fy).length<=3*s.length:=by
 induction s with
 |nil=>simp
 |cons c s ih=>have:=oG c;rw[BV,AJ,AK];omega
def L2(s:Bs):(C1 s).length<=3*s.length+2:=by
 have:=oH s;unfold C1;simp only[AK,AJ,BG];omega
def Ps(s:Bs)(w:World)(hl:s.length<=1000000000000):Calls prog 280 #[s] w fun e E=>e=.returned (C1 s)/\Below w.heap.size w E:=by
 have hT:=oH s;have m:=P6 w;have T:=AE (ca:C1 s=34::(s.flatMap Fy++[34]));have b:=(AG w.heap.size w).alloc (AF _) (.cells #[.pointer none,.slice none 0 0] 128);go_enter func280,ntmps280;go_upto_region 2 with fail;generalize World.alloc _ _=W at m b|-;go_wp2_with fail;with_reducible refine(Mx w.heap.size w.heap.size [] 34 34 rfl W m ah b.size).mono ?_
 rintro e u⟨rfl,v,a⟩;have y:=b.trans a;clear m b a;go_wp2_with fail;go_loopw[9] (fun i wr=>∃(k:Nat)(o:Bs),i=k/\k<=s.length/\Hid (o++(s.drop k).flatMap Fy=34::s.flatMap Fy)/\E6 w.heap.size w.heap.size o wr/\Below w.heap.size w wr) (fun i _=>s.length-(intOf i).toNat)
 case atStart=>exact⟨0,[34],rfl,aa,AE ah,v,y⟩
 clear v y;obtain⟨k,o,rfl,hk,d,h,B⟩:=hrel;have F:o.length+((s.drop k).flatMap Fy).length=(s.flatMap Fy).length+1:=by
  have:=CI List.length d.o;simpa using this
 by_cases I:k<s.length
 ·have L:=AE (Q7 I);have j:=AE (show(o++Fy s[k])++(s.drop (k+1)).flatMap Fy=34::s.flatMap Fy from by
   rw[<-d.o,L.o,BV];simp)
  have z:(s[k].toNat:Int)<256:=ku
  have J:=s[k].toNat_lt;clear L d;go_upto_region 7 with fail;generalize s[k]=c at z J j|-;have S:=AE (ZX c);have H:=AE (ca:Fy c=if Lm c then[37,J0 (c.toNat/16),J0 (c.toNat%16)]else[c]);go_cut[24] (fun t K=>t=.bool (Lm c)/\K=wr)
  case first=>
   clear j F h B H;have a1:(0:Int)<=c.toNat:=aa
   by_cases A:(c.toNat:Int)<33
   ·go_wp2;go_meet;exact⟨by rw[S.o];simp[A],rfl⟩
   by_cases C:(126:Int)<c.toNat
   ·go_wp2;go_meet;exact⟨by rw[S.o];simp[C],rfl⟩
   by_cases l:(c.toNat:Int)=37
   ·have n:((c.toNat:Int)==37)=true:=by rw[BL];exact l
    have p:=AE (by rw[S.o,n];simp:Lm c=true);clear l;go_wp2;go_meet;exact⟨by rw[p.o],rfl⟩
   have n:((c.toNat:Int)==37)=false:=by rw[AI];exact l
   have p:=AE (by rw[S.o,n];simp[A,C]:Lm c=false);clear l;go_wp2;go_meet;exact⟨by rw[p.o],rfl⟩
  case rest=>
  obtain⟨rfl,rfl⟩:=hcut;obtain⟨W,rfl⟩:∃x:World,x=wc:=⟨_,rfl⟩;generalize Lm c=M at H|-;have a2:=oG c;cases M with
  |false=>
   have H:=AE (show Fy c=[c]from H.o);go_wp2_with fail;with_reducible refine(Mx w.heap.size w.heap.size o (c.toNat:Int) c rfl W h aa B.size).mono ?_
   rintro e u⟨rfl,h,a⟩;go_wp2;go_roundw
   case rel=>exact⟨k+1,o++[c],aj,aa,AE (by rw[<-j.o,H.o]),h,B.trans a⟩
   simp[intOf];omega
  |true=>
   have H:=AE (show Fy c=[37,J0 (c.toNat/16),J0 (c.toNat%16)]from H.o);have f:c.toNat/16<16:=aa
   have g:c.toNat%16<16:=aa
   have Q:(c.toNat:Int)/16=((c.toNat/16:Nat):Int):=aa
   have O:Go.bits .and .u8 (c.toNat:Int) 15=((c.toNat%16:Nat):Int):=(u8_and15 _ aa z).trans aa;have G:=AE (oF (c.toNat/16) f);have D:=AE (oF (c.toNat%16) g);have P:((c.toNat/16:Nat):Int)<16:=aa
   have R:((c.toNat%16:Nat):Int)<16:=aa
   generalize c.toNat/16=N at f Q G H P;generalize c.toNat%16=q at g O D H R;go_upto_region 8 with fail;have b:=((AG w.heap.size W).alloc B.size (.cells #[.int .u8 ((⟨#[48,49,50,51,52,53,54,55,56,57,97,98,99,100,101,102]⟩:ByteArray)[N]'(by exact f)).toNat,.int .u8 ((⟨#[48,49,50,51,52,53,54,55,56,57,97,98,99,100,101,102]⟩:ByteArray)[q]'(by exact g)).toNat] 5)).drew;have U:=(h.next (((AG W.heap.size W).alloc (AF _) (.cells #[.int .u8 ((⟨#[48,49,50,51,52,53,54,55,56,57,97,98,99,100,101,102]⟩:ByteArray)[N]'(by exact f)).toNat,.int .u8 ((⟨#[48,49,50,51,52,53,54,55,56,57,97,98,99,100,101,102]⟩:ByteArray)[q]'(by exact g)).toNat] 5)).drew));have V:=Kg w.heap.size w.heap.size o [37,(⟨#[48,49,50,51,52,53,54,55,56,57,97,98,99,100,101,102]⟩:ByteArray)[N]'(by exact f),(⟨#[48,49,50,51,52,53,54,55,56,57,97,98,99,100,101,102]⟩:ByteArray)[q]'(by exact g)] _ U ag (AV B.size b.size);go_region_law((go_simp;refine V.mono ?_;rintro e w9⟨rfl,X,Y⟩));all_goals
    go_wp2;go_roundw
    case rel=>exact⟨k+1,_,aj,aa,AE (by rw[<-j.o,H.o,<-G.o,<-D.o]),X,(B.trans b).trans Y⟩
    simp[intOf];omega
 obtain rfl:k=s.length:=aa
 have r:o=34::s.flatMap Fy:=by have:=d.o;rw[AS]at this;simpa using this
 have Z:=AE (by rw[T.o,r];rfl:C1 s=o++[34]);have a3:o.length<=3*s.length+1:=by rw[r];simp only[AK];omega
 clear d r T;go_wp2_with fail;with_reducible refine(Mx w.heap.size w.heap.size o 34 34 rfl wr h aa B.size).mono ?_
 rintro e u⟨rfl,h,a⟩;go_wp2_with fail;with_reducible refine(Q5 _ _ _ _ h (B.trans a).size).mono ?_
 rintro e w3⟨rfl,a0⟩;go_wp2;go_ret;exact⟨Hz Z.o.symm,(B.trans a).trans a0⟩
variable {α β:Type}
def Ev(r:Except Int α):Prop:=∀e,r=.error e->1<=e/\e<=1000
def Fz(x:α):Ev (.ok x):=fun _ h=>ee
def F6(n:Int)(h0:1<=n)(H:n<=1000):Ev (.error n:Except Int α):=fun e h=>by cases h;exact⟨h0,H⟩
def Ga{r:Except Int α}{e:Int}(h:Ev r)(H:r=.error e):Ev (.error e:Except Int β):=F6 e (h e H).1 (h e H).2
def ZY(l:List A4)(s:Bs):Ev (Dd l s):=by
 unfold Dd;repeat' split
 all_goals first|exact Fz _|exact F6 _ ae ae
theorem bQ{α β:Type}(f:Nat->α->Except Int (β×Nat))(H:∀n x,Ev (f n x)):∀(l:List α)(n:Nat),Ev (Bz f n l)
 |[],_=>by unfold Bz;exact Fz _
 |x::l,n=>by
  unfold Bz;split
  ·exact Ga (H n x) ax
  split
  ·rename_i h;exact Ga (bQ f H l _) h
  exact Fz _
theorem oI:∀(d l:Nat)(s:Bs),Ev (Bd d l s)
 |0,_,_=>by unfold Bd;exact F6 _ ae ae
 |_+1,0,_=>by unfold Bd;exact F6 _ ae ae
 |d+1,l+1,s=>by
  unfold Bd;repeat' split
  all_goals first|exact Fz _|exact F6 _ ae ae|(rename_i h;exact Ga (ZY _ _) h)|(rename_i h;exact Ga (bQ _ (fun n x=>oI d n x) _ _) h)
def ZZ(s:Bs):Ev (Ef s):=by
 unfold Ef;split
 ·exact F6 _ ae ae
 cases h:Bd 4 40 s with
 |error e=>exact Ga (oI 4 40 s) h
 |ok x=>exact Fz _
def bc(s:Bs):Ev (C4 s):=by
 unfold C4 Iz;split
 ·rename_i h;exact Ga (ZZ s) h
 repeat' split
 all_goals first|exact Fz _|exact F6 _ ae ae
theorem oJ:∀(d l:Nat)(p:A7),Ev (Bh d l p)
 |0,_,_=>by unfold Bh;exact F6 _ ae ae
 |_+1,0,_=>by unfold Bh;exact F6 _ ae ae
 |d+1,l+1,.mk _ _ _ _=>by
  unfold Bh;repeat' split
  all_goals first|exact Fz _|exact F6 _ ae ae|(rename_i h;exact Ga (bQ _ (fun n x=>oJ d n x) _ _) h)
def L3(b:Al):Ev (Jz b):=by
 unfold Jz Iu;split
 ·rename_i h;exact Ga (oJ 4 40 _) h
 split
 ·exact F6 _ ae ae
 exact Fz _
def bf(d:Ap)(w:List Bs):Ev (G7 d w):=by
 unfold G7;repeat' split
 all_goals first|exact Fz _|exact F6 _ ae ae|(rename_i h;exact Ga (L3 _) h)
def bh(d:Ap)(w:List Bs):Ev (G8 d w):=by
 unfold G8;repeat' split
 all_goals first|exact Fz _|exact F6 _ ae ae|(rename_i h;exact Ga (L3 _) h)
def bj(w:List Bs):Ev (Nc w):=by
 unfold Nc;repeat' split
 all_goals first|exact Fz _|exact F6 _ ae ae|(rename_i h;exact Ga (L3 _) h)
def bl(d:Ap)(w:List Bs):Ev (Hf d w):=by
 unfold Hf;repeat' split
 all_goals first|exact Fz _|exact F6 _ ae ae|(rename_i h;exact Ga (L3 _) h)
def bn(w:List Bs):Ev (L1 w):=by
 unfold L1;repeat' split
 all_goals first|exact Fz _|exact F6 _ ae ae|(rename_i h;exact Ga (L3 _) h)
def br(w:List Bs):Ev (Nd w):=by
 unfold Nd;repeat' split
 all_goals first|exact Fz _|exact F6 _ ae ae|(rename_i h;exact Ga (L3 _) h)
def bx(d:Ap)(w:List Bs):Ev (G9 d w):=by
 unfold G9;repeat' split
 all_goals first|exact Fz _|exact F6 _ ae ae|(rename_i h;exact Ga (L3 _) h)
def cc(w:List Bs):Ev (R3 w):=by
 unfold R3;repeat' split
 all_goals first|exact Fz _|exact F6 _ ae ae|(rename_i h;exact Ga (L3 _) h)
def cd(w:List Bs):Ev (Um w):=by
 unfold Um;repeat' split
 all_goals first|exact Fz _|exact F6 _ ae ae|(rename_i h;exact Ga (L3 _) h)
def cf(d:Ap)(w:List Bs):Ev (Hi d w):=by
 unfold Hi;repeat' split
 all_goals first|exact Fz _|exact F6 _ ae ae|(rename_i h;exact Ga (L3 _) h)
def cg(w:List Bs):Ev (Un w):=by
 unfold Un;repeat' split
 all_goals first|exact Fz _|exact F6 _ ae ae|(rename_i h;exact Ga (L3 _) h)
def cj(w:List Bs):Ev (Lq w):=by
 unfold Lq;repeat' split
 all_goals first|exact Fz _|exact F6 _ ae ae|(rename_i h;exact Ga (L3 _) h)
def cn(w:List Bs):Ev (Lr w):=by
 unfold Lr;repeat' split
 all_goals first|exact Fz _|exact F6 _ ae ae|(rename_i h;exact Ga (L3 _) h)
def cq(w:List Bs):Ev (Ls w):=by
 unfold Ls;repeat' split
 all_goals first|exact Fz _|exact F6 _ ae ae|(rename_i h;exact Ga (L3 _) h)
def cr(d:Ap)(w:List Bs):Ev (Gn d w).2:=by
 unfold Gn;by_cases h:w.length≠0
 ·rw[AN h];exact F6 _ ae ae
 rw[AL h];cases H:C4 d.said with
 |error e=>exact Ga (bc _) H
 |ok b=>exact Fz _
def Ss(n:Bs):n=Kx\/n=Jj\/n=Ln\/n=Mn\/n=Lo\/n=Mo\/n=Kc\/n=Ik\/n=Lp\/n=Ky\/n=Mp\/n=Kz\/n=Mq\/n=L0\/n=Mr\/n=Ms\/(n≠Kx/\n≠Jj/\n≠Ln/\n≠Mn/\n≠Lo/\n≠Mo/\n≠Kc/\n≠Ik/\n≠Lp/\n≠Ky/\n≠Mp/\n≠Kz/\n≠Mq/\n≠L0/\n≠Mr/\n≠Ms):=by
 by_cases h0:n=Kx
 ·exact Or.inl h0
 by_cases h:n=Jj
 ·exact Or.inr (Or.inl h)
 by_cases H:n=Ln
 ·exact Or.inr (Or.inr (Or.inl H))
 by_cases a:n=Mn
 ·exact Or.inr (Or.inr (Or.inr (Or.inl a)))
 by_cases b:n=Lo
 ·exact Or.inr (Or.inr (Or.inr (Or.inr (Or.inl b))))
 by_cases c:n=Mo
 ·exact Or.inr (Or.inr (Or.inr (Or.inr (Or.inr (Or.inl c)))))
 by_cases d:n=Kc
 ·exact Or.inr (Or.inr (Or.inr (Or.inr (Or.inr (Or.inr (Or.inl d))))))
 by_cases e:n=Ik
 ·exact Or.inr (Or.inr (Or.inr (Or.inr (Or.inr (Or.inr (Or.inr (Or.inl e)))))))
 by_cases f:n=Lp
 ·exact Or.inr (Or.inr (Or.inr (Or.inr (Or.inr (Or.inr (Or.inr (Or.inr (Or.inl f))))))))
 by_cases g:n=Ky
 ·exact Or.inr (Or.inr (Or.inr (Or.inr (Or.inr (Or.inr (Or.inr (Or.inr (Or.inr (Or.inl g)))))))))
 by_cases i:n=Mp
 ·exact Or.inr (Or.inr (Or.inr (Or.inr (Or.inr (Or.inr (Or.inr (Or.inr (Or.inr (Or.inr (Or.inl i))))))))))
 by_cases j:n=Kz
 ·exact Or.inr (Or.inr (Or.inr (Or.inr (Or.inr (Or.inr (Or.inr (Or.inr (Or.inr (Or.inr (Or.inr (Or.inl j)))))))))))
 by_cases k:n=Mq
 ·exact Or.inr (Or.inr (Or.inr (Or.inr (Or.inr (Or.inr (Or.inr (Or.inr (Or.inr (Or.inr (Or.inr (Or.inr (Or.inl k))))))))))))
 by_cases l:n=L0
 ·exact Or.inr (Or.inr (Or.inr (Or.inr (Or.inr (Or.inr (Or.inr (Or.inr (Or.inr (Or.inr (Or.inr (Or.inr (Or.inr (Or.inl l)))))))))))))
 by_cases m:n=Mr
 ·exact Or.inr (Or.inr (Or.inr (Or.inr (Or.inr (Or.inr (Or.inr (Or.inr (Or.inr (Or.inr (Or.inr (Or.inr (Or.inr (Or.inr (Or.inl m))))))))))))))
 by_cases o:n=Ms
 ·exact Or.inr (Or.inr (Or.inr (Or.inr (Or.inr (Or.inr (Or.inr (Or.inr (Or.inr (Or.inr (Or.inr (Or.inr (Or.inr (Or.inr (Or.inr (Or.inl o)))))))))))))))
 exact Or.inr (Or.inr (Or.inr (Or.inr (Or.inr (Or.inr (Or.inr (Or.inr (Or.inr (Or.inr (Or.inr (Or.inr (Or.inr (Or.inr (Or.inr (Or.inr ⟨h0,h,H,a,b,c,d,e,f,g,i,j,k,l,m,o⟩)))))))))))))))
def St{d:Ap}{n:Bs}{w:List Bs}(h:n≠Kx/\n≠Jj/\n≠Ln/\n≠Mn/\n≠Lo/\n≠Mo/\n≠Kc/\n≠Ik/\n≠Lp/\n≠Ky/\n≠Mp/\n≠Kz/\n≠Mq/\n≠L0/\n≠Mr/\n≠Ms):Cd d n w=(d,.error 3):=by
 obtain⟨h0,H,a,b,c,e,f,g,i,j,k,l,m,o,p,q⟩:=h;unfold Cd;rw[AL h0,AL H,AL a,AL b,AL c,AL e,AL f,AL g,AL i,AL j,AL k,AL l,AL m,AL o,AL p,AL q]
def bR(d:Ap)(n:Bs)(w:List Bs):Ev (Cd d n w).2:=by
 rcases Ss n with rfl|rfl|rfl|rfl|rfl|rfl|rfl|rfl|rfl|rfl|rfl|rfl|rfl|rfl|rfl|rfl|h
 ·exact Fz _
 ·exact bf d w
 ·exact bh d w
 ·exact bj w
 ·exact bl d w
 ·exact bn w
 ·exact br w
 ·exact bx d w
 ·exact cc w
 ·exact cr d w
 ·exact cd w
 ·exact cf d w
 ·exact cg w
 ·exact cj w
 ·exact cn w
 ·exact cq w
 rw[St h];exact F6 _ ae ae
end Go.Proofs.YtignjjnflcpiiaaGreatDoor
namespace Go.Proofs.YtignjjnflcpiiaaGreatDoor
open Go Go.RowKit Proofs.Tryz Lib
def oK{n:Nat}(h:n<256):IntKind.u8.wrap (n:Int)=n:=by unfold IntKind.wrap;simp[IntKind.bits,IntKind.signed];omega
def cw:((List.range 16).all fun n=>Bx (Mv n)==J0 n)=true:=af
def oL{n:Nat}(h:n<16):Bx (Mv n)=J0 n:=BL.1 (AW.1 cw n (BT.2 h))
def cx(c:UInt8):(!(Lm c))=((decide (33<=(c.toNat:Int))&&decide ((c.toNat:Int)<=126))&&!((c.toNat:Int)==37)):=by
 have h:((List.range 256).all fun n=>(!(Lm n.toUInt8))==((decide ((33:Int)<=(n.toUInt8.toNat:Int))&&decide ((n.toUInt8.toNat:Int)<=126))&&!((n.toUInt8.toNat:Int)==37)))=true:=af
 have:=AW.1 h c.toNat (BT.2 c.toNat_lt);rw[show c.toNat.toUInt8=c by simp]at this;exact BL.1 this
def Ov(s:Bs)(w:World)(J:s.length<=1000000000000):Calls prog 156 #[s] w fun e p=>e=.returned (C1 s)/\Below w.heap.size w p:=by
 go_enter func156,ntmps156;go_wp2_with fail;go_loopw[3,8] (fun o i wr=>∃(k:Nat)(O:Bs),i=k/\k<=s.length/\o=O/\O.length<=3*k+1/\Hid (O++(s.drop k).flatMap Fy=34::s.flatMap Fy)/\Below w.heap.size w wr) (fun _ i _=>s.length-(intOf i).toNat)
 case atStart=>exact⟨0,[34],rfl,aa,rfl,ah,AE ah,AG _ _⟩
 obtain⟨k,O,rfl,K,rfl,M,b,B⟩:=hrel;by_cases r:k<s.length
 ·have L:=AE (Q7 r);have T:=AE (show(O++Fy s[k])++(s.drop (k+1)).flatMap Fy=34::s.flatMap Fy from by
   rw[<-b.o,L.o,BV];simp)
  have d:=AE (by rw[L.o];rfl:(s.drop k).take 1=[s[k]]);have u:(s[k].toNat:Int)<256:=ku
  clear L b;go_upto_region 6 with fail;generalize s[k]=c at u T d|-;have S:=AE (cx c);have H:=AE (ca:Fy c=if Lm c then[37,J0 (c.toNat/16),J0 (c.toNat%16)]else[c]);have hI:=Ju (c.toNat:Int) 33 126 wr;go_cut[20] (fun t x=>t=.bool (!(Lm c))/\x=wr)
  case first=>
   generalize(decide (33<=(c.toNat:Int))&&decide ((c.toNat:Int)<=126))=q at hI S;cases q with
   |false=>
    go_wp2_with fail;with_reducible refine hI.mono ?_
    rintro e W⟨rfl,rfl⟩;go_wp2;go_meet;exact⟨by rw[S.o];rfl,rfl⟩
   |true=>
    cases g:((c.toNat:Int)!=37)with
    |false=>
     have f:=AE (Qt g);go_wp2_with fail;with_reducible refine hI.mono ?_
     rintro e W⟨rfl,rfl⟩;go_wp2;go_meet;exact⟨by rw[S.o,f.o];rfl,rfl⟩
    |true=>
     have f:=AE (Qs g);go_wp2_with fail;with_reducible refine hI.mono ?_
     rintro e W⟨rfl,rfl⟩;go_wp2;go_meet;exact⟨by rw[S.o,f.o];rfl,rfl⟩
  case rest=>
  obtain⟨rfl,j⟩:=hcut;obtain rfl:=j.symm;clear j hI S;generalize Lm c=v at H|-;cases v with
  |false=>
   have H:=AE (show Fy c=[c]from H.o);go_wp2;go_roundw
   case rel=>exact⟨k+1,O++(s.drop k).take 1,aj,aa,rfl,by rw[d.o];simp;omega,AE (by rw[<-T.o,H.o,d.o]),B⟩
   simp[intOf];omega
  |true=>
   have H:=AE (show Fy c=[37,J0 (c.toNat/16),J0 (c.toNat%16)]from H.o);have h:c.toNat/16<16:=aa
   have a:c.toNat%16<16:=aa
   have Q:(c.toNat:Int)/16=((c.toNat/16:Nat):Int):=aa
   have y:(c.toNat:Int).tmod 16=((c.toNat%16:Nat):Int):=by rw[Int.tmod_eq_emod_of_nonneg aa];omega
   have V:IntKind.u8.wrap ((c.toNat/16:Nat):Int)=((c.toNat/16:Nat):Int):=oK aa;have z:IntKind.u8.wrap ((c.toNat%16:Nat):Int)=((c.toNat%16:Nat):Int):=oK aa;have G:=AE (Rm (c.toNat/16) h);have l:=AE (Rm (c.toNat%16) a);have C:((c.toNat/16:Nat):Int)<16:=aa
   have D:((c.toNat%16:Nat):Int)<16:=aa
   generalize c.toNat/16=n at h Q G H C V;generalize c.toNat%16=N at a y l H D z;have A:=((AG w.heap.size wr).alloc B.size (.cells #[.int .u8 ((⟨#[48,49,50,51,52,53,54,55,56,57,65,66,67,68,69,70]⟩:ByteArray)[n]' xy).toNat,.int .u8 ((⟨#[48,49,50,51,52,53,54,55,56,57,65,66,67,68,69,70]⟩:ByteArray)[N]'(by exact a)).toNat] 5)).drew;have m:=Ix [(⟨#[48,49,50,51,52,53,54,55,56,57,65,66,67,68,69,70]⟩:ByteArray)[n]' xy,(⟨#[48,49,50,51,52,53,54,55,56,57,65,66,67,68,69,70]⟩:ByteArray)[N]'(by exact a)] (wr.alloc (.cells #[.int .u8 ((⟨#[48,49,50,51,52,53,54,55,56,57,65,66,67,68,69,70]⟩:ByteArray)[n]' xy).toNat,.int .u8 ((⟨#[48,49,50,51,52,53,54,55,56,57,65,66,67,68,69,70]⟩:ByteArray)[N]'(by exact a)).toNat] 5)).drew ah;have E:=AE (show A2 [(⟨#[48,49,50,51,52,53,54,55,56,57,65,66,67,68,69,70]⟩:ByteArray)[n]' xy,(⟨#[48,49,50,51,52,53,54,55,56,57,65,66,67,68,69,70]⟩:ByteArray)[N]'(by exact a)]=[J0 n,J0 N]from by
    rw[G.o,l.o];show[Bx (Mv n),Bx (Mv N)]=_;rw[oL h,oL a])
   rw[E.o]at m;have Z:¬9223372036854775807<O.length+3:=aa
   go_upto_region 8 with fail;go_region_law((go_simp;refine m.mono ?_;rintro e P⟨rfl,F⟩));all_goals
    go_wp2;go_roundw
    case rel=>exact⟨k+1,O++[37,J0 n,J0 N],aj,aa,ah,ag,AE (by rw[<-T.o,H.o]),(B.trans A).trans (F.mono (B.trans A).size)⟩
    simp[intOf];omega
 obtain rfl:k=s.length:=aa
 have I:=AE (show C1 s=O++[34]from by
  have:=b.o;rw[AS,List.flatMap_nil,BU]at this;rw[this];rfl)
 go_wp2;go_ret;exact⟨by rw[I.o];rfl,B⟩
def O7(B:Nat)(w0 w:World)(r:Nat)(k:List Bs)(v:List Value):Prop:=B≤r∧Below B w0 w∧k.length=v.length∧∃E:Array MapEntry,w.heap[r]?=some (.map E E.size)∧E.toList.map (fun e=>(e.key,e.val))=(k.zip v).map (fun x=>(.string ⟨x.1.toArray⟩,x.2))
def O7.new(w:World):O7 w.heap.size w (w.alloc (.map #[] 0)) w.heap.size [] []:=⟨AF _,(AG _ _).alloc (AF _) _,rfl,#[],IY w _,rfl⟩
def Ci:List Bs->List Value->Bs->Option Value
 |k::K,v::V,n=>if n=k then some v else Ci K V n
 |_,_,_=>none
def cz(a b:Bs):((ByteArray.mk a.toArray)==(ByteArray.mk b.toArray))=decide (a=b):=by
 by_cases h:a=b
 ·subst h;rw[BH rfl];exact(MapKept.bytes_beq _ _).2 rfl
 rw[AY h];refine AT.2 fun e=>h ?_
 have e:=(MapKept.bytes_beq _ _).1 e;injection e with e;simpa using e
theorem Uo(n:Bs):∀(K:List Bs)(V:List Value)(E:List MapEntry)(i:Nat),K.length=V.length→E.map (fun e=>(e.key,e.val))=(K.zip V).map (fun x=>(.string ⟨x.1.toArray⟩,x.2))→∃a,Instr.findNow .string (.string ⟨n.toArray⟩) E i=some a∧a.map (·.2)=Ci K V n
 |[],_,[],_,_,_=>⟨none,rfl,by cases‹List Value›<;>rfl⟩
 |[],_,_::_,_,_,h=>by simp at h
 |_::_,[],_,_,l,_=>by simp at l
 |_::_,_::_,[],_,_,h=>by simp at h
 |k::K,v::V,e::E,i,l,h=>by
  simp only[CD,KC,List.cons.injEq,EB]at h;obtain⟨⟨b,c⟩,d⟩:=h;unfold Instr.findNow Ci;rw[b];simp only[Instr.sameNow];rw[cz];by_cases H:n=k
  ·rw[BH H,AN H];exact⟨some (i,e.val),rfl,by rw[c];rfl⟩
  rw[AY H,AL H];exact Uo n K V E (i+1) (by simpa using l) d
theorem bS{n:Bs}:∀{K:List Bs}{V:List Value},K.contains n=false->Ci K V n=none
 |[],_,_=>by cases‹List Value›<;>rfl
 |_::_,[],_=>rfl
 |k::K,v::V,h=>by
  rw[KG]at h;rw[JP]at h;unfold Ci;rw[AL (by simpa using h.1)];exact bS h.2
def dc{O:Array Oper}{rest:List Oper}{o:Oper}{a:Act}{w:World}{Q:Exit->Act->World->Prop}(B:Nat)(w0:World)(r:Nat)(s:List Bs)(V:List Value)(k:Bs)(v:Value)
  (g:o.guard=none) (m x y:Operand) (p:o.op=Op.insert 293 m x y) (j:a.eval m=.map (some r)) (n:a.eval x=k) (q:a.eval y=v) (u:s.contains k=false) (M:O7 B w0 w r s V)
  (h:∀W,O7 B w0 W r (s++[k]) (V++[v])->wpList prog O Q rest (a.put o.dst undef) W):wpList prog O Q (o::rest) a w:=by
 obtain⟨z,H,l,e,b,c⟩:=M;refine JJ g fun K A=>?_
 obtain⟨f,C,d⟩:=Uo k s V e.toList 0 l c;rw[bS u]at d;obtain rfl:f=none:=by cases f with
  |none=>rfl
  |some _=>cases d
 have D:=underlying293;have t:=underlying9;have E:(Instr.checkKey false 10000 9 k).run prog w=.ok () w:=IP (k:=k) t py false 9999;unfold Oper.wp;simp only[execOp,p,j,n,q];have F:(Instr.mapUpdate 293 (.map (some r)) k v).run prog w=.ok () {w with heap:=w.heap.setIfInBounds r (.map (e.push {key:=k,val:=v,born:=e.size}) (e.size+1))}:=by
  simp[Instr.mapUpdate,FI D,FA b,E,FV t C,MapKept.run_setObj_map _ b,Result.andThen]
 simp[F,Result.andThen];refine A _ _ (h _ ⟨z,?_,by simp[l],e.push {key:=k,val:=v,born:=e.size},?_,?_⟩)
 ·exact⟨H.os,H.tape,H.output,by have:=H.size;simpa using this,fun i G=>by
   have:=H.block i G;rw[<-this];simp only[CW];rw[AL aa]⟩
 ·rw[(MapKept.heap_set b).1,Array.size_push]
 rw[Array.toList_push,FJ,c,List.zip_append l,FJ];rfl
def dd(B:Nat)(w0 w:World)(r:Nat)(K:List Bs)(v:List Value)(n:Bs)(M:O7 B w0 w r K v):(Instr.lookup 293 (.map (some r)) n false).run prog w=.ok ((Ci K v n).getD .nilFunc) w:=by
 obtain⟨_,_,d,e,H,g⟩:=M;obtain⟨f,a,l⟩:=Uo n K v e.toList 0 d g;have t:=underlying293;have h:=underlying9;have c:=fun b=>IP (P:=prog) (w:=w) (k:=n) h py b 9999
 have z:(zeroValue 203).run prog w=.ok .nilFunc w:=af
 cases f with
 |none=>
  rw[<-l];simp[Instr.lookup,FI t,FA H,c,FV h a,Result.andThen,z]
 |some x=>
  rw[<-l];simp[Instr.lookup,FI t,FA H,c,FV h a,Result.andThen]
def Ng:List Bs:=[Kx,Jj,Ln,Mn,Lo,Mo,Kc,Ik,Lp,Ky,Mp,Kz,Mq,L0,Mr,Ms]
def R5(p:Value):List Value:=[.func (.func 221) #[p] #[],.func (.func 222) #[p] #[],.func (.func 223) #[p] #[],.func (.func 224) #[p] #[],.func (.func 225) #[p] #[],.func (.func 226) #[p] #[],.func (.func 227) #[p] #[],.func (.func 228) #[p] #[],.func (.func 229) #[p] #[],.func (.func 230) #[p] #[],.func (.func 231) #[p] #[],.func (.func 232) #[p] #[],.func (.func 233) #[p] #[],.func (.func 234) #[p] #[],.func (.func 235) #[p] #[],.func (.func 236) #[p] #[]]
def df(p:Value)(n:Bs)(w:World):Calls prog 134 #[p,n] w fun e W=>e=.returned ((Ci Ng (R5 p) n).getD .nilFunc)/\Below w.heap.size w W:=by
 have H:=AE (O7.new w);have m:∀(w:World),(Instr.makeMap 293 none).run prog w=.ok (.map (some w.heap.size)) (w.alloc (.map #[] 0)):=fun w=>by simp[Instr.makeMap]
 have b:∀(f:Fn)(first c:Array Value)(w:World),(Instr.makeFunc f first c).run prog w=.ok (.func f first c) w:=fun _ _ _ _=>rfl
 go_enter func134,ntmps134;go_wp2_with(refine dc w.heap.size w w.heap.size _ _ _ _ rfl _ _ _ rfl rfl rfl rfl ae H.o ?_;clear H;intro W h;have H:=AE h;clear h);rw[dd _ _ _ _ Ng (R5 p) n H.o];simp only[Result.andThen];rw[FQ];generalize a:(Ci Ng (R5 p) n).getD .nilFunc=r;go_wp2;go_ret;exact⟨yd,H.o.2.1⟩
end Go.Proofs.YtignjjnflcpiiaaGreatDoor
