/- desk's must, words, read, number. Condition: so many byte -/
import Derived.Test.YtignjjnflcpiiaaGreatDoorV28
import Derived.Test.YtignjjnflcpiiaaGreatDoorV29
set_option maxHeartbeats 8000000
set_option maxRecDepth 100000 set_option linter.all false
namespace Go.Proofs.YtignjjnflcpiiaaGreatDoor
open Go Go.RowKit Proofs.Tryz Lib
def D5(c:Int):Ending:=.panicked [{v:=.iface 199 (.agg #[c]),recovered:=false}]
def Pt(w:World):Calls prog 135 #[.nilIface] w fun e W=>e=.returned (.tuple #[])/\w=W:=by
 go_enter func135,ntmps135;go_wp2_with fail
 go_end0
 exact⟨rfl,rfl⟩
def Lu(v:Value)(n:Int)(w:World)(h:Qv w v n)(H:Gr w):Calls prog 135 #[v] w fun e W=>e=D5 n/\Below w.heap.size w W:=by
 have T:=U6 v n w h.v H;obtain⟨t,x,rfl⟩:=h.some;go_enter func135,ntmps135;go_wp2_with fail;with_reducible refine T.mono ?_
 rintro e a⟨rfl,b⟩;go_wp2_with fail;exact⟨rfl,rfl,b⟩
def Ox(a:Option Go.Addr)(n c:Nat)(k:Int)(h:((n:Int)==k)=true)(w:World):Calls prog 277 #[.slice a n c,k] w fun e W=>e=.returned (.tuple #[])/\w=W:=by
 go_enter func277,ntmps277;go_wp2_with fail
 go_end0
 exact⟨rfl,rfl⟩
def Oy(a:Option Go.Addr)(n c:Nat)(k:Int)(d:((n:Int)==k)=false)(w:World)(H:Gr w):Calls prog 277 #[.slice a n c,k] w fun e W=>e=D5 3/\Below w.heap.size w W:=by
 have h:=Lu (.iface 30 (.int .i64 3)) 3 w (Or.inl rfl) H;unfold D5 at h|-;go_enter func277,ntmps277;go_wp2_with fail;with_reducible refine h.mono ?_
 rintro e f⟨rfl,b⟩;go_wp2_with fail;exact⟨rfl,rfl,b⟩
def bZ{l:Bs}{v:Int}(h:atoiAll l=.ok v):-9223372036854775808<=v/\v<=9223372036854775807:=by
 unfold atoiAll at h;cases l with
 |nil=>cases h
 |cons c r=>
  simp only at h;generalize parseMag _=x at h;rcases x with u|_|_
  ·simp only at h;split at h
   ·cases h
   split at h
   ·cases h
   cases h;split<;>omega
  ·cases h
  cases h
def oV(s:Bs)(w:World)(r:s.length<=1000000000000)(g:Gz w):Calls prog 279 #[s] w fun e d=>(match E4 s with|none=>e=D5 3|some n=>e=.returned n)/\Below w.heap.size w d:=by
 have M:=fun W f=>Lu (.iface 30 (.int .i64 3)) 3 W (Or.inl rfl) f
 unfold D5 at M|-;rcases h:atoiAll s with v|_|_
 ·have A:Calls prog 307 _ w _:=(Tryz.strconv_Atoi_ok ⟨s.toArray⟩ ej v h w).mono (R':=fun e d=>e=.returned (.tuple #[v,.nilIface])/\Below w.heap.size w d) (by
   rintro e d⟨rfl,rfl|⟨t,rfl⟩⟩
   ·exact⟨rfl,AG _ _⟩
   exact⟨rfl,bytesWorld_below _ _ _⟩)
  have o:=bZ h;have hI:=fun W f=>Fj v o.1 o.2 W f
  have H:=AE (qo:E4 s=if itoa v=s then some v else none);generalize itoa v=i at hI H;clear h;by_cases a:i=s
  ·have H:=AE (by rw[H.o,AN a]:E4 s=some v);have p:(i==s)=true:=by rw[BL];exact a
   rw[H.o];clear a;go_enter func279,ntmps279;go_wp2_with fail;with_reducible refine A.mono ?_
   rintro e j⟨rfl,b⟩;go_wp2_with fail;with_reducible refine(hI _ (g.next b)).mono ?_
   rintro e k⟨rfl,B⟩;go_wp2;go_ret;exact⟨rfl,b.trans (B.mono b.size)⟩
  have H:=AE (by rw[H.o,AL a]:E4 s=none);have p:(i==s)=false:=by rw[AI];exact a
  rw[H.o];clear a;go_enter func279,ntmps279;go_wp2_with fail;with_reducible refine A.mono ?_
  rintro e j⟨rfl,b⟩;go_wp2_with fail;with_reducible refine(hI _ (g.next b)).mono ?_
  rintro e k⟨rfl,B⟩;have l:=b.trans (B.mono b.size);go_wp2_with fail;with_reducible refine(M _ (g.next l).r).mono ?_
  rintro e u⟨rfl,q⟩;go_wp2_with fail;exact⟨rfl,rfl,l.trans (q.mono l.size)⟩
 ·have H:=AE (qo:E4 s=none);obtain⟨E,m,c⟩:=g.syn;have A:Calls prog 307 _ w _:=Tryz.strconv_Atoi_syntax ⟨s.toArray⟩ ej h E w m c;rw[H.o];clear c;go_enter func279,ntmps279;go_wp2_with fail;with_reducible refine A.mono ?_
  rintro e j⟨N,rfl,_,_,b⟩;go_wp2_with fail;with_reducible refine(M _ (g.next b).r).mono ?_
  rintro e k⟨rfl,B⟩;go_wp2_with fail;exact⟨rfl,rfl,b.trans (B.mono b.size)⟩
 have H:=AE (qo:E4 s=none);obtain⟨E,m,c⟩:=g.rng;have A:Calls prog 307 _ w _:=Tryz.strconv_Atoi_range ⟨s.toArray⟩ ej h E w m c;rw[H.o];clear c;go_enter func279,ntmps279;go_wp2_with fail;with_reducible refine A.mono ?_
 rintro e j⟨N,rfl,_,_,b⟩;go_wp2_with fail;with_reducible refine(M _ (g.next b).r).mono ?_
 rintro e k⟨rfl,B⟩;go_wp2_with fail;exact⟨rfl,rfl,b.trans (B.mono b.size)⟩
def oW(s:Bs)(w:World)(z:s.length<=1000000000)(l:Gz w):Calls prog 281 #[s] w fun e m=>(match Be s with|none=>e=D5 3|some a=>e=.returned a.val)/\Below w.heap.size w m:=by
 have M:=fun W f=>Lu (.iface 30 (.int .i64 3)) 3 W (Or.inl rfl) f
 have n:=fun W=>Pt W
 unfold D5 at M|-;have A:=(AG w.heap.size w).alloc (AF _) (.cells A3.zero.cells 36);have k:=A0.new w A3.zero.cells 36;have h:=fun W f=>Vz s W aa f
 unfold Tq at h;generalize Be s=r at h;have H:=l.next A;simp only[A3.zero]at A k H;go_enter func281,ntmps281;go_upto_region 1 with fail;generalize World.alloc _ _=C at A k H|-;go_wp2_with fail;with_reducible refine(h _ H.r.g).mono ?_
 rintro e c⟨rfl,d⟩;have k:=k.next d k.lt;have g:=A.trans (d.mono A.size);have o:=H.next d;have j:=g.size;clear h d A;cases r with
 |none=>
  have B:=(AG c.heap.size c).alloc (AF _) (.cells A3.zero.cells 36);have i:=o.next B;have b:=g.trans (B.mono j);simp only[A3.zero]at B i b|-;go_wp2_with fail;generalize World.alloc _ _=p at B i b|-;with_reducible refine(M _ i.r).mono ?_
  rintro e q⟨rfl,t⟩;go_wp2_with fail;exact⟨rfl,rfl,b.trans (t.mono b.size)⟩
 |some a=>
  have D:w.heap.size≠c.heap.size:=by have:=k.lt;omega
  have B:=(AG c.heap.size c).alloc (AF _) (.cells a.cells 36);have K:=A0.new c a.cells 36;have k:=k.next B k.lt;have b:=g.trans (B.mono j);go_wp2_with fail;generalize World.alloc _ _=p at B K k b|-;with_reducible refine(n _).mono ?_
  rintro e q⟨rfl,rfl⟩;have E:=K.cell;have F:=k.free;have u:=A0.Xh k a;have x:=Xi b (AF _) a;have G:=k.cell;go_wp2_with fail;have y:=u.cell;refine AO (v:=a.val) (by simp[results,results281,go_sem,y,A3.val,A3.cells]) rfl ⟨rfl,x⟩
end Go.Proofs.YtignjjnflcpiiaaGreatDoor
