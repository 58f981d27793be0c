/-
 Whole numbers, by the machine.
-/
import Derived.Test.YtoeiphicmcndlaaGreatDoorAAn
import Derived.Test.YtoeiphicmcndlaaGreatDoorAWl
import Derived.Test.YtoeiphicmcndlaaGreatDoorARi
namespace Go.Proofs.YtoeiphicmcndlaaGreatDoor
set_option maxRecDepth 100000
set_option maxHeartbeats 8000000
set_option linter.unusedVariables false
set_option linter.unusedSimpArgs false
open Go.RowKit
theorem Uz(w:World)(o:Obj):Below w.heap.size w (w.alloc o):=(Below.refl _ _).alloc (Nat.le_refl _) _
theorem Lc{w1 w2:World}{q:Addr}{v:Value}(hb:Below w1.heap.size w1 w2)(h:w1.cell? q=some v):w2.cell? q=some v:=(hb.cell (World.block_lt_of_cell? w1 q h)).trans h
def Lq(t:TypeId)(n:Nat)(parts:Array (Nat×Value)):Sem Next:=Instr.buildSlice t n parts >>= fun v=>pure (.value v)
def Kf(n:Nat)(g:Nat):Value:= .slice (some ⟨g,0,none⟩) n n
def L4(elem:TypeId)(cells:Array Value)(g:Nat)(w:World):Prop:=w.heap[g]? =some (.cells cells elem (0,0))
def litOf(P:Program)(t:TypeId)(len:Nat)(parts:Array (Nat×Value)):Option (TypeId×Array Value):=
 match P.underlying t with
 | some (.slice elem)=>match Nz P elem,Yz P elem with
  | some n,some z=>if Nat.beq (len*n) 0 then(match Instr.fill (fun i=>some (i*n,n)) ((Array.range (len*n)).map ((#[]:Array Value)[· %(#[]:Array Value).size]!)) parts.toList with
   |some cells=>some (elem,cells)
   |none=>none)
   else if Nat.ble (len*n) 16777216 then(match Instr.fill (fun i=>some (i*n,n)) ((Array.range (len*n)).map (z.cells[· %z.cells.size]!)) parts.toList with
    |some cells=>some (elem,cells)
    |none=>none)else none
  |_,_=>none
 |_=>none
theorem Kc{P:Program}{t elem:TypeId}{len:Nat}{parts:Array (Nat×Value)}{cells:Array Value}{w:World}(h:litOf P t len parts=some (elem,cells)):
 Lh P w (Kf len) (L4 elem cells) (Lq t len parts):=by
 unfold litOf at h
 split at h
 ·rename_i elem' hu
  split at h
  ·rename_i n z hn hz
   have fin:∀cs,(Instr.buildSlice t len parts).run P w= .ok (.slice (some ⟨w.heap.size,0,none⟩) len len) (w.alloc (.cells cs elem'))→some (elem',cs)=some (elem,cells)→Lh P w (Kf len) (L4 elem cells) (Lq t len parts):=by
    intro cs hr he
    injection he with he
    injection he with h1 h2
    subst h1;subst h2
    refine⟨w.heap.size,w.alloc (.cells cs elem'),?_,Uz _ _,fun w'' h1 h2=> ?_⟩
    ·simp only[Lq,Sem.run_bind,hr,Result.andThen_ok,Sem.run_pure,Kf]
    ·unfold L4
     rw[h2 w.heap.size (Nat.le_refl _) Zs]
     show(w.heap.push _)[w.heap.size]? =_
     simp
   split at h
   ·rename_i h0
    have h0:=Nat.eq_of_beq_eq_true h0
    split at h
    ·rename_i cs hf
     refine fin cs ?_ h
     have e1:¬len*n>2 ^ 24:=by omega
     simp only[Instr.buildSlice,Sem.run_bind,run_underlying hu,Result.andThen_ok,Lf hn,if_neg e1,if_pos h0,Sem.run_pure,hf]
     rfl
    ·cases h
   ·rename_i h0
    have h0:¬len*n=0:=fun e=>h0 (by rw[e];rfl)
    split at h
    ·rename_i hle
     have hle:=Nat.le_of_ble_eq_true hle
     split at h
     ·rename_i cs hf
      refine fin cs ?_ h
      have e1:¬len*n>2 ^ 24:=by omega
      simp only[Instr.buildSlice,Sem.run_bind,run_underlying hu,Result.andThen_ok,Lf hn,if_neg e1,if_neg h0,V8 hz,Sem.run_pure,hf]
      rfl
     ·cases h
    ·cases h
  ·cases h
 ·cases h
def zi(s:Bool)(v:Nat):Int:=if s then -(v:Int)else(v:Int)
theorem Yy(s:Bool)(v:Nat):(zi s v).natAbs=v:=by cases s<;>simp[zi]
theorem zi_add(s:Bool)(a b:Nat):zi s (a+b)=zi s a+zi s b:=by cases s<;>simp[zi]<;>omega
theorem zi_sub(s t:Bool)(a b:Nat)(h:(s==t)=false)(hle:b≤a):zi s (a-b)=zi s a+zi t b:=by cases s<;>cases t<;>simp[zi]at* <;>omega
theorem zi_not(s:Bool)(v:Nat):zi (!s) v= -zi s v:=by cases s<;>simp[zi]
theorem zi_mul(s t:Bool)(a b:Nat):zi (s !=t) (a*b)=zi s a*zi t b:=by cases s<;>cases t<;>simp[zi]<;>grind
theorem zi_of(k:Int){v:Nat}(h:v=k.natAbs):zi (decide (k<0)) v=k:=by
 subst h
 by_cases e:k<0
 ·rw[decide_eq_true e];simp[zi];omega
 ·rw[decide_eq_false e];simp[zi];omega
def Q5(k:Int):Int:=if k<0 then -1 else if k=0 then 0 else 1
def divEI(y:Int):Int:=if y=0 then 9 else 0
def Iy(x y:Int):Int:=if y=0 then 0 else x.fdiv y
def remI(x y:Int):Int:=if y=0 then 0 else x.fmod y
theorem Mx.len_pos{l:List Nat}(h:Mx l):decide (0<val l)=decide (0<l.length):=by
 by_cases e:l=[]
 ·subst e;rfl
 ·have h1:=h.pos e
  have h2:=Xu (l.length-1)
  have h3:0<l.length:=List.length_pos_iff.2 e
  rw[decide_eq_true h3,decide_eq_true Zo]
theorem k_len{w:World}{A:Option Addr}{n c K:Nat}{l:List Nat}{k:Int}(N:Mx l)(v:val l=k.natAbs)(o:In w A n c l)(h:k.natAbs<pw K):n≤K:=by
 have:=N.length_le (k:=K) (by rw[v];exact h)
 rw[o.len]at this
 exact this
def isn(s:Bool)(l:List Nat):Bool:=decide (trim l=l)&&(!s||decide (0<l.length))
theorem abs_add_lt{x y:Int}{K:Nat}(hx:x.natAbs<pw K)(hy:y.natAbs<pw K):(x+y).natAbs<pw (K+1):=by
 have:=Gq hx hy (Nat.le_refl _) (Nat.le_refl _)
 omega
theorem abs_sub_lt{x y:Int}{K:Nat}(hx:x.natAbs<pw K)(hy:y.natAbs<pw K):(x-y).natAbs<pw (K+1):=by
 have:=Gq hx hy (Nat.le_refl _) (Nat.le_refl _)
 omega
theorem K7.impG{X:Type}{w w':World}{val:X→Value}{G G':X→World→Prop}{e:Ending}(h:K7 w val G e w')(hG:∀x u,G x u→G' x u):K7 w val G' e w':=by
 obtain⟨x,h1,h2,h3⟩:=h
 exact⟨x,h1,h2,fun w'' k1 k2=>hG _ _ (h3 w'' k1 k2)⟩
structure DV where
 A:Option Addr
 n:Nat
 c:Nat
 l:List Nat
@[reducible] def DV.val(v:DV):Value:= .slice v.A v.n v.c
def C7(v:DV)(k:Nat)(K:Nat)(w:World):Prop:=In w v.A v.n v.c v.l∧val v.l=k∧v.n≤K
def C6(v:DV)(k:Nat)(K:Nat)(w:World):Prop:=C7 v k K w∧Mx v.l
def C5(v:DV)(k:Nat)(K:Nat)(w:World):Prop:=C6 v k K w∧Py w 0 v.A v.n v.c v.l
structure II(w:World)(s:Bool)(A:Option Addr)(n c:Nat)(l:List Nat)(x:Int)(K:Nat):Prop where
 inn:In w A n c l
 zi:zi s (val l)=x
 le:n≤K
section
variable{w w':World}{s:Bool}{A:Option Addr}{n c K K':Nat}{l:List Nat}{x y:Int}{k:Nat}{e:Ending}
theorem II.below(h:II w s A n c l x K)(hb:Below w.heap.size w w'):II w' s A n c l x K:=⟨h.inn.below hb,h.zi,h.le⟩
theorem II.abs(h:II w s A n c l x K):x.natAbs=val l:=by rw[←h.zi,Yy]
theorem II.lt(h:II w s A n c l x K):x.natAbs<pw K:=by
 rw[h.abs];exact Nat.lt_of_lt_of_le (Mi h.inn.dig (Nat.le_of_eq h.inn.len)) (Aa h.le)
theorem C7.below{v:DV}(h:C7 v k K w)(hb:Below w.heap.size w w'):C7 v k K w':=⟨h.1.below hb,h.2⟩
theorem C7.lt{v:DV}(h:C7 v k K w):k<pw K:=by
 rw[←h.2.1];exact Mi h.1.dig (by rw[h.1.len];exact h.2.2)
theorem Tq.postO(h:Tq w k e w')(hK:k<pw K):K7 w DV.val (fun v w=>C5 v k K w) e w':=by
 obtain⟨A,n,c,l,rfl,N,v,o,hb⟩:=h
 refine⟨⟨A,n,c,l⟩,rfl,hb,fun w'' h1 h2=>⟨⟨⟨(o.mid h1 h2).toIn,v,?_⟩,N⟩,(o.mid h1 h2).base (Nat.zero_le _)⟩⟩
 have:=N.length_le (k:=K) (by rw[v];exact hK)
 rw[o.len]at this
 exact this
theorem Tq.post(h:Tq w k e w')(hK:k<pw K):K7 w DV.val (fun v w=>C6 v k K w) e w':=by
 obtain⟨x,h1,h2,h3⟩:=h.postO hK
 exact⟨x,h1,h2,fun w'' k1 k2=>(h3 w'' k1 k2).1⟩
end
structure SV where
 s:Bool
 A:Option Addr
 n:Nat
 c:Nat
 l:List Nat
@[reducible] def SV.val(x:SV):Value:= .agg #[.bool x.s,.slice x.A x.n x.c]
def Pg(v:SV)(x:Int)(K:Nat)(w:World):Prop:=II w v.s v.A v.n v.c v.l x K
def T7(v:SV)(x:Int)(K:Nat)(w:World):Prop:=Pg v x K w∧Mx v.l∧v.s=decide (x<0)∧Py w 0 v.A v.n v.c v.l
def SV.d(v:SV):DV:=⟨v.A,v.n,v.c,v.l⟩
theorem Pg.d{v:SV}{x:Int}{K:Nat}{w:World}(h:Pg v x K w):C7 v.d x.natAbs K w:=⟨h.inn,h.abs.symm,h.le⟩
section
variable{v a b:SV}{x y:Int}{K K' K1 K2:Nat}{w w':World}{d d2:DV}{k k2:Nat}{e:Ending}
theorem T7.i(h:T7 v x K w):Pg v x K w:=h.1
theorem Pg.below(h:Pg v x K w)(hb:Below w.heap.size w w'):Pg v x K w':=II.below h hb
theorem Pg.mono(h:Pg v x K w)(hK:K≤K'):Pg v x K' w:=⟨h.inn,h.zi,Nat.le_trans h.le hK⟩
theorem T7.mono(h:T7 v x K w)(hK:K≤K'):T7 v x K' w:=⟨h.1.mono hK,h.2⟩
theorem T7.cast(h:T7 v x K w)(e:x=y):T7 v y K w:=by rw[←e];exact h
theorem Pg.lt(h:Pg v x K w):x.natAbs<pw K:=II.lt h
theorem Rn(h:T7 v x K w)(hK:x.natAbs<pw K'):T7 v x K' w:=⟨⟨h.1.inn,h.1.zi,k_len h.2.1 h.1.abs.symm h.1.inn hK⟩,h.2⟩
theorem C5.n(h:C5 d x.natAbs K w):T7 ⟨decide (x<0),d.A,d.n,d.c,d.l⟩ x K w:=⟨⟨h.1.1.1,zi_of x h.1.1.2.1,h.1.1.2.2⟩,h.1.2,rfl,h.2⟩
theorem C7.sv(h:C7 d k K w)(s:Bool):Pg ⟨s,d.A,d.n,d.c,d.l⟩ (zi s k) K w:=⟨h.1,by rw[←h.2.1],h.2.2⟩
theorem C6.pos(h:C6 d k K w):0<d.n↔0<k:=by
 have h1:=h.2.len_pos
 rw[h.1.2.1,h.1.1.len]at h1
 exact⟨fun q=>of_decide_eq_true (by rw[h1];exact decide_eq_true q),fun q=>of_decide_eq_true (by rw[←h1];exact decide_eq_true q)⟩
def DVal(y:Int)(q:SV×SV):Value:= .tuple #[q.1.val,q.2.val,Zi (divEI y)]
theorem pw_sum{a b n m:Nat}(ha:a<pw n)(hb:b<pw m):a+b<pw (n+m+1):=Gq ha hb Zo Zo
theorem pw_prod{a b n m:Nat}(ha:a<pw n)(hb:b<pw m):a*b<pw (n+m):=pw_mul_lt ha hb (Nat.le_refl _)
theorem nnorm_m(h:C7 d k K w)(hK:K≤274877906944):Calls Tryz.prog 112 #[d.val] w (K7 w DV.val fun v w=>C5 v k K w):=by
 refine(X8 w h.1 (by have:=h.2.2;omega)).mono fun e w' q=>Tq.postO ?_ h.lt
 obtain⟨A,n,c,rfl,o,hb⟩:=q
 exact⟨A,n,c,_,rfl,Kw h.1.dig,by rw[Kh];exact h.2.1,o,hb⟩
theorem nadd_m(h:C7 d k K1 w)(h2:C7 d2 k2 K2 w)(hK:K1+K2+1≤137438953473):Calls Tryz.prog 262 #[d.val,d2.val] w (K7 w DV.val fun v w=>C5 v (k+k2) (K1+K2+1) w):=by
 refine(add_c w h.1 h2.1 (by have:=h.2.2;omega) (by have:=h2.2.2;omega)).mono fun e w' q=>Tq.postO ?_ (pw_sum h.lt h2.lt)
 rw[h.2.1,h2.2.1]at q;exact q
theorem nmul_m(h:C7 d k K1 w)(h2:C7 d2 k2 K2 w)(hK:K1+K2≤137438953473):Calls Tryz.prog 253 #[d.val,d2.val] w (K7 w DV.val fun v w=>C5 v (k*k2) (K1+K2) w):=by
 refine(mul_c w h.1 h2.1 (by have:=h.2.2;omega) (by have:=h2.2.2;omega)).mono fun e w' q=>Tq.postO ?_ (pw_prod h.lt h2.lt)
 rw[h.2.1,h2.2.1]at q;exact q
theorem nsub_m{B:Bool}(hB:decide (k2≤k)=B)(h:C7 d k K1 w)(h2:C7 d2 k2 K2 w)(hK:K1+K2≤137438953473):Calls Tryz.prog 263 #[d.val,d2.val] w (K7 w (fun v:DV=> .tuple #[v.val,.bool B]) fun v w=>C5 v (k-k2) K1 w):=by
 refine(sub_c w h.1 h2.1 (by have:=h.2.2;omega)).mono fun e w' q=> ?_
 obtain⟨A,n,c,l,he,N,hv,o,hb⟩:=q
 rw[h.2.1,h2.2.1]at he
 rw[h.2.1,h2.2.1]at hv
 obtain⟨z,h1,h3,h4⟩:=Tq.postO (K:=K1) ⟨A,n,c,l,rfl,N,hv,o,hb⟩ (Nat.lt_of_le_of_lt (Nat.sub_le _ _) h.lt)
 have e2:Value.slice A n c=z.val:=by injection h1
 exact⟨z,by rw[he,hB,e2],h3,h4⟩
theorem nbit_m(h:C7 d k K w)(hK:K≤137438953473):Zv 108 #[d.val] w (Zi (bitsN k:Nat)):=by
 refine(bitLen_c w h.1 (by have:=h.2.2;omega)).mono fun e w' q=> ?_
 obtain⟨rfl,q⟩:=q
 exact⟨(),by rw[h.2.1],by rw[q];exact Below.refl _ _,fun _ _ _=>trivial⟩
theorem Vh(ha:Pg a x K1 w)(hK:K1≤274877906944):Calls Tryz.prog 62 #[.bool a.s,.slice a.A a.n a.c] w (K7 w SV.val fun v w=>T7 v x K1 w):=by
 have hd:=ha.d
 obtain⟨s,A,n,c,l⟩:=a
 have hz:zi s (val l)=x:=ha.zi
 have hb:x.natAbs=val l:=ha.abs
 cases s
 ·have e:decide (x<0)=false:=decide_eq_false (by rw[←hz];simp[zi])
  refine K0.enter Tryz.func62 rfl <| ZR <| ZC (fun w1 hw h=>nnorm_m (hd.below hw) hK) fun m=>ZV (.agg #[.bool false,.slice m.A m.n m.c]) (fun w1 hw h=>⟨⟨decide (x<0),m.A,m.n,m.c,m.l⟩,by rw[←e],hw,fun w'' k1 k2=>((h w'' k1 k2).2).n⟩)
 ·refine K0.enter Tryz.func62 rfl <| ZR <| ZC (fun w1 hw h=>nnorm_m (hd.below hw) hK) fun m=> ?_
  refine K0.pure_ (p:=decide ((m.n:Int)>0)=decide (x<0)) (fun w1 hw h=>decide_eq_decide.2 (by
   have q:=h.2.1.pos
   have e2:x= -(x.natAbs:Int):=by rw[←hz];simp[zi]
   omega)) Zk (fun e=> ?_)
  refine ZV (.agg #[.bool (decide ((m.n:Int)>0)),.slice m.A m.n m.c]) (fun w1 hw h=>⟨⟨decide (x<0),m.A,m.n,m.c,m.l⟩,by rw[←e],hw,fun w'' k1 k2=>((h w'' k1 k2).2).n⟩)
theorem ineg_m(ha:Pg a x K1 w)(hK:K1≤137438953473):Calls Tryz.prog 222 #[a.val] w (K7 w SV.val fun v w=>T7 v (-x) K1 w):=by
 have hn:Pg ⟨!a.s,a.A,a.n,a.c,a.l⟩ (-x) K1 w:=⟨ha.inn,by rw[zi_not,ha.zi],ha.le⟩
 refine K0.enter Tryz.func222 rfl <| ZR <| ZC (fun w1 hw h=>Vh (hn.below hw) Zo) fun v=>ZV (v.val) (fun w1 hw h=>⟨v,rfl,hw,fun w'' k1 k2=>(h w'' k1 k2).2⟩)
theorem iadd_m(ha:Pg a x K1 w)(hb:Pg b y K2 w)(hK:K1+K2+1≤137438953473):Calls Tryz.prog 221 #[a.val,b.val] w (K7 w SV.val fun v w=>T7 v (x+y) (K1+K2+1) w):=by
 have hx:=ha.zi;have hy:=hb.zi
 rw[←ha.abs]at hx
 rw[←hb.abs]at hy
 cases hs:a.s==b.s
 case true=>
  have e:b.s=a.s:=(beq_iff_eq.1 hs).symm
  have hsum:zi a.s (x.natAbs+y.natAbs)=x+y:=by rw[zi_add,hx,←e,hy]
  refine K0.enter Tryz.func221 rfl <| ZR <| ZJ ((a.s==b.s)) true (hs) <| ZC (fun w1 hw h=>nadd_m (ha.d.below hw) (hb.d.below hw) hK) fun m=>ZC (fun w1 hw h=>Vh (a:=⟨a.s,m.A,m.n,m.c,m.l⟩) (x:=x+y) (by have t:=(h.2.1.1).sv a.s;rw[hsum]at t;exact t) Zo) fun v=>ZV (v.val) (fun w1 hw h=>⟨v,rfl,hw,fun w'' k1 k2=>(h w'' k1 k2).2⟩)
 by_cases hle:y.natAbs≤x.natAbs
 ·have hd:zi a.s (x.natAbs-y.natAbs)=x+y:=by rw[zi_sub a.s b.s _ _ hs hle,hx,hy]
  refine K0.enter Tryz.func221 rfl <| ZR <| ZJ ((a.s==b.s)) false (hs) <| ZC (fun w1 hw h=>nsub_m (decide_eq_true hle) (ha.d.below hw) (hb.d.below hw) Zo) fun m=>ZI true <| ZC (fun w1 hw h=>Vh (a:=⟨a.s,m.A,m.n,m.c,m.l⟩) (x:=x+y) (by have t:=(h.2.1.1).sv a.s;rw[hd]at t;exact t) Zo) fun v=>ZV (v.val) (fun w1 hw h=>⟨v,rfl,hw,fun w'' k1 k2=>((h w'' k1 k2).2).mono Zo⟩)
 ·have hs2:(b.s==a.s)=false:=by rw[←hs];cases a.s<;>cases b.s<;>rfl
  have hd:zi b.s (y.natAbs-x.natAbs)=x+y:=by rw[zi_sub b.s a.s _ _ hs2 Zo,hx,hy,Int.add_comm]
  refine K0.enter Tryz.func221 rfl <| ZR <| ZJ ((a.s==b.s)) false (hs) <| ZC (fun w1 hw h=>nsub_m (decide_eq_false hle) (ha.d.below hw) (hb.d.below hw) Zo) fun m=>ZI false <| ZC (fun w1 hw h=>nsub_m (B:=true) (decide_eq_true (show x.natAbs≤y.natAbs by omega)) (hb.d.below hw) (ha.d.below hw) Zo) fun m2=>ZC (fun w1 hw h=>Vh (a:=⟨b.s,m2.A,m2.n,m2.c,m2.l⟩) (x:=x+y) (by have t:=(h.2.1.1).sv b.s;rw[hd]at t;exact t) Zo) fun v=>ZV (v.val) (fun w1 hw h=>⟨v,rfl,hw,fun w'' k1 k2=>((h w'' k1 k2).2).mono Zo⟩)
theorem isub_m(ha:Pg a x K1 w)(hb:Pg b y K2 w)(hK:K1+K2+1≤137438953473):Calls Tryz.prog 176 #[a.val,b.val] w (K7 w SV.val fun v w=>T7 v (x-y) (K1+K2+1) w):=by
 refine K0.enter Tryz.func176 rfl <| ZR <| ZC (fun w1 hw h=>ineg_m (hb.below hw) Zo) fun n=>ZC (fun w1 hw h=>iadd_m (ha.below hw) (h.2).i hK) fun v=>ZV (v.val) (fun w1 hw h=>⟨v,rfl,hw,fun w'' k1 k2=>((h w'' k1 k2).2).cast (Int.sub_eq_add_neg).symm⟩)
theorem imul_m(ha:Pg a x K1 w)(hb:Pg b y K2 w)(hK:K1+K2≤137438953473):Calls Tryz.prog 212 #[a.val,b.val] w (K7 w SV.val fun v w=>T7 v (x*y) (K1+K2) w):=by
 have hm:zi (a.s !=b.s) (x.natAbs*y.natAbs)=x*y:=by rw[zi_mul,ha.abs,hb.abs,ha.zi,hb.zi]
 refine K0.enter Tryz.func212 rfl <| ZR <| ZC (fun w1 hw h=>nmul_m (ha.d.below hw) (hb.d.below hw) hK) fun m=>ZC (fun w1 hw h=>Vh (a:=⟨a.s !=b.s,m.A,m.n,m.c,m.l⟩) (x:=x*y) (by have t:=(h.2.1.1).sv (a.s !=b.s);rw[hm]at t;exact t) Zo) fun v=>ZV (v.val) (fun w1 hw h=>⟨v,rfl,hw,fun w'' k1 k2=>(h w'' k1 k2).2⟩)
theorem ibitLen_m(ha:Pg a x K1 w)(hK:K1≤137438953473):Zv 207 #[a.val] w (Zi (bitsN x.natAbs:Nat)):=by
 exact K0.enter Tryz.func207 rfl <| ZR <| ZC (fun w1 hw h=>nbit_m (ha.d.below hw) hK) fun m=>ZW (Zi (bitsN x.natAbs:Nat))
theorem Um(ha:Pg a x K1 w)(hK:K1≤137438953473):Zv 60 #[a.val] w (Zi (Q5 x)):=by
 have hx:=ha.zi
 rw[←ha.abs]at hx
 by_cases h0:x=0
 ·exact K0.enter Tryz.func60 rfl <| ZR <| ZC (fun w1 hw h=>nbit_m (ha.d.below hw) hK) fun m=>ZJ ((((bitsN x.natAbs:Nat):Int)==0)) true (by rw[h0];rfl) <| ZX (Zi 0) (by rw[h0];rfl)
 have hbit:bitsN x.natAbs≠0:=fun e=>h0 (by have:=bitsN_zero.1 e;omega)
 cases hs:a.s
 ·rw[hs]at hx
  have hp:0<x:=by simp[zi]at hx;omega
  exact K0.enter Tryz.func60 rfl <| ZR <| ZC (fun w1 hw h=>nbit_m (ha.d.below hw) hK) fun m=>ZJ ((((bitsN x.natAbs:Nat):Int)==0)) false (beq_eq_false_iff_ne.2 Zo) <| ZJ (a.s) false (hs) <| ZX (Zi 1) (by unfold Q5;rw[if_neg Zo,if_neg h0])
 ·rw[hs]at hx
  have hp:x<0:=by simp[zi]at hx;omega
  exact K0.enter Tryz.func60 rfl <| ZR <| ZC (fun w1 hw h=>nbit_m (ha.d.below hw) hK) fun m=>ZJ ((((bitsN x.natAbs:Nat):Int)==0)) false (beq_eq_false_iff_ne.2 Zo) <| ZJ (a.s) true (hs) <| ZX (Zi (-1)) (by unfold Q5;rw[if_pos hp])
theorem icmp_m(ha:Pg a x K1 w)(hb:Pg b y K2 w)(hK:K1≤68719476736∧K2≤68719476736):Zv 117 #[a.val,b.val] w (Zi (Q5 (x-y))):=by
 exact K0.enter Tryz.func117 rfl <| ZR <| ZC (fun w1 hw h=>isub_m (ha.below hw) (hb.below hw) Zo) fun v=>ZC (fun w1 hw h=>Um (h.2).i Zo) fun u=>ZW (Zi (Q5 (x-y)))
theorem rnorm_m(h:C7 d k K w)(hK:K≤274877906944):Calls Tryz.prog 266 #[d.val] w (K7 w DV.val fun v w=>C5 v k K w):=by
 refine(Ls w h.1 (by have:=h.2.2;omega)).mono fun e w' q=>Tq.postO ?_ h.lt
 obtain⟨A,n,c,rfl,o,hb⟩:=q
 exact⟨A,n,c,_,rfl,Kw h.1.dig,by rw[Kh];exact h.2.1,o,hb⟩
theorem rnadd_m(h:C7 d k K1 w)(h2:C7 d2 k2 K2 w)(hK:K1+K2+1≤137438953473):Calls Tryz.prog 282 #[d.val,d2.val] w (K7 w DV.val fun v w=>C5 v (k+k2) (K1+K2+1) w):=by
 refine(refAdd_c w h.1 h2.1 (by have:=h.2.2;omega) (by have:=h2.2.2;omega)).mono fun e w' q=>Tq.postO ?_ (pw_sum h.lt h2.lt)
 rw[h.2.1,h2.2.1]at q;exact q
theorem rnmul_m(h:C7 d k K1 w)(h2:C7 d2 k2 K2 w)(hK:K1+K2≤137438953473):Calls Tryz.prog 228 #[d.val,d2.val] w (K7 w DV.val fun v w=>C5 v (k*k2) (K1+K2) w):=by
 refine(refMul_c w h.1 h2.1 (by have:=h.2.2;omega) (by have:=h2.2.2;omega)).mono fun e w' q=>Tq.postO ?_ (pw_prod h.lt h2.lt)
 rw[h.2.1,h2.2.1]at q;exact q
theorem rnsub_m{B:Bool}(hB:decide (k2≤k)=B)(h:C7 d k K1 w)(h2:C7 d2 k2 K2 w)(hK:K1+K2≤137438953473):Calls Tryz.prog 283 #[d.val,d2.val] w (K7 w (fun v:DV=> .tuple #[v.val,.bool B]) fun v w=>C5 v (k-k2) K1 w):=by
 refine(Ws w h.1 h2.1 (by have:=h.2.2;omega)).mono fun e w' q=> ?_
 obtain⟨A,n,c,l,he,N,hv,o,hb⟩:=q
 rw[h.2.1,h2.2.1]at he
 rw[h.2.1,h2.2.1]at hv
 obtain⟨z,h1,h3,h4⟩:=Tq.postO (K:=K1) ⟨A,n,c,l,rfl,N,hv,o,hb⟩ (Nat.lt_of_le_of_lt (Nat.sub_le _ _) h.lt)
 have e2:Value.slice A n c=z.val:=by injection h1
 exact⟨z,by rw[he,hB,e2],h3,h4⟩
theorem rnbit_m(h:C7 d k K w)(hK:K≤137438953473):Zv 264 #[d.val] w (Zi (bitsN k:Nat)):=by
 refine(I9 w h.1 (by have:=h.2.2;omega)).mono fun e w' q=> ?_
 obtain⟨rfl,q⟩:=q
 exact⟨(),by rw[h.2.1],q,fun _ _ _=>trivial⟩
theorem Q6(ha:Pg a x K1 w)(hK:K1≤274877906944):Calls Tryz.prog 227 #[.bool a.s,.slice a.A a.n a.c] w (K7 w SV.val fun v w=>T7 v x K1 w):=by
 have hd:=ha.d
 obtain⟨s,A,n,c,l⟩:=a
 have hz:zi s (val l)=x:=ha.zi
 have hb:x.natAbs=val l:=ha.abs
 cases s
 ·have e:decide (x<0)=false:=decide_eq_false (by rw[←hz];simp[zi])
  refine K0.enter Tryz.func227 rfl <| ZR <| ZC (fun w1 hw h=>rnorm_m (hd.below hw) hK) fun m=>ZV (.agg #[.bool false,.slice m.A m.n m.c]) (fun w1 hw h=>⟨⟨decide (x<0),m.A,m.n,m.c,m.l⟩,by rw[←e],hw,fun w'' k1 k2=>((h w'' k1 k2).2).n⟩)
 ·refine K0.enter Tryz.func227 rfl <| ZR <| ZC (fun w1 hw h=>rnorm_m (hd.below hw) hK) fun m=> ?_
  refine K0.pure_ (p:=decide ((m.n:Int)>0)=decide (x<0)) (fun w1 hw h=>decide_eq_decide.2 (by
   have q:=h.2.1.pos
   have e2:x= -(x.natAbs:Int):=by rw[←hz];simp[zi]
   omega)) Zk (fun e=> ?_)
  refine ZV (.agg #[.bool (decide ((m.n:Int)>0)),.slice m.A m.n m.c]) (fun w1 hw h=>⟨⟨decide (x<0),m.A,m.n,m.c,m.l⟩,by rw[←e],hw,fun w'' k1 k2=>((h w'' k1 k2).2).n⟩)
theorem rneg_m(ha:Pg a x K1 w)(hK:K1≤137438953473):Calls Tryz.prog 245 #[a.val] w (K7 w SV.val fun v w=>T7 v (-x) K1 w):=by
 have hn:Pg ⟨!a.s,a.A,a.n,a.c,a.l⟩ (-x) K1 w:=⟨ha.inn,by rw[zi_not,ha.zi],ha.le⟩
 refine K0.enter Tryz.func245 rfl <| ZR <| ZC (fun w1 hw h=>Q6 (hn.below hw) Zo) fun v=>ZV (v.val) (fun w1 hw h=>⟨v,rfl,hw,fun w'' k1 k2=>(h w'' k1 k2).2⟩)
theorem radd_m(ha:Pg a x K1 w)(hb:Pg b y K2 w)(hK:K1+K2+1≤137438953473):Calls Tryz.prog 265 #[a.val,b.val] w (K7 w SV.val fun v w=>T7 v (x+y) (K1+K2+1) w):=by
 have hx:=ha.zi;have hy:=hb.zi
 rw[←ha.abs]at hx
 rw[←hb.abs]at hy
 cases hs:a.s==b.s
 case true=>
  have e:b.s=a.s:=(beq_iff_eq.1 hs).symm
  have hsum:zi a.s (x.natAbs+y.natAbs)=x+y:=by rw[zi_add,hx,←e,hy]
  refine K0.enter Tryz.func265 rfl <| ZR <| ZJ ((a.s==b.s)) true (hs) <| ZC (fun w1 hw h=>rnadd_m (ha.d.below hw) (hb.d.below hw) hK) fun m=>ZC (fun w1 hw h=>Q6 (a:=⟨a.s,m.A,m.n,m.c,m.l⟩) (x:=x+y) (by have t:=(h.2.1.1).sv a.s;rw[hsum]at t;exact t) Zo) fun v=>ZV (v.val) (fun w1 hw h=>⟨v,rfl,hw,fun w'' k1 k2=>(h w'' k1 k2).2⟩)
 by_cases hle:y.natAbs≤x.natAbs
 ·have hd:zi a.s (x.natAbs-y.natAbs)=x+y:=by rw[zi_sub a.s b.s _ _ hs hle,hx,hy]
  refine K0.enter Tryz.func265 rfl <| ZR <| ZJ ((a.s==b.s)) false (hs) <| ZC (fun w1 hw h=>rnsub_m (decide_eq_true hle) (ha.d.below hw) (hb.d.below hw) Zo) fun m=>ZI true <| ZC (fun w1 hw h=>Q6 (a:=⟨a.s,m.A,m.n,m.c,m.l⟩) (x:=x+y) (by have t:=(h.2.1.1).sv a.s;rw[hd]at t;exact t) Zo) fun v=>ZV (v.val) (fun w1 hw h=>⟨v,rfl,hw,fun w'' k1 k2=>((h w'' k1 k2).2).mono Zo⟩)
 ·have hs2:(b.s==a.s)=false:=by rw[←hs];cases a.s<;>cases b.s<;>rfl
  have hd:zi b.s (y.natAbs-x.natAbs)=x+y:=by rw[zi_sub b.s a.s _ _ hs2 Zo,hx,hy,Int.add_comm]
  refine K0.enter Tryz.func265 rfl <| ZR <| ZJ ((a.s==b.s)) false (hs) <| ZC (fun w1 hw h=>rnsub_m (decide_eq_false hle) (ha.d.below hw) (hb.d.below hw) Zo) fun m=>ZI false <| ZC (fun w1 hw h=>rnsub_m (B:=true) (decide_eq_true (show x.natAbs≤y.natAbs by omega)) (hb.d.below hw) (ha.d.below hw) Zo) fun m2=>ZC (fun w1 hw h=>Q6 (a:=⟨b.s,m2.A,m2.n,m2.c,m2.l⟩) (x:=x+y) (by have t:=(h.2.1.1).sv b.s;rw[hd]at t;exact t) Zo) fun v=>ZV (v.val) (fun w1 hw h=>⟨v,rfl,hw,fun w'' k1 k2=>((h w'' k1 k2).2).mono Zo⟩)
theorem rsub_m(ha:Pg a x K1 w)(hb:Pg b y K2 w)(hK:K1+K2+1≤137438953473):Calls Tryz.prog 226 #[a.val,b.val] w (K7 w SV.val fun v w=>T7 v (x-y) (K1+K2+1) w):=by
 refine K0.enter Tryz.func226 rfl <| ZR <| ZC (fun w1 hw h=>rneg_m (hb.below hw) Zo) fun n=>ZC (fun w1 hw h=>radd_m (ha.below hw) (h.2).i hK) fun v=>ZV (v.val) (fun w1 hw h=>⟨v,rfl,hw,fun w'' k1 k2=>((h w'' k1 k2).2).cast (Int.sub_eq_add_neg).symm⟩)
theorem E1(ha:Pg a x K1 w)(hb:Pg b y K2 w)(hK:K1+K2≤137438953473):Calls Tryz.prog 180 #[a.val,b.val] w (K7 w SV.val fun v w=>T7 v (x*y) (K1+K2) w):=by
 have hm:zi (a.s !=b.s) (x.natAbs*y.natAbs)=x*y:=by rw[zi_mul,ha.abs,hb.abs,ha.zi,hb.zi]
 refine K0.enter Tryz.func180 rfl <| ZR <| ZC (fun w1 hw h=>rnmul_m (ha.d.below hw) (hb.d.below hw) hK) fun m=>ZC (fun w1 hw h=>Q6 (a:=⟨a.s !=b.s,m.A,m.n,m.c,m.l⟩) (x:=x*y) (by have t:=(h.2.1.1).sv (a.s !=b.s);rw[hm]at t;exact t) Zo) fun v=>ZV (v.val) (fun w1 hw h=>⟨v,rfl,hw,fun w'' k1 k2=>(h w'' k1 k2).2⟩)
theorem rbitLen_m(ha:Pg a x K1 w)(hK:K1≤137438953473):Zv 225 #[a.val] w (Zi (bitsN x.natAbs:Nat)):=by
 exact K0.enter Tryz.func225 rfl <| ZR <| ZC (fun w1 hw h=>rnbit_m (ha.d.below hw) hK) fun m=>ZW (Zi (bitsN x.natAbs:Nat))
theorem Sf(ha:Pg a x K1 w)(hK:K1≤137438953473):Zv 202 #[a.val] w (Zi (Q5 x)):=by
 have hn:∀{v:SV} {u:World},T7 v x K1 u→(0<v.n↔x≠0):=fun{v u} h=>by
  have q:=C6.pos (d:=v.d) ⟨h.1.d,h.2.1⟩
  have e:v.d.n=v.n:=rfl
  rw[e]at q;omega
 by_cases h0:x=0
 ·exact K0.enter Tryz.func202 rfl <| ZR <| ZC (fun w1 hw h=>Q6 (ha.below hw) Zo) fun v=>K0.pure_ (p:=v.n=0) (fun w1 hw h=>by have q:=hn (h.2);omega) Zk fun e=>ZJ (((v.n:Int)==0)) true (by rw[e];rfl) <| ZX (Zi 0) (by rw[h0];rfl)
 by_cases hp:x<0
 ·exact K0.enter Tryz.func202 rfl <| ZR <| ZC (fun w1 hw h=>Q6 (ha.below hw) Zo) fun v=>K0.pure_ (p:=v.n≠0∧v.s=true) (fun w1 hw h=>by have q:=hn (h.2);exact⟨by omega,by rw[h.2.2.2.1];exact decide_eq_true hp⟩) Zk fun e=>ZJ (((v.n:Int)==0)) false (beq_eq_false_iff_ne.2 (by have:=e.1;omega)) <| ZJ (v.s) true (e.2) <| ZX (Zi (-1)) (by unfold Q5;rw[if_pos hp])
 ·exact K0.enter Tryz.func202 rfl <| ZR <| ZC (fun w1 hw h=>Q6 (ha.below hw) Zo) fun v=>K0.pure_ (p:=v.n≠0∧v.s=false) (fun w1 hw h=>by have q:=hn (h.2);exact⟨by omega,by rw[h.2.2.2.1];exact decide_eq_false hp⟩) Zk fun e=>ZJ (((v.n:Int)==0)) false (beq_eq_false_iff_ne.2 (by have:=e.1;omega)) <| ZJ (v.s) false (e.2) <| ZX (Zi 1) (by unfold Q5;rw[if_neg hp,if_neg h0])
theorem rcmp_m(ha:Pg a x K1 w)(hb:Pg b y K2 w)(hK:K1≤68719476736∧K2≤68719476736):Zv 179 #[a.val,b.val] w (Zi (Q5 (x-y))):=by
 exact K0.enter Tryz.func179 rfl <| ZR <| ZC (fun w1 hw h=>rsub_m (ha.below hw) (hb.below hw) Zo) fun v=>ZC (fun w1 hw h=>Sf (h.2).i Zo) fun u=>ZW (Zi (Q5 (x-y)))
theorem nfrom_m{k:Nat}(hk:(k:Int)≤18446744073709551615):Calls Tryz.prog 63 #[.int .u64 k] w (K7 w DV.val fun v w=>C5 v k 2 w):=
 (Up k hk w).mono fun e w' q=>q.postO (by rw[Sj];omega)
theorem Tg(z:Int)(w:World)(h1: -9223372036854775808≤z)(h2:z≤9223372036854775807):Calls Tryz.prog 31 #[Zi z] w (K7 w SV.val fun v w=>T7 v z 2 w):=by
 refine K0.enter Tryz.func31 rfl <| ZR ?_
 by_cases hz:z<0
 ·have e1:IntKind.u64.wrap (0-IntKind.u64.wrap z)=(z.natAbs:Int):=by rw[L6,L6];omega
  refine K0.condr (decide (z<0)) true Zk (decide_eq_true hz) <| ZS 3 <| ZT 7 (.int .u64 (IntKind.u64.wrap (0-IntKind.u64.wrap z))) (.int .u64 (z.natAbs:Int)) (by rw[e1]) <| ZC (fun w1 hw h=>nfrom_m (k:=z.natAbs) Zo) fun m=>ZC (fun w1 hw h=>Vh (a:=⟨true,m.A,m.n,m.c,m.l⟩) (x:=z) (by have t:=(h.2.1.1).sv true;rw[show zi true z.natAbs=z by simp[zi];omega]at t;exact t) Zd) fun v=>ZV (v.val) (fun w1 hw h=>⟨v,rfl,hw,fun w'' k1 k2=>(h w'' k1 k2).2⟩)
 ·have e1:IntKind.u64.wrap z=(z.natAbs:Int):=by rw[L6];omega
  refine K0.condr (decide (z<0)) false Zk (decide_eq_false hz) <| ZS 2 <| ZT 11 (.int .u64 (IntKind.u64.wrap z)) (.int .u64 (z.natAbs:Int)) (by rw[e1]) <| ZC (fun w1 hw h=>nfrom_m (k:=z.natAbs) Zo) fun m=>ZC (fun w1 hw h=>Vh (a:=⟨false,m.A,m.n,m.c,m.l⟩) (x:=z) (by have t:=(h.2.1.1).sv false;rw[show zi false z.natAbs=z by simp[zi];omega]at t;exact t) Zd) fun v=>ZV (v.val) (fun w1 hw h=>⟨v,rfl,hw,fun w'' k1 k2=>(h w'' k1 k2).2⟩)
theorem digits_in{m g:Nat}(hm:(m:Int)≤18446744073709551615)(h:L4 175 #[.int .u32 ((m%4294967296:Nat):Int),.int .u32 ((m/4294967296:Nat):Int)] g w)(s:Bool):Pg ⟨s,some ⟨g,0,none⟩,2,2,[m%4294967296,m/4294967296]⟩ (zi s m) 2 w:=by
 have h2d:=W5 m hm
 have hmk:Mk w g 175 [m%4294967296,m/4294967296]:=h
 have ho:=hmk.own (B:=0) h2d.1 (Nat.zero_le _) (by simp[maxLen])
 exact⟨ho.toIn,by rw[h2d.2],Nat.le_refl _⟩
theorem E3(z:Int)(w:World)(h1: -9223372036854775808≤z)(h2:z≤9223372036854775807):Calls Tryz.prog 183 #[Zi z] w (K7 w SV.val fun v w=>T7 v z 2 w):=by
 have hm:(z.natAbs:Int)≤18446744073709551615:=by omega
 have hzi:zi (decide (z<0)) z.natAbs=z:=zi_of z rfl
 have w1:IntKind.u32.wrap (z.natAbs:Int)=((z.natAbs%4294967296:Nat):Int):=by rw[IntKind.wrap_u32];omega
 have w2:(z.natAbs:Int).fdiv (2 ^ 32)=((z.natAbs/4294967296:Nat):Int):=by rw[Int.fdiv_eq_ediv_of_nonneg _ Zd];omega
 have w3:IntKind.u32.wrap ((z.natAbs/4294967296:Nat):Int)=((z.natAbs/4294967296:Nat):Int):=by rw[IntKind.wrap_u32];omega
 refine K0.enter Tryz.func183 rfl <| ZR ?_
 by_cases hz:z<0
 ·have e1:IntKind.u64.wrap (0-IntKind.u64.wrap z)=(z.natAbs:Int):=by rw[L6,L6];omega
  refine K0.condr (decide (z<0)) true Zk (decide_eq_true hz) <| ZS 3 <| K0.slot 3 (.int .u64 (IntKind.u64.wrap (0-IntKind.u64.wrap z))) (.int .u64 (z.natAbs:Int)) Zk (by rw[e1]) <| K0.slot 12 (.int .u64 (IntKind.u64.wrap (0-IntKind.u64.wrap z))) (.int .u64 (z.natAbs:Int)) Zk (by rw[e1]) <| ZS 4 <| K0.slot 13 (.int .u32 (IntKind.u32.wrap (z.natAbs:Int))) (.int .u32 ((z.natAbs%4294967296:Nat):Int)) Zk (by rw[w1]) <| ZS 6 <| K0.slot 15 (.int .u64 ((z.natAbs:Int).fdiv (2 ^ 32))) (.int .u64 ((z.natAbs/4294967296:Nat):Int)) Zk (by rw[w2]) <| ZS 7 <| K0.slot 16 (.int .u32 (IntKind.u32.wrap ((z.natAbs/4294967296:Nat):Int))) (.int .u32 ((z.natAbs/4294967296:Nat):Int)) Zk (by rw[w3]) <| K0.make (Lq (36) 2 #[(0,.int .u32 ((z.natAbs%4294967296:Nat):Int)),(1,.int .u32 ((z.natAbs/4294967296:Nat):Int))]) (Kf 2) (L4 175 #[.int .u32 ((z.natAbs%4294967296:Nat):Int),.int .u32 ((z.natAbs/4294967296:Nat):Int)]) Zk (fun w1 hw h=>Kc Zk) fun g=>ZR <| ZC (fun w1 hw h=>by have t:=digits_in hm (h.2) (decide (z<0));rw[hzi]at t;exact Q6 t Zd) fun v=>ZV (v.val) (fun w1 hw h=>⟨v,rfl,hw,fun w'' k1 k2=>(h w'' k1 k2).2⟩)
 ·have e1:IntKind.u64.wrap z=(z.natAbs:Int):=by rw[L6];omega
  refine K0.condr (decide (z<0)) false Zk (decide_eq_false hz) <| ZS 3 <| K0.slot 3 (.int .u64 (IntKind.u64.wrap z)) (.int .u64 (z.natAbs:Int)) Zk (by rw[e1]) <| K0.slot 12 (.int .u64 (IntKind.u64.wrap z)) (.int .u64 (z.natAbs:Int)) Zk (by rw[e1]) <| ZS 4 <| K0.slot 13 (.int .u32 (IntKind.u32.wrap (z.natAbs:Int))) (.int .u32 ((z.natAbs%4294967296:Nat):Int)) Zk (by rw[w1]) <| ZS 6 <| K0.slot 15 (.int .u64 ((z.natAbs:Int).fdiv (2 ^ 32))) (.int .u64 ((z.natAbs/4294967296:Nat):Int)) Zk (by rw[w2]) <| ZS 7 <| K0.slot 16 (.int .u32 (IntKind.u32.wrap ((z.natAbs/4294967296:Nat):Int))) (.int .u32 ((z.natAbs/4294967296:Nat):Int)) Zk (by rw[w3]) <| K0.make (Lq (36) 2 #[(0,.int .u32 ((z.natAbs%4294967296:Nat):Int)),(1,.int .u32 ((z.natAbs/4294967296:Nat):Int))]) (Kf 2) (L4 175 #[.int .u32 ((z.natAbs%4294967296:Nat):Int),.int .u32 ((z.natAbs/4294967296:Nat):Int)]) Zk (fun w1 hw h=>Kc Zk) fun g=>ZR <| ZC (fun w1 hw h=>by have t:=digits_in hm (h.2) (decide (z<0));rw[hzi]at t;exact Q6 t Zd) fun v=>ZV (v.val) (fun w1 hw h=>⟨v,rfl,hw,fun w'' k1 k2=>(h w'' k1 k2).2⟩)
theorem Ii{x y q r:Int}(h:x=y*q+r)(hr:(0≤r∧r<y)∨(y<r∧r≤0)):x.fdiv y=q∧x.fmod y=r:=by
 have h1:x.fdiv y=q:=by
  rcases hr with ⟨h1,h2⟩|⟨h1,h2⟩
  ·rw[Int.fdiv_eq_ediv_of_nonneg _ Zo]
   exact((Int.ediv_emod_unique Zo).2 ⟨(by rw[h,Int.add_comm]),h1,h2⟩).1
  ·rw[←Int.neg_fdiv_neg,Int.fdiv_eq_ediv_of_nonneg _ Zo]
   exact((Int.ediv_emod_unique (r:= -r) Zo).2 ⟨(by rw[h];grind),by omega,by omega⟩).1
 refine⟨h1,?_⟩
 rw[Int.fmod_def,h1,h];omega
theorem ref_dm(s t:Bool)(a b:Nat)(hb:b≠0):
 ((s !=t)=true∧a%b≠0→Iy (zi s a) (zi t b)=zi true (a/b)-1∧remI (zi s a) (zi t b)=zi s (a%b)+zi t b)∧
 ((s !=t)=false∨a%b=0→Iy (zi s a) (zi t b)=zi (s !=t) (a/b)∧remI (zi s a) (zi t b)=zi s (a%b)):=by
 have h0:zi t b≠0:=by cases t<;>simp[zi]<;>omega
 have hd:(a:Int)=b*((a/b:Nat):Int)+((a%b:Nat):Int):=by
  have:=Nat.div_add_mod a b
  rw[←Int.natCast_mul,←Int.natCast_add,this]
 have hl:a%b<b:=Nat.mod_lt _ Zo
 obtain⟨q,hq⟩:∃q,q=a/b:=⟨_,rfl⟩
 obtain⟨r,hr⟩:∃r,r=a%b:=⟨_,rfl⟩
 rw[←hq,←hr]at hd
 rw[←hr]at hl
 rw[←hq,←hr,Iy,remI,if_neg h0,if_neg h0]
 constructor
 ·rintro⟨h1,h2⟩
  refine Ii ?_ ?_
  ·cases s<;>cases t<;>simp[zi]at* <;>rw[hd]<;>grind
  ·cases s<;>cases t<;>simp[zi]at* <;>omega
 ·intro h1
  refine Ii ?_ ?_
  ·cases s<;>cases t<;>simp[zi]at* <;>rw[hd]<;>grind
  ·cases s<;>cases t<;>simp[zi]at* <;>omega
theorem rndm_m(h:C7 d k K1 w)(h2:C7 d2 k2 K2 w)(h0:k2≠0)(hK:K1≤17179869184∧K2≤17179869184):Calls Tryz.prog 273 #[d.val,d2.val] w (K7 w (fun q:DV×DV=> .tuple #[q.1.val,q.2.val,Zi 0]) fun q w=>C5 q.1 (k/k2) K1 w∧C5 q.2 (k%k2) K2 w):=by
 refine(I8 w h.1 h2.1 (by have:=h.2.2;omega) (by have:=h2.2.2;omega)).mono fun e w' q=> ?_
 obtain⟨A1,n1,c1,l1,A2,n2,c2,l2,he,N1,v1,N2,v2,o1,o2,hb⟩:=q
 rw[h2.2.1,Bz h0]at he
 rw[h.2.1,h2.2.1]at v1
 rw[h.2.1,h2.2.1,Vf h0]at v2
 obtain⟨z1,a1,a2,a3⟩:=Tq.postO (K:=K1) ⟨A1,n1,c1,l1,rfl,N1,v1,o1,hb⟩ (Nat.lt_of_le_of_lt (Nat.div_le_self _ _) h.lt)
 obtain⟨z2,b1,b2,b3⟩:=Tq.postO (K:=K2) ⟨A2,n2,c2,l2,rfl,N2,v2,o2,hb⟩ (Nat.lt_trans (Nat.mod_lt _ Zo) h2.lt)
 have e1:Value.slice A1 n1 c1=z1.val:=by injection a1
 have e2:Value.slice A2 n2 c2=z2.val:=by injection b1
 exact⟨(z1,z2),by rw[he,e1,e2],hb,fun w'' k1 k2=>⟨a3 w'' k1 k2,b3 w'' k1 k2⟩⟩
theorem zi_diff(t:Bool){r m:Nat}(h:r<m):(zi (!t) r+zi t m).natAbs≤m:=by cases t<;>simp[zi]<;>omega
theorem sv_zero:T7 ⟨false,none,0,0,[]⟩ 0 K w:=⟨⟨(Py.nil_ (B:=0)).toIn,rfl,Nat.zero_le _⟩,Mx.nil,rfl,Py.nil_⟩
theorem Ch(ha:Pg a x K1 w)(hb:Pg b y K2 w)(hK:K1≤17179869184∧K2≤17179869184):Calls Tryz.prog 246 #[a.val,b.val] w (K7 w (DVal y) fun q w=>T7 q.1 (Iy x y) (K1+1) w∧T7 q.2 (remI x y) K2 w):=by
 have hs:(Q5 y==0)=decide (y=0):=by
  unfold Q5
  by_cases h1:y<0
  ·rw[if_pos h1,decide_eq_false Zo];rfl
  ·by_cases h2:y=0
   ·rw[if_neg h1,if_pos h2,decide_eq_true h2];rfl
   ·rw[if_neg h1,if_neg h2,decide_eq_false h2];rfl
 by_cases h0:y=0
 ·refine K0.enter Tryz.func246 rfl <| ZR <| ZC (fun w1 hw h=>Sf (hb.below hw) Zo) fun s=>ZJ ((Q5 y==0)) true (by rw[hs];exact decide_eq_true h0) <| ZV (.tuple #[.agg #[.bool false,.slice none 0 0],.agg #[.bool false,.slice none 0 0],Zi 9]) (fun w1 hw h=>⟨(⟨false,none,0,0,[]⟩,⟨false,none,0,0,[]⟩),by rw[h0];rfl,hw,fun w'' k1 k2=>by rw[h0,show Iy x 0=0 from rfl,show remI x 0=0 from rfl];exact⟨sv_zero,sv_zero⟩⟩)
 have hx:=ha.zi;have hy:=hb.zi
 rw[←ha.abs]at hx
 rw[←hb.abs]at hy
 have hy0:y.natAbs≠0:=by omega
 have hdm:=ref_dm a.s b.s x.natAbs y.natAbs hy0
 rw[hx,hy]at hdm
 have e0:divEI y=0:=if_neg h0
 have hz:∀{s:Bool} {k:Nat},zi s k=0↔k=0:=fun{s k}=>by cases s<;>simp[zi]
 have hsr:∀{s:Bool} {k:Nat},(Q5 (zi s k) !=0)=decide (k≠0):=fun{s k}=>by
  have e:(Q5 (zi s k)=0)↔k=0:=by
   rw[←hz (s:=s)];unfold Q5
   constructor
   ·intro h;split at h
    ·cases h
    ·split at h
     ·assumption
     ·cases h
   ·intro h;rw[h];rfl
  by_cases h:k=0
  ·rw[e.2 h,decide_eq_false (by simpa using h)];rfl
  ·rw[decide_eq_true h];exact bne_iff_ne.2 fun h2=>h (e.1 h2)
 cases hst:a.s !=b.s
 ·have he:=hdm.2 (.inl hst)
  have hq0:(Iy x y).natAbs<pw (K1+1):=by rw[he.1,Yy];exact Nat.lt_trans (Nat.lt_of_le_of_lt (Nat.div_le_self _ _) ha.lt) (pw_lt Zo)
  have hr0:(remI x y).natAbs<pw K2:=by rw[he.2,Yy];exact Nat.lt_trans (Nat.mod_lt _ Zo) hb.lt
  refine K0.enter Tryz.func246 rfl <| ZR <| ZC (fun w1 hw h=>Sf (hb.below hw) Zo) fun s=>ZJ ((Q5 y==0)) false (by rw[hs];exact decide_eq_false h0) <| ZC (fun w1 hw h=>rndm_m (ha.d.below hw) (hb.d.below hw) hy0 hK) fun q=>ZC (fun w1 hw h=>Q6 (a:=⟨a.s !=b.s,q.1.A,q.1.n,q.1.c,q.1.l⟩) ((h.2.1.1.1).sv _) Zo) fun n=>ZD 5 (fun w1 hw h=>Q6 (a:=⟨a.s,q.2.A,q.2.n,q.2.c,q.2.l⟩) ((h.1.2.2.1.1).sv _) Zo) fun r=>K0.run Zk (stop:=1000) 1 _ <| ZS 5 <| ZT 41 (.bool (a.s !=b.s)) Zf (by rw[hst]) <| ZI false <| ZV (.tuple #[n.val,r.val,Zi 0]) (fun w1 hw h=>⟨(n,r),by rw[←e0];rfl,hw,fun w'' k1 k2=>⟨Rn (((h w'' k1 k2).1.2).cast he.1.symm) hq0,Rn (((h w'' k1 k2).2).cast he.2.symm) hr0⟩⟩)
 by_cases hm:x.natAbs%y.natAbs=0
 ·have he:=hdm.2 (.inr hm)
  have hq0:(Iy x y).natAbs<pw (K1+1):=by rw[he.1,Yy];exact Nat.lt_trans (Nat.lt_of_le_of_lt (Nat.div_le_self _ _) ha.lt) (pw_lt Zo)
  have hr0:(remI x y).natAbs<pw K2:=by rw[he.2,Yy];exact Nat.lt_trans (Nat.mod_lt _ Zo) hb.lt
  refine K0.enter Tryz.func246 rfl <| ZR <| ZC (fun w1 hw h=>Sf (hb.below hw) Zo) fun s=>ZJ ((Q5 y==0)) false (by rw[hs];exact decide_eq_false h0) <| ZC (fun w1 hw h=>rndm_m (ha.d.below hw) (hb.d.below hw) hy0 hK) fun q=>ZC (fun w1 hw h=>Q6 (a:=⟨a.s !=b.s,q.1.A,q.1.n,q.1.c,q.1.l⟩) ((h.2.1.1.1).sv _) Zo) fun n=>ZD 5 (fun w1 hw h=>Q6 (a:=⟨a.s,q.2.A,q.2.n,q.2.c,q.2.l⟩) ((h.1.2.2.1.1).sv _) Zo) fun r=>K0.run Zk (stop:=1000) 1 _ <| ZS 5 <| ZT 41 (.bool (a.s !=b.s)) Zt (by rw[hst]) <| ZC (fun w1 hw h=>Sf (h.2).i Zo) fun s2=>ZJ ((Q5 (zi a.s (x.natAbs%y.natAbs)) !=0)) false (by rw[hsr];simp[hm]) <| ZV (.tuple #[n.val,r.val,Zi 0]) (fun w1 hw h=>⟨(n,r),by rw[←e0];rfl,hw,fun w'' k1 k2=>⟨Rn (((h w'' k1 k2).1.1.2).cast he.1.symm) hq0,Rn (((h w'' k1 k2).1.2).cast he.2.symm) hr0⟩⟩)
 ·have he:=hdm.1 ⟨hst,hm⟩
  have hq0:(Iy x y).natAbs<pw (K1+1):=by
   have h1:=Nat.div_le_self x.natAbs y.natAbs
   rw[he.1]
   revert h1
   generalize x.natAbs/y.natAbs=q
   intro h1
   have h2:=ha.lt;have h3:=pw_lt (show K1<K1+1 by omega)
   simp only[zi,if_true];omega
  have hr0:(remI x y).natAbs<pw K2:=by
   have h1:=Nat.mod_lt x.natAbs (show y.natAbs>0 by omega)
   have h3:a.s= !b.s:=by revert hst;cases a.s<;>cases b.s<;>simp
   have e:zi a.s (x.natAbs%y.natAbs)+y=zi (!b.s) (x.natAbs%y.natAbs)+zi b.s y.natAbs:=by rw[h3,hy]
   rw[he.2,e]
   exact Nat.lt_of_le_of_lt (zi_diff _ h1) hb.lt
  refine K0.enter Tryz.func246 rfl <| ZR <| ZC (fun w1 hw h=>Sf (hb.below hw) Zo) fun s=>ZJ ((Q5 y==0)) false (by rw[hs];exact decide_eq_false h0) <| ZC (fun w1 hw h=>rndm_m (ha.d.below hw) (hb.d.below hw) hy0 hK) fun q=>ZC (fun w1 hw h=>Q6 (a:=⟨a.s !=b.s,q.1.A,q.1.n,q.1.c,q.1.l⟩) ((h.2.1.1.1).sv _) Zo) fun n=>ZD 5 (fun w1 hw h=>Q6 (a:=⟨a.s,q.2.A,q.2.n,q.2.c,q.2.l⟩) ((h.1.2.2.1.1).sv _) Zo) fun r=>K0.run Zk (stop:=1000) 1 _ <| ZS 5 <| ZT 41 (.bool (a.s !=b.s)) Zt (by rw[hst]) <| ZC (fun w1 hw h=>Sf (h.2).i Zo) fun s2=>ZJ ((Q5 (zi a.s (x.natAbs%y.natAbs)) !=0)) true (by rw[hsr];exact decide_eq_true hm) <| ZC (fun w1 hw h=>E3 1 w1 Zd Zd) fun f=>ZC (fun w1 hw h=>rsub_m (h.1.1.1.2).i (h.2).i Zo) fun u=>ZC (fun w1 hw h=>radd_m (h.1.1.1.2).i (hb.below hw) Zo) fun t=>ZV (.tuple #[u.val,t.val,Zi 0]) (fun w1 hw h=>⟨(u,t),by rw[←e0];rfl,hw,fun w'' k1 k2=>⟨Rn (((h w'' k1 k2).1.2).cast (by rw[he.1,hst])) hq0,Rn (((h w'' k1 k2).2).cast he.2.symm) hr0⟩⟩)
end
end Go.Proofs.YtoeiphicmcndlaaGreatDoor
