/-
 A part of the proof.
-/
import Derived.Test.YtpgkbllcnphmbaaGreatDoorBWg
import Derived.BigRegion
import Derived.Deep.RegionWith
import Derived.Test.YtpgkbllcnphmbaaGreatDoorBWc
import Derived.Test.YtpgkbllcnphmbaaGreatDoorBNum
import Derived.BigQuiet
import Derived.Test.YtpgkbllcnphmbaaGreatDoorAAn
namespace Go.Proofs.YtpgkbllcnphmbaaGreatDoor
set_option maxRecDepth 100000
set_option maxHeartbeats 8000000
set_option linter.unusedVariables false
set_option linter.unusedSimpArgs false
open Go.RowKit
theorem Sr.mid{w w':World}{B:Nat}{A:Option Addr}{n c:Nat}{l:List Nat}(h:Sr w B A n c l)(hs:w.heap.size≤w'.heap.size)(hk:∀k,B≤k→k<w.heap.size→w'.heap[k]? =w.heap[k]?):Sr w' B A n c l:=by
 have key:0<c→∃g cur t,A=some ⟨g,0,none⟩∧B≤g∧w'.heap[g]? =some (.cells cur t (0,0))∧c≤cur.size∧w'.heap[g]? =w.heap[g]? :=by
  intro h0
  obtain⟨g,cur,t,hA,hg,hh,hc⟩:=h.own h0
  have e:=hk g hg (Array.getElem?_eq_some_iff.1 hh).1
  exact⟨g,cur,t,hA,hg,e.trans hh,hc,e⟩
 refine⟨⟨h.dig,h.len,h.le,h.cap,⟨h.rd.1,fun hn=> ?_⟩⟩,fun h0=> ?_⟩
 ·obtain⟨ad,hA,hb,hc⟩:=h.rd.2 hn
  obtain⟨g,cur,t,hA2,_,_,_,e⟩:=key (Nat.lt_of_lt_of_le hn h.le)
  refine⟨ad,hA,Nat.lt_of_lt_of_le hb hs,fun j u hu=> ?_⟩
  rw[hA]at hA2
  injection hA2 with hA2
  subst hA2
  have:=hc j u hu
  rw[add_off]at this ⊢
  rw[World.cell?_of_block (w:=w) e]
  exact this
 ·obtain⟨g,cur,t,hA,hg,hh,hc,_⟩:=key h0
  exact⟨g,cur,t,hA,hg,hh,hc⟩
theorem B6{a b i j k:Nat}(ha:a<pw i)(hb:b<pw j)(hi:i+1≤k)(hj:j+1≤k):a+b<pw k:=by
 obtain⟨m,rfl⟩:∃m,k=m+1:=⟨k-1,by omega⟩
 have h1:=Zn (show i≤m by omega)
 have h2:=Zn (show j≤m by omega)
 rw[Ms];omega
theorem pw_mul_lt{a b i j k:Nat}(ha:a<pw i)(hb:b<pw j)(hk:i+j≤k):a*b<pw k:=by
 have h1:a*b<pw i*pw j:=Nat.mul_lt_mul'' ha hb
 rw[←pw_add]at h1
 exact Nat.lt_of_lt_of_le h1 (Zn hk)
theorem Kt{w1 w2:World}{q:Addr}{v:Value}(hb:Below w1.heap.size w1 w2)(h:w1.cell? q=some v):w2.cell? q=some v:=(hb.cell (World.block_lt_of_cell? w1 q h)).trans h
def M5(t:TypeId)(n:Nat)(parts:Array (Nat×Value)):Sem Next:=Instr.buildSlice t n parts >>= fun v=>pure (.value v)
def Km(n:Nat)(g:Nat):Value:= .slice (some ⟨g,0,none⟩) n n
def Kv(elem:TypeId)(cells:Array Value)(g:Nat)(w:World):Prop:=w.heap[g]? =some (.cells cells elem (0,0))
def Em(P:Program)(t:TypeId)(len:Nat)(parts:Array (Nat×Value)):Option (TypeId×Array Value):=
 match P.underlying t with
 | some (.slice elem)=>match N8 P elem,Tv P elem with
  | some n,some z=>if Nat.beq (len*n) 0 then(match Instr.fill (fun i=>some (i*n,n)) ((Array.range (len*n)).map ((#[]:Array Value)[· %(#[]:Array Value).size]!)) parts.toList with
   |some cells=>some (elem,cells)
   |none=>none)
   else if Nat.ble (len*n) 16777216 then(match Instr.fill (fun i=>some (i*n,n)) ((Array.range (len*n)).map (z.cells[· %z.cells.size]!)) parts.toList with
    |some cells=>some (elem,cells)
    |none=>none)else none
  |_,_=>none
 |_=>none
theorem Ke{P:Program}{t elem:TypeId}{len:Nat}{parts:Array (Nat×Value)}{cells:Array Value}{w:World}(h:Em P t len parts=some (elem,cells)):
 Lp P w (Km len) (Kv elem cells) (M5 t len parts):=by
 unfold Em at h
 split at h
 ·rename_i elem' hu
  split at h
  ·rename_i n z hn hz
   have fin:∀cs,(Instr.buildSlice t len parts).run P w= .ok (.slice (some ⟨w.heap.size,0,none⟩) len len) (w.alloc (.cells cs elem'))→some (elem',cs)=some (elem,cells)→Lp P w (Km len) (Kv elem cells) (M5 t len parts):=by
    intro cs hr he
    injection he with he
    injection he with h1 h2
    subst h1;subst h2
    refine⟨w.heap.size,w.alloc (.cells cs elem'),?_,Om _ _,fun w'' h1 h2=> ?_⟩
    ·simp only[M5,Sem.run_bind,hr,Result.andThen_ok,Sem.run_pure,Km]
    ·unfold Kv
     rw[h2 w.heap.size (Nat.le_refl _) Zs]
     show(w.heap.push _)[w.heap.size]? =_
     simp
   split at h
   ·rename_i h0
    have h0:=Nat.eq_of_beq_eq_true h0
    split at h
    ·rename_i cs hf
     refine fin cs ?_ h
     have e1:¬len*n>2 ^ 24:=by omega
     simp only[Instr.buildSlice,Sem.run_bind,run_underlying hu,Result.andThen_ok,Lf hn,if_neg e1,if_pos h0,Sem.run_pure,hf]
     rfl
    ·cases h
   ·rename_i h0
    have h0:¬len*n=0:=fun e=>h0 (by rw[e];rfl)
    split at h
    ·rename_i hle
     have hle:=Nat.le_of_ble_eq_true hle
     split at h
     ·rename_i cs hf
      refine fin cs ?_ h
      have e1:¬len*n>2 ^ 24:=by omega
      simp only[Instr.buildSlice,Sem.run_bind,run_underlying hu,Result.andThen_ok,Lf hn,if_neg e1,if_neg h0,Qr hz,Sem.run_pure,hf]
      rfl
     ·cases h
    ·cases h
  ·cases h
 ·cases h
def zi(s:Bool)(v:Nat):Int:=if s then -(v:Int)else(v:Int)
theorem zi_abs(s:Bool)(v:Nat):(zi s v).natAbs=v:=by cases s<;>simp[zi]
theorem zi_add(s:Bool)(a b:Nat):zi s (a+b)=zi s a+zi s b:=by cases s<;>simp[zi]<;>omega
theorem zi_sub(s t:Bool)(a b:Nat)(h:(s==t)=false)(hle:b≤a):zi s (a-b)=zi s a+zi t b:=by cases s<;>cases t<;>simp[zi]at* <;>omega
theorem zi_not(s:Bool)(v:Nat):zi (!s) v= -zi s v:=by cases s<;>simp[zi]
theorem zi_mul(s t:Bool)(a b:Nat):zi (s !=t) (a*b)=zi s a*zi t b:=by cases s<;>cases t<;>simp[zi]<;>grind
theorem zi_of(k:Int){v:Nat}(h:v=k.natAbs):zi (decide (k<0)) v=k:=by
 subst h
 by_cases e:k<0
 ·rw[decide_eq_true e];simp[zi];omega
 ·rw[decide_eq_false e];simp[zi];omega
def Uq(k:Int):Int:=if k<0 then -1 else if k=0 then 0 else 1
def F7(y:Int):Int:=if y=0 then 9 else 0
def Iz(x y:Int):Int:=if y=0 then 0 else x.fdiv y
def remI(x y:Int):Int:=if y=0 then 0 else x.fmod y
theorem Pp.len_pos{l:List Nat}(h:Pp l):decide (0<val l)=decide (0<l.length):=by
 by_cases e:l=[]
 ·subst e;rfl
 ·have h1:=h.pos e
  have h2:=Yc (l.length-1)
  have h3:0<l.length:=List.length_pos_iff.2 e
  rw[decide_eq_true h3,decide_eq_true Zo]
theorem k_len{w:World}{A:Option Addr}{n c K:Nat}{l:List Nat}{k:Int}(N:Pp l)(v:val l=k.natAbs)(o:In w A n c l)(h:k.natAbs<pw K):n≤K:=by
 have:=N.length_le (k:=K) (by rw[v];exact h)
 rw[o.len]at this
 exact this
theorem abs_add_lt{x y:Int}{K:Nat}(hx:x.natAbs<pw K)(hy:y.natAbs<pw K):(x+y).natAbs<pw (K+1):=by
 have:=B6 hx hy (Nat.le_refl _) (Nat.le_refl _)
 omega
theorem abs_sub_lt{x y:Int}{K:Nat}(hx:x.natAbs<pw K)(hy:y.natAbs<pw K):(x-y).natAbs<pw (K+1):=by
 have:=B6 hx hy (Nat.le_refl _) (Nat.le_refl _)
 omega
theorem K3.impG{X:Type}{w w':World}{val:X→Value}{G G':X→World→Prop}{e:Ending}(h:K3 w val G e w')(hG:∀x u,G x u→G' x u):K3 w val G' e w':=by
 obtain⟨x,h1,h2,h3⟩:=h
 exact⟨x,h1,h2,fun w'' k1 k2=>hG _ _ (h3 w'' k1 k2)⟩
structure DV where
 A:Option Addr
 n:Nat
 c:Nat
 l:List Nat
@[reducible] def DV.val(v:DV):Value:= .slice v.A v.n v.c
def Cz(v:DV)(k:Nat)(K:Nat)(w:World):Prop:=In w v.A v.n v.c v.l∧val v.l=k∧v.n≤K
def Ys(v:DV)(k:Nat)(K:Nat)(w:World):Prop:=Cz v k K w∧Pp v.l
def Wa(v:DV)(k:Nat)(K:Nat)(w:World):Prop:=Ys v k K w∧Sr w 0 v.A v.n v.c v.l
structure II(w:World)(s:Bool)(A:Option Addr)(n c:Nat)(l:List Nat)(x:Int)(K:Nat):Prop where
 inn:In w A n c l
 zi:zi s (val l)=x
 le:n≤K
section
variable{w w':World}{s:Bool}{A:Option Addr}{n c K K':Nat}{l:List Nat}{x y:Int}{k:Nat}{e:Ending}
theorem II.below(h:II w s A n c l x K)(hb:Below w.heap.size w w'):II w' s A n c l x K:=⟨h.inn.below hb,h.zi,h.le⟩
theorem II.abs(h:II w s A n c l x K):x.natAbs=val l:=by rw[←h.zi,zi_abs]
theorem II.lt(h:II w s A n c l x K):x.natAbs<pw K:=by
 rw[h.abs];exact Nat.lt_of_lt_of_le (Q2 h.inn.dig (Nat.le_of_eq h.inn.len)) (Zn h.le)
theorem Cz.below{v:DV}(h:Cz v k K w)(hb:Below w.heap.size w w'):Cz v k K w':=⟨h.1.below hb,h.2⟩
theorem Cz.lt{v:DV}(h:Cz v k K w):k<pw K:=by
 rw[←h.2.1];exact Q2 h.1.dig (by rw[h.1.len];exact h.2.2)
theorem Cx.postO(h:Cx w k e w')(hK:k<pw K):K3 w DV.val (fun v w=>Wa v k K w) e w':=by
 obtain⟨A,n,c,l,rfl,N,v,o,hb⟩:=h
 refine⟨⟨A,n,c,l⟩,rfl,hb,fun w'' h1 h2=>⟨⟨⟨(o.mid h1 h2).toIn,v,?_⟩,N⟩,(o.mid h1 h2).base (Nat.zero_le _)⟩⟩
 have:=N.length_le (k:=K) (by rw[v];exact hK)
 rw[o.len]at this
 exact this
theorem Cx.post(h:Cx w k e w')(hK:k<pw K):K3 w DV.val (fun v w=>Ys v k K w) e w':=by
 obtain⟨x,h1,h2,h3⟩:=h.postO hK
 exact⟨x,h1,h2,fun w'' k1 k2=>(h3 w'' k1 k2).1⟩
end
structure SV where
 s:Bool
 A:Option Addr
 n:Nat
 c:Nat
 l:List Nat
@[reducible] def SV.val(x:SV):Value:= .agg #[.bool x.s,.slice x.A x.n x.c]
def Ss(v:SV)(x:Int)(K:Nat)(w:World):Prop:=II w v.s v.A v.n v.c v.l x K
def Xr(v:SV)(x:Int)(K:Nat)(w:World):Prop:=Ss v x K w∧Pp v.l∧v.s=decide (x<0)∧Sr w 0 v.A v.n v.c v.l
def SV.d(v:SV):DV:=⟨v.A,v.n,v.c,v.l⟩
theorem Ss.d{v:SV}{x:Int}{K:Nat}{w:World}(h:Ss v x K w):Cz v.d x.natAbs K w:=⟨h.inn,h.abs.symm,h.le⟩
section
variable{v a b:SV}{x y:Int}{K K' K1 K2:Nat}{w w':World}{d d2:DV}{k k2:Nat}{e:Ending}
theorem Xr.i(h:Xr v x K w):Ss v x K w:=h.1
theorem Ss.below(h:Ss v x K w)(hb:Below w.heap.size w w'):Ss v x K w':=II.below h hb
theorem Ss.mono(h:Ss v x K w)(hK:K≤K'):Ss v x K' w:=⟨h.inn,h.zi,Nat.le_trans h.le hK⟩
theorem Xr.mono(h:Xr v x K w)(hK:K≤K'):Xr v x K' w:=⟨h.1.mono hK,h.2⟩
theorem Xr.cast(h:Xr v x K w)(e:x=y):Xr v y K w:=by rw[←e];exact h
theorem Ss.lt(h:Ss v x K w):x.natAbs<pw K:=II.lt h
theorem T0(h:Xr v x K w)(hK:x.natAbs<pw K'):Xr v x K' w:=⟨⟨h.1.inn,h.1.zi,k_len h.2.1 h.1.abs.symm h.1.inn hK⟩,h.2⟩
theorem Wa.n(h:Wa d x.natAbs K w):Xr ⟨decide (x<0),d.A,d.n,d.c,d.l⟩ x K w:=⟨⟨h.1.1.1,zi_of x h.1.1.2.1,h.1.1.2.2⟩,h.1.2,rfl,h.2⟩
theorem Cz.sv(h:Cz d k K w)(s:Bool):Ss ⟨s,d.A,d.n,d.c,d.l⟩ (zi s k) K w:=⟨h.1,by rw[←h.2.1],h.2.2⟩
theorem Ys.pos(h:Ys d k K w):0<d.n↔0<k:=by
 have h1:=h.2.len_pos
 rw[h.1.2.1,h.1.1.len]at h1
 exact⟨fun q=>of_decide_eq_true (by rw[h1];exact decide_eq_true q),fun q=>of_decide_eq_true (by rw[←h1];exact decide_eq_true q)⟩
theorem pw_sum{a b n m:Nat}(ha:a<pw n)(hb:b<pw m):a+b<pw (n+m+1):=B6 ha hb Zo Zo
theorem pw_prod{a b n m:Nat}(ha:a<pw n)(hb:b<pw m):a*b<pw (n+m):=pw_mul_lt ha hb (Nat.le_refl _)
theorem J8(h:Cz d k K w)(hK:K≤274877906944):Calls Tryz.prog 106 #[d.val] w (K3 w DV.val fun v w=>Wa v k K w):=by
 refine(Sk w h.1 (by have:=h.2.2;omega)).mono fun e w' q=>Cx.postO ?_ h.lt
 obtain⟨A,n,c,rfl,o,hb⟩:=q
 exact⟨A,n,c,_,rfl,Lz h.1.dig,by rw[Kr];exact h.2.1,o,hb⟩
theorem nadd_m(h:Cz d k K1 w)(h2:Cz d2 k2 K2 w)(hK:K1+K2+1≤137438953473):Calls Tryz.prog 173 #[d.val,d2.val] w (K3 w DV.val fun v w=>Wa v (k+k2) (K1+K2+1) w):=by
 refine(add_c w h.1 h2.1 (by have:=h.2.2;omega) (by have:=h2.2.2;omega)).mono fun e w' q=>Cx.postO ?_ (pw_sum h.lt h2.lt)
 rw[h.2.1,h2.2.1]at q;exact q
theorem nmul_m(h:Cz d k K1 w)(h2:Cz d2 k2 K2 w)(hK:K1+K2≤137438953473):Calls Tryz.prog 178 #[d.val,d2.val] w (K3 w DV.val fun v w=>Wa v (k*k2) (K1+K2) w):=by
 refine(mul_c w h.1 h2.1 (by have:=h.2.2;omega) (by have:=h2.2.2;omega)).mono fun e w' q=>Cx.postO ?_ (pw_prod h.lt h2.lt)
 rw[h.2.1,h2.2.1]at q;exact q
theorem nsub_m{B:Bool}(hB:decide (k2≤k)=B)(h:Cz d k K1 w)(h2:Cz d2 k2 K2 w)(hK:K1+K2≤137438953473):Calls Tryz.prog 177 #[d.val,d2.val] w (K3 w (fun v:DV=> .tuple #[v.val,.bool B]) fun v w=>Wa v (k-k2) K1 w):=by
 refine(sub_c w h.1 h2.1 (by have:=h.2.2;omega)).mono fun e w' q=> ?_
 obtain⟨A,n,c,l,he,N,hv,o,hb⟩:=q
 rw[h.2.1,h2.2.1]at he
 rw[h.2.1,h2.2.1]at hv
 obtain⟨z,h1,h3,h4⟩:=Cx.postO (K:=K1) ⟨A,n,c,l,rfl,N,hv,o,hb⟩ (Nat.lt_of_le_of_lt (Nat.sub_le _ _) h.lt)
 have e2:Value.slice A n c=z.val:=by injection h1
 exact⟨z,by rw[he,hB,e2],h3,h4⟩
theorem Ja(h:Cz d k K w)(hK:K≤137438953473):Calls Tryz.prog 245 #[d.val] w (K3 w (fun _:Unit=> .int .i64 (bitsN k:Nat)) fun _ _=>True):=by
 refine(bitLen_c w h.1 (by have:=h.2.2;omega)).mono fun e w' q=> ?_
 obtain⟨rfl,q⟩:=q
 exact⟨(),by rw[h.2.1],by rw[q];exact Below.refl _ _,fun _ _ _=>trivial⟩
theorem Rk(ha:Ss a x K1 w)(hK:K1≤274877906944):Calls Tryz.prog 168 #[.bool a.s,.slice a.A a.n a.c] w (K3 w SV.val fun v w=>Xr v x K1 w):=by
 have hd:=ha.d
 obtain⟨s,A,n,c,l⟩:=a
 have hz:zi s (val l)=x:=ha.zi
 have hb:x.natAbs=val l:=ha.abs
 cases s
 ·have e:decide (x<0)=false:=decide_eq_false (by rw[←hz];simp[zi])
  refine K0.enter Tryz.func168 rfl ?_
  refine ZR ?_
  refine ZC (fun w1 hw h=>J8 (hd.below hw) hK) fun m=> ?_
  refine ZV (.agg #[.bool false,.slice m.A m.n m.c]) (fun w1 hw h=>⟨⟨decide (x<0),m.A,m.n,m.c,m.l⟩,by rw[←e],hw,fun w'' k1 k2=>((h w'' k1 k2).2).n⟩)
 ·
  refine K0.enter Tryz.func168 rfl ?_
  refine ZR ?_
  refine ZC (fun w1 hw h=>J8 (hd.below hw) hK) fun m=> ?_
  refine K0.pure_ (p:=decide ((m.n:Int)>0)=decide (x<0)) (fun w1 hw h=>decide_eq_decide.2 (by
   have q:=h.2.1.pos
   have e2:x= -(x.natAbs:Int):=by rw[←hz];simp[zi]
   omega)) Zk (fun e=> ?_)
  refine ZV (.agg #[.bool (decide ((m.n:Int)>0)),.slice m.A m.n m.c]) (fun w1 hw h=>⟨⟨decide (x<0),m.A,m.n,m.c,m.l⟩,by rw[←e],hw,fun w'' k1 k2=>((h w'' k1 k2).2).n⟩)
theorem ineg_m(ha:Ss a x K1 w)(hK:K1≤137438953473):Calls Tryz.prog 233 #[a.val] w (K3 w SV.val fun v w=>Xr v (-x) K1 w):=by
 have hn:Ss ⟨!a.s,a.A,a.n,a.c,a.l⟩ (-x) K1 w:=⟨ha.inn,by rw[zi_not,ha.zi],ha.le⟩
 refine K0.enter Tryz.func233 rfl ?_
 refine ZR ?_
 refine ZC (fun w1 hw h=>Rk (hn.below hw) Zo) fun v=> ?_
 refine ZV (v.val) (fun w1 hw h=>⟨v,rfl,hw,fun w'' k1 k2=>(h w'' k1 k2).2⟩)
theorem iadd_m(ha:Ss a x K1 w)(hb:Ss b y K2 w)(hK:K1+K2+1≤137438953473):Calls Tryz.prog 110 #[a.val,b.val] w (K3 w SV.val fun v w=>Xr v (x+y) (K1+K2+1) w):=by
 have hx:=ha.zi;have hy:=hb.zi
 rw[←ha.abs]at hx
 rw[←hb.abs]at hy
 cases hs:a.s==b.s
 case true=>
  have e:b.s=a.s:=(beq_iff_eq.1 hs).symm
  have hsum:zi a.s (x.natAbs+y.natAbs)=x+y:=by rw[zi_add,hx,←e,hy]
  refine K0.enter Tryz.func110 rfl ?_
  refine ZR ?_
  refine ZJ ((a.s==b.s)) true (hs) ?_
  refine ZC (fun w1 hw h=>nadd_m (ha.d.below hw) (hb.d.below hw) hK) fun m=> ?_
  refine ZC (fun w1 hw h=>Rk (a:=⟨a.s,m.A,m.n,m.c,m.l⟩) (x:=x+y) (by have t:=(h.2.1.1).sv a.s;rw[hsum]at t;exact t) Zo) fun v=> ?_
  refine ZV (v.val) (fun w1 hw h=>⟨v,rfl,hw,fun w'' k1 k2=>(h w'' k1 k2).2⟩)
 by_cases hle:y.natAbs≤x.natAbs
 ·have hd:zi a.s (x.natAbs-y.natAbs)=x+y:=by rw[zi_sub a.s b.s _ _ hs hle,hx,hy]
  refine K0.enter Tryz.func110 rfl ?_
  refine ZR ?_
  refine ZJ ((a.s==b.s)) false (hs) ?_
  refine ZC (fun w1 hw h=>nsub_m (decide_eq_true hle) (ha.d.below hw) (hb.d.below hw) Zo) fun m=> ?_
  refine ZI true ?_
  refine ZC (fun w1 hw h=>Rk (a:=⟨a.s,m.A,m.n,m.c,m.l⟩) (x:=x+y) (by have t:=(h.2.1.1).sv a.s;rw[hd]at t;exact t) Zo) fun v=> ?_
  refine ZV (v.val) (fun w1 hw h=>⟨v,rfl,hw,fun w'' k1 k2=>((h w'' k1 k2).2).mono Zo⟩)
 ·have hs2:(b.s==a.s)=false:=by rw[←hs];cases a.s<;>cases b.s<;>rfl
  have hd:zi b.s (y.natAbs-x.natAbs)=x+y:=by rw[zi_sub b.s a.s _ _ hs2 Zo,hx,hy,Int.add_comm]
  refine K0.enter Tryz.func110 rfl ?_
  refine ZR ?_
  refine ZJ ((a.s==b.s)) false (hs) ?_
  refine ZC (fun w1 hw h=>nsub_m (decide_eq_false hle) (ha.d.below hw) (hb.d.below hw) Zo) fun m=> ?_
  refine ZI false ?_
  refine ZC (fun w1 hw h=>nsub_m (B:=true) (decide_eq_true (show x.natAbs≤y.natAbs by omega)) (hb.d.below hw) (ha.d.below hw) Zo) fun m2=> ?_
  refine ZC (fun w1 hw h=>Rk (a:=⟨b.s,m2.A,m2.n,m2.c,m2.l⟩) (x:=x+y) (by have t:=(h.2.1.1).sv b.s;rw[hd]at t;exact t) Zo) fun v=> ?_
  refine ZV (v.val) (fun w1 hw h=>⟨v,rfl,hw,fun w'' k1 k2=>((h w'' k1 k2).2).mono Zo⟩)
theorem En(ha:Ss a x K1 w)(hb:Ss b y K2 w)(hK:K1+K2+1≤137438953473):Calls Tryz.prog 160 #[a.val,b.val] w (K3 w SV.val fun v w=>Xr v (x-y) (K1+K2+1) w):=by
 refine K0.enter Tryz.func160 rfl ?_
 refine ZR ?_
 refine ZC (fun w1 hw h=>ineg_m (hb.below hw) Zo) fun n=> ?_
 refine ZC (fun w1 hw h=>iadd_m (ha.below hw) (h.2).i hK) fun v=> ?_
 refine ZV (v.val) (fun w1 hw h=>⟨v,rfl,hw,fun w'' k1 k2=>((h w'' k1 k2).2).cast (Int.sub_eq_add_neg).symm⟩)
theorem T1(ha:Ss a x K1 w)(hb:Ss b y K2 w)(hK:K1+K2≤137438953473):Calls Tryz.prog 111 #[a.val,b.val] w (K3 w SV.val fun v w=>Xr v (x*y) (K1+K2) w):=by
 have hm:zi (a.s !=b.s) (x.natAbs*y.natAbs)=x*y:=by rw[zi_mul,ha.abs,hb.abs,ha.zi,hb.zi]
 refine K0.enter Tryz.func111 rfl ?_
 refine ZR ?_
 refine ZC (fun w1 hw h=>nmul_m (ha.d.below hw) (hb.d.below hw) hK) fun m=> ?_
 refine ZC (fun w1 hw h=>Rk (a:=⟨a.s !=b.s,m.A,m.n,m.c,m.l⟩) (x:=x*y) (by have t:=(h.2.1.1).sv (a.s !=b.s);rw[hm]at t;exact t) Zo) fun v=> ?_
 refine ZV (v.val) (fun w1 hw h=>⟨v,rfl,hw,fun w'' k1 k2=>(h w'' k1 k2).2⟩)
theorem Hg(ha:Ss a x K1 w)(hK:K1≤137438953473):Calls Tryz.prog 216 #[a.val] w (K3 w (fun _:Unit=> .int .i64 (bitsN x.natAbs:Nat)) fun _ _=>True):=by
 refine K0.enter Tryz.func216 rfl ?_
 refine ZR ?_
 refine ZC (fun w1 hw h=>Ja (ha.d.below hw) hK) fun m=> ?_
 exact ZW (.int .i64 (bitsN x.natAbs:Nat))
theorem Zt(ha:Ss a x K1 w)(hK:K1≤137438953473):Calls Tryz.prog 167 #[a.val] w (K3 w (fun _:Unit=> .int .i64 (Uq x)) fun _ _=>True):=by
 have hx:=ha.zi
 rw[←ha.abs]at hx
 by_cases h0:x=0
 ·
  refine K0.enter Tryz.func167 rfl ?_
  refine ZR ?_
  refine ZC (fun w1 hw h=>Ja (ha.d.below hw) hK) fun m=> ?_
  refine ZJ ((((bitsN x.natAbs:Nat):Int)==0)) true (by rw[h0];rfl) ?_
  exact ZX (.int .i64 0) (by rw[h0];rfl)
 have hbit:bitsN x.natAbs≠0:=fun e=>h0 (by have:=bitsN_zero.1 e;omega)
 cases hs:a.s
 ·rw[hs]at hx
  have hp:0<x:=by simp[zi]at hx;omega
  refine K0.enter Tryz.func167 rfl ?_
  refine ZR ?_
  refine ZC (fun w1 hw h=>Ja (ha.d.below hw) hK) fun m=> ?_
  refine ZJ ((((bitsN x.natAbs:Nat):Int)==0)) false (beq_eq_false_iff_ne.2 Zo) ?_
  refine ZJ (a.s) false (hs) ?_
  exact ZX (.int .i64 1) (by unfold Uq;rw[if_neg Zo,if_neg h0])
 ·rw[hs]at hx
  have hp:x<0:=by simp[zi]at hx;omega
  refine K0.enter Tryz.func167 rfl ?_
  refine ZR ?_
  refine ZC (fun w1 hw h=>Ja (ha.d.below hw) hK) fun m=> ?_
  refine ZJ ((((bitsN x.natAbs:Nat):Int)==0)) false (beq_eq_false_iff_ne.2 Zo) ?_
  refine ZJ (a.s) true (hs) ?_
  exact ZX (.int .i64 (-1)) (by unfold Uq;rw[if_pos hp])
theorem icmp_m(ha:Ss a x K1 w)(hb:Ss b y K2 w)(hK:K1≤68719476736∧K2≤68719476736):Calls Tryz.prog 105 #[a.val,b.val] w (K3 w (fun _:Unit=> .int .i64 (Uq (x-y))) fun _ _=>True):=by
 refine K0.enter Tryz.func105 rfl ?_
 refine ZR ?_
 refine ZC (fun w1 hw h=>En (ha.below hw) (hb.below hw) Zo) fun v=> ?_
 refine ZC (fun w1 hw h=>Zt (h.2).i Zo) fun u=> ?_
 exact ZW (.int .i64 (Uq (x-y)))
theorem J9{k:Nat}(hk:(k:Int)≤18446744073709551615):Calls Tryz.prog 169 #[.int .u64 k] w (K3 w DV.val fun v w=>Wa v k 2 w):=
 (Zv k hk w).mono fun e w' q=>q.postO (by rw[V6];omega)
theorem Xj(z:Int)(w:World)(h1: -9223372036854775808≤z)(h2:z≤9223372036854775807):Calls Tryz.prog 103 #[.int .i64 z] w (K3 w SV.val fun v w=>Xr v z 2 w):=by
 refine K0.enter Tryz.func103 rfl ?_
 refine ZR ?_
 by_cases hz:z<0
 ·have e1:IntKind.u64.wrap (0-IntKind.u64.wrap z)=(z.natAbs:Int):=by rw[Lm,Lm];omega
  refine K0.condr (decide (z<0)) true Zk (decide_eq_true hz) ?_
  refine ZS 3 ?_
  refine ZT 7 (.int .u64 (IntKind.u64.wrap (0-IntKind.u64.wrap z))) (.int .u64 (z.natAbs:Int)) (by rw[e1]) ?_
  refine ZC (fun w1 hw h=>J9 (k:=z.natAbs) Zo) fun m=> ?_
  refine ZC (fun w1 hw h=>Rk (a:=⟨true,m.A,m.n,m.c,m.l⟩) (x:=z) (by have t:=(h.2.1.1).sv true;rw[show zi true z.natAbs=z by simp[zi];omega]at t;exact t) Zd) fun v=> ?_
  refine ZV (v.val) (fun w1 hw h=>⟨v,rfl,hw,fun w'' k1 k2=>(h w'' k1 k2).2⟩)
 ·have e1:IntKind.u64.wrap z=(z.natAbs:Int):=by rw[Lm];omega
  refine K0.condr (decide (z<0)) false Zk (decide_eq_false hz) ?_
  refine ZS 2 ?_
  refine ZT 11 (.int .u64 (IntKind.u64.wrap z)) (.int .u64 (z.natAbs:Int)) (by rw[e1]) ?_
  refine ZC (fun w1 hw h=>J9 (k:=z.natAbs) Zo) fun m=> ?_
  refine ZC (fun w1 hw h=>Rk (a:=⟨false,m.A,m.n,m.c,m.l⟩) (x:=z) (by have t:=(h.2.1.1).sv false;rw[show zi false z.natAbs=z by simp[zi];omega]at t;exact t) Zd) fun v=> ?_
  refine ZV (v.val) (fun w1 hw h=>⟨v,rfl,hw,fun w'' k1 k2=>(h w'' k1 k2).2⟩)
theorem Cf{x y q r:Int}(h:x=y*q+r)(hr:(0≤r∧r<y)∨(y<r∧r≤0)):x.fdiv y=q∧x.fmod y=r:=by
 have h1:x.fdiv y=q:=by
  rcases hr with ⟨h1,h2⟩|⟨h1,h2⟩
  ·rw[Int.fdiv_eq_ediv_of_nonneg _ Zo]
   exact((Int.ediv_emod_unique Zo).2 ⟨(by rw[h,Int.add_comm]),h1,h2⟩).1
  ·rw[←Int.neg_fdiv_neg,Int.fdiv_eq_ediv_of_nonneg _ Zo]
   exact((Int.ediv_emod_unique (r:= -r) Zo).2 ⟨(by rw[h];grind),by omega,by omega⟩).1
 refine⟨h1,?_⟩
 rw[Int.fmod_def,h1,h];omega
theorem ref_dm(s t:Bool)(a b:Nat)(hb:b≠0):
 ((s !=t)=true∧a%b≠0→Iz (zi s a) (zi t b)=zi true (a/b)-1∧remI (zi s a) (zi t b)=zi s (a%b)+zi t b)∧
 ((s !=t)=false∨a%b=0→Iz (zi s a) (zi t b)=zi (s !=t) (a/b)∧remI (zi s a) (zi t b)=zi s (a%b)):=by
 have h0:zi t b≠0:=by cases t<;>simp[zi]<;>omega
 have hd:(a:Int)=b*((a/b:Nat):Int)+((a%b:Nat):Int):=by
  have:=Nat.div_add_mod a b
  rw[←Int.natCast_mul,←Int.natCast_add,this]
 have hl:a%b<b:=Nat.mod_lt _ Zo
 obtain⟨q,hq⟩:∃q,q=a/b:=⟨_,rfl⟩
 obtain⟨r,hr⟩:∃r,r=a%b:=⟨_,rfl⟩
 rw[←hq,←hr]at hd
 rw[←hr]at hl
 rw[←hq,←hr,Iz,remI,if_neg h0,if_neg h0]
 constructor
 ·rintro⟨h1,h2⟩
  refine Cf ?_ ?_
  ·cases s<;>cases t<;>simp[zi]at* <;>rw[hd]<;>grind
  ·cases s<;>cases t<;>simp[zi]at* <;>omega
 ·intro h1
  refine Cf ?_ ?_
  ·cases s<;>cases t<;>simp[zi]at* <;>rw[hd]<;>grind
  ·cases s<;>cases t<;>simp[zi]at* <;>omega
end
end Go.Proofs.YtpgkbllcnphmbaaGreatDoor
