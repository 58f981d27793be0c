/-
 A part of the proof.
-/
import Derived.Test.YtpgkbllcnphmbaaGreatDoorBQP
import Derived.MapKept
namespace Go.Proofs.YtpgkbllcnphmbaaGreatDoor
set_option maxRecDepth 100000
set_option maxHeartbeats 8000000
set_option linter.unusedVariables false
set_option linter.unusedSimpArgs false
open Go.RowKit
def Nc(t ty:TypeId)(x y:Value):Sem Next:=Builtin.append_ #[t,t] ty #[x,y] >>= fun v=>pure (.value v)
def bl(A:Option Addr):List Nat:=match A with|some p=>[p.block]|none=>[]
def S5(P:Program)(e:TypeId):Option (Value×Nat×Nat):=(P.info? e).bind fun i=>i.zero.map fun z=>(z,i.size,i.bytes)
def K6(u:World)(B:Nat)(elem:TypeId)(s:Nat)(A:Option Addr)(n c:Nat)(xs:List Value):Prop:=u.ownsRow B elem s (.slice A n c) n xs
section
variable{P:Program}{w w' u:World}{B s n c m cc:Nat}{A A2:Option Addr}{xs ys:List Value}{t elem:TypeId}{bytes:Nat}{z:Value}
theorem K6.nil_:K6 u B elem s none 0 0 []:=⟨by simp,.inl ⟨rfl,rfl⟩⟩
theorem K6.len(h:K6 u B elem s A n c xs):xs.length=n*s:=h.1
theorem K6.blk(h:K6 u B elem s A n c xs):∀b∈bl A,B≤b∧∃cs ty own,u.heap[b]? =some (.cells cs ty own):=by
 intro b hb
 rcases h.2 with ⟨h1,_⟩|⟨g,cap,cur,h1,hB,hh,_⟩
 ·injection h1 with h1 _ _
  subst h1;cases hb
 ·injection h1 with h1 _ _
  subst h1
  simp only[bl,List.mem_singleton]at hb
  subst hb
  exact⟨hB,_,_,_,hh⟩
theorem K6.lt(h:K6 u B elem s A n c xs):∀b∈bl A,B≤b∧b<u.heap.size:=fun b hb=>by
 obtain⟨h1,_,_,_,h2⟩:=h.blk b hb
 exact⟨h1,(Array.getElem?_eq_some_iff.1 h2).1⟩
theorem K6.same(h:K6 u B elem s A n c xs)(e:∀b∈bl A,w.heap[b]? =u.heap[b]?):K6 w B elem s A n c xs:=by
 refine⟨h.1,?_⟩
 rcases h.2 with h1|⟨g,cap,cur,h1,hB,hh,rest⟩
 ·exact .inl h1
 ·refine .inr ⟨g,cap,cur,h1,hB,?_,rest⟩
  injection h1 with h1 _ _
  subst h1
  exact(e g (by simp[bl])).trans hh
theorem K6.left{L:List Nat}(h:K6 u B elem s A n c xs)(e2:∀b,b∉L→u.heap[b]? =w.heap[b]?)(hd:∀b∈bl A,b∉L):K6 w B elem s A n c xs:=h.same fun b hb=>(e2 b (hd b hb)).symm
theorem K6.rebase{B':Nat}(h:K6 u B elem s A n c xs)(hB:∀b∈bl A,B'≤b):K6 u B' elem s A n c xs:=by
 refine⟨h.1,?_⟩
 rcases h.2 with h1|⟨g,cap,cur,h1,_,rest⟩
 ·exact .inl h1
 ·refine .inr ⟨g,cap,cur,h1,?_,rest⟩
  injection h1 with h1 _ _
  subst h1
  exact hB g (by simp[bl])
theorem K6.cells(h:K6 u B elem s A n c xs)(h0:0<n):∃g,A=some ⟨g,0,none⟩∧∀(j:Nat) (v:Value),xs[j]? =some v→u.cell? ⟨g,j,none⟩=some v:=by
 rcases h.2 with ⟨_,h1⟩|⟨g,cap,cur,h1,hB,hh,hn,hc,hs,ht⟩
 ·omega
 ·injection h1 with h1 _ _
  refine⟨g,h1,fun j v hv=> ?_⟩
  rw[←ht,List.getElem?_take]at hv
  simp only[World.cell?,hh,Option.isSome_none,Bool.false_eq_true,if_false]
  split at hv
  ·simpa using hv
  ·cases hv
theorem K6.reads(h:K6 u B elem s A n c xs):Mu u u.heap.size s A n xs:=by
 refine⟨h.1,fun h0=> ?_⟩
 obtain⟨g,hA,hc⟩:=h.cells h0
 refine⟨_,hA,?_,fun j v hv=>by rw[Addr.add_mid,Nat.zero_add];exact hc j v hv⟩
 subst hA
 exact(h.lt g (by simp[bl])).2
theorem M8{g:Nat}{cells:Array Value}(h:Kv elem cells g w)(hn:cells.size=n*s):Mu w w.heap.size s (some ⟨g,0,none⟩) n cells.toList:=by
 refine⟨by simpa using hn,fun _=>⟨_,rfl,(Array.getElem?_eq_some_iff.1 h).1,fun j u hu=> ?_⟩⟩
 rw[Addr.add_mid,Nat.zero_add]
 unfold Kv at h
 simp only[World.cell?,h,Option.isSome_none,Bool.false_eq_true,if_false]
 simpa using hu
theorem K6.lit{g:Nat}{cells:Array Value}(h:Kv elem cells g w)(hn:cells.size=n*s)(hB:B≤g)(hm:n≤maxLen):K6 w B elem s (some ⟨g,0,none⟩) n n cells.toList:=by
 refine⟨by simpa using hn,.inr ⟨g,n,cells,rfl,hB,h,Nat.le_refl _,hm,hn,?_⟩⟩
 rw[List.take_of_length_le Zp]
theorem M9(hu:P.underlying t=some (.slice elem))(hi:S5 P elem=some (z,s,bytes))(hzs:z.cells.size=s)(hs:0<s)(h:K6 w B elem s A n c xs)(hB:B≤w.heap.size)(hr:Mu w w.heap.size s A2 m ys)(h1:∀v∈ys,v.oneCell'=true)
 (hn:n+m≤100000000) (hb:bytes≤10000):
 Nf P w (bl A) (fun y:Option Addr×Nat=> .slice y.1 (n+m) y.2) (fun y v=>K6 v B elem s y.1 (n+m) y.2 (xs++ys)) (Nc t t (.slice A n c) (.slice A2 m cc)):=by
 unfold S5 at hi
 obtain⟨i,hi0,hi1⟩:=Option.bind_eq_some_iff.1 hi
 obtain⟨z',hz,hi2⟩:=Option.map_eq_some_iff.1 hi1
 simp only[Prod.mk.injEq]at hi2
 obtain⟨rfl,hsz,hby⟩:=hi2
 have hbytes:(n+m)*bytes≤140737488355328:=Nat.le_trans (Nat.mul_le_mul hn hb) Zd
 obtain⟨v',w',hrun,h2,h3,h4⟩:=V4 (P:=P) w B t t elem i z' s bytes hu hi0 hz hsz hby hzs hs _ n _ h w.heap.size A2 m cc ys hr h1 (by simp only[maxLen];omega) hbytes hB
 obtain⟨A',c',rfl⟩:∃A' c',v'= .slice A' (n+m) c':=by
  rcases h2.2 with ⟨h5,h0⟩|⟨g,cap,cur,h5,_⟩
  ·exact⟨none,0,by rw[h5,h0]⟩
  ·exact⟨_,_,h5⟩
 have hown:K6 w' B elem s A' (n+m) c' (xs++ys):=h2
 refine⟨(A',c'),w',by simp only[Nc,Sem.run_bind,hrun,Result.andThen_ok,Sem.run_pure],⟨h3.os,h3.tape,h3.output,h3.size,fun k hk hL=>h3.block k hk (fun e=>hL ?_)⟩,fun w'' k1 k2=>hown.same fun b hb=>k2 b ?_⟩
 ·cases A with
  |none=>simp[Value.ownBlock]at e
  |some p=>simp[Value.ownBlock]at e;simp[bl,e]
 ·have hlt:=(hown.lt b hb).2
  cases A' with
  |none=>cases hb
  | some p'=>
   simp only[bl,List.mem_singleton]at hb
   subst hb
   rcases h4 with e|e
   ·left
    cases A with
    |none=>simp[Value.ownBlock]at e
    |some p=>simp[Value.ownBlock]at e;simp[bl,e]
   ·right
    simp[Value.ownBlock]at e
    exact⟨by omega,hlt⟩
theorem K6.ty(h:K6 u B elem s A n c xs):∀b∈bl A,∃cur own,u.heap[b]? =some (.cells cur elem own):=by
 intro b hb
 rcases h.2 with ⟨h1,_⟩|⟨g,cap,cur,h1,hB,hh,_⟩
 ·injection h1 with h1 _ _
  subst h1;cases hb
 ·injection h1 with h1 _ _
  subst h1
  simp only[bl,List.mem_singleton]at hb
  subst hb
  exact⟨_,_,hh⟩
end
def pt(a b:Int):Value:= .agg #[.int .i64 a,.int .i64 b]
def Xs(t:TypeId)(x y:Operand)(u v:Value):Sem Next:=(do eqGuard .eql t x y u v;binOp .eql t u v) >>= fun v=>pure (.value v)
theorem U0{x y:Operand}{a b c d:Int}{w:World}:(Xs 35 x y (pt a b) (pt c d)).run Tryz.prog w= .ok (.value (.bool (a==c&&b==d))) w:=by
 have h1:Tryz.prog.underlying 35=some (.struct (Tryz.prog.fieldsOf 35)):=by kernel_rfl
 have h2:Tryz.prog.stoodInHeld 35=false:=by kernel_rfl
 have h3:Tryz.prog.eqGuardType Tryz.prog.depth 35=false:=by kernel_rfl
 have hm:(Tryz.prog.fieldsOf 35).toList.map (fun f=>(f.name,f.offset,f.type))=[("X",0,3),("Y",1,3)]:=by kernel_rfl
 have hu:Tryz.prog.underlying 3=some (.int .i64):=by kernel_rfl
 have hz:N8 Tryz.prog 3=some 1:=by kernel_rfl
 have hr:Ob Tryz.prog 3=some false:=by kernel_rfl
 obtain⟨f0,r0,hf,k0,hm⟩:=List.map_eq_cons_iff.1 hm
 obtain⟨f1,r1,hf1,k1,hm⟩:=List.map_eq_cons_iff.1 hm
 obtain rfl:r1=[]:=List.map_eq_nil_iff.1 hm
 subst hf1
 simp only[Prod.mk.injEq]at k0 k1
 obtain⟨n0,o0,t0⟩:=k0
 obtain⟨n1,o1,t1⟩:=k1
 have hp:∀(xs:Array Value) (off:Nat) (v:Value),xs[off]? =some v→(part 3 xs off).run Tryz.prog w= .ok v w:=by
  intro xs off v hv
  have hag:(isAgg 3).run Tryz.prog w= .ok false w:=by unfold isAgg;rw[Sem.run_bind,run_underlying hu w];rfl
  simp only[part,Sem.run_bind,hag,Result.andThen_ok,Bool.false_eq_true,if_false,hv,Sem.run_pure]
 have e0:∀a b:Int,(Op.equalIn 9999 3 (.int .i64 a) (.int .i64 b)).run Tryz.prog w= .ok (a==b) w:=fun a b=>run_equalIn_int w 9998 _ .i64 .i64 a b hu
 have p0:(part 3 #[.int .i64 a,.int .i64 b] 0).run Tryz.prog w= .ok (.int .i64 a) w:=hp _ 0 _ rfl
 have p1:(part 3 #[.int .i64 a,.int .i64 b] 1).run Tryz.prog w= .ok (.int .i64 b) w:=hp _ 1 _ rfl
 have q0:(part 3 #[.int .i64 c,.int .i64 d] 0).run Tryz.prog w= .ok (.int .i64 c) w:=hp _ 0 _ rfl
 have q1:(part 3 #[.int .i64 c,.int .i64 d] 1).run Tryz.prog w= .ok (.int .i64 d) w:=hp _ 1 _ rfl
 have hfld:(Op.eqFields 9999 #[.int .i64 a,.int .i64 b] #[.int .i64 c,.int .i64 d] [f0,f1]).run Tryz.prog w= .ok (a==c&&b==d) w:=by
  have x0:("X" :String)≠ "_" :=by decide
  have x1:("Y" :String)≠ "_" :=by decide
  simp only[Op.eqFields,n0,n1,o0,o1,t0,t1,Sem.run_bind,p0,q0,p1,q1,Result.andThen_ok,e0,x0,x1,ne_eq,not_false_eq_true,if_true]
  cases h:a==c
  ·simp[e0,h]
  ·cases h':b==d<;>simp[e0,h,p1,q1,h']
 have hq:(Op.equalIn 10000 35 (pt a b) (pt c d)).run Tryz.prog w= .ok (a==c&&b==d) w:=by
  rw[pt,pt,run_equalIn_struct w 9999 _ _ _ h1 h2,hf];exact hfld
 simp only[Xs,pt,Sem.run_bind,run_eqGuard_agg w .eql _ x y _ _ h3,Result.andThen_ok,run_eql_struct,Sem.run_pure]
 rw[pt,pt]at hq
 rw[hq]
 rfl
def Lt(X Y:Int):Bool:=decide ((-1048576≤X∧X≤1048576)∧(-1048576≤Y∧Y≤1048576))
def Nb(x:Int):Int:=if x< -1048576 then -1048576 else if 1048576<x then 1048576 else x
section
variable{w:World}{X Y U V x:Int}
theorem iclampP_m:Calls Tryz.prog 122 #[.int .i64 x,.int .i64 (-1048576),.int .i64 1048576] w (K3 w (fun _:Unit=> .int .i64 (Nb x)) fun _ _=>True):=by
 by_cases h1:x< -1048576
 ·
  refine K0.enter Tryz.func122 rfl ?_
  refine ZR ?_
  refine ZJ (decide (x< -1048576)) true (by simpa using h1) ?_
  exact ZX (.int .i64 (-1048576)) (by unfold Nb;rw[if_pos h1])
 ·by_cases h2:1048576<x
  ·
   refine K0.enter Tryz.func122 rfl ?_
   refine ZR ?_
   refine ZJ (decide (x< -1048576)) false (by simpa using h1) ?_
   refine ZJ (decide (x>1048576)) true (by simpa using h2) ?_
   exact ZX (.int .i64 1048576) (by unfold Nb;rw[if_neg h1,if_pos h2])
  ·
   refine K0.enter Tryz.func122 rfl ?_
   refine ZR ?_
   refine ZJ (decide (x< -1048576)) false (by simpa using h1) ?_
   refine ZJ (decide (x>1048576)) false (by simpa using h2) ?_
   exact ZX (.int .i64 x) (by unfold Nb;rw[if_neg h1,if_neg h2])
theorem held_m:Calls Tryz.prog 154 #[.int .i64 x] w (K3 w (fun _:Unit=> .int .i64 (Nb x)) fun _ _=>True):=by
 refine K0.enter Tryz.func154 rfl ?_
 refine ZR ?_
 refine ZC (fun w1 hw h=>iclampP_m (x:=x)) fun u=> ?_
 exact ZW (.int .i64 (Nb x))
theorem hold_m:Calls Tryz.prog 93 #[pt X Y] w (K3 w (fun _:Unit=>pt (Nb X) (Nb Y)) fun _ _=>True):=by
 refine K0.enter Tryz.func93 rfl ?_
 refine ZR ?_
 refine ZC (fun w1 hw h=>held_m (x:=X)) fun u=> ?_
 refine ZC (fun w1 hw h=>held_m (x:=Y)) fun v=> ?_
 exact ZW (pt (Nb X) (Nb Y))
theorem I0(x:Int):(Nb x==x)=decide (-1048576≤x∧x≤1048576):=by
 unfold Nb
 split
 ·rw[decide_eq_false Zo];simp;omega
 ·split
  ·rw[decide_eq_false Zo];simp;omega
  ·rw[decide_eq_true Zo];simp
theorem validP_eq(X Y:Int):(Nb X==X&&Nb Y==Y)=Lt X Y:=by
 rw[I0,I0];unfold Lt;simp
theorem valid_m:Calls Tryz.prog 52 #[pt X Y] w (K3 w (fun _:Unit=> .bool (Lt X Y)) fun _ _=>True):=by
 refine K0.enter Tryz.func52 rfl ?_
 refine ZR ?_
 refine ZD 3 (fun w1 hw h=>hold_m (X:=X) (Y:=Y)) fun u=> ?_
 refine ZB 3 (Xs 35 (.tmp 4) (.tmp 5) (pt (Nb X) (Nb Y)) (pt X Y)) (.bool (Nb X==X&&Nb Y==Y)) (fun w1 hw h=>U0) ?_
 exact ZX (.bool (Nb X==X&&Nb Y==Y)) (by rw[validP_eq])
end
section
variable{w:World}{X Y:Int}{p q:Rat}{K:Nat}
theorem Nh{B:Bool}(h:Lt X Y=B):Calls Tryz.prog 52 #[pt X Y] w (K3 w (fun _:Unit=> .bool B) fun _ _=>True):=h▸valid_m
end
abbrev Pt:=Int×Int
def ringE(r:List Pt):List (Pt×Pt):=(r.zip (r.drop 1++r.take 1)).filter fun e=>e.1 !=e.2
def Kj(L:List (List Pt)):List (Pt×Pt):=L.flatMap ringE
def Ld(u v:Pt):Int:=u.1*v.2-u.2*v.1
def Lk(p q:Pt):Pt:=(p.1-q.1,p.2-q.2)
def Uf(a b:Int)(t:Rat):Rat:=a+t*((b-a:Int):Rat)
def yAt(p q:Pt)(x:Int):Option Rat:=
 if p.1=q.1∨x<min p.1 q.1∨max p.1 q.1<x then none else some (Uf p.2 q.2 (Rat.divInt (x-p.1) (q.1-p.1)))
def Pb(p q:Pt):Bool:=decide (p.2<q.2)||(p.2==q.2&&decide (p.1<q.1))
def Of(a b:Pt):Pt×Pt:=if Pb b a then(b,a)else(a,b)
def shP(p q:Pt×Pt):Pt×Int:=
 let a:=if Pb p.1 q.1 then q.1 else p.1
 let b:=if Pb q.2 p.2 then q.2 else p.2
 if Pb b a then((0,0),0)else if a=b then(a,1)else((0,0),2)
def N6(a b c d:Pt):Pt×Int:=shP (Of a b) (Of c d)
def Pa(a b c d:Pt):Option Rat:=
 let u:=Lk b a
 let v:=Lk d c
 let w:=Lk c a
 let n:=Ld u v
 if n=0 then(if Ld u w=0∧(N6 a b c d).2=1 then some ((N6 a b c d).1.2:Rat)else none)
 else
  let t:=Rat.divInt (Ld w v) n
  let s:=Rat.divInt (Ld w u) n
  if t<0∨1<t∨s<0∨1<s then none else some (Uf a.2 b.2 t)
def J3(x0 x1:Int)(es:List (Pt×Pt))(e:Pt×Pt):List Rat:=
 (yAt e.1 e.2 x0).toList++(yAt e.1 e.2 x1).toList++es.filterMap fun o=>Pa o.1 o.2 e.1 e.2
def Sf(x0 x1:Int):List (Pt×Pt)→List (Pt×Pt)→List Rat
 |_,[]=>[]
 |es,e::r=>J3 x0 x1 es e++Sf x0 x1 (es++ [e]) r
def Ct(x:Rat):List Rat→List Rat
 | []=>[x]
 |y::l=>if x<y then x::y::l else if x=y then y::l else y::Ct x l
def Xx(l:List Rat):List Rat:=l.foldr Ct []
def Ec(L:List (List Pt))(a b:Pt):List Rat:=
 (a.2:Rat)::(b.2:Rat)::((L.flatten.map fun p=>(p.2:Rat))++Sf a.1 b.1 [] (Kj L)).filter fun y=>decide ((a.2:Rat)<y)&&decide (y<(b.2:Rat))
def Zz(L:List (List Pt))(a b:Pt):List Rat:=Xx (Ec L a b)
abbrev W8:=Rat×Int
def N9(y:Rat)(e:Pt×Pt):Option W8:=
 if 0≤Kk e.1.2 y*Kk e.2.2 y then none else some (Uf e.1.1 e.2.1 ((y-e.1.2)*Rat.divInt 1 (e.2.2-e.1.2)),Kk e.2.2 y)
def Us(a b:W8):Bool:=decide (a.1<b.1)||(decide (a.1=b.1)&&decide (b.2<a.2))
def insB{α:Type}(lt:α→α→Bool)(x:α):List α→List α
 | []=>[x]
 |y::l=>if lt y x then y::insB lt x l else x::y::l
def sortB{α:Type}(lt:α→α→Bool)(l:List α):List α:=l.foldr (insB lt) []
def Rj(L:List (List Pt))(y:Rat):List W8:=sortB Us ((Kj L).filterMap (N9 y))
def Bq(rule n:Int):Bool:=if rule=1 then n !=0 else n%2 !=0
abbrev Sp:=Rat×Rat
def M3(rule:Int):Int→List W8→List Sp
 |n,m::m2::r=>(if Bq rule (n+m.2)then [(m.1,m2.1)]else [])++M3 rule (n+m.2) (m2::r)
 |_,_=>[]
def My(out:List Sp)(s:Sp):List Sp:=
 match out.getLast? with
 |none=>[s]
 |some t=>if t.2<s.1 then out++ [s]else if t.2<s.2 then out.dropLast++ [(t.1,s.2)]else out
def Z7(a b:Sp):Bool:=decide (a.1<b.1)
def J6(s:Sp):Bool:=decide (s.1<s.2)
def U5(l:List Sp):List Sp:=(sortB Z7 (l.filter J6)).foldl My []
def Qb(L:List (List Pt))(rule:Int)(y:Rat):List Sp:=U5 (M3 rule 0 (Rj L y))
def Bf(s:Sp)(a:Rat):Rat:=if a<s.1 then s.1 else a
def Tf(s:Sp)(b:Rat):Rat:=if s.2<b then s.2 else b
def Aj(a b:Rat)(t:Rat)(s:Sp):Rat:=if Bf s a<Tf s b then t+(Tf s b-Bf s a)else t
def Bg(l:List Sp)(a b:Rat):Rat:=(U5 l).foldl (Aj a b) 0
def bandP(L:List (List Pt))(rule:Int)(a b:Pt)(lo hi:Rat):Rat:=Bg (Qb L rule ((lo+hi)/2)) a.1 b.1*(hi-lo)
def Vx(L:List (List Pt))(rule:Int)(a b:Pt):Rat→List Rat→Rat
 |t,lo::hi::r=>Vx L rule a b (t+bandP L rule a b lo hi) (hi::r)
 |t,_=>t
def Vy(L:List (List Pt))(rule:Int)(a b:Pt):Rat:=Vx L rule a b 0 (Zz L a b)
def byteOf(f:Rat):Nat:=if f≤0 then 0 else if 1≤f then 255 else(f*255+1/2).floor.toNat
def Oh(x y:Int):Pt:=(x*256,y*256)
def covP(L:List (List Pt))(rule x y:Int):Nat:=byteOf (Vy L rule (Oh x y) (Oh (x+1) (y+1))/65536)
theorem mem_insR{x y:Rat}:∀{l:List Rat},y∈Ct x l↔y=x∨y∈l
 | []=>by simp[Ct]
 | z::l=>by
  unfold Ct
  split
  ·simp
  ·split
   ·rename_i h;subst h;simp
   ·simp only[List.mem_cons,mem_insR (l:=l)]
    constructor
    ·rintro(h|h|h)<;>simp[h]
    ·rintro(h|h|h)<;>simp[h]
theorem H6{y:Rat}{l:List Rat}:y∈Xx l↔y∈l:=by
 unfold Xx
 induction l with
 |nil=>simp
 |cons x l ih=>simp only[List.foldr_cons,mem_insR,ih,List.mem_cons]
theorem Ce{x:Rat}:∀{l:List Rat},l.Pairwise (· <·)→(Ct x l).Pairwise (· <·)
 | [],_=>by simp[Ct]
 | y::l,h=>by
  have h1:=List.pairwise_cons.1 h
  unfold Ct
  split
  ·rename_i hx
   refine List.pairwise_cons.2 ⟨fun z hz=> ?_,h⟩
   rcases List.mem_cons.1 hz with rfl|hz
   ·exact hx
   ·have:=h1.1 z hz;grind
  ·split
   ·exact h
   ·refine List.pairwise_cons.2 ⟨fun z hz=> ?_,Ce h1.2⟩
    rcases mem_insR.1 hz with rfl|hz
    ·grind
    ·exact h1.1 z hz
theorem Z9(l:List Rat):(Xx l).Pairwise (· <·):=by
 unfold Xx
 induction l with
 |nil=>simp
 |cons x l ih=>exact Ce ih
theorem Dy:∀{l m:List Rat},l.Pairwise (· <·)→m.Pairwise (· <·)→(∀x,x∈l↔x∈m)→l=m
 | [],[],_,_,_=>rfl
 | [],y::m,_,_,h=>by have:=(h y).2 Zs;simp at this
 |x::l,[],_,_,h=>by have:=(h x).1 Zs;simp at this
 | x::l,y::m,h1,h2,h=>by
  have h1:=List.pairwise_cons.1 h1
  have h2:=List.pairwise_cons.1 h2
  have e:x=y:=by
   rcases List.mem_cons.1 ((h x).1 Zs)with e|hx
   ·exact e
   ·rcases List.mem_cons.1 ((h y).2 Zs)with e|hy
    ·exact e.symm
    ·have:=h1.1 y hy;have:=h2.1 x hx;grind
  subst e
  rw[Dy h1.2 h2.2 fun z=> ?_]
  have hz:=h z
  simp only[List.mem_cons]at hz
  constructor
  ·intro hl
   rcases hz.1 (.inr hl)with rfl|h3
   ·have:=h1.1 z hl;grind
   ·exact h3
  ·intro hm
   rcases hz.2 (.inr hm)with rfl|h3
   ·have:=h2.1 z hm;grind
   ·exact h3
theorem sortR_eq{l m:List Rat}(h:m.Pairwise (· <·))(hm:∀x,x∈m↔x∈l):m=Xx l:=
 Dy h (Z9 l) fun x=>(hm x).trans H6.symm
theorem Bi{α:Type}{lt:α→α→Bool}{x:α}:∀{l:List α},(insB lt x l).Perm (x::l)
 | []=> .refl _
 |y::l=>by
  unfold insB
  split
  ·exact(Bi.cons y).trans (.swap x y l)
  ·exact .refl _
theorem Qq{α:Type}{lt:α→α→Bool}:∀{l:List α},(sortB lt l).Perm l
 | []=> .refl _
 |x::l=>Bi.trans (Qq.cons x)
def NL{α:Type}(lt:α→α→Bool)(l:List α):Prop:=l.Pairwise fun a b=>lt b a=false
theorem insB_NL{α:Type}{lt:α→α→Bool}{x:α}(ht:∀a b c,lt b a=false→lt c b=false→lt c a=false)(ha:∀a b,lt a b=true→lt b a=false):∀{l:List α},NL lt l→NL lt (insB lt x l)
 | [],_=>by simp[insB,NL]
 | y::l,h=>by
  have h1:=List.pairwise_cons.1 h
  unfold insB
  split
  ·rename_i hy
   refine List.pairwise_cons.2 ⟨fun z hz=> ?_,insB_NL ht ha h1.2⟩
   rcases List.mem_cons.1 (Bi.mem_iff.1 hz)with rfl|hz
   ·exact ha _ _ hy
   ·exact h1.1 z hz
  ·rename_i hy
   have hy:lt y x=false:=by simpa using hy
   refine List.pairwise_cons.2 ⟨fun z hz=> ?_,h⟩
   rcases List.mem_cons.1 hz with rfl|hz
   ·exact hy
   ·exact ht _ _ _ hy (h1.1 z hz)
theorem Dz{α:Type}{lt:α→α→Bool}(ht:∀a b c,lt b a=false→lt c b=false→lt c a=false)(ha:∀a b,lt a b=true→lt b a=false):∀{l:List α},NL lt (sortB lt l)
 | []=>List.Pairwise.nil
 |x::l=>insB_NL ht ha (Dz ht ha (l:=l))
theorem mkLt_t(a b c:W8)(h:Us b a=false)(k:Us c b=false):Us c a=false:=by
 simp only[Us,Bool.or_eq_false_iff,Bool.and_eq_false_imp,decide_eq_false_iff_not,decide_eq_true_eq]at*
 refine⟨by grind,fun e=> ?_⟩
 by_cases h1:b.1=a.1
 ·have:=h.2 h1;have:=k.2 (by grind);omega
 ·grind
theorem mkLt_a(a b:W8)(h:Us a b=true):Us b a=false:=by
 simp only[Us,Bool.or_eq_true,Bool.and_eq_true,Bool.or_eq_false_iff,Bool.and_eq_false_imp,decide_eq_false_iff_not,decide_eq_true_eq]at*
 refine⟨by grind,fun e=> ?_⟩
 rcases h with h|h
 ·grind
 ·omega
theorem mkLt_eq(a b:W8)(h:Us b a=false)(k:Us a b=false):a=b:=by
 simp only[Us,Bool.or_eq_false_iff,Bool.and_eq_false_imp,decide_eq_false_iff_not,decide_eq_true_eq]at*
 have e:a.1=b.1:=by grind
 have h2:=h.2 e.symm
 have k2:=k.2 e
 exact Prod.ext e Zo
theorem marks_eq{l m:List W8}(hp:m.Perm l)(hs:NL Us m):m=sortB Us l:=
 (hp.trans Qq.symm).eq_of_pairwise (fun a b _ _ h k=>mkLt_eq a b h k) hs (Dz mkLt_t mkLt_a)
theorem spLt_t(a b c:Sp)(h:Z7 b a=false)(k:Z7 c b=false):Z7 c a=false:=by
 simp only[Z7,decide_eq_false_iff_not]at *;grind
theorem spLt_a(a b:Sp)(h:Z7 a b=true):Z7 b a=false:=by
 simp only[Z7,decide_eq_false_iff_not,decide_eq_true_eq]at *;grind
theorem mstep_comm{out:List Sp}{a b:Sp}(e:a.1=b.1)(ha:J6 a=true)(hb:J6 b=true):My (My out a) b=My (My out b) a:=by
 simp only[J6,decide_eq_true_eq]at ha hb
 have key:∀s t:Sp,s.1=t.1→s.1<s.2→t.1<t.2→∀o:List Sp,My (o++ [s]) t=o++ [(s.1,if s.2<t.2 then t.2 else s.2)]:=by
  intro s t h1 h2 h3 o
  simp only[My,List.getLast?_append,List.getLast?_singleton,Option.some_or,List.dropLast_concat]
  rw[if_neg (by grind)]
  split<;>rfl
 unfold My
 cases hl:out.getLast? with
 |none=>
  simp only[List.getLast?_singleton]
  have k1:=key a b e ha hb []
  have k2:=key b a e.symm hb ha []
  simp only[My,List.nil_append,List.getLast?_singleton]at k1 k2
  rw[k1,k2]
  congr 1
  refine Prod.ext e ?_
  show(if a.2<b.2 then b.2 else a.2)=if b.2<a.2 then a.2 else b.2
  grind
 | some t=>
  obtain⟨o,rfl⟩:=List.getLast?_eq_some_iff.1 hl
  clear hl
  simp only[List.dropLast_concat]
  by_cases h1:t.2<a.1
  ·have h2:t.2<b.1:=by grind
   rw[if_pos h1,if_pos h2]
   have k1:=key a b e ha hb (o++ [t])
   have k2:=key b a e.symm hb ha (o++ [t])
   simp only[My]at k1 k2
   rw[k1,k2]
   congr 2
   refine Prod.ext e ?_
   show(if a.2<b.2 then b.2 else a.2)=if b.2<a.2 then a.2 else b.2
   grind
  ·have h2:¬t.2<b.1:=by grind
   rw[if_neg h1,if_neg h2]
   by_cases h3:t.2<a.2<;>by_cases h4:t.2<b.2
   ·rw[if_pos h3,if_pos h4]
    simp only[List.getLast?_append,List.getLast?_singleton,Option.some_or,List.dropLast_concat]
    clear key
    rw[if_neg (show¬a.2<b.1 by grind),if_neg (show¬b.2<a.1 by grind)]
    by_cases h5:a.2<b.2
    ·rw[if_pos h5,if_neg (Rat.not_lt.2 (Rat.le_of_lt h5))]
    ·by_cases h6:b.2<a.2
     ·rw[if_neg h5,if_pos h6]
     ·rw[if_neg h5,if_neg h6]
      have:a.2=b.2:=by grind
      rw[this]
   ·clear key
    rw[if_pos h3,if_neg h4]
    simp only[List.getLast?_append,List.getLast?_singleton,Option.some_or,List.dropLast_concat]
    rw[if_neg (by grind),if_neg (by grind),if_neg (by grind),if_pos h3]
   ·clear key
    rw[if_neg h3,if_pos h4]
    simp only[List.getLast?_append,List.getLast?_singleton,Option.some_or,List.dropLast_concat]
    rw[if_neg h2,if_pos h4,if_neg (show¬b.2<a.1 by grind),if_neg (show¬b.2<a.2 by grind)]
   ·clear key
    rw[if_neg h3,if_neg h4]
    simp only[List.getLast?_append,List.getLast?_singleton,Option.some_or,List.dropLast_concat]
    rw[if_neg (by grind),if_neg (by grind),if_neg (by grind),if_neg (by grind)]
theorem foldl_NL:∀{l m:List Sp} (out:List Sp),l.Perm m→NL Z7 l→NL Z7 m→(∀s∈l,J6 s=true)→l.foldl My out=m.foldl My out
 | [],m,out,hp,_,_,_=>by rw[hp.symm.eq_nil]
 | a::l,m,out,hp,hl,hm,hok=>by
  obtain⟨p,s,rfl⟩:=List.append_of_mem (hp.mem_iff.1 List.mem_cons_self)
  have hl':=List.pairwise_cons.1 hl
  have hperm:l.Perm (p++s):=(List.perm_cons a).1 (hp.trans List.perm_middle)
  have hmp:=List.pairwise_append.1 hm
  have hke:∀x∈p,x.1=a.1∧J6 x=true:=fun x hx=>by
   have h1:Z7 a x=false:=hmp.2.2 x hx a List.mem_cons_self
   have hxl:x∈l:=hperm.mem_iff.2 (List.mem_append_left _ hx)
   have h2:=hl'.1 x hxl
   simp only[Z7,decide_eq_false_iff_not]at h1 h2
   exact⟨by grind,hok x (List.mem_cons_of_mem _ hxl)⟩
  have ha:=hok a List.mem_cons_self
  have mv:∀(p:List Sp) (out:List Sp),(∀x∈p,x.1=a.1∧J6 x=true)→(p++a::s).foldl My out=(p++s).foldl My (My out a):=by
   intro p
   induction p with
   |nil=>intro out _;rfl
   |cons x p ih=>
    intro out h
    have hx:=h x List.mem_cons_self
    simp only[List.cons_append,List.foldl_cons]
    rw[ih _ fun y hy=>h y (List.mem_cons_of_mem _ hy),mstep_comm hx.1 hx.2 ha]
  rw[mv p out hke,List.foldl_cons]
  refine foldl_NL (My out a) hperm hl'.2 ?_ fun x hx=>hok x (List.mem_cons_of_mem _ hx)
  refine List.pairwise_append.2 ⟨hmp.1,(List.pairwise_cons.1 hmp.2.1).2,fun x hx y hy=>hmp.2.2 x hx y (List.mem_cons_of_mem _ hy)⟩
theorem merge_eq{l m:List Sp}(hp:m.Perm (l.filter J6))(hs:NL Z7 m):m.foldl My []=U5 l:=
 foldl_NL [] (hp.trans Qq.symm) hs (Dz spLt_t spLt_a) fun s hx=>(List.mem_filter.1 (hp.mem_iff.1 hx)).2
theorem B4{r:List Pt}{e:Pt×Pt}(h:e∈ringE r):e.1∈r∧e.2∈r:=by
 have h:=List.of_mem_zip (List.mem_filter.1 h).1
 refine⟨h.1,?_⟩
 rcases List.mem_append.1 h.2 with h|h
 ·exact List.mem_of_mem_drop h
 ·exact List.mem_of_mem_take h
theorem Nt{L:List (List Pt)}{e:Pt×Pt}(h:e∈Kj L):e.1∈L.flatten∧e.2∈L.flatten:=by
 obtain⟨r,hr,he⟩:=List.mem_flatMap.1 h
 exact⟨List.mem_flatten.2 ⟨r,hr,(B4 he).1⟩,List.mem_flatten.2 ⟨r,hr,(B4 he).2⟩⟩
theorem cast_sub(a b:Int):((a-b:Int):Rat)=(a:Rat)- (b:Rat):=Rat.intCast_sub a b
theorem Vr{p q:Rat}(h:p<q):Kk p q= -1:=by unfold Kk;rw[if_pos h]
theorem Vq{p q:Rat}(h:q<p):Kk p q=1:=by unfold Kk;rw[if_neg (by grind),if_neg (by grind)]
theorem Bw{p q:Rat}(h:p=q):Kk p q=0:=by unfold Kk;rw[if_neg (by grind),if_pos h]
theorem Qg{y:Rat}{e:Pt×Pt}{m:W8}(h:N9 y e=some m):∃t:Rat,0≤t∧t≤1∧m.1=e.1.1+t*(e.2.1-e.1.1)∧((e.1.2<y∧y<e.2.2)∨(e.2.2<y∧y<e.1.2)):=by
 unfold N9 at h
 split at h
 ·cases h
 rename_i hn
 injection h with h
 subst h
 have hy:(e.1.2<y∧y<e.2.2)∨(e.2.2<y∧y<e.1.2):=by
  rcases(by grind:e.1.2<y∨e.1.2=y∨y<e.1.2)with h1|h1|h1
  ·rw[Vr h1]at hn
   rcases(by grind:e.2.2<y∨e.2.2=y∨y<e.2.2)with h2|h2|h2
   ·rw[Vr h2]at hn;exact absurd Zd hn
   ·rw[Bw h2]at hn;exact absurd Zd hn
   ·exact .inl ⟨h1,h2⟩
  ·rw[Bw h1,Int.zero_mul]at hn;exact absurd Zd hn
  ·rw[Vq h1]at hn
   rcases(by grind:e.2.2<y∨e.2.2=y∨y<e.2.2)with h2|h2|h2
   ·exact .inr ⟨h2,h1⟩
   ·rw[Bw h2]at hn;exact absurd Zd hn
   ·rw[Vq h2]at hn;exact absurd Zd hn
 refine⟨(y-e.1.2)*Rat.divInt 1 (e.2.2-e.1.2),?_,?_,by unfold Uf;rw[cast_sub],hy⟩
 all_goals
  have hd:Rat.divInt 1 (e.2.2-e.1.2)=((e.2.2:Rat)-e.1.2)⁻¹:=by
   rw[Rat.divInt_eq_div,cast_sub];grind
  rw[hd]
  rcases hy with ⟨h1,h2⟩|⟨h1,h2⟩
  ·have hp:(0:Rat)<(e.2.2:Rat)-e.1.2:=by grind
   have hi:=Rat.inv_pos.2 hp
   have hm:((e.2.2:Rat)-e.1.2)*((e.2.2:Rat)-e.1.2)⁻¹=1:=Rat.mul_inv_cancel _ (by grind)
   first
   |exact Rat.mul_nonneg (by grind) (Rat.le_of_lt hi)
   |(have:=Rat.mul_nonneg (show 0≤(e.2.2:Rat)-y by grind) (Rat.le_of_lt hi);grind)
  ·have hp:(0:Rat)<(e.1.2:Rat)-e.2.2:=by grind
   have hi:=Rat.inv_pos.2 hp
   have hm:((e.1.2:Rat)-e.2.2)*((e.1.2:Rat)-e.2.2)⁻¹=1:=Rat.mul_inv_cancel _ (by grind)
   have hn:((e.2.2:Rat)-e.1.2)⁻¹= -((e.1.2:Rat)-e.2.2)⁻¹:=by
    have h0:(e.2.2:Rat)-e.1.2≠0:=by grind
    have:=Rat.mul_inv_cancel _ h0
    grind
   rw[hn]
   first
   |(have:=Rat.mul_nonneg (show 0≤(e.1.2:Rat)-y by grind) (Rat.le_of_lt hi);grind)
   |(have:=Rat.mul_nonneg (show 0≤y- (e.2.2:Rat) by grind) (Rat.le_of_lt hi);grind)
theorem mark_le{y lo:Rat}{e:Pt×Pt}{m:W8}(h:N9 y e=some m)(h1:lo≤e.1.1)(h2:lo≤e.2.1):lo≤m.1:=by
 obtain⟨t,h3,h4,h5,_⟩:=Qg h
 have:=Rat.mul_nonneg h3 (show 0≤(e.2.1:Rat)-lo by grind)
 have:=Rat.mul_nonneg (show 0≤1-t by grind) (show 0≤(e.1.1:Rat)-lo by grind)
 grind
theorem mark_ge{y hi:Rat}{e:Pt×Pt}{m:W8}(h:N9 y e=some m)(h1:(e.1.1:Rat)≤hi)(h2:(e.2.1:Rat)≤hi):m.1≤hi:=by
 obtain⟨t,h3,h4,h5,_⟩:=Qg h
 have:=Rat.mul_nonneg h3 (show 0≤hi- (e.2.1:Rat) by grind)
 have:=Rat.mul_nonneg (show 0≤1-t by grind) (show 0≤hi- (e.1.1:Rat) by grind)
 grind
theorem Xf{L:List (List Pt)}{y:Rat}{m:W8}(h:m∈Rj L y):∃e∈Kj L,N9 y e=some m:=
 List.mem_filterMap.1 (Qq.mem_iff.1 h)
theorem U1{rule:Int}{s:Sp}:∀{l:List W8} {n:Int},s∈M3 rule n l→(∃m∈l,s.1=m.1)∧∃m∈l,s.2=m.1
 | [],n,h=>by simp[M3]at h
 | [m],n,h=>by simp[M3]at h
 | m::m2::r,n,h=>by
  unfold M3 at h
  rcases List.mem_append.1 h with h|h
  ·split at h
   ·obtain rfl:=List.mem_singleton.1 h
    exact⟨⟨m,by simp,rfl⟩,⟨m2,by simp,rfl⟩⟩
   ·cases h
  ·obtain⟨⟨a,ha,ea⟩,⟨b,hb,eb⟩⟩:=U1 h
   exact⟨⟨a,List.mem_cons_of_mem _ ha,ea⟩,⟨b,List.mem_cons_of_mem _ hb,eb⟩⟩
theorem mstep_all{A B:Rat→Prop}{out:List Sp}{s:Sp}(ho:∀x∈out,A x.1∧B x.2)(hs:A s.1∧B s.2):∀x∈My out s,A x.1∧B x.2:=by
 unfold My
 split
 ·intro x hx;obtain rfl:=List.mem_singleton.1 hx;exact hs
 ·rename_i t ht
  obtain⟨o,rfl⟩:=List.getLast?_eq_some_iff.1 ht
  split
  ·intro x hx
   rcases List.mem_append.1 hx with hx|hx
   ·exact ho x hx
   ·obtain rfl:=List.mem_singleton.1 hx;exact hs
  ·split
   ·intro x hx
    rw[List.dropLast_concat]at hx
    rcases List.mem_append.1 hx with hx|hx
    ·exact ho x (List.mem_append_left _ hx)
    ·obtain rfl:=List.mem_singleton.1 hx
     exact⟨(ho t Zs).1,hs.2⟩
   ·exact ho
theorem Ui{A B:Rat→Prop}:∀{l out:List Sp},(∀x∈out,A x.1∧B x.2)→(∀x∈l,A x.1∧B x.2)→∀x∈l.foldl My out,A x.1∧B x.2
 | [],_,ho,_=>ho
 |s::l,_,ho,hl=>Ui (l:=l) (mstep_all ho (hl s Zs)) fun x hx=>hl x (List.mem_cons_of_mem _ hx)
theorem Yf{A B:Rat→Prop}{l:List Sp}(h:∀x∈l,A x.1∧B x.2):∀x∈U5 l,A x.1∧B x.2:=
 Ui Zs fun x hx=>h x (List.mem_filter.1 (Qq.mem_iff.1 hx)).1
theorem Gj{A:Rat→Prop}{L:List (List Pt)}{rule:Int}{y:Rat}(h:∀m∈Rj L y,A m.1):∀x∈Qb L rule y,A x.1∧A x.2:=by
 refine Yf fun x hx=> ?_
 obtain⟨⟨a,ha,ea⟩,⟨b,hb,eb⟩⟩:=U1 hx
 exact⟨ea▸h a ha,eb▸h b hb⟩
theorem Ew{a b:Rat}:∀{l:List Sp} (t:Rat),(∀s∈l,¬Bf s a<Tf s b)→l.foldl (Aj a b) t=t
 | [],_,_=>rfl
 |s::l,t,h=>by
  rw[List.foldl_cons,show Aj a b t s=t from if_neg (h s Zs)]
  exact Ew t fun x hx=>h x (List.mem_cons_of_mem _ hx)
theorem H9{l:List Sp}{a b:Rat}(h:∀s∈U5 l,¬Bf s a<Tf s b):Bg l a b=0:=Ew 0 h
theorem lowhigh_r{s:Sp}{a b:Rat}(h:b≤s.1):¬Bf s a<Tf s b:=by unfold Bf Tf;grind
theorem lowhigh_l{s:Sp}{a b:Rat}(h:s.2≤a):¬Bf s a<Tf s b:=by unfold Bf Tf;grind
theorem mergeS_none{l:List Sp}(h:∀s∈l,J6 s=false):U5 l=[]:=by
 unfold U5
 rw[List.filter_eq_nil_iff.2 fun s hs=>by rw[h s hs];decide]
 rfl
def C5(L:List (List Pt))(a b:Pt):Prop:=
 (∀p∈L.flatten,b.2≤p.2)∨(∀p∈L.flatten,p.2≤a.2)∨(∀p∈L.flatten,b.1≤p.1)∨(∀p∈L.flatten,p.1≤a.1)∨∃c,∀p∈L.flatten,p.1=c
theorem band_zero{L:List (List Pt)}{rule:Int}{a b:Pt}{lo hi:Rat}(h:C5 L a b)(h1:(a.2:Rat)≤lo)(h2:lo<hi)(h3:hi≤b.2):bandP L rule a b lo hi=0:=by
 have hz:Bg (Qb L rule ((lo+hi)/2)) a.1 b.1=0:=by
  have ylo:(a.2:Rat)<(lo+hi)/2:=by grind
  have yhi:(lo+hi)/2<(b.2:Rat):=by grind
  generalize (lo+hi)/2=y at ylo yhi
  have nomark:(∀e∈Kj L,N9 y e=none)→Bg (Qb L rule y) a.1 b.1=0:=fun hn=>by
   have:Rj L y=[]:=by
    unfold Rj
    rw[List.filterMap_eq_nil_iff.2 hn];rfl
   unfold Qb
   rw[this];rfl
  rcases h with h|h|h|h|⟨c,h⟩
  ·refine nomark fun e he=> ?_
   cases hm:N9 y e with
   |none=>rfl
   |some m=>
    obtain⟨_,_,_,_,h5⟩:=Qg hm
    have h6:=Rat.intCast_le_intCast.2 (h _ (Nt he).1)
    have h7:=Rat.intCast_le_intCast.2 (h _ (Nt he).2)
    grind
  ·refine nomark fun e he=> ?_
   cases hm:N9 y e with
   |none=>rfl
   |some m=>
    obtain⟨_,_,_,_,h5⟩:=Qg hm
    have h6:=Rat.intCast_le_intCast.2 (h _ (Nt he).1)
    have h7:=Rat.intCast_le_intCast.2 (h _ (Nt he).2)
    grind
  ·refine H9 fun s hs=>lowhigh_r ?_
   refine(Yf (A:=fun x=>(b.1:Rat)≤x) (B:=fun _=>True) (fun x hx=>⟨(Gj (A:=fun x=>(b.1:Rat)≤x) (fun m hm=> ?_) x hx).1,trivial⟩) s hs).1
   obtain⟨e,he,hm⟩:=Xf hm
   exact mark_le hm (Rat.intCast_le_intCast.2 (h _ (Nt he).1)) (Rat.intCast_le_intCast.2 (h _ (Nt he).2))
  ·refine H9 fun s hs=>lowhigh_l ?_
   refine(Yf (A:=fun _=>True) (B:=fun x=>x≤(a.1:Rat)) (fun x hx=>⟨trivial,(Gj (A:=fun x=>x≤(a.1:Rat)) (fun m hm=> ?_) x hx).2⟩) s hs).2
   obtain⟨e,he,hm⟩:=Xf hm
   exact mark_ge hm (Rat.intCast_le_intCast.2 (h _ (Nt he).1)) (Rat.intCast_le_intCast.2 (h _ (Nt he).2))
  ·have hm:∀m∈Rj L y,m.1=(c:Rat):=fun m hm=>by
    obtain⟨e,he,hm⟩:=Xf hm
    have h1:=h _ (Nt he).1
    have h2:=h _ (Nt he).2
    have h3:=mark_le (lo:=c) hm (by rw[h1];exact Rat.le_refl) (by rw[h2];exact Rat.le_refl)
    have h4:=mark_ge (hi:=c) hm (by rw[h1];exact Rat.le_refl) (by rw[h2];exact Rat.le_refl)
    exact Rat.le_antisymm h4 h3
   have:Qb L rule y=[]:=mergeS_none fun s hs=>by
    obtain⟨⟨a,ha,ea⟩,⟨b,hb,eb⟩⟩:=U1 hs
    unfold J6
    rw[ea,eb,hm a ha,hm b hb,decide_eq_false (Rat.lt_irrefl)]
   rw[this];rfl
 unfold bandP
 rw[hz,Rat.zero_mul]
theorem Fm{L:List (List Pt)}{rule:Int}{a b:Pt}(h:C5 L a b):∀{l:List Rat} {t:Rat},l.Pairwise (· <·)→(∀y∈l,(a.2:Rat)≤y∧y≤b.2)→Vx L rule a b t l=t
 | [],t,_,_=>rfl
 | [_],t,_,_=>rfl
 |lo::hi::r,t,hs,hr=>by
  have h1:=List.pairwise_cons.1 hs
  unfold Vx
  rw[band_zero h (hr lo Zs).1 (h1.1 hi Zs) (hr hi Zs).2,Rat.add_zero]
  exact Fm h h1.2 fun y hy=>hr y (List.mem_cons_of_mem _ hy)
theorem eventYs_in{L:List (List Pt)}{a b:Pt}(hab:a.2≤b.2):∀y∈Zz L a b,(a.2:Rat)≤y∧y≤b.2:=fun y hy=>by
 have hab:=Rat.intCast_le_intCast.2 hab
 rcases List.mem_cons.1 (H6.1 hy)with rfl|hy
 ·exact⟨Rat.le_refl,hab⟩
 rcases List.mem_cons.1 hy with rfl|hy
 ·exact⟨hab,Rat.le_refl⟩
 have:=(List.mem_filter.1 hy).2
 simp only[Bool.and_eq_true,decide_eq_true_eq]at this
 exact⟨Rat.le_of_lt this.1,Rat.le_of_lt this.2⟩
theorem area_zero{L:List (List Pt)}{rule:Int}{a b:Pt}(h:C5 L a b)(hab:a.2≤b.2):Vy L rule a b=0:=
 Fm h (Z9 _) (eventYs_in hab)
section
section
variable{P:Program}{Δ:List Deferred}{W:World}{Q:Exit→Act→World→Prop}{Φ:World→Prop}{c:Md}
def W2(t:Nat)(v:AV)(c:Md):Md:=⟨c.foc,c.k,⟨c.st.tmps.set t v,c.st.box⟩⟩
def Nu:List Nat→(Nat→AV)→Md→Md
 | [],_,c=>c
 |t::L,x,c=>W2 t (x t) (Nu L x c)
theorem W1{t:Nat}:W2 t (c.st.tmps.getD t (.v undef)) c=c:=by
 obtain⟨foc,k,⟨tm,bx⟩⟩:=c
 simp only[W2]
 congr 2
 refine List.ext_getElem? fun j=> ?_
 rw[List.getElem?_set]
 split
 ·rename_i h
  subst h
  split
  ·rename_i h
   rw[List.getD_eq_getElem?_getD,List.getElem?_eq_getElem h];rfl
  ·rename_i h
   rw[List.getElem?_eq_none Zo]
 ·rfl
theorem Cm:∀L:List Nat,Nu L (fun t=>c.st.tmps.getD t (.v undef)) c=c
 | []=>rfl
 |t::L=>by rw[Nu,Cm L];exact W1
theorem K0.blur [Rnd](L:List Nat)(h:∀x,K0 P Δ W Q Φ (Nu L x c)):K0 P Δ W Q Φ c:=by
 have:=h fun t=>c.st.tmps.getD t (.v undef)
 rwa [Cm]at this
theorem K0.joinB [Rnd](hm:P.follows .mixedOrders=true)(stop n t:Nat)(L:List Nat)(res:Nat){b:Bool}(v1 v2 B:Bool)(hv:c.st.tmps[t]? =some (.v (.bool b)))
 (h1:(Lx P stop n (Kw t (.bool true) c)).st.tmps[res]? =some (.v (.bool v1))) (h2:(Lx P stop n (Kw t (.bool false) c)).st.tmps[res]? =some (.v (.bool v2)))
 (he:∀x,Nu (t::L) x (Kw res (.bool B) (Lx P stop n (Kw t (.bool false) c)))=Nu (t::L) x (Kw res (.bool B) (Lx P stop n (Kw t (.bool true) c))))
 (e:(if b then v1 else v2)=B) (k:∀x,K0 P Δ W Q Φ (Nu (t::L) x (Kw res (.bool B) (Lx P stop n (Kw t (.bool true) c))))):K0 P Δ W Q Φ c:=by
 refine K0.fork t b hv (fun hb=> ?_) (fun hb=> ?_)
 ·subst hb
  refine K0.run hm (stop:=stop) n _ ?_
  exact K0.slot res (.bool v1) (.bool B) h1 (by rw[←e];rfl) (K0.blur (t::L) k)
 ·subst hb
  refine K0.run hm (stop:=stop) n _ ?_
  exact K0.slot res (.bool v2) (.bool B) h2 (by rw[←e];rfl) (K0.blur (t::L) fun x=>by rw[he x];exact k x)
theorem K0.joinC [Rnd](hm:P.follows .mixedOrders=true)(way:Bool)(stop n n2 t:Nat)(L:List Nat)(res:Nat){b:Bool}(vs v v2 B:Bool){g:FuncId}{args:Array Value}(hv:c.st.tmps[t]? =some (.v (.bool b)))
 (hs:∀w,Below W.heap.size W w→Φ w→Calls P g args w (K3 w (fun _:Unit=> .bool v) fun _ _=>True))
 (hc:P7 P (Lx P stop n (Kw t (.bool way) c))=some (g,args))
 (h1:(Lx P stop n (Kw t (.bool (!way)) c)).st.tmps[res]? =some (.v (.bool vs)))
 (h2:(Lx P stop n2 (Lh (.v (.bool v)) (Lx P stop n (Kw t (.bool way) c)))).st.tmps[res]? =some (.v (.bool v2)))
 (he:∀x,Nu (t::L) x (Kw res (.bool B) (Lx P stop n2 (Lh (.v (.bool v)) (Lx P stop n (Kw t (.bool way) c)))))=Nu (t::L) x (Kw res (.bool B) (Lx P stop n (Kw t (.bool (!way)) c))))
 (e:(if b=way then v2 else vs)=B) (k:∀(x:Nat→AV) (Φ':World→Prop),(∀w,Φ' w→Φ w)→K0 P Δ W Q Φ' (Nu (t::L) x (Kw res (.bool B) (Lx P stop n (Kw t (.bool (!way)) c))))):K0 P Δ W Q Φ c:=by
 have yes:b=way→K0 P Δ W Q Φ (Kw t (.bool way) c):=fun hb=>by
  refine K0.run hm (stop:=stop) n _ ?_
  refine K0.callv hs hc (fun u=> ?_)
  refine K0.run hm (stop:=stop) n2 _ ?_
  refine K0.slot res (.bool v2) (.bool B) h2 (by rw[←e,if_pos hb]) (K0.blur (t::L) fun x=> ?_)
  rw[he x]
  exact k x _ fun w h=>h.1
 have no:b=(!way)→K0 P Δ W Q Φ (Kw t (.bool (!way)) c):=fun hb=>by
  refine K0.run hm (stop:=stop) n _ ?_
  exact K0.slot res (.bool vs) (.bool B) h1 (by rw[←e,if_neg (by rw[hb];cases way<;>decide)]) (K0.blur (t::L) fun x=>k x _ fun w h=>h)
 cases way
 ·exact K0.fork t b hv no yes
 ·exact K0.fork t b hv yes no
theorem Mq{a b:Bool}:(if a then b else false)=(a&&b):=by cases a<;>rfl
theorem R9{a b:Bool}:(if a then true else b)=(a||b):=by cases a<;>rfl
theorem Af{a b:Bool}:(if a=true then b else false)=(a&&b):=by cases a<;>rfl
theorem or_ift{a b:Bool}:(if a=false then b else true)=(a||b):=by cases a<;>rfl
theorem K0.meet [Rnd]{ι:Type}(f:ι→Md→Md)(h:(∀i,K0 P Δ W Q Φ (f i c))→K0 P Δ W Q Φ c)(k:∀i,K0 P Δ W Q Φ (f i c)):K0 P Δ W Q Φ c:=h k
theorem K0.meet2 [Rnd]{ι:Type}(f:ι→Md→Md)(h:(∀i Φ',(∀w,Φ' w→Φ w)→K0 P Δ W Q Φ' (f i c))→K0 P Δ W Q Φ c)(k:∀i Φ',(∀w,Φ' w→Φ w)→K0 P Δ W Q Φ' (f i c)):K0 P Δ W Q Φ c:=h k
theorem K0.meet3 [Rnd]{ι:Type}(f:ι→Md→Md)(Ψ:ι→World→Prop)(h:(∀i,K0 P Δ W Q (Ψ i) (f i c))→K0 P Δ W Q Φ c)(k:∀i,K0 P Δ W Q (Ψ i) (f i c)):K0 P Δ W Q Φ c:=h k
theorem O7.imp2{β:Nat→Nat}{σ:AS}{a:Act}{w:World}{Φ':World→Prop}(hr:O7 Δ W β σ Φ a w)(h:∀w,Φ w→Φ' w):O7 Δ W β σ Φ' a w:=⟨hr.tmps,hr.defers,hr.bel,hr.box,hr.inj,fun w' hw=>h w' (hr.keep w' hw)⟩
theorem K0.weak [Rnd]{Φ':World→Prop}(hf:J7 c=true)(k:∀w,Φ w→Φ' w)(h:K0 P Δ W Q Φ' c):K0 P Δ W Q Φ c:=by
 obtain⟨foc,fk,σ⟩:=c
 replace h:=h.get
 refine⟨?_⟩
 cases foc with
 |code x=>exact fun hwf β a w hr=>h hwf β a w (hr.imp2 k)
 |ops o l=>exact fun hwf β a w hr=>h hwf β a w (hr.imp2 k)
 |any o f l=>cases hf
 |out e=>exact fun hwf β a w hr=>h hwf β a w (hr.imp2 k)
theorem K0.eq [Rnd]{c':Md}(h:K0 P Δ W Q Φ c')(e:c=c'):K0 P Δ W Q Φ c:=e▸h
end
open Go.MapKept in
def Cp(w:World)(g:Nat)(l:List Int):Prop:=∃es clock,w.heap[g]? =some (.map es clock)∧es.toList.map (fun e=>(e.key,e.val))=l.map (fun i=>(Value.int .i64 i,Value.bool true))
def muS(t:TypeId)(m k v:Value):Sem Next:=Instr.mapUpdate t m k v >>= fun _=>(pure .skip:Sem Next)
section
variable{P:Program}{w:World}{t kt et:TypeId}{g:Nat}{l:List Int}{x:Int}
theorem Vh{x:Int}:∀{es:List MapEntry} {l:List Int} {i:Nat},es.map (fun e=>(e.key,e.val))=l.map (fun i=>(Value.int .i64 i,Value.bool true))→
 ∃a,Instr.findNow (.int .i64) (.int .i64 x) es i=some a∧((a=none∧x∉l)∨(∃j,a=some (j,.bool true))∧x∈l)
 | [],[],i,h=>⟨none,rfl,.inl ⟨rfl,by simp⟩⟩
 | [],_::_,i,h=>by simp at h
 |_::_,[],i,h=>by simp at h
 | e::es,y::l,i,h=>by
  simp only[List.map_cons,List.cons.injEq,Prod.mk.injEq]at h
  obtain⟨⟨hk,hv⟩,h⟩:=h
  by_cases hxy:x=y
  ·subst hxy
   exact⟨some (i,.bool true),by simp[Instr.findNow,Instr.sameNow,hk,hv],.inr ⟨⟨i,rfl⟩,by simp⟩⟩
  ·obtain⟨a,ha,hc⟩:=Vh (x:=x) (i:=i+1) h
   refine⟨a,by simp only[Instr.findNow,Instr.sameNow,hk,if_true,beq_eq_false_iff_ne.2 hxy,ha],?_⟩
   rcases hc with ⟨h1,h2⟩|⟨h1,h2⟩
   ·exact .inl ⟨h1,by simp[hxy,h2]⟩
   ·exact .inr ⟨h1,by simp[h2]⟩
open Go.MapKept in
theorem lookup_ids(ht:P.underlying t=some (.map kt et))(hk:P.underlying kt=some (.int .i64))(hz:(zeroValue et).run P w= .ok (.bool false) w)(h:Cp w g l):
 (Instr.lookup t (.map (some g)) (.int .i64 x) false).run P w= .ok (.bool (decide (x∈l))) w:=by
 obtain⟨es,clock,hb,he⟩:=h
 obtain⟨a,ha,hc⟩:=Vh (x:=x) (i:=0) he
 have hck:(Instr.checkKey es.isEmpty 10000 kt (.int .i64 x)).run P w= .ok () w:=by
  exact MapKept.run_checkKey hk (by simp[MapKept.IsKey]) _ _
 rcases hc with ⟨rfl,hx⟩|⟨⟨j,rfl⟩,hx⟩
 ·simp[Instr.lookup,run_underlying ht,MapKept.run_getObj_map hb,hck,run_findKey hk ha,hz,Result.andThen,hx]
 ·simp[Instr.lookup,run_underlying ht,MapKept.run_getObj_map hb,hck,run_findKey hk ha,Result.andThen,hx]
open Go.MapKept in
theorem update_ids(ht:P.underlying t=some (.map kt et))(hk:P.underlying kt=some (.int .i64))(h:Cp w g l)(hx:x∉l):
 ∃w',(muS t (.map (some g)) (.int .i64 x) (.bool true)).run P w= .ok .skip w'∧Ga [g] w w'∧∀w'',w'.heap.size≤w''.heap.size→(∀b∈[g],w''.heap[b]? =w'.heap[b]?)→Cp w'' g (l++ [x]):=by
 obtain⟨es,clock,hb,he⟩:=h
 obtain⟨a,ha,hc⟩:=Vh (x:=x) (i:=0) he
 rcases hc with ⟨rfl,_⟩|⟨_,h⟩
 case inr=>exact absurd h hx
 have hck:(Instr.checkKey false 10000 kt (.int .i64 x)).run P w= .ok () w:=by
  exact MapKept.run_checkKey hk (by simp[MapKept.IsKey]) _ _
 refine⟨{w with heap:=w.heap.setIfInBounds g (.map (es.push ⟨.int .i64 x,.bool true,clock⟩) (clock+1))},by simp only[muS,Instr.mapUpdate,Sem.run_bind,run_underlying ht,MapKept.run_getObj_map hb,hck,run_findKey hk ha,run_setObj_map _ hb,Result.andThen_ok,Sem.run_pure],⟨rfl,rfl,rfl,Nat.le_of_eq Zs,fun k _ h2=>(heap_set hb).2 k (by simpa using h2)⟩,fun w'' _ k2=>⟨es.push ⟨.int .i64 x,.bool true,clock⟩,clock+1,?_,by simp[he]⟩⟩
 rw[k2 g Zs]
 exact(heap_set hb).1
end
section
variable{Δ:List Deferred}{W:World}{Φ Φ':World→Prop}
def OwnM(W:World)(g:Nat)(Φ:World→Prop):Prop:=∀w,Φ w→W.heap.size≤g∧∃es clock,w.heap[g]? =some (.map es clock)
theorem O7.mutM{β:Nat→Nat}{σ:AS}{a:Act}{w w':World}{g:Nat}{G:World→Prop}(hr:O7 Δ W β σ Φ a w)(hL:OwnM W g Φ)(hc:Ga [g] w w')
 (hG:∀w'',w'.heap.size≤w''.heap.size→(∀b∈[g],w''.heap[b]? =w'.heap[b]?)→G w'') (hΦ:Tt [g] Φ G Φ'):O7 Δ W β σ Φ' a w':=by
 obtain⟨hg,es,clock,hgm⟩:=hL w hr.phi
 have hlt:g<w.heap.size:=(Array.getElem?_eq_some_iff.1 hgm).1
 have nb:∀k,(σ.box k).isSome=true→β k≠g:=fun k hk e=>by
  obtain⟨cs,hcs⟩:=Option.isSome_iff_exists.1 hk
  obtain⟨_,ty,hh⟩:=hr.box k cs hcs
  rw[e,hgm]at hh
  cases hh
 refine⟨hr.tmps,hr.defers,⟨hc.os.trans hr.bel.os,hc.tape.trans hr.bel.tape,hc.output.trans hr.bel.output,Nat.le_trans hr.bel.size hc.size,fun k hk=> ?_⟩,fun k cs hk=> ?_,hr.inj,fun w'' hw=> ?_⟩
 ·rw[hc.block k (Nat.lt_of_lt_of_le hk hr.bel.size) Zp]
  exact hr.bel.block k hk
 ·have hs:(σ.box k).isSome=true:=by rw[hk];rfl
  obtain⟨h1,ty,h2⟩:=hr.box k cs hk
  exact⟨h1,ty,by rw[hc.block _ (Array.getElem?_eq_some_iff.1 h2).1 (by simpa using nb k hs)];exact h2⟩
 ·refine hΦ {w'' with heap:=w''.heap.setIfInBounds g (.map es clock)} w'' Zs (fun b hb=> ?_) (hr.keep _ ⟨?_,fun b h1 h2 h3=> ?_⟩) (hG w'' hw.size fun b hb=> ?_)
  ·exact Array.getElem?_setIfInBounds_ne (by simpa[eq_comm]using hb)
  ·simp only[Array.size_setIfInBounds];exact Nat.le_trans hc.size hw.size
  ·by_cases hb:g=b
   ·subst hb
    simp only[]
    rw[Array.getElem?_setIfInBounds_self_of_lt (Nat.lt_of_lt_of_le hlt (Nat.le_trans hc.size hw.size))]
    exact hgm.symm
   ·simp only[]
    rw[Array.getElem?_setIfInBounds_ne hb,hw.heap b h1 (Nat.lt_of_lt_of_le h2 hc.size) h3,hc.block b h2 (by simpa[eq_comm]using hb)]
  ·obtain rfl:b=g:=by simpa using hb
   exact hw.heap b hg (Nat.lt_of_lt_of_le hlt hc.size) fun k hk=>nb k hk
end
section
variable{P:Program}{Δ:List Deferred}{W:World}{Q:Exit→Act→World→Prop}{Φ Φ':World→Prop}{c:Md}
theorem K0.mutM [Rnd]{g:Nat}{G:World→Prop}(s:Sem Next)
 (hs:∀w,Below W.heap.size W w→Φ w→∃w',s.run P w= .ok .skip w'∧Ga [g] w w'∧∀w'',w'.heap.size≤w''.heap.size→(∀b∈[g],w''.heap[b]? =w'.heap[b]?)→G w'') (hL:OwnM W g Φ) (hΦ:Tt [g] Φ G Φ')
 (hf:Yd c=true) (hc:Q1 c=some s) (h:K0 P Δ W Q Φ' (Lh (.v undef) c)):K0 P Δ W Q Φ c:=by
 obtain⟨foc,k,σ⟩:=c
 replace h:=h.get
 refine⟨?_⟩
 replace hc:=(O1 hc).1
 unfold Pu at hc
 split at hc
 ·rename_i ops o ho
  split at hc
  ·cases hc
  ·cases hc
  ·rename_i hns hnm
   split at hc
   ·rename_i hw
    simp only[Bool.and_eq_true]at hw
    injection hc with hc
    subst hc
    unfold Na at ho
    simp only at ho
    split at ho
    ·rename_i ops' i l
     cases hoi:ops'[i]? with
     |none=>rw[hoi]at ho;cases ho
     | some o'=>
      rw[hoi]at ho
      simp only[Option.map_some,Option.some.injEq,Prod.mk.injEq]at ho
      obtain⟨rfl,rfl⟩:=ho
      intro hwf β a w hr
      show wpOpsIn Fe 0 P ops' (post P Q k) (i::l) a w
      rw[wpOpsIn_cons]
      unfold wpOpIn
      simp only[hoi,Lv hr,hw.1,if_true]
      have hrho:∀x∈o'.op.operands,a.eval x=σ.rho x:=fun x hx=>by
       rw[hr.eval,AV.conc_isV];· rfl
       exact List.all_eq_true.1 hw.2 x (by simpa using hx)
      obtain⟨w',hrun,hch,hG⟩:=hs w hr.bel hr.phi
      refine Y8 ((congrArg (fun s=>s.run P w) (execOp_congr o' (fun cs b e=>hns cs b e) hrho)).trans hrun) Zs ?_
      simp only[Qp,Lh,hoi,Option.bind_some]at h
      exact h (hwf.put _ (by intro k hk;simp[AV.ids]at hk)) β _ w' ((hr.mutM hL hch hG hΦ).put o'.dst (.v undef))
    ·cases hf
    ·cases ho
   ·cases hc
 ·cases hc
end
end
end Go.Proofs.YtpgkbllcnphmbaaGreatDoor
