/-
 Paths as text.
-/
import Derived.Test.YtoeiphicmcndlaaGreatDoorPG
namespace Go.Proofs.YtoeiphicmcndlaaGreatDoor
set_option maxRecDepth 100000
set_option maxHeartbeats 8000000
set_option linter.unusedVariables false
set_option linter.unusedSimpArgs false
open Go.RowKit
structure Sg where
 v:Int
 ax:Int
 ay:Int
 bx:Int
 by_:Int
 cx:Int
 cy:Int
def iv(z:Int):Value:=Zi z
@[reducible] def Sg.cl(s:Sg):List Value:=[Zi s.v,Zi s.ax,Zi s.ay,Zi s.bx,Zi s.by_,Zi s.cx,Zi s.cy]
@[reducible] def Sg.val(s:Sg):Value:= .agg #[Zi s.v,Zi s.ax,Zi s.ay,Zi s.bx,Zi s.by_,Zi s.cx,Zi s.cy]
def Sg.beq(a b:Sg):Bool:=a.v==b.v&&(a.ax==b.ax&&a.ay==b.ay)&&(a.bx==b.bx&&a.by_==b.by_)&&(a.cx==b.cx&&a.cy==b.cy)
theorem Sg.beq_iff{a b:Sg}:a.beq b=true↔a=b:=by
 cases a;cases b
 simp[Sg.beq,and_assoc]
theorem Ly{x y:Operand}{a b c d:Int}{w:World}:(Xa 57 x y (pt a b) (pt c d)).run Tryz.prog w= .ok (.value (.bool (!(a==c&&b==d)))) w:=by
 have h3:Tryz.prog.eqGuardType Tryz.prog.depth 57=false:=by kernel_rfl
 have he:=Jd (x:=x) (y:=y) (a:=a) (b:=b) (c:=c) (d:=d) (w:=w)
 simp only[D4,pt,Sem.run_bind,run_eqGuard_agg w .eql _ x y _ _ h3,Result.andThen_ok,run_eql_struct,Sem.run_pure]at he
 simp only[Xa,pt,Sem.run_bind,run_eqGuard_agg w .neq _ x y _ _ h3,Result.andThen_ok,run_neq_struct,Sem.run_pure]
 generalize (Op.equalIn 10000 57 (.agg #[Zi a,Zi b]) (.agg #[Zi c,Zi d])).run Tryz.prog w=r at he ⊢
 cases r with
 |ok x w'=>simp only[Result.andThen_ok,Sem.run_pure,Result.ok.injEq,Next.value.injEq,Value.bool.injEq]at he ⊢;exact⟨by rw[he.1],he.2⟩
 |_=>cases he
section
variable{w:World}
theorem eq_point(k:Nat)(a b c d:Int):(Op.equalIn (k+2) 57 (.agg #[Zi a,Zi b]) (.agg #[Zi c,Zi d])).run Tryz.prog w= .ok (a==c&&b==d) w:=by
 have h1:Tryz.prog.underlying 57=some (.struct (Tryz.prog.fieldsOf 57)):=by kernel_rfl
 have h2:Tryz.prog.stoodInHeld 57=false:=by kernel_rfl
 have hm:(Tryz.prog.fieldsOf 57).toList.map (fun f=>(f.name,f.offset,f.type))=[("X",0,3),("Y",1,3)]:=by kernel_rfl
 have hu:Tryz.prog.underlying 3=some (.int .i64):=by kernel_rfl
 obtain⟨f0,r0,hf,k0,hm⟩:=List.map_eq_cons_iff.1 hm
 obtain⟨f1,r1,hf1,k1,hm⟩:=List.map_eq_cons_iff.1 hm
 obtain rfl:r1=[]:=List.map_eq_nil_iff.1 hm
 subst hf1
 simp only[Prod.mk.injEq]at k0 k1
 obtain⟨n0,o0,t0⟩:=k0
 obtain⟨n1,o1,t1⟩:=k1
 have hp:∀(xs:Array Value) (off:Nat) (v:Value),xs[off]? =some v→(part 3 xs off).run Tryz.prog w= .ok v w:=by
  intro xs off v hv
  have hag:(isAgg 3).run Tryz.prog w= .ok false w:=by unfold isAgg;rw[Sem.run_bind,run_underlying hu w];rfl
  simp only[part,Sem.run_bind,hag,Result.andThen_ok,Bool.false_eq_true,if_false,hv,Sem.run_pure]
 have e0:∀a b:Int,(Op.equalIn (k+1) 3 (Zi a) (Zi b)).run Tryz.prog w= .ok (a==b) w:=fun a b=>run_equalIn_int w k _ .i64 .i64 a b hu
 have p0:(part 3 #[Zi a,Zi b] 0).run Tryz.prog w= .ok (Zi a) w:=hp _ 0 _ rfl
 have p1:(part 3 #[Zi a,Zi b] 1).run Tryz.prog w= .ok (Zi b) w:=hp _ 1 _ rfl
 have q0:(part 3 #[Zi c,Zi d] 0).run Tryz.prog w= .ok (Zi c) w:=hp _ 0 _ rfl
 have q1:(part 3 #[Zi c,Zi d] 1).run Tryz.prog w= .ok (Zi d) w:=hp _ 1 _ rfl
 have hfld:(Op.eqFields (k+1) #[Zi a,Zi b] #[Zi c,Zi d] [f0,f1]).run Tryz.prog w= .ok (a==c&&b==d) w:=by
  have x0:("X" :String)≠ "_" :=by decide
  have x1:("Y" :String)≠ "_" :=by decide
  simp only[Op.eqFields,n0,n1,o0,o1,t0,t1,Sem.run_bind,p0,q0,p1,q1,Result.andThen_ok,e0,x0,x1,ne_eq,not_false_eq_true,if_true]
  cases h:a==c
  ·simp[e0,h]
  ·cases h':b==d<;>simp[e0,h,p1,q1,h']
 rw[run_equalIn_struct w (k+1) _ _ _ h1 h2,hf];exact hfld
theorem eq_sg(a b:Sg):(Op.equalIn 10000 150 a.val b.val).run Tryz.prog w= .ok (a.beq b) w:=by
 have h1:Tryz.prog.underlying 150=some (.struct (Tryz.prog.fieldsOf 150)):=by kernel_rfl
 have h2:Tryz.prog.stoodInHeld 150=false:=by kernel_rfl
 have hm:(Tryz.prog.fieldsOf 150).toList.map (fun f=>(f.name,f.offset,f.type))=[("Verb",0,3),("A",1,57),("B",3,57),("C",5,57)]:=by kernel_rfl
 have hu:Tryz.prog.underlying 3=some (.int .i64):=by kernel_rfl
 have hup:Tryz.prog.underlying 57=some (.struct (Tryz.prog.fieldsOf 57)):=by kernel_rfl
 have hzp:Nz Tryz.prog 57=some 2:=by kernel_rfl
 obtain⟨f0,r0,hf,k0,hm⟩:=List.map_eq_cons_iff.1 hm
 obtain⟨f1,r1,hf1,k1,hm⟩:=List.map_eq_cons_iff.1 hm
 obtain⟨f2,r2,hf2,k2,hm⟩:=List.map_eq_cons_iff.1 hm
 obtain⟨f3,r3,hf3,k3,hm⟩:=List.map_eq_cons_iff.1 hm
 obtain rfl:r3=[]:=List.map_eq_nil_iff.1 hm
 subst hf3;subst hf2;subst hf1
 simp only[Prod.mk.injEq]at k0 k1 k2 k3
 obtain⟨n0,o0,t0⟩:=k0
 obtain⟨n1,o1,t1⟩:=k1
 obtain⟨n2,o2,t2⟩:=k2
 obtain⟨n3,o3,t3⟩:=k3
 have hagi:(isAgg 3).run Tryz.prog w= .ok false w:=by unfold isAgg;rw[Sem.run_bind,run_underlying hu w];rfl
 have hagp:(isAgg 57).run Tryz.prog w= .ok true w:=by unfold isAgg;rw[Sem.run_bind,run_underlying hup w];rfl
 have e0:∀a b:Int,(Op.equalIn 9999 3 (Zi a) (Zi b)).run Tryz.prog w= .ok (a==b) w:=fun a b=>run_equalIn_int w 9998 _ .i64 .i64 a b hu
 have eP:∀a b c d:Int,(Op.equalIn 9999 57 (.agg #[Zi a,Zi b]) (.agg #[Zi c,Zi d])).run Tryz.prog w= .ok (a==c&&b==d) w:=fun a b c d=>eq_point 9997 a b c d
 have p0:∀s:Sg,(part 3 s.cl.toArray 0).run Tryz.prog w= .ok (Zi s.v) w:=fun s=>by
  simp only[part,Sem.run_bind,hagi,Result.andThen_ok,Bool.false_eq_true,if_false];rfl
 have p1:∀s:Sg,(part 57 s.cl.toArray 1).run Tryz.prog w= .ok (.agg #[Zi s.ax,Zi s.ay]) w:=fun s=>by
  simp only[part,Sem.run_bind,hagp,Lf hzp,Result.andThen_ok,if_true];rfl
 have p2:∀s:Sg,(part 57 s.cl.toArray 3).run Tryz.prog w= .ok (.agg #[Zi s.bx,Zi s.by_]) w:=fun s=>by
  simp only[part,Sem.run_bind,hagp,Lf hzp,Result.andThen_ok,if_true];rfl
 have p3:∀s:Sg,(part 57 s.cl.toArray 5).run Tryz.prog w= .ok (.agg #[Zi s.cx,Zi s.cy]) w:=fun s=>by
  simp only[part,Sem.run_bind,hagp,Lf hzp,Result.andThen_ok,if_true];rfl
 have hfld:(Op.eqFields 9999 a.cl.toArray b.cl.toArray [f0,f1,f2,f3]).run Tryz.prog w= .ok (a.beq b) w:=by
  have x0:("Verb" :String)≠ "_" :=by decide
  have x1:("A" :String)≠ "_" :=by decide
  have x2:("B" :String)≠ "_" :=by decide
  have x3:("C" :String)≠ "_" :=by decide
  simp only[Op.eqFields,n0,n1,n2,n3,o0,o1,o2,o3,t0,t1,t2,t3,Sem.run_bind,p0,p1,p2,p3,Result.andThen_ok,e0,eP,x0,x1,x2,x3,ne_eq,not_false_eq_true,if_true,Sg.beq]
  cases h0:a.v==b.v
  ·simp
  ·cases h1:(a.ax==b.ax&&a.ay==b.ay)
   ·simp[Sem.run_bind,p1,eP,h1]
   ·cases h2:(a.bx==b.bx&&a.by_==b.by_)
    ·simp[Sem.run_bind,p1,p2,eP,h1,h2]
    ·cases h3:(a.cx==b.cx&&a.cy==b.cy)<;>simp[Sem.run_bind,p1,p2,p3,eP,h1,h2,h3]
 show(Op.equalIn (9999+1) 150 (.agg a.cl.toArray) (.agg b.cl.toArray)).run Tryz.prog w=_
 rw[run_equalIn_struct w 9999 _ _ _ h1 h2,hf];exact hfld
theorem run_neS_sg{x y:Operand}{a b:Sg}:(Xa 150 x y a.val b.val).run Tryz.prog w= .ok (.value (.bool (!(a.beq b)))) w:=by
 have h3:Tryz.prog.eqGuardType Tryz.prog.depth 150=false:=by kernel_rfl
 have he:=eq_sg (w:=w) a b
 simp only[Xa,Sg.val,Sem.run_bind,run_eqGuard_agg w .neq _ x y _ _ h3,Result.andThen_ok,run_neq_struct,Sem.run_pure]at he ⊢
 rw[he]
 rfl
end
def Lt(v:Int):Int:=if v=1∨v=2 then 1 else if v=3 then 2 else if v=4 then 3 else if v=5 then 0 else -1
theorem named_cases(v:Int):v=1∨v=2∨v=3∨v=4∨v=5∨(v≠1∧v≠2∧v≠3∧v≠4∧v≠5):=by omega
theorem S7{v:Int}(h:v≠1∧v≠2∧v≠3∧v≠4∧v≠5):Lt v= -1:=by
 unfold Lt
 rw[if_neg Zo,if_neg Zo,if_neg Zo,if_neg Zo]
def okP(i n x y:Int):Bool:=L8 x y&&(decide (i<n)||(x==0&&y==0))
def Ng(s:Sg):Bool:=okP 0 (Lt s.v) s.ax s.ay&&okP 1 (Lt s.v) s.bx s.by_&&okP 2 (Lt s.v) s.cx s.cy
def My(last v:Int):Bool:=v==1||(last !=5&&(v !=5||last !=1))
def Dj(last:Int)(s:Sg):Int:=if Lt s.v<0 then 2 else if My last s.v=false then 10 else if Ng s=false then 6 else 0
def C1:Int→Nat→List Sg→Int×Nat
 |_,_,[]=>(0,0)
 |last,i,s::l=>if Dj last s=0 then C1 s.v (i+1) l else(Dj last s,i)
def chk(l:List Sg):Int×Nat:=if 256<l.length then(5,256)else C1 5 0 l
def Qt(w:World)(A:Option Addr)(n:Nat)(ls:List Sg):Prop:=ls.length=n∧∀(k:Nat) (s:Sg),ls[k]? =some s→∃ad,A=some ad∧∀(j:Nat) (v:Value),s.cl[j]? =some v→w.cell? ((ad.add (k*7)).add j)=some v
theorem Qt.below{w w1:World}{A:Option Addr}{n:Nat}{ls:List Sg}(h:Qt w A n ls)(hw:Below w.heap.size w w1):Qt w1 A n ls:=
 ⟨h.1,fun k s hk=>by obtain⟨ad,h1,h2⟩:=h.2 k s hk;exact⟨ad,h1,fun j v hj=>Lc hw (h2 j v hj)⟩⟩
section
variable{w:World}{A A2:Option Addr}{n n2 c c2:Nat}{ls ms:List Sg}{X Y:Int}
theorem Sd{k:Nat}{ad:Addr}(hA:A=some ad)(hk:k<n):(Kj 43 (.slice A n c) k).run Tryz.prog w= .ok (.value (.pointer (some (ad.add (k*7))))) w:=by
 rw[hA];exact Yc (elem:=150) Zk Zk hk
theorem Ya{ad:Addr}{s:Sg}(h:∀(j:Nat) (v:Value),s.cl[j]? =some v→w.cell? (ad.add j)=some v):(L5 150 ad).run Tryz.prog w= .ok (.value s.val) w:=
 F7 (vs:=s.cl) Zk Zk h
theorem Mv{v r:Int}(h:Lt v=r):Zv 223 #[Zi v] w (Zi r):=by
 rcases named_cases v with rfl|rfl|rfl|rfl|rfl|hv
 ·obtain rfl:r=1:=h.symm
  exact K0.enter Tryz.func223 rfl <| K0.runC Zk (stop:=1000) 6000 _ <| ZW (Zi 1)
 ·obtain rfl:r=1:=h.symm
  exact K0.enter Tryz.func223 rfl <| K0.runC Zk (stop:=1000) 6000 _ <| ZW (Zi 1)
 ·obtain rfl:r=2:=h.symm
  exact K0.enter Tryz.func223 rfl <| K0.runC Zk (stop:=1000) 6000 _ <| ZW (Zi 2)
 ·obtain rfl:r=3:=h.symm
  exact K0.enter Tryz.func223 rfl <| K0.runC Zk (stop:=1000) 6000 _ <| ZW (Zi 3)
 ·obtain rfl:r=0:=h.symm
  exact K0.enter Tryz.func223 rfl <| K0.runC Zk (stop:=1000) 6000 _ <| ZW (Zi 0)
 ·obtain rfl:r= -1:=h.symm.trans (S7 hv)
  exact K0.enter Tryz.func223 rfl <| ZR <| ZJ ((v==4)) false Zp <| ZJ ((v==3)) false Zp <| ZJ ((v==1)) false Zp <| ZJ ((v==2)) false Zp <| ZJ ((v==5)) false Zp <| ZW (Zi (-1))
theorem Si{v r:Int}(h:Lt v=r):Zv 267 #[Zi v] w (Zi r):=by
 rcases named_cases v with rfl|rfl|rfl|rfl|rfl|hv
 ·obtain rfl:r=1:=h.symm
  exact K0.enter Tryz.func267 rfl <| K0.runC Zk (stop:=1000) 6000 _ <| ZW (Zi 1)
 ·obtain rfl:r=1:=h.symm
  exact K0.enter Tryz.func267 rfl <| K0.runC Zk (stop:=1000) 6000 _ <| ZW (Zi 1)
 ·obtain rfl:r=2:=h.symm
  exact K0.enter Tryz.func267 rfl <| K0.runC Zk (stop:=1000) 6000 _ <| ZW (Zi 2)
 ·obtain rfl:r=3:=h.symm
  exact K0.enter Tryz.func267 rfl <| K0.runC Zk (stop:=1000) 6000 _ <| ZW (Zi 3)
 ·obtain rfl:r=0:=h.symm
  exact K0.enter Tryz.func267 rfl <| K0.runC Zk (stop:=1000) 6000 _ <| ZW (Zi 0)
 ·obtain rfl:r= -1:=h.symm.trans (S7 hv)
  exact K0.enter Tryz.func267 rfl <| ZR <| ZJ ((v==1)) false Zp <| ZJ ((v==2)) false Zp <| ZJ ((v==3)) false Zp <| ZJ ((v==4)) false Zp <| ZJ ((v==5)) false Zp <| ZW (Zi (-1))
theorem Rk{g off:Nat}{cells:Array Value}{x y:Int}(h:L4 57 cells g w)(hc:∀(j:Nat) (v:Value),([Zi x,Zi y]:List Value)[j]? =some v→cells[off+j]? =some v):(L5 57 ⟨g,off,none⟩).run Tryz.prog w= .ok (.value (pt x y)) w:=
 Mj (vs:=[Zi x,Zi y]) Zk Zk (fun j v hj=>by
  have h1:w.heap[g]? =some (.cells cells 57 (0,0)):=h
  simp only[World.cell?,h1,Option.isSome_none,Bool.false_eq_true,if_false]
  exact hc j v hj)
theorem Q7{i n x y:Int}(h:i<n):okP i n x y=L8 x y:=by unfold okP;rw[decide_eq_true h];simp
theorem Ok{i n x y:Int}(h:¬i<n):okP i n x y=(L8 x y&&(x==0&&y==0)):=by unfold okP;rw[decide_eq_false h];simp
theorem fits_0{s:Sg}{B:Bool}(hn:Lt s.v=0)(h:Ng s=B):Zv 224 #[s.val] w (.bool B):=by
 unfold Ng at h
 rw[hn,Ok (show¬((0:Int)<0) by decide),Ok (show¬((1:Int)<0) by decide),Ok (show¬((2:Int)<0) by decide)]at h
 refine K0.enter Tryz.func224 rfl <| ZR <| K0.make (Lq (185) 3 #[(0,pt s.ax s.ay),(1,pt s.bx s.by_),(2,pt s.cx s.cy)]) (Kf 3) (L4 57 #[Zi s.ax,Zi s.ay,Zi s.bx,Zi s.by_,Zi s.cx,Zi s.cy]) Zk (fun w1 hw h=>Kc Zk) fun g=>ZR <| K0.un Zk <| ZR <| K0.drop 4 Zk fun _=>ZI true <| ZA (Kj 185 (Kf 3 g) (0:Nat)) (Zq g (0*2)) (fun w1 hw h=>Kq (elem:=57) Zk Zk Zd) <| ZA (L5 57 ⟨g,0*2,none⟩) (pt s.ax s.ay) (fun w1 hw h=>Rk h.2 (fun j v hj=>by rcases j with _|_|j<;>simp at hj ⊢ <;>exact hj)) ?_
 cases hv0:L8 s.ax s.ay with
 |false=>
  obtain rfl:B=false:=by rw[←h,hv0];simp
  exact ZC (fun w1 hw h=>Mu hv0) fun u=>ZI true <| ZW Zf
 |true=>
 rw[hv0]at h
 refine ZC (fun w1 hw h=>Mu hv0) fun u=>ZD 12 (fun w1 hw h=>Mv hn) fun u=> ?_
 cases hz0:(s.ax==0&&s.ay==0)with
 |false=>
  obtain rfl:B=false:=by rw[←h,hz0];simp
  exact ZA (Xa 57 (.tmp 28) (.tmp 29) (pt s.ax s.ay) (pt 0 0)) Zt (fun w1 hw h=>by rw[Ly,hz0];rfl) <| ZI true <| ZW Zf
 |true=>
 rw[hz0]at h
 refine ZA (Xa 57 (.tmp 28) (.tmp 29) (pt s.ax s.ay) (pt 0 0)) Zf (fun w1 hw h=>by rw[Ly,hz0];rfl) <| ZI false <| K0.drop 4 Zk fun _=>ZI true <| ZA (Kj 185 (Kf 3 g) (1:Nat)) (Zq g (1*2)) (fun w1 hw h=>Kq (elem:=57) Zk Zk Zd) <| ZA (L5 57 ⟨g,1*2,none⟩) (pt s.bx s.by_) (fun w1 hw h=>Rk h.1.1.2 (fun j v hj=>by rcases j with _|_|j<;>simp at hj ⊢ <;>exact hj)) ?_
 cases hv1:L8 s.bx s.by_ with
 |false=>
  obtain rfl:B=false:=by rw[←h,hv1];simp
  exact ZC (fun w1 hw h=>Mu hv1) fun u=>ZI true <| ZW Zf
 |true=>
 rw[hv1]at h
 refine ZC (fun w1 hw h=>Mu hv1) fun u=>ZD 12 (fun w1 hw h=>Mv hn) fun u=> ?_
 cases hz1:(s.bx==0&&s.by_==0)with
 |false=>
  obtain rfl:B=false:=by rw[←h,hz1];simp
  exact ZA (Xa 57 (.tmp 28) (.tmp 29) (pt s.bx s.by_) (pt 0 0)) Zt (fun w1 hw h=>by rw[Ly,hz1];rfl) <| ZI true <| ZW Zf
 |true=>
 rw[hz1]at h
 refine ZA (Xa 57 (.tmp 28) (.tmp 29) (pt s.bx s.by_) (pt 0 0)) Zf (fun w1 hw h=>by rw[Ly,hz1];rfl) <| ZI false <| K0.drop 4 Zk fun _=>ZI true <| ZA (Kj 185 (Kf 3 g) (2:Nat)) (Zq g (2*2)) (fun w1 hw h=>Kq (elem:=57) Zk Zk Zd) <| ZA (L5 57 ⟨g,2*2,none⟩) (pt s.cx s.cy) (fun w1 hw h=>Rk h.1.1.1.1.2 (fun j v hj=>by rcases j with _|_|j<;>simp at hj ⊢ <;>exact hj)) ?_
 cases hv2:L8 s.cx s.cy with
 |false=>
  obtain rfl:B=false:=by rw[←h,hv2];simp
  exact ZC (fun w1 hw h=>Mu hv2) fun u=>ZI true <| ZW Zf
 |true=>
 rw[hv2]at h
 refine ZC (fun w1 hw h=>Mu hv2) fun u=>ZD 12 (fun w1 hw h=>Mv hn) fun u=> ?_
 cases hz2:(s.cx==0&&s.cy==0)with
 |false=>
  obtain rfl:B=false:=by rw[←h,hz2];simp
  exact ZA (Xa 57 (.tmp 28) (.tmp 29) (pt s.cx s.cy) (pt 0 0)) Zt (fun w1 hw h=>by rw[Ly,hz2];rfl) <| ZI true <| ZW Zf
 |true=>
 rw[hz2]at h
 refine ZA (Xa 57 (.tmp 28) (.tmp 29) (pt s.cx s.cy) (pt 0 0)) Zf (fun w1 hw h=>by rw[Ly,hz2];rfl) <| ZI false ?_
 obtain rfl:B=true:=by rw[←h];rfl
 exact ZI false <| ZW Zt
theorem fits_1{s:Sg}{B:Bool}(hn:Lt s.v=1)(h:Ng s=B):Zv 224 #[s.val] w (.bool B):=by
 unfold Ng at h
 rw[hn,Q7 (show(0:Int)<1 by decide),Ok (show¬((1:Int)<1) by decide),Ok (show¬((2:Int)<1) by decide)]at h
 refine K0.enter Tryz.func224 rfl <| ZR <| K0.make (Lq (185) 3 #[(0,pt s.ax s.ay),(1,pt s.bx s.by_),(2,pt s.cx s.cy)]) (Kf 3) (L4 57 #[Zi s.ax,Zi s.ay,Zi s.bx,Zi s.by_,Zi s.cx,Zi s.cy]) Zk (fun w1 hw h=>Kc Zk) fun g=>ZR <| K0.un Zk <| ZR <| K0.drop 4 Zk fun _=>ZI true <| ZA (Kj 185 (Kf 3 g) (0:Nat)) (Zq g (0*2)) (fun w1 hw h=>Kq (elem:=57) Zk Zk Zd) <| ZA (L5 57 ⟨g,0*2,none⟩) (pt s.ax s.ay) (fun w1 hw h=>Rk h.2 (fun j v hj=>by rcases j with _|_|j<;>simp at hj ⊢ <;>exact hj)) ?_
 cases hv0:L8 s.ax s.ay with
 |false=>
  obtain rfl:B=false:=by rw[←h,hv0];simp
  exact ZC (fun w1 hw h=>Mu hv0) fun u=>ZI true <| ZW Zf
 |true=>
 rw[hv0]at h
 refine ZC (fun w1 hw h=>Mu hv0) fun u=>ZC (fun w1 hw h=>Mv hn) fun u=>ZI false <| K0.drop 4 Zk fun _=>ZI true <| ZA (Kj 185 (Kf 3 g) (1:Nat)) (Zq g (1*2)) (fun w1 hw h=>Kq (elem:=57) Zk Zk Zd) <| ZA (L5 57 ⟨g,1*2,none⟩) (pt s.bx s.by_) (fun w1 hw h=>Rk h.1.1.2 (fun j v hj=>by rcases j with _|_|j<;>simp at hj ⊢ <;>exact hj)) ?_
 cases hv1:L8 s.bx s.by_ with
 |false=>
  obtain rfl:B=false:=by rw[←h,hv1];simp
  exact ZC (fun w1 hw h=>Mu hv1) fun u=>ZI true <| ZW Zf
 |true=>
 rw[hv1]at h
 refine ZC (fun w1 hw h=>Mu hv1) fun u=>ZD 12 (fun w1 hw h=>Mv hn) fun u=> ?_
 cases hz1:(s.bx==0&&s.by_==0)with
 |false=>
  obtain rfl:B=false:=by rw[←h,hz1];simp
  exact ZA (Xa 57 (.tmp 28) (.tmp 29) (pt s.bx s.by_) (pt 0 0)) Zt (fun w1 hw h=>by rw[Ly,hz1];rfl) <| ZI true <| ZW Zf
 |true=>
 rw[hz1]at h
 refine ZA (Xa 57 (.tmp 28) (.tmp 29) (pt s.bx s.by_) (pt 0 0)) Zf (fun w1 hw h=>by rw[Ly,hz1];rfl) <| ZI false <| K0.drop 4 Zk fun _=>ZI true <| ZA (Kj 185 (Kf 3 g) (2:Nat)) (Zq g (2*2)) (fun w1 hw h=>Kq (elem:=57) Zk Zk Zd) <| ZA (L5 57 ⟨g,2*2,none⟩) (pt s.cx s.cy) (fun w1 hw h=>Rk h.1.1.1.1.2 (fun j v hj=>by rcases j with _|_|j<;>simp at hj ⊢ <;>exact hj)) ?_
 cases hv2:L8 s.cx s.cy with
 |false=>
  obtain rfl:B=false:=by rw[←h,hv2];simp
  exact ZC (fun w1 hw h=>Mu hv2) fun u=>ZI true <| ZW Zf
 |true=>
 rw[hv2]at h
 refine ZC (fun w1 hw h=>Mu hv2) fun u=>ZD 12 (fun w1 hw h=>Mv hn) fun u=> ?_
 cases hz2:(s.cx==0&&s.cy==0)with
 |false=>
  obtain rfl:B=false:=by rw[←h,hz2];simp
  exact ZA (Xa 57 (.tmp 28) (.tmp 29) (pt s.cx s.cy) (pt 0 0)) Zt (fun w1 hw h=>by rw[Ly,hz2];rfl) <| ZI true <| ZW Zf
 |true=>
 rw[hz2]at h
 refine ZA (Xa 57 (.tmp 28) (.tmp 29) (pt s.cx s.cy) (pt 0 0)) Zf (fun w1 hw h=>by rw[Ly,hz2];rfl) <| ZI false ?_
 obtain rfl:B=true:=by rw[←h];rfl
 exact ZI false <| ZW Zt
theorem fits_2{s:Sg}{B:Bool}(hn:Lt s.v=2)(h:Ng s=B):Zv 224 #[s.val] w (.bool B):=by
 unfold Ng at h
 rw[hn,Q7 (show(0:Int)<2 by decide),Q7 (show(1:Int)<2 by decide),Ok (show¬((2:Int)<2) by decide)]at h
 refine K0.enter Tryz.func224 rfl <| ZR <| K0.make (Lq (185) 3 #[(0,pt s.ax s.ay),(1,pt s.bx s.by_),(2,pt s.cx s.cy)]) (Kf 3) (L4 57 #[Zi s.ax,Zi s.ay,Zi s.bx,Zi s.by_,Zi s.cx,Zi s.cy]) Zk (fun w1 hw h=>Kc Zk) fun g=>ZR <| K0.un Zk <| ZR <| K0.drop 4 Zk fun _=>ZI true <| ZA (Kj 185 (Kf 3 g) (0:Nat)) (Zq g (0*2)) (fun w1 hw h=>Kq (elem:=57) Zk Zk Zd) <| ZA (L5 57 ⟨g,0*2,none⟩) (pt s.ax s.ay) (fun w1 hw h=>Rk h.2 (fun j v hj=>by rcases j with _|_|j<;>simp at hj ⊢ <;>exact hj)) ?_
 cases hv0:L8 s.ax s.ay with
 |false=>
  obtain rfl:B=false:=by rw[←h,hv0];simp
  exact ZC (fun w1 hw h=>Mu hv0) fun u=>ZI true <| ZW Zf
 |true=>
 rw[hv0]at h
 refine ZC (fun w1 hw h=>Mu hv0) fun u=>ZC (fun w1 hw h=>Mv hn) fun u=>ZI false <| K0.drop 4 Zk fun _=>ZI true <| ZA (Kj 185 (Kf 3 g) (1:Nat)) (Zq g (1*2)) (fun w1 hw h=>Kq (elem:=57) Zk Zk Zd) <| ZA (L5 57 ⟨g,1*2,none⟩) (pt s.bx s.by_) (fun w1 hw h=>Rk h.1.1.2 (fun j v hj=>by rcases j with _|_|j<;>simp at hj ⊢ <;>exact hj)) ?_
 cases hv1:L8 s.bx s.by_ with
 |false=>
  obtain rfl:B=false:=by rw[←h,hv1];simp
  exact ZC (fun w1 hw h=>Mu hv1) fun u=>ZI true <| ZW Zf
 |true=>
 rw[hv1]at h
 refine ZC (fun w1 hw h=>Mu hv1) fun u=>ZC (fun w1 hw h=>Mv hn) fun u=>ZI false <| K0.drop 4 Zk fun _=>ZI true <| ZA (Kj 185 (Kf 3 g) (2:Nat)) (Zq g (2*2)) (fun w1 hw h=>Kq (elem:=57) Zk Zk Zd) <| ZA (L5 57 ⟨g,2*2,none⟩) (pt s.cx s.cy) (fun w1 hw h=>Rk h.1.1.1.1.2 (fun j v hj=>by rcases j with _|_|j<;>simp at hj ⊢ <;>exact hj)) ?_
 cases hv2:L8 s.cx s.cy with
 |false=>
  obtain rfl:B=false:=by rw[←h,hv2];simp
  exact ZC (fun w1 hw h=>Mu hv2) fun u=>ZI true <| ZW Zf
 |true=>
 rw[hv2]at h
 refine ZC (fun w1 hw h=>Mu hv2) fun u=>ZD 12 (fun w1 hw h=>Mv hn) fun u=> ?_
 cases hz2:(s.cx==0&&s.cy==0)with
 |false=>
  obtain rfl:B=false:=by rw[←h,hz2];simp
  exact ZA (Xa 57 (.tmp 28) (.tmp 29) (pt s.cx s.cy) (pt 0 0)) Zt (fun w1 hw h=>by rw[Ly,hz2];rfl) <| ZI true <| ZW Zf
 |true=>
 rw[hz2]at h
 refine ZA (Xa 57 (.tmp 28) (.tmp 29) (pt s.cx s.cy) (pt 0 0)) Zf (fun w1 hw h=>by rw[Ly,hz2];rfl) <| ZI false ?_
 obtain rfl:B=true:=by rw[←h];rfl
 exact ZI false <| ZW Zt
theorem fits_3{s:Sg}{B:Bool}(hn:Lt s.v=3)(h:Ng s=B):Zv 224 #[s.val] w (.bool B):=by
 unfold Ng at h
 rw[hn,Q7 (show(0:Int)<3 by decide),Q7 (show(1:Int)<3 by decide),Q7 (show(2:Int)<3 by decide)]at h
 refine K0.enter Tryz.func224 rfl <| ZR <| K0.make (Lq (185) 3 #[(0,pt s.ax s.ay),(1,pt s.bx s.by_),(2,pt s.cx s.cy)]) (Kf 3) (L4 57 #[Zi s.ax,Zi s.ay,Zi s.bx,Zi s.by_,Zi s.cx,Zi s.cy]) Zk (fun w1 hw h=>Kc Zk) fun g=>ZR <| K0.un Zk <| ZR <| K0.drop 4 Zk fun _=>ZI true <| ZA (Kj 185 (Kf 3 g) (0:Nat)) (Zq g (0*2)) (fun w1 hw h=>Kq (elem:=57) Zk Zk Zd) <| ZA (L5 57 ⟨g,0*2,none⟩) (pt s.ax s.ay) (fun w1 hw h=>Rk h.2 (fun j v hj=>by rcases j with _|_|j<;>simp at hj ⊢ <;>exact hj)) ?_
 cases hv0:L8 s.ax s.ay with
 |false=>
  obtain rfl:B=false:=by rw[←h,hv0];simp
  exact ZC (fun w1 hw h=>Mu hv0) fun u=>ZI true <| ZW Zf
 |true=>
 rw[hv0]at h
 refine ZC (fun w1 hw h=>Mu hv0) fun u=>ZC (fun w1 hw h=>Mv hn) fun u=>ZI false <| K0.drop 4 Zk fun _=>ZI true <| ZA (Kj 185 (Kf 3 g) (1:Nat)) (Zq g (1*2)) (fun w1 hw h=>Kq (elem:=57) Zk Zk Zd) <| ZA (L5 57 ⟨g,1*2,none⟩) (pt s.bx s.by_) (fun w1 hw h=>Rk h.1.1.2 (fun j v hj=>by rcases j with _|_|j<;>simp at hj ⊢ <;>exact hj)) ?_
 cases hv1:L8 s.bx s.by_ with
 |false=>
  obtain rfl:B=false:=by rw[←h,hv1];simp
  exact ZC (fun w1 hw h=>Mu hv1) fun u=>ZI true <| ZW Zf
 |true=>
 rw[hv1]at h
 refine ZC (fun w1 hw h=>Mu hv1) fun u=>ZC (fun w1 hw h=>Mv hn) fun u=>ZI false <| K0.drop 4 Zk fun _=>ZI true <| ZA (Kj 185 (Kf 3 g) (2:Nat)) (Zq g (2*2)) (fun w1 hw h=>Kq (elem:=57) Zk Zk Zd) <| ZA (L5 57 ⟨g,2*2,none⟩) (pt s.cx s.cy) (fun w1 hw h=>Rk h.1.1.1.1.2 (fun j v hj=>by rcases j with _|_|j<;>simp at hj ⊢ <;>exact hj)) ?_
 cases hv2:L8 s.cx s.cy with
 |false=>
  obtain rfl:B=false:=by rw[←h,hv2];simp
  exact ZC (fun w1 hw h=>Mu hv2) fun u=>ZI true <| ZW Zf
 |true=>
 rw[hv2]at h
 refine ZC (fun w1 hw h=>Mu hv2) fun u=>ZC (fun w1 hw h=>Mv hn) fun u=>ZI false ?_
 obtain rfl:B=true:=by rw[←h];rfl
 exact ZI false <| ZW Zt
end
section
variable{w:World}{A A2:Option Addr}{n n2 c c2:Nat}{ls ms:List Sg}
theorem Da{last:Int}{k:Nat}{s:Sg}{l:List Sg}(h:Dj last s=0):C1 last k (s::l)=C1 s.v (k+1) l:=by rw[C1,if_pos h]
theorem Q1{last:Int}{k:Nat}{s:Sg}{l:List Sg}(h:Dj last s≠0):C1 last k (s::l)=(Dj last s,k):=by rw[C1,if_neg h]
theorem chkS_arg{last:Int}{s:Sg}(h:Lt s.v= -1):Dj last s=2:=by unfold Dj;rw[h,if_pos Zd]
theorem Qs{last m:Int}{s:Sg}(h:Lt s.v=m)(hm:0≤m)(h2:My last s.v=false):Dj last s=10:=by unfold Dj;rw[h,if_neg Zo,if_pos h2]
theorem Sy{last m:Int}{s:Sg}(h:Lt s.v=m)(hm:0≤m)(h2:My last s.v=true)(h3:Ng s=false):Dj last s=6:=by unfold Dj;rw[h,if_neg Zo,h2,if_neg Zd,if_pos h3]
theorem Ur{last m:Int}{s:Sg}(h:Lt s.v=m)(hm:0≤m)(h2:My last s.v=true)(h3:Ng s=true):Dj last s=0:=by unfold Dj;rw[h,if_neg Zo,h2,if_neg Zd,h3,if_neg Zd]
theorem Ja{ls:List Sg}{k:Nat}{s:Sg}(h:ls[k]? =some s):ls.drop k=s::ls.drop (k+1):=by
 obtain⟨h1,h2⟩:=List.getElem?_eq_some_iff.1 h
 rw[List.drop_eq_getElem_cons h1,h2]
theorem check_m{e:Int}{i:Nat}(hs:Qt w A n ls)(hn:n≤1000000)(h:chk ls=(e,i)):Zv 177 #[.slice A n c] w (.tuple #[Zi e,Zi i]):=by
 have hln:=hs.1
 by_cases hbig:256<ls.length
 ·have hch:chk ls=(5,256):=if_pos hbig
  rw[hch]at h
  obtain⟨rfl,rfl⟩:=Prod.mk.inj h
  exact K0.enter Tryz.func177 rfl <| ZR <| ZJ (decide ((n:Int)>256)) true Zp <| ZW (.tuple #[Zi 5,Zi 256])
 have hch:chk ls=C1 5 0 ls:=if_neg hbig
 rw[hch]at h
 refine K0.enter Tryz.func177 rfl <| ZR <| ZJ (decide ((n:Int)>256)) false Zp <| K0.loop (ι:={q:Nat×Int // q.1≤n∧C1 5 0 ls=C1 q.2 q.1 (ls.drop q.1)∧(1≤q.2∧q.2≤5)}) 52 (fun q=>⟨[(4,.v (Zi q.1.2)),(11,.v (.slice A n c)),(12,.v (Zi n)),(13,.v (Zi q.1.1))],[]⟩) (fun _ _=>True) (fun q=>n-q.1.1) (⟨(0,5),Nat.zero_le _,rfl,by decide⟩) Zk (fun _=>by kernel_rfl) ⟨Zk,Zk,Zk⟩ (fun _ _=>trivial) ?_
 rintro⟨⟨k,last⟩,hk⟩ g
 have hk1:k≤n:=hk.1
 have hk2:C1 5 0 ls=C1 last k (ls.drop k):=hk.2.1
 have hk3:1≤last∧last≤5:=hk.2.2
 by_cases hlt:k<n
 case neg=>
  rw[hk2,List.drop_of_length_le Zo]at h
  obtain⟨rfl,rfl⟩:=Prod.mk.inj h
  exact ZR <| ZJ (decide ((k:Int)<(n:Int))) false Zp <| K0.leave Zk <| ZR <| ZW (.tuple #[Zi 0,Zi 0])
 obtain⟨s,hsk⟩:∃s,ls[k]? =some s:=⟨_,List.getElem?_eq_getElem Zo⟩
 obtain⟨ad,hA,hc⟩:=hs.2 k s hsk
 rw[hk2,Ja hsk]at h
 rw[Ja hsk]at hk2
 refine ZR <| ZJ (decide ((k:Int)<(n:Int))) true Zp <| ZA (Kj 43 (.slice A n c) k) (.pointer (some (ad.add (k*7)))) (fun w1 hw h=>Sd hA hlt) ?_
 obtain⟨v,ax,ay,bx,by_,cx,cy⟩:=s
 rcases named_cases v with rfl|rfl|rfl|rfl|rfl|hv
 ·have hst:My last 1=true:=rfl
  refine K0.ask (L5 150 (ad.add (k*7))) (Sg.val ⟨1,ax,ay,bx,by_,cx,cy⟩) Zk (fun w1 hw h=>Ya fun j u hj=>Lc hw (hc j u hj)) <| ZS 6 <| ZR <| ZC (fun w1 hw h=>Mv (v:=1) (r:=1) rfl) fun u=>ZI false <| ZI false ?_
  cases hf:Ng ⟨1,ax,ay,bx,by_,cx,cy⟩with
  |true=>
   have hz:=Ur (s:=⟨1,ax,ay,bx,by_,cx,cy⟩) (m:=1) rfl Zd hst hf
   rw[Da hz]at hk2
   refine ZC (fun w1 hw h=>fits_1 (s:=⟨1,ax,ay,bx,by_,cx,cy⟩) rfl hf) fun u=>ZI false <| K0.slot 13 (Zi (IntKind.i64.wrap ((k:Int)+1))) (Zi ((k+1:Nat):Int)) Zk (by rw[Kd hlt Zo]) <| K0.next (⟨(k+1,1),by show k+1≤n;omega,hk2,by show(1:Int)≤1∧((1:Int)≤5);decide⟩) Zk (by show n- (k+1)<n-k;omega) ⟨Zk,Zk,Zk⟩ (fun _ _=>trivial)
  |false=>
   have hz:=Sy (s:=⟨1,ax,ay,bx,by_,cx,cy⟩) (m:=1) rfl Zd hst hf
   rw[Q1 (by rw[hz];decide),hz]at h
   obtain⟨rfl,rfl⟩:=Prod.mk.inj h
   exact ZC (fun w1 hw h=>fits_1 (s:=⟨1,ax,ay,bx,by_,cx,cy⟩) rfl hf) fun u=>ZI true <| K0.leave Zk <| ZR <| ZW (.tuple #[Zi 6,Zi k])
 ·refine K0.ask (L5 150 (ad.add (k*7))) (Sg.val ⟨2,ax,ay,bx,by_,cx,cy⟩) Zk (fun w1 hw h=>Ya fun j u hj=>Lc hw (hc j u hj)) <| ZS 6 ?_
  by_cases hl:last=5
  ·have hst:My last 2=false:=by rw[hl];rfl
   refine ZT 23 (.bool (last !=5)) Zf Zp ?_
   have hz:=Qs (s:=⟨2,ax,ay,bx,by_,cx,cy⟩) (m:=1) rfl Zd hst
   rw[Q1 (by rw[hz];decide),hz]at h
   obtain⟨rfl,rfl⟩:=Prod.mk.inj h
   exact ZC (fun w1 hw h=>Mv (v:=2) (r:=1) rfl) fun u=>ZI false <| ZI true <| K0.leave Zk <| ZR <| ZW (.tuple #[Zi 10,Zi k])
  ·have hst:My last 2=true:=by unfold My;simp[hl]
   refine ZT 23 (.bool (last !=5)) Zt Zp <| ZC (fun w1 hw h=>Mv (v:=2) (r:=1) rfl) fun u=>ZI false <| ZI false ?_
   cases hf:Ng ⟨2,ax,ay,bx,by_,cx,cy⟩with
   |true=>
    have hz:=Ur (s:=⟨2,ax,ay,bx,by_,cx,cy⟩) (m:=1) rfl Zd hst hf
    rw[Da hz]at hk2
    refine ZC (fun w1 hw h=>fits_1 (s:=⟨2,ax,ay,bx,by_,cx,cy⟩) rfl hf) fun u=>ZI false <| K0.slot 13 (Zi (IntKind.i64.wrap ((k:Int)+1))) (Zi ((k+1:Nat):Int)) Zk (by rw[Kd hlt Zo]) <| K0.next (⟨(k+1,2),by show k+1≤n;omega,hk2,by show(1:Int)≤2∧((2:Int)≤5);decide⟩) Zk (by show n- (k+1)<n-k;omega) ⟨Zk,Zk,Zk⟩ (fun _ _=>trivial)
   |false=>
    have hz:=Sy (s:=⟨2,ax,ay,bx,by_,cx,cy⟩) (m:=1) rfl Zd hst hf
    rw[Q1 (by rw[hz];decide),hz]at h
    obtain⟨rfl,rfl⟩:=Prod.mk.inj h
    exact ZC (fun w1 hw h=>fits_1 (s:=⟨2,ax,ay,bx,by_,cx,cy⟩) rfl hf) fun u=>ZI true <| K0.leave Zk <| ZR <| ZW (.tuple #[Zi 6,Zi k])
 ·refine K0.ask (L5 150 (ad.add (k*7))) (Sg.val ⟨3,ax,ay,bx,by_,cx,cy⟩) Zk (fun w1 hw h=>Ya fun j u hj=>Lc hw (hc j u hj)) <| ZS 6 ?_
  by_cases hl:last=5
  ·have hst:My last 3=false:=by rw[hl];rfl
   refine ZT 23 (.bool (last !=5)) Zf Zp ?_
   have hz:=Qs (s:=⟨3,ax,ay,bx,by_,cx,cy⟩) (m:=2) rfl Zd hst
   rw[Q1 (by rw[hz];decide),hz]at h
   obtain⟨rfl,rfl⟩:=Prod.mk.inj h
   exact ZC (fun w1 hw h=>Mv (v:=3) (r:=2) rfl) fun u=>ZI false <| ZI true <| K0.leave Zk <| ZR <| ZW (.tuple #[Zi 10,Zi k])
  ·have hst:My last 3=true:=by unfold My;simp[hl]
   refine ZT 23 (.bool (last !=5)) Zt Zp <| ZC (fun w1 hw h=>Mv (v:=3) (r:=2) rfl) fun u=>ZI false <| ZI false ?_
   cases hf:Ng ⟨3,ax,ay,bx,by_,cx,cy⟩with
   |true=>
    have hz:=Ur (s:=⟨3,ax,ay,bx,by_,cx,cy⟩) (m:=2) rfl Zd hst hf
    rw[Da hz]at hk2
    refine ZC (fun w1 hw h=>fits_2 (s:=⟨3,ax,ay,bx,by_,cx,cy⟩) rfl hf) fun u=>ZI false <| K0.slot 13 (Zi (IntKind.i64.wrap ((k:Int)+1))) (Zi ((k+1:Nat):Int)) Zk (by rw[Kd hlt Zo]) <| K0.next (⟨(k+1,3),by show k+1≤n;omega,hk2,by show(1:Int)≤3∧((3:Int)≤5);decide⟩) Zk (by show n- (k+1)<n-k;omega) ⟨Zk,Zk,Zk⟩ (fun _ _=>trivial)
   |false=>
    have hz:=Sy (s:=⟨3,ax,ay,bx,by_,cx,cy⟩) (m:=2) rfl Zd hst hf
    rw[Q1 (by rw[hz];decide),hz]at h
    obtain⟨rfl,rfl⟩:=Prod.mk.inj h
    exact ZC (fun w1 hw h=>fits_2 (s:=⟨3,ax,ay,bx,by_,cx,cy⟩) rfl hf) fun u=>ZI true <| K0.leave Zk <| ZR <| ZW (.tuple #[Zi 6,Zi k])
 ·refine K0.ask (L5 150 (ad.add (k*7))) (Sg.val ⟨4,ax,ay,bx,by_,cx,cy⟩) Zk (fun w1 hw h=>Ya fun j u hj=>Lc hw (hc j u hj)) <| ZS 6 ?_
  by_cases hl:last=5
  ·have hst:My last 4=false:=by rw[hl];rfl
   refine ZT 23 (.bool (last !=5)) Zf Zp ?_
   have hz:=Qs (s:=⟨4,ax,ay,bx,by_,cx,cy⟩) (m:=3) rfl Zd hst
   rw[Q1 (by rw[hz];decide),hz]at h
   obtain⟨rfl,rfl⟩:=Prod.mk.inj h
   exact ZC (fun w1 hw h=>Mv (v:=4) (r:=3) rfl) fun u=>ZI false <| ZI true <| K0.leave Zk <| ZR <| ZW (.tuple #[Zi 10,Zi k])
  ·have hst:My last 4=true:=by unfold My;simp[hl]
   refine ZT 23 (.bool (last !=5)) Zt Zp <| ZC (fun w1 hw h=>Mv (v:=4) (r:=3) rfl) fun u=>ZI false <| ZI false ?_
   cases hf:Ng ⟨4,ax,ay,bx,by_,cx,cy⟩with
   |true=>
    have hz:=Ur (s:=⟨4,ax,ay,bx,by_,cx,cy⟩) (m:=3) rfl Zd hst hf
    rw[Da hz]at hk2
    refine ZC (fun w1 hw h=>fits_3 (s:=⟨4,ax,ay,bx,by_,cx,cy⟩) rfl hf) fun u=>ZI false <| K0.slot 13 (Zi (IntKind.i64.wrap ((k:Int)+1))) (Zi ((k+1:Nat):Int)) Zk (by rw[Kd hlt Zo]) <| K0.next (⟨(k+1,4),by show k+1≤n;omega,hk2,by show(1:Int)≤4∧((4:Int)≤5);decide⟩) Zk (by show n- (k+1)<n-k;omega) ⟨Zk,Zk,Zk⟩ (fun _ _=>trivial)
   |false=>
    have hz:=Sy (s:=⟨4,ax,ay,bx,by_,cx,cy⟩) (m:=3) rfl Zd hst hf
    rw[Q1 (by rw[hz];decide),hz]at h
    obtain⟨rfl,rfl⟩:=Prod.mk.inj h
    exact ZC (fun w1 hw h=>fits_3 (s:=⟨4,ax,ay,bx,by_,cx,cy⟩) rfl hf) fun u=>ZI true <| K0.leave Zk <| ZR <| ZW (.tuple #[Zi 6,Zi k])
 ·refine K0.ask (L5 150 (ad.add (k*7))) (Sg.val ⟨5,ax,ay,bx,by_,cx,cy⟩) Zk (fun w1 hw h=>Ya fun j u hj=>Lc hw (hc j u hj)) <| ZS 6 ?_
  by_cases hl:last=5
  ·have hst:My last 5=false:=by rw[hl];rfl
   refine ZT 23 (.bool (last !=5)) Zf Zp ?_
   have hz:=Qs (s:=⟨5,ax,ay,bx,by_,cx,cy⟩) (m:=0) rfl Zd hst
   rw[Q1 (by rw[hz];decide),hz]at h
   obtain⟨rfl,rfl⟩:=Prod.mk.inj h
   exact ZC (fun w1 hw h=>Mv (v:=5) (r:=0) rfl) fun u=>ZI false <| ZI true <| K0.leave Zk <| ZR <| ZW (.tuple #[Zi 10,Zi k])
  ·refine K0.slot 23 (.bool (last !=5)) Zt Zk Zp <| ZS 13 ?_
   by_cases hl1:last=1
   ·have hst:My last 5=false:=by rw[hl1];rfl
    refine ZT 30 (.bool (last !=1)) Zf Zp ?_
    have hz:=Qs (s:=⟨5,ax,ay,bx,by_,cx,cy⟩) (m:=0) rfl Zd hst
    rw[Q1 (by rw[hz];decide),hz]at h
    obtain⟨rfl,rfl⟩:=Prod.mk.inj h
    exact ZC (fun w1 hw h=>Mv (v:=5) (r:=0) rfl) fun u=>ZI false <| ZI true <| K0.leave Zk <| ZR <| ZW (.tuple #[Zi 10,Zi k])
   ·have hst:My last 5=true:=by unfold My;simp[hl,hl1]
    refine ZT 30 (.bool (last !=1)) Zt Zp <| ZC (fun w1 hw h=>Mv (v:=5) (r:=0) rfl) fun u=>ZI false <| ZI false ?_
    cases hf:Ng ⟨5,ax,ay,bx,by_,cx,cy⟩with
    |true=>
     have hz:=Ur (s:=⟨5,ax,ay,bx,by_,cx,cy⟩) (m:=0) rfl Zd hst hf
     rw[Da hz]at hk2
     refine ZC (fun w1 hw h=>fits_0 (s:=⟨5,ax,ay,bx,by_,cx,cy⟩) rfl hf) fun u=>ZI false <| K0.slot 13 (Zi (IntKind.i64.wrap ((k:Int)+1))) (Zi ((k+1:Nat):Int)) Zk (by rw[Kd hlt Zo]) <| K0.next (⟨(k+1,5),by show k+1≤n;omega,hk2,by show(1:Int)≤5∧((5:Int)≤5);decide⟩) Zk (by show n- (k+1)<n-k;omega) ⟨Zk,Zk,Zk⟩ (fun _ _=>trivial)
    |false=>
     have hz:=Sy (s:=⟨5,ax,ay,bx,by_,cx,cy⟩) (m:=0) rfl Zd hst hf
     rw[Q1 (by rw[hz];decide),hz]at h
     obtain⟨rfl,rfl⟩:=Prod.mk.inj h
     exact ZC (fun w1 hw h=>fits_0 (s:=⟨5,ax,ay,bx,by_,cx,cy⟩) rfl hf) fun u=>ZI true <| K0.leave Zk <| ZR <| ZW (.tuple #[Zi 6,Zi k])
 ·have hz:=chkS_arg (last:=last) (s:=⟨v,ax,ay,bx,by_,cx,cy⟩) (S7 hv)
  rw[Q1 (by rw[hz];decide),hz]at h
  obtain⟨rfl,rfl⟩:=Prod.mk.inj h
  refine K0.ask (L5 150 (ad.add (k*7))) (Sg.val ⟨v,ax,ay,bx,by_,cx,cy⟩) Zk (fun w1 hw h=>Ya fun j u hj=>Lc hw (hc j u hj)) <| ZS 3 <| K0.run Zk (stop:=1000) 3 _ <| ZS 3 <| K0.slot 20 (.bool (v==1)) Zf Zk Zp <| ZS 6 ?_
  by_cases hl:last=5
  ·exact ZT 23 (.bool (last !=5)) Zf Zp <| ZC (fun w1 hw h=>Mv (v:=v) (r:= -1) (S7 hv)) fun u=>ZI true <| K0.leave Zk <| ZR <| ZW (.tuple #[Zi 2,Zi k])
  ·exact K0.slot 23 (.bool (last !=5)) Zt Zk Zp <| ZS 10 <| ZT 27 (.bool (v !=5)) Zt Zp <| ZC (fun w1 hw h=>Mv (v:=v) (r:= -1) (S7 hv)) fun u=>ZI true <| K0.leave Zk <| ZR <| ZW (.tuple #[Zi 2,Zi k])
theorem W0{B:Bool}(hs:Qt w A n ls)(hn:n≤1000000)(hB:decide ((chk ls).1=0)=B):Zv 118 #[.slice A n c] w (.bool B):=by
 obtain⟨e,i,he⟩:∃e i,chk ls=(e,i):=⟨_,_,rfl⟩
 rw[he]at hB
 exact K0.enter Tryz.func118 rfl <| ZR <| ZC (fun w1 hw h=>check_m (c:=c) (hs.below hw) hn he) fun u=>ZX (.bool (e==0)) (by rw[←hB];rfl)
end
def Vg(ls:List Sg):Nat→Int
 |0=>5
 |k+1=>(ls[k]?.map (·.v)).getD 5
theorem If{ls:List Sg}{k:Nat}{p:Sg}(h:ls[k]? =some p):Vg ls (k+1)=p.v:=by simp[Vg,h]
section
variable{w:World}{A A2:Option Addr}{n n2 c c2 k:Nat}{ls ms:List Sg}{s:Sg}
theorem stand5(v:Int):My 5 v=(v==1):=by unfold My;simp
theorem stand_no{last v:Int}(h:last≠5)(h2:v≠5):My last v=true:=by unfold My;simp[h,h2]
theorem stand_end{last:Int}(h:last≠5):My last 5=(last !=1):=by unfold My;simp[h]
theorem Rv{B:Bool}(hs:Qt w A n ls)(hn:n≤1000000)(hsk:ls[k]? =some s)(hB:My (Vg ls k) s.v=B):Zv 268 #[.slice A n c,Zi k] w (.bool B):=by
 have hln:=hs.1
 have hlt:=(List.getElem?_eq_some_iff.1 hsk).1
 obtain⟨ad,hA,hc⟩:=hs.2 k s hsk
 refine K0.enter Tryz.func268 rfl ?_
 cases k with
 |zero=>
  rw[show Vg ls 0=5 from rfl,stand5]at hB
  exact ZR <| ZI true <| K0.ask (Kj 43 (.slice A n c) (0:Nat)) (.pointer (some (ad.add ((0:Nat)*7)))) Zk (fun w1 hw h=>Sd hA Zo) <| ZS 3 <| ZA (Qz 150 (ad.add ((0:Nat)*7)) 0) (.pointer (some ((ad.add ((0:Nat)*7)).add 0))) (fun w1 hw h=>Mb (d:=0) Zk) <| ZA (L5 3 ((ad.add ((0:Nat)*7)).add 0)) (Zi s.v) (fun w1 hw h=>K8 Zk (Lc hw (hc 0 _ rfl))) <| ZX (.bool (s.v==1)) (by rw[hB])
 | succ k=>
  obtain⟨p,hp⟩:∃p,ls[k]? =some p:=⟨_,List.getElem?_eq_getElem Zo⟩
  obtain⟨ap,hAp,hcp⟩:=hs.2 k p hp
  rw[If hp]at hB
  refine ZS 2 <| K0.slot 6 (.bool (((k+1:Nat):Int)==0)) Zf Zk Zp <| ZS 6 <| K0.slot 10 (Zi (IntKind.i64.wrap (((k+1:Nat):Int)-1))) (Zi (k:Nat)) Zk (by rw[IntWalk.i64_in _ Zo];congr 1;omega) <| K0.ask (Kj 43 (.slice A n c) k) (.pointer (some (ap.add (k*7)))) Zk (fun w1 hw h=>Sd hAp Zo) <| ZS 7 <| ZA (Qz 150 (ap.add (k*7)) 0) (.pointer (some ((ap.add (k*7)).add 0))) (fun w1 hw h=>Mb (d:=0) Zk) <| ZA (L5 3 ((ap.add (k*7)).add 0)) (Zi p.v) (fun w1 hw h=>K8 Zk (Lc hw (hcp 0 _ rfl))) ?_
  by_cases h5:p.v=5
  ·rw[h5,stand5]at hB
   exact ZJ ((p.v==5)) true (by simp[h5]) <| K0.ask (Kj 43 (.slice A n c) (k+1:Nat)) (.pointer (some (ad.add ((k+1:Nat)*7)))) Zk (fun w1 hw h=>Sd hA Zo) <| ZS 3 <| ZA (Qz 150 (ad.add ((k+1:Nat)*7)) 0) (.pointer (some ((ad.add ((k+1:Nat)*7)).add 0))) (fun w1 hw h=>Mb (d:=0) Zk) <| ZA (L5 3 ((ad.add ((k+1:Nat)*7)).add 0)) (Zi s.v) (fun w1 hw h=>K8 Zk (Lc hw (hc 0 _ rfl))) <| ZX (.bool (s.v==1)) (by rw[hB])
  ·refine ZJ ((p.v==5)) false (by simp[h5]) <| K0.ask (Kj 43 (.slice A n c) (k+1:Nat)) (.pointer (some (ad.add ((k+1:Nat)*7)))) Zk (fun w1 hw h=>Sd hA Zo) <| ZS 3 <| ZA (Qz 150 (ad.add ((k+1:Nat)*7)) 0) (.pointer (some ((ad.add ((k+1:Nat)*7)).add 0))) (fun w1 hw h=>Mb (d:=0) Zk) <| K0.ask (L5 3 ((ad.add ((k+1:Nat)*7)).add 0)) (Zi s.v) Zk (fun w1 hw h=>K8 Zk (Lc hw (hc 0 _ rfl))) <| ZS 6 ?_
   by_cases h6:s.v=5
   ·rw[h6,stand_end h5]at hB
    exact K0.slot 27 (.bool (s.v !=5)) Zf Zk (by simp[h6]) <| ZS 10 <| K0.slot 31 (Zi (IntKind.i64.wrap (((k+1:Nat):Int)-1))) (Zi (k:Nat)) Zk (by rw[IntWalk.i64_in _ Zo];congr 1;omega) <| K0.ask (Kj 43 (.slice A n c) k) (.pointer (some (ap.add (k*7)))) Zk (fun w1 hw h=>Sd hAp Zo) <| ZS 11 <| ZA (Qz 150 (ap.add (k*7)) 0) (.pointer (some ((ap.add (k*7)).add 0))) (fun w1 hw h=>Mb (d:=0) Zk) <| ZA (L5 3 ((ap.add (k*7)).add 0)) (Zi p.v) (fun w1 hw h=>K8 Zk (Lc hw (hcp 0 _ rfl))) <| ZX (.bool (p.v !=1)) (by rw[hB])
   ·rw[stand_no h5 h6]at hB
    subst hB
    exact ZT 27 (.bool (s.v !=5)) Zt (by simp[h6]) <| ZW Zt
theorem J5:Zv 269 #[s.val] w (.agg #[Zi s.ax,Zi s.ay,Zi s.bx,Zi s.by_,Zi s.cx,Zi s.cy]):=by
 exact K0.enter Tryz.func269 rfl <| ZR <| ZW (.agg #[Zi s.ax,Zi s.ay,Zi s.bx,Zi s.by_,Zi s.cx,Zi s.cy])
theorem O5{x y:Int}(h:(x==0&&y==0)=true):L8 x y=true:=by
 simp at h;obtain⟨rfl,rfl⟩:=h;rfl
theorem named_rng(v:Int):Lt v= -1∨Lt v=0∨Lt v=1∨Lt v=2∨Lt v=3:=by
 unfold Lt;split;omega;split;omega;split;omega;split;omega;omega
theorem wrong_m{e:Int}(hs:Qt w A n ls)(hn:n≤1000000)(hsk:ls[k]? =some s)(he:Dj (Vg ls k) s=e):Zv 231 #[.slice A n c,Zi k] w (Zi e):=by
 have hln:=hs.1
 have hlt:=(List.getElem?_eq_some_iff.1 hsk).1
 obtain⟨ad,hA,hc⟩:=hs.2 k s hsk
 refine K0.enter Tryz.func231 rfl <| ZR <| K0.ask (Kj 43 (.slice A n c) k) (.pointer (some (ad.add (k*7)))) Zk (fun w1 hw h=>Sd hA Zo) <| ZS 3 <| ZA (Qz 150 (ad.add (k*7)) 0) (.pointer (some ((ad.add (k*7)).add 0))) (fun w1 hw h=>Mb (d:=0) Zk) <| ZA (L5 3 ((ad.add (k*7)).add 0)) (Zi s.v) (fun w1 hw h=>K8 Zk (Lc hw (hc 0 _ rfl))) ?_
 rcases named_rng s.v with hr|hr|hr|hr|hr
 ·obtain rfl:e=2:=he.symm.trans (chkS_arg hr)
  exact ZC (fun w1 hw h=>Si hr) fun u=>ZI true <| ZW (Zi 2)
 ·cases hst:My (Vg ls k) s.v with
  |false=>
   obtain rfl:e=10:=he.symm.trans (Qs hr Zd hst)
   exact ZC (fun w1 hw h=>Si hr) fun u=>ZI false <| ZC (fun w1 hw h=>Rv (c:=c) (hs.below hw) hn hsk hst) fun u=>ZI true <| ZW (Zi 10)
  | true=>
   refine ZC (fun w1 hw h=>Si hr) fun u=>ZI false <| ZC (fun w1 hw h=>Rv (c:=c) (hs.below hw) hn hsk hst) fun u=>ZI false <| ZA (Kj 43 (.slice A n c) k) (.pointer (some (ad.add (k*7)))) (fun w1 hw h=>Sd hA Zo) <| ZA (L5 150 (ad.add (k*7))) (s.val) (fun w1 hw h=>Ya fun j u hj=>Lc hw (hc j u hj)) <| ZC (fun w1 hw h=>J5 (s:=s)) fun u=> ?_
   cases hf:Ng s with
   | false=>
    obtain rfl:e=6:=he.symm.trans (Sy hr Zd hst hf)
    unfold Ng at hf
    rw[hr,Ok (show¬((0:Int)<0) by decide),Ok (show¬((1:Int)<0) by decide),Ok (show¬((2:Int)<0) by decide)]at hf
    refine K0.un Zk <| ZR <| K0.cond true Zk <| ZS 19 ?_
    cases hz0:(s.ax==0&&s.ay==0)with
    |false=>
     exact ZA (Xa 57 (.tmp 46) (.tmp 47) (pt s.ax s.ay) (pt 0 0)) Zt (fun w1 hw h=>by rw[Ly,hz0];rfl) <| ZI true <| ZW (Zi 6)
    |true=>
    have hv0:=O5 hz0
    rw[hz0,hv0]at hf
    refine ZA (Xa 57 (.tmp 46) (.tmp 47) (pt s.ax s.ay) (pt 0 0)) Zf (fun w1 hw h=>by rw[Ly,hz0];rfl) <| ZI false <| K0.cond true Zk <| ZS 19 ?_
    cases hz1:(s.bx==0&&s.by_==0)with
    |false=>
     exact ZA (Xa 57 (.tmp 46) (.tmp 47) (pt s.bx s.by_) (pt 0 0)) Zt (fun w1 hw h=>by rw[Ly,hz1];rfl) <| ZI true <| ZW (Zi 6)
    |true=>
    have hv1:=O5 hz1
    rw[hz1,hv1]at hf
    refine ZA (Xa 57 (.tmp 46) (.tmp 47) (pt s.bx s.by_) (pt 0 0)) Zf (fun w1 hw h=>by rw[Ly,hz1];rfl) <| ZI false <| K0.cond true Zk <| ZS 19 ?_
    cases hz2:(s.cx==0&&s.cy==0)with
    |false=>
     exact ZA (Xa 57 (.tmp 46) (.tmp 47) (pt s.cx s.cy) (pt 0 0)) Zt (fun w1 hw h=>by rw[Ly,hz2];rfl) <| ZI true <| ZW (Zi 6)
    |true=>
    have hv2:=O5 hz2
    rw[hz2,hv2]at hf
    refine ZA (Xa 57 (.tmp 46) (.tmp 47) (pt s.cx s.cy) (pt 0 0)) Zf (fun w1 hw h=>by rw[Ly,hz2];rfl) <| ZI false ?_
    simp at hf
   | true=>
    obtain rfl:e=0:=he.symm.trans (Ur hr Zd hst hf)
    unfold Ng at hf
    rw[hr,Ok (show¬((0:Int)<0) by decide),Ok (show¬((1:Int)<0) by decide),Ok (show¬((2:Int)<0) by decide)]at hf
    refine K0.un Zk <| ZR <| K0.cond true Zk <| ZS 19 ?_
    cases hz0:(s.ax==0&&s.ay==0)with
    |false=>
     rw[hz0]at hf;simp at hf
    |true=>
    have hv0:=O5 hz0
    rw[hz0,hv0]at hf
    refine ZA (Xa 57 (.tmp 46) (.tmp 47) (pt s.ax s.ay) (pt 0 0)) Zf (fun w1 hw h=>by rw[Ly,hz0];rfl) <| ZI false <| K0.cond true Zk <| ZS 19 ?_
    cases hz1:(s.bx==0&&s.by_==0)with
    |false=>
     rw[hz1]at hf;simp at hf
    |true=>
    have hv1:=O5 hz1
    rw[hz1,hv1]at hf
    refine ZA (Xa 57 (.tmp 46) (.tmp 47) (pt s.bx s.by_) (pt 0 0)) Zf (fun w1 hw h=>by rw[Ly,hz1];rfl) <| ZI false <| K0.cond true Zk <| ZS 19 ?_
    cases hz2:(s.cx==0&&s.cy==0)with
    |false=>
     rw[hz2]at hf;simp at hf
    |true=>
    have hv2:=O5 hz2
    rw[hz2,hv2]at hf
    exact ZA (Xa 57 (.tmp 46) (.tmp 47) (pt s.cx s.cy) (pt 0 0)) Zf (fun w1 hw h=>by rw[Ly,hz2];rfl) <| ZI false <| ZI false <| ZW (Zi 0)
 ·cases hst:My (Vg ls k) s.v with
  |false=>
   obtain rfl:e=10:=he.symm.trans (Qs hr Zd hst)
   exact ZC (fun w1 hw h=>Si hr) fun u=>ZI false <| ZC (fun w1 hw h=>Rv (c:=c) (hs.below hw) hn hsk hst) fun u=>ZI true <| ZW (Zi 10)
  | true=>
   refine ZC (fun w1 hw h=>Si hr) fun u=>ZI false <| ZC (fun w1 hw h=>Rv (c:=c) (hs.below hw) hn hsk hst) fun u=>ZI false <| ZA (Kj 43 (.slice A n c) k) (.pointer (some (ad.add (k*7)))) (fun w1 hw h=>Sd hA Zo) <| ZA (L5 150 (ad.add (k*7))) (s.val) (fun w1 hw h=>Ya fun j u hj=>Lc hw (hc j u hj)) <| ZC (fun w1 hw h=>J5 (s:=s)) fun u=> ?_
   cases hf:Ng s with
   | false=>
    obtain rfl:e=6:=he.symm.trans (Sy hr Zd hst hf)
    unfold Ng at hf
    rw[hr,Q7 (show(0:Int)<1 by decide),Ok (show¬((1:Int)<1) by decide),Ok (show¬((2:Int)<1) by decide)]at hf
    refine K0.un Zk <| ZR <| ZI true ?_
    cases hv0:L8 s.ax s.ay with
    |false=>
     exact ZC (fun w1 hw h=>Nc hv0) fun u=>ZI true <| ZW (Zi 6)
    |true=>
    rw[hv0]at hf
    refine ZC (fun w1 hw h=>Nc hv0) fun u=>ZI false <| K0.cond true Zk <| ZS 19 ?_
    cases hz1:(s.bx==0&&s.by_==0)with
    |false=>
     exact ZA (Xa 57 (.tmp 46) (.tmp 47) (pt s.bx s.by_) (pt 0 0)) Zt (fun w1 hw h=>by rw[Ly,hz1];rfl) <| ZI true <| ZW (Zi 6)
    |true=>
    have hv1:=O5 hz1
    rw[hz1,hv1]at hf
    refine ZA (Xa 57 (.tmp 46) (.tmp 47) (pt s.bx s.by_) (pt 0 0)) Zf (fun w1 hw h=>by rw[Ly,hz1];rfl) <| ZI false <| K0.cond true Zk <| ZS 19 ?_
    cases hz2:(s.cx==0&&s.cy==0)with
    |false=>
     exact ZA (Xa 57 (.tmp 46) (.tmp 47) (pt s.cx s.cy) (pt 0 0)) Zt (fun w1 hw h=>by rw[Ly,hz2];rfl) <| ZI true <| ZW (Zi 6)
    |true=>
    have hv2:=O5 hz2
    rw[hz2,hv2]at hf
    refine ZA (Xa 57 (.tmp 46) (.tmp 47) (pt s.cx s.cy) (pt 0 0)) Zf (fun w1 hw h=>by rw[Ly,hz2];rfl) <| ZI false ?_
    simp at hf
   | true=>
    obtain rfl:e=0:=he.symm.trans (Ur hr Zd hst hf)
    unfold Ng at hf
    rw[hr,Q7 (show(0:Int)<1 by decide),Ok (show¬((1:Int)<1) by decide),Ok (show¬((2:Int)<1) by decide)]at hf
    refine K0.un Zk <| ZR <| ZI true ?_
    cases hv0:L8 s.ax s.ay with
    |false=>
     rw[hv0]at hf;simp at hf
    |true=>
    rw[hv0]at hf
    refine ZC (fun w1 hw h=>Nc hv0) fun u=>ZI false <| K0.cond true Zk <| ZS 19 ?_
    cases hz1:(s.bx==0&&s.by_==0)with
    |false=>
     rw[hz1]at hf;simp at hf
    |true=>
    have hv1:=O5 hz1
    rw[hz1,hv1]at hf
    refine ZA (Xa 57 (.tmp 46) (.tmp 47) (pt s.bx s.by_) (pt 0 0)) Zf (fun w1 hw h=>by rw[Ly,hz1];rfl) <| ZI false <| K0.cond true Zk <| ZS 19 ?_
    cases hz2:(s.cx==0&&s.cy==0)with
    |false=>
     rw[hz2]at hf;simp at hf
    |true=>
    have hv2:=O5 hz2
    rw[hz2,hv2]at hf
    exact ZA (Xa 57 (.tmp 46) (.tmp 47) (pt s.cx s.cy) (pt 0 0)) Zf (fun w1 hw h=>by rw[Ly,hz2];rfl) <| ZI false <| ZI false <| ZW (Zi 0)
 ·cases hst:My (Vg ls k) s.v with
  |false=>
   obtain rfl:e=10:=he.symm.trans (Qs hr Zd hst)
   exact ZC (fun w1 hw h=>Si hr) fun u=>ZI false <| ZC (fun w1 hw h=>Rv (c:=c) (hs.below hw) hn hsk hst) fun u=>ZI true <| ZW (Zi 10)
  | true=>
   refine ZC (fun w1 hw h=>Si hr) fun u=>ZI false <| ZC (fun w1 hw h=>Rv (c:=c) (hs.below hw) hn hsk hst) fun u=>ZI false <| ZA (Kj 43 (.slice A n c) k) (.pointer (some (ad.add (k*7)))) (fun w1 hw h=>Sd hA Zo) <| ZA (L5 150 (ad.add (k*7))) (s.val) (fun w1 hw h=>Ya fun j u hj=>Lc hw (hc j u hj)) <| ZC (fun w1 hw h=>J5 (s:=s)) fun u=> ?_
   cases hf:Ng s with
   | false=>
    obtain rfl:e=6:=he.symm.trans (Sy hr Zd hst hf)
    unfold Ng at hf
    rw[hr,Q7 (show(0:Int)<2 by decide),Q7 (show(1:Int)<2 by decide),Ok (show¬((2:Int)<2) by decide)]at hf
    refine K0.un Zk <| ZR <| ZI true ?_
    cases hv0:L8 s.ax s.ay with
    |false=>
     exact ZC (fun w1 hw h=>Nc hv0) fun u=>ZI true <| ZW (Zi 6)
    |true=>
    rw[hv0]at hf
    refine ZC (fun w1 hw h=>Nc hv0) fun u=>ZI false <| ZI true ?_
    cases hv1:L8 s.bx s.by_ with
    |false=>
     exact ZC (fun w1 hw h=>Nc hv1) fun u=>ZI true <| ZW (Zi 6)
    |true=>
    rw[hv1]at hf
    refine ZC (fun w1 hw h=>Nc hv1) fun u=>ZI false <| K0.cond true Zk <| ZS 19 ?_
    cases hz2:(s.cx==0&&s.cy==0)with
    |false=>
     exact ZA (Xa 57 (.tmp 46) (.tmp 47) (pt s.cx s.cy) (pt 0 0)) Zt (fun w1 hw h=>by rw[Ly,hz2];rfl) <| ZI true <| ZW (Zi 6)
    |true=>
    have hv2:=O5 hz2
    rw[hz2,hv2]at hf
    refine ZA (Xa 57 (.tmp 46) (.tmp 47) (pt s.cx s.cy) (pt 0 0)) Zf (fun w1 hw h=>by rw[Ly,hz2];rfl) <| ZI false ?_
    simp at hf
   | true=>
    obtain rfl:e=0:=he.symm.trans (Ur hr Zd hst hf)
    unfold Ng at hf
    rw[hr,Q7 (show(0:Int)<2 by decide),Q7 (show(1:Int)<2 by decide),Ok (show¬((2:Int)<2) by decide)]at hf
    refine K0.un Zk <| ZR <| ZI true ?_
    cases hv0:L8 s.ax s.ay with
    |false=>
     rw[hv0]at hf;simp at hf
    |true=>
    rw[hv0]at hf
    refine ZC (fun w1 hw h=>Nc hv0) fun u=>ZI false <| ZI true ?_
    cases hv1:L8 s.bx s.by_ with
    |false=>
     rw[hv1]at hf;simp at hf
    |true=>
    rw[hv1]at hf
    refine ZC (fun w1 hw h=>Nc hv1) fun u=>ZI false <| K0.cond true Zk <| ZS 19 ?_
    cases hz2:(s.cx==0&&s.cy==0)with
    |false=>
     rw[hz2]at hf;simp at hf
    |true=>
    have hv2:=O5 hz2
    rw[hz2,hv2]at hf
    exact ZA (Xa 57 (.tmp 46) (.tmp 47) (pt s.cx s.cy) (pt 0 0)) Zf (fun w1 hw h=>by rw[Ly,hz2];rfl) <| ZI false <| ZI false <| ZW (Zi 0)
 ·cases hst:My (Vg ls k) s.v with
  |false=>
   obtain rfl:e=10:=he.symm.trans (Qs hr Zd hst)
   exact ZC (fun w1 hw h=>Si hr) fun u=>ZI false <| ZC (fun w1 hw h=>Rv (c:=c) (hs.below hw) hn hsk hst) fun u=>ZI true <| ZW (Zi 10)
  | true=>
   refine ZC (fun w1 hw h=>Si hr) fun u=>ZI false <| ZC (fun w1 hw h=>Rv (c:=c) (hs.below hw) hn hsk hst) fun u=>ZI false <| ZA (Kj 43 (.slice A n c) k) (.pointer (some (ad.add (k*7)))) (fun w1 hw h=>Sd hA Zo) <| ZA (L5 150 (ad.add (k*7))) (s.val) (fun w1 hw h=>Ya fun j u hj=>Lc hw (hc j u hj)) <| ZC (fun w1 hw h=>J5 (s:=s)) fun u=> ?_
   cases hf:Ng s with
   | false=>
    obtain rfl:e=6:=he.symm.trans (Sy hr Zd hst hf)
    unfold Ng at hf
    rw[hr,Q7 (show(0:Int)<3 by decide),Q7 (show(1:Int)<3 by decide),Q7 (show(2:Int)<3 by decide)]at hf
    refine K0.un Zk <| ZR <| ZI true ?_
    cases hv0:L8 s.ax s.ay with
    |false=>
     exact ZC (fun w1 hw h=>Nc hv0) fun u=>ZI true <| ZW (Zi 6)
    |true=>
    rw[hv0]at hf
    refine ZC (fun w1 hw h=>Nc hv0) fun u=>ZI false <| ZI true ?_
    cases hv1:L8 s.bx s.by_ with
    |false=>
     exact ZC (fun w1 hw h=>Nc hv1) fun u=>ZI true <| ZW (Zi 6)
    |true=>
    rw[hv1]at hf
    refine ZC (fun w1 hw h=>Nc hv1) fun u=>ZI false <| ZI true ?_
    cases hv2:L8 s.cx s.cy with
    |false=>
     exact ZC (fun w1 hw h=>Nc hv2) fun u=>ZI true <| ZW (Zi 6)
    |true=>
    rw[hv2]at hf
    refine ZC (fun w1 hw h=>Nc hv2) fun u=>ZI false ?_
    simp at hf
   | true=>
    obtain rfl:e=0:=he.symm.trans (Ur hr Zd hst hf)
    unfold Ng at hf
    rw[hr,Q7 (show(0:Int)<3 by decide),Q7 (show(1:Int)<3 by decide),Q7 (show(2:Int)<3 by decide)]at hf
    refine K0.un Zk <| ZR <| ZI true ?_
    cases hv0:L8 s.ax s.ay with
    |false=>
     rw[hv0]at hf;simp at hf
    |true=>
    rw[hv0]at hf
    refine ZC (fun w1 hw h=>Nc hv0) fun u=>ZI false <| ZI true ?_
    cases hv1:L8 s.bx s.by_ with
    |false=>
     rw[hv1]at hf;simp at hf
    |true=>
    rw[hv1]at hf
    refine ZC (fun w1 hw h=>Nc hv1) fun u=>ZI false <| ZI true ?_
    cases hv2:L8 s.cx s.cy with
    |false=>
     rw[hv2]at hf;simp at hf
    |true=>
    rw[hv2]at hf
    exact ZC (fun w1 hw h=>Nc hv2) fun u=>ZI false <| ZI false <| ZW (Zi 0)
theorem rcheck_m{e:Int}{i:Nat}(hs:Qt w A n ls)(hn:n≤1000000)(he:chk ls=(e,i)):Zv 184 #[.slice A n c] w (.tuple #[Zi e,Zi i]):=by
 have hln:=hs.1
 by_cases hbig:256<ls.length
 ·have hch:chk ls=(5,256):=if_pos hbig
  rw[hch]at he
  obtain⟨rfl,rfl⟩:=Prod.mk.inj he
  exact K0.enter Tryz.func184 rfl <| ZR <| ZJ (decide ((n:Int)>256)) true Zp <| ZW (.tuple #[Zi 5,Zi 256])
 have hch:chk ls=C1 5 0 ls:=if_neg hbig
 rw[hch]at he
 refine K0.enter Tryz.func184 rfl <| ZR <| ZJ (decide ((n:Int)>256)) false Zp <| K0.loop (ι:={k:Nat // k≤n∧C1 5 0 ls=C1 (Vg ls k) k (ls.drop k)}) 22 (fun q=>⟨[(0,.v (.slice A n c)),(4,.v (Zi q.1))],[]⟩) (fun _ _=>True) (fun q=>n-q.1) (⟨0,Nat.zero_le _,rfl⟩) Zk (fun _=>by kernel_rfl) ⟨Zk,Zk,Zk⟩ (fun _ _=>trivial) ?_
 rintro⟨k,hk1,hk2⟩ g
 by_cases hlt:k<n
 case neg=>
  rw[hk2,List.drop_of_length_le Zo]at he
  obtain⟨rfl,rfl⟩:=Prod.mk.inj he
  exact ZR <| ZJ (decide ((k:Int)<(n:Int))) false Zp <| K0.leave Zk <| ZR <| ZW (.tuple #[Zi 0,Zi 0])
 obtain⟨s,hsk⟩:∃s,ls[k]? =some s:=⟨_,List.getElem?_eq_getElem Zo⟩
 rw[hk2,Ja hsk]at he
 rw[Ja hsk]at hk2
 refine ZR <| ZJ (decide ((k:Int)<(n:Int))) true Zp ?_
 by_cases h0:Dj (Vg ls k) s=0
 ·rw[Da h0,←If hsk]at hk2
  refine ZC (fun w1 hw h=>wrong_m (c:=c) (hs.below hw) hn hsk h0) fun u=>ZI false <| K0.slot 4 (Zi (IntKind.i64.wrap ((k:Int)+1))) (Zi ((k+1:Nat):Int)) Zk (by rw[Kd hlt Zo]) <| K0.next (⟨k+1,by omega,hk2⟩) Zk (by show n- (k+1)<n-k;omega) ⟨Zk,Zk,Zk⟩ (fun _ _=>trivial)
 ·rw[Q1 h0]at he
  obtain⟨he1,rfl⟩:=Prod.mk.inj he
  have he0:e≠0:=by rw[←he1];exact h0
  exact ZC (fun w1 hw h=>wrong_m (c:=c) (hs.below hw) hn hsk he1) fun u=>ZJ ((e !=0)) true (by simpa using he0) <| K0.leave Zk <| ZR <| ZW (.tuple #[Zi e,Zi k])
theorem Cf{B:Bool}(hs:Qt w A n ls)(hn:n≤1000000)(hB:decide ((chk ls).1=0)=B):Zv 125 #[.slice A n c] w (.bool B):=by
 obtain⟨e,i,he⟩:∃e i,chk ls=(e,i):=⟨_,_,rfl⟩
 rw[he]at hB
 exact K0.enter Tryz.func125 rfl <| ZR <| ZC (fun w1 hw h=>rcheck_m (c:=c) (hs.below hw) hn he) fun u=>ZX (.bool (e==0)) (by rw[←hB];rfl)
end
def Dx(s:Sg):List (Int×Int):=[(s.ax,s.ay),(s.bx,s.by_),(s.cx,s.cy)]
def ptsS(s:Sg):List (Int×Int):=(Dx s).take (Lt s.v).toNat
def Zh(p:Int×Int):List (List UInt8):=[Kb p.1,Kb p.2]
def Am(v:Int):UInt8:=if v=1 then 77 else if v=2 then 76 else if v=3 then 81 else if v=4 then 67 else 90
def Vt(s:Sg):List (List UInt8):=[Am s.v]::(ptsS s).flatMap Zh
def M8(l:List Sg):List (List UInt8):=l.flatMap Vt
def Rq(l:List Sg):List UInt8:=Nb 32 (M8 l)
def Pt(l:List Sg):Bool:=decide ((chk l).1=0)
def Xn(s:Sg):Prop:=(s.v=1∨s.v=2∨s.v=3∨s.v=4∨s.v=5)∧Ng s=true
theorem chkL_good:∀{last:Int} {k:Nat} {l:List Sg},(C1 last k l).1=0→∀s∈l,Xn s
 |_,_,[],_,s,hs=>by cases hs
 | last,k,s::l,h,t,ht=>by
  rw[C1]at h
  split at h
  ·rename_i h0
   have hs:Xn s:=by
    unfold Dj at h0
    split at h0
    ·cases h0
    ·rename_i hn
     split at h0
     ·cases h0
     ·split at h0
      ·cases h0
      ·rename_i hf
       refine⟨?_,by cases hb:Ng s;exact absurd hb hf;rfl⟩
       rcases named_cases s.v with h1|h1|h1|h1|h1|h1
       ·exact .inl h1
       ·exact .inr (.inl h1)
       ·exact .inr (.inr (.inl h1))
       ·exact .inr (.inr (.inr (.inl h1)))
       ·exact .inr (.inr (.inr (.inr h1)))
       ·rw[S7 h1]at hn;omega
   rcases List.mem_cons.1 ht with rfl|ht
   ·exact hs
   ·exact chkL_good h t ht
  ·rename_i h0;exact absurd h h0
theorem Hg{l:List Sg}(h:Pt l=true):(∀s∈l,Xn s)∧l.length≤256:=by
 have h1:(chk l).1=0:=of_decide_eq_true h
 unfold chk at h1
 split at h1
 ·cases h1
 ·exact⟨chkL_good h1,by omega⟩
theorem fits_rng{s:Sg}(h:Ng s=true):(-1048576≤s.ax∧s.ax≤1048576∧-1048576≤s.ay∧s.ay≤1048576)∧(-1048576≤s.bx∧s.bx≤1048576∧-1048576≤s.by_∧s.by_≤1048576)∧(-1048576≤s.cx∧s.cx≤1048576∧-1048576≤s.cy∧s.cy≤1048576):=by
 simp only[Ng,okP,Bool.and_eq_true,L8,decide_eq_true_eq]at h
 omega
theorem Ti{x:Int}(h: -1048576≤x∧x≤1048576):(Kb x).length≤25:=by
 have:=Vi (x:=x) (k:=1) Zd (by rw[show pw 1=4294967296 from by decide];omega)
 omega
theorem joinBy_cons(c:UInt8)(x:List UInt8)(l:List (List UInt8)):Nb c (x::l)=x++l.flatMap (c::·):=by
 induction l generalizing x with
 |nil=>simp[Nb]
 |cons y l ih=>
  show x++c::Nb c (y::l)=_
  rw[ih y];simp
theorem wordsP_snoc{l:List Sg}{k:Nat}{s:Sg}(h:l[k]? =some s):M8 (l.take (k+1))=M8 (l.take k)++Vt s:=by
 unfold M8;rw[List.take_add_one,h];simp
theorem segW_len(s:Sg):(Vt s).length≤7:=by
 have h1:(ptsS s).length≤3:=by unfold ptsS Dx;rw[List.length_take];simp;omega
 simp only[Vt,Zh,List.length_cons,List.length_flatMap]
 have h2:∀l:List (Int×Int),(l.map fun _=>0+1+1).sum=2*l.length:=fun l=>by
  induction l with
  |nil=>rfl
  |cons p l ih=>simp only[List.map_cons,List.sum_cons,ih,List.length_cons];omega
 have h3:=h2 (ptsS s)
 simp only[List.length_nil]at h3 ⊢
 omega
theorem Dt:∀l:List Sg,(M8 l).length≤7*l.length
 | []=>Nat.le_refl _
 |s::l=>by
  have ih:=Dt l
  have:=segW_len s
  simp only[M8,List.flatMap_cons,List.length_append,List.length_cons]at ih ⊢
  omega
theorem segW_sum{s:Sg}(h:Xn s):Mq (Vt s)≤151:=by
 obtain⟨h1,h2,h3⟩:=fits_rng h.2
 have a1:=Ti ⟨h1.1,h1.2.1⟩
 have a2:=Ti ⟨h1.2.2.1,h1.2.2.2⟩
 have b1:=Ti ⟨h2.1,h2.2.1⟩
 have b2:=Ti ⟨h2.2.2.1,h2.2.2.2⟩
 have c1:=Ti ⟨h3.1,h3.2.1⟩
 have c2:=Ti ⟨h3.2.2.1,h3.2.2.2⟩
 unfold Vt ptsS Dx
 rcases named_rng s.v with hr|hr|hr|hr|hr<;>rw[hr]<;>simp[Mq,Zh]<;>omega
theorem Jz:∀{l:List Sg},(∀s∈l,Xn s)→Mq (M8 l)≤151*l.length
 | [],_=>Nat.le_refl _
 |s::l,h=>by
  have ih:=Jz (l:=l) fun t ht=>h t (by simp[ht])
  have:=segW_sum (h s Zs)
  have e:M8 (s::l)=Vt s++M8 l:=by simp[M8]
  rw[e,Pz]
  simp only[List.length_cons]
  omega
theorem fmtP_len{l:List Sg}(h:∀s∈l,Xn s):(Rq l).length≤158*l.length:=by
 have h1:=join_len 32 (M8 l)
 have h2:=Jz h
 have h3:=Dt l
 unfold Rq;omega
section
variable{w:World}{A:Option Addr}{n c:Nat}{ls:List Sg}
theorem lit_ne{u:World}{B m cc g:Nat}{Y:Option Addr}{xs:List Value}{cells:Array Value}(h:K6 u B 9 1 Y m cc xs)(hl:L4 57 cells g u):g∉bl Y:=fun hg=>by
 obtain⟨cur,own,h1⟩:=h.ty g hg
 have h2:u.heap[g]? =some (.cells cells 57 (0,0)):=hl
 rw[h2]at h1
 simp only[Option.some.injEq,Obj.cells.injEq]at h1
 exact absurd h1.2.1 Zd
theorem points_m{v r:Int}(hv:v=1∨v=2∨v=3∨v=4∨v=5)(h:Lt v=r):Zv 119 #[Zi v] w (Zi r):=by
 rcases hv with rfl|rfl|rfl|rfl|rfl
 ·obtain rfl:r=1:=h.symm
  exact K0.enter Tryz.func119 rfl <| ZR <| ZW (Zi 1)
 ·obtain rfl:r=1:=h.symm
  exact K0.enter Tryz.func119 rfl <| ZR <| ZW (Zi 1)
 ·obtain rfl:r=2:=h.symm
  exact K0.enter Tryz.func119 rfl <| ZR <| ZW (Zi 2)
 ·obtain rfl:r=3:=h.symm
  exact K0.enter Tryz.func119 rfl <| ZR <| ZW (Zi 3)
 ·obtain rfl:r=0:=h.symm
  exact K0.enter Tryz.func119 rfl <| ZR <| ZW (Zi 0)
theorem app_strs{B m yc gb:Nat}{y:Option Addr}{p l:List (List UInt8)}(ho:K6 w B 9 1 y m yc (sv p))(hB:B≤w.heap.size)(hg:L4 9 (sv l).toArray gb w)(hm:m<1000000)(hl:l.length≤10):
 Ot Tryz.prog w (bl y) (fun z:Option Addr×Nat=> .slice z.1 (m+l.length) z.2) (fun z v=>K6 v B 9 1 z.1 (m+l.length) z.2 (sv (p++l))) (M9 66 66 (.slice y m yc) (Kf l.length gb)):=by
 have ha:=O3 (P:=Tryz.prog) (s:=1) (z:= .string ⟨#[]⟩) (bytes:=16) (m:=l.length) (cc:=l.length) (t:=66) (elem:=9) Zk Zk rfl Zd ho hB (N5 (n:=l.length) hg (by simp[sv])) (by intro v hv;simp[sv]at hv;obtain⟨x,_,rfl⟩:=hv;rfl) Zo Zd
 have e:sv (p++l)=sv p++sv l:=by simp[sv]
 rw[e];exact ha
theorem run_slHp{g n c i:Nat}(hi:i≤c:=by decide):(slH 185 (.slice (some ⟨g,0,none⟩) n c) i).run Tryz.prog w= .ok (.value (.slice (some ⟨g,0,none⟩) i c)) w:=by
 have ht:Tryz.prog.underlying 185=some (.slice 57):=by kernel_rfl
 have he:Tryz.prog.elem 185=57:=by kernel_rfl
 have hs:Nz Tryz.prog 57=some 2:=by kernel_rfl
 have h1:=run_slice_h (P:=Tryz.prog) w 185 (some ⟨g,0,none⟩) n c (by rw[he];exact ht) .i64 i Zo Zo
 have h2:=run_sliceAt_slice (P:=Tryz.prog) w 185 (.slice (some ⟨g,0,none⟩) n c) none (some (Zi i)) none (by rw[he];exact ht)
 simp only[slH,Sem.run_bind,h2,h1,he,Lf hs,Result.andThen_ok,Sem.run_pure]
 simp[sliced,Addr.add]
end
section
variable{w:World}{A:Option Addr}{n c:Nat}{ls:List Sg}
theorem run_let{v:Int}(hv:v=1∨v=2∨v=3∨v=4∨v=5):(slC 9 (K4 [32,77,76,81,67,90]) .i64 v (IntKind.i64.wrap (v+1))).run Tryz.prog w= .ok (.value (K4 [Am v])) w:=by
 rcases hv with rfl|rfl|rfl|rfl|rfl
 ·exact B7 (i:=1) Zk rfl
 ·exact B7 (i:=2) Zk rfl
 ·exact B7 (i:=3) Zk rfl
 ·exact B7 (i:=4) Zk rfl
 ·exact B7 (i:=5) Zk rfl
theorem tri_ld{g j:Nat}{v ax ay bx by_ cx cy:Int}{q:Int×Int}(h:L4 57 #[Zi ax,Zi ay,Zi bx,Zi by_,Zi cx,Zi cy] g w)(hq:(Dx ⟨v,ax,ay,bx,by_,cx,cy⟩)[j]? =some q):(L5 57 ⟨g,j*2,none⟩).run Tryz.prog w= .ok (.value (pt q.1 q.2)) w:=by
 rcases j with _|_|_|j
 ·obtain rfl:(ax,ay)=q:=by simpa[Dx]using hq
  refine Rk h fun i x hx=> ?_
  rcases i with _|_|i<;>simp at hx<;>subst hx<;>rfl
 ·obtain rfl:(bx,by_)=q:=by simpa[Dx]using hq
  refine Rk h fun i x hx=> ?_
  rcases i with _|_|i<;>simp at hx<;>subst hx<;>rfl
 ·obtain rfl:(cx,cy)=q:=by simpa[Dx]using hq
  refine Rk h fun i x hx=> ?_
  rcases i with _|_|i<;>simp at hx<;>subst hx<;>rfl
 ·simp[Dx]at hq
theorem tri_rng{s:Sg}{j:Nat}{q:Int×Int}(h:Ng s=true)(hq:(Dx s)[j]? =some q): -1048576≤q.1∧q.1≤1048576∧-1048576≤q.2∧q.2≤1048576:=by
 obtain⟨ra,rb,rc⟩:=fits_rng h
 rcases j with _|_|_|j
 ·obtain rfl:(s.ax,s.ay)=q:=by simpa[Dx]using hq
  exact ra
 ·obtain rfl:(s.bx,s.by_)=q:=by simpa[Dx]using hq
  exact rb
 ·obtain rfl:(s.cx,s.cy)=q:=by simpa[Dx]using hq
  exact rc
 ·simp[Dx]at hq
theorem named_good{v:Int}(hv:v=1∨v=2∨v=3∨v=4∨v=5):∃r:Nat,Lt v=(r:Int)∧r≤3:=by
 rcases hv with rfl|rfl|rfl|rfl|rfl
 ·exact⟨1,rfl,by decide⟩
 ·exact⟨1,rfl,by decide⟩
 ·exact⟨2,rfl,by decide⟩
 ·exact⟨3,rfl,by decide⟩
 ·exact⟨0,rfl,by decide⟩
theorem format_s(hs:Qt w A n ls)(hB:Pt ls=true):Zv 69 #[.slice A n c] w (.tuple #[K4 (Rq ls),Zi 0]):=by
 have hln:=hs.1
 obtain⟨hgood,hsmall⟩:=Hg hB
 have hfl:=fmtP_len hgood
 refine K0.enter Tryz.func69 rfl <| ZR <| ZC (fun w1 hw h=>W0 (c:=c) (hs.below hw) Zo hB) fun u=>ZI false <| K0.loop (ι:={q:Nat×Nat×(Option Addr×Nat) // q.1≤n∧q.2.1=(M8 (ls.take q.1)).length}) 56 (fun q=>⟨[(0,.v (.slice A n c)),(4,.v (.slice q.1.2.2.1 q.1.2.1 q.1.2.2.2)),(12,.v (.slice A n c)),(13,.v (Zi n)),(14,.v (Zi q.1.1))],[]⟩) (fun q u=>K6 u w.heap.size 9 1 q.1.2.2.1 q.1.2.1 q.1.2.2.2 (sv (M8 (ls.take q.1.1)))) (fun q=>n-q.1.1) (⟨(0,0,none,0),Nat.zero_le _,rfl⟩) Zk (fun _=>by kernel_rfl) ⟨Zk,Zk,Zk⟩ (fun u h=>K6.nil_) ?_
 rintro⟨⟨k,m,y,yc⟩,hk,hm⟩ gg
 have hk:k≤n:=hk
 have hm:m=(M8 (ls.take k)).length:=hm
 have hml:m≤7*256:=by
  have h1:=Dt (ls.take k)
  have h2:(ls.take k).length≤256:=by rw[List.length_take];omega
  omega
 by_cases hlt:k<n
 case neg=>
  obtain rfl:k=n:=by omega
  have hfull:ls.take k=ls:=List.take_of_length_le Zo
  exact ZR <| ZJ (decide ((k:Int)<(k:Int))) false Zs <| K0.leave Zk <| ZR <| ZC (fun w1 hw h=>join_m (p:=M8 ls) (by rw[←hfull];exact h) (by show(Rq ls).length≤_;omega) (show m≤100000000 from by omega)) fun u=>ZW (.tuple #[K4 (Nb 32 (M8 ls)),Zi 0])
 obtain⟨s,hsk⟩:∃s,ls[k]? =some s:=⟨_,List.getElem?_eq_getElem Zo⟩
 obtain⟨ad,hA,hc⟩:=hs.2 k s hsk
 have hgs:=hgood s (List.mem_of_getElem? hsk)
 have hnext:=wordsP_snoc hsk
 obtain⟨p,hp⟩:∃p,p=M8 (ls.take k):=⟨_,rfl⟩
 rw[←hp]at hnext hm
 refine ZR <| ZJ (decide ((k:Int)<(n:Int))) true Zp <| ZA (Kj 43 (.slice A n c) k) (.pointer (some (ad.add (k*7)))) (fun w1 hw h=>Sd hA hlt) ?_
 have htri:= @tri_rng s
 obtain⟨v,ax,ay,bx,by_,cx,cy⟩:=s
 obtain⟨hv,hfit⟩:=hgs
 replace htri:=fun j q=> @htri j q hfit
 have hv:v=1∨v=2∨v=3∨v=4∨v=5:=hv
 obtain⟨r,hr,hr3⟩:=named_good hv
 have hpts:Vt ⟨v,ax,ay,bx,by_,cx,cy⟩=[Am v]::((Dx ⟨v,ax,ay,bx,by_,cx,cy⟩).take r).flatMap Zh:=by
  unfold Vt ptsS;rw[show(Sg.mk v ax ay bx by_ cx cy).v=v from rfl,hr];rfl
 obtain⟨T,hT⟩:∃T,T=Dx ⟨v,ax,ay,bx,by_,cx,cy⟩:=⟨_,rfl⟩
 have hTl:T.length=3:=by rw[hT];rfl
 rw[hpts,←hT]at hnext
 refine K0.ask (L5 150 (ad.add (k*7))) (Sg.val ⟨v,ax,ay,bx,by_,cx,cy⟩) Zk (fun w1 hw h=>Ya fun j u hj=>Lc hw (hc j u hj)) <| ZS 6 <| K0.ask (slC 9 (K4 [32,77,76,81,67,90]) .i64 v (IntKind.i64.wrap (v+1))) (K4 [Am v]) Zk (fun w1 hw h=>run_let hv) <| ZS 7 <| K0.make (Lq 66 1 #[(0,K4 [Am v])]) (Kf 1) (L4 9 #[K4 [Am v]]) Zk (fun w1 hw h=>Kc Zk) fun gb=>ZS 8 <| K0.mutOp (L:=bl y) (val:=fun(z:Option Addr×Nat)=> .slice z.1 (m+1) z.2) (Φ':=fun(z:Option Addr×Nat) vv=>K6 vv w.heap.size 9 1 z.1 (m+1) z.2 (sv (p++ [[Am v]]))) (G:=fun(z:Option Addr×Nat) vv=>K6 vv w.heap.size 9 1 z.1 (m+1) z.2 (sv (p++ [[Am v]]))) (M9 66 66 (.slice y m yc) (Kf 1 gb)) (fun w1 hw h=>by have ho:K6 w1 w.heap.size 9 1 y m yc (sv (p)):=(by rw[hp];exact h.1);exact app_strs (l:=[[Am v]]) ho hw.size h.2 (show m<1000000 from by omega) Zs) (fun w1 h=>fun b hb=>⟨((show K6 w1 w.heap.size 9 1 y m yc (sv (p))from(by rw[hp];exact h.1)).lt b hb).1,((show K6 w1 w.heap.size 9 1 y m yc (sv (p))from(by rw[hp];exact h.1)).blk b hb).2⟩) (fun z wa w1 e1 e2 h hG=>hG) Zk Zk fun z=>ZR <| K0.two (i:=6) (j:=9) Zk ?_ ?_
 ·refine Qa.make (i:=6) (Lq (185) 3 #[(0,pt ax ay),(1,pt bx by_),(2,pt cx cy)]) (Kf 3) (L4 57 #[Zi ax,Zi ay,Zi bx,Zi by_,Zi cx,Zi cy]) Zk (fun w1 hw h=>Kc Zk) fun g=>ZR <| ZD 10 (fun w1 hw h=>points_m hv hr) fun u=>ZA (slH 185 (.slice (some ⟨g,0,none⟩) 3 3) (r:Nat)) (.slice (some ⟨g,0,none⟩) r 3) (fun w1 hw h=>run_slHp Zo) <| K0.loop (ι:={q:Nat×Nat×(Option Addr×Nat) // q.1≤r∧q.2.1=m+1+2*q.1}) 56 (fun q=>⟨[(0,.v (.slice A n c)),(4,.v (.slice q.1.2.2.1 q.1.2.1 q.1.2.2.2)),(12,.v (.slice A n c)),(13,.v (Zi n)),(14,.v (Zi k)),(37,.v (.slice (some ⟨g,0,none⟩) r 3)),(38,.v (Zi r)),(39,.v (Zi q.1.1))],[]⟩) (fun q u=>K6 u w.heap.size 9 1 q.1.2.2.1 q.1.2.1 q.1.2.2.2 (sv ((p++ [[Am v]])++(T.take q.1.1).flatMap Zh))∧L4 57 #[Zi ax,Zi ay,Zi bx,Zi by_,Zi cx,Zi cy] g u) (fun q=>r-q.1.1) (⟨(0,m+1,z.1,z.2),Nat.zero_le _,rfl⟩) Zk (fun _=>by kernel_rfl) ⟨Zk,Zk,Zk⟩ (fun u h=>(by have h2:=h;simp only[List.take_zero,List.flatMap_nil,List.append_nil];exact⟨h2.1.1,h2.1.2⟩)) ?_
  rintro⟨⟨j,mj,y2,yc2⟩,hj,hmj⟩ gg2
  have hj:j≤r:=hj
  have hmj:mj=m+1+2*j:=hmj
  by_cases hlt2:j<r
  case neg=>
   obtain rfl:j=r:=by omega
   refine ZR <| ZJ (decide ((j:Int)<(j:Int))) false Zs <| K0.leave Zk <| ZR <| K0.slot 14 (Zi (IntKind.i64.wrap ((k:Int)+1))) (Zi ((k+1:Nat):Int)) Zk (by rw[Kd hlt Zo]) <| K0.next (⟨(k+1,mj,y2,yc2),by show k+1≤n;omega,by show mj=_;rw[hnext];simp only[List.length_append,List.length_cons,List.length_flatMap,Zh,List.length_nil];have e:∀l:List (Int×Int),(l.map fun _=>0+1+1).sum=2*l.length:=(fun l=>by induction l with|nil=>rfl|cons p l ih=>simp only[List.map_cons,List.sum_cons,ih,List.length_cons];omega);rw[e,List.length_take,hTl];omega⟩) Zk (by show n- (k+1)<n-k;omega) ⟨Zk,Zk,Zk⟩ (fun u h=>(by have h1:=h.1;show K6 u w.heap.size 9 1 y2 mj yc2 (sv (M8 (ls.take (k+1))));rw[hnext,List.append_cons];exact h1))
  obtain⟨q,hq⟩:∃q,T[j]? =some q:=⟨_,List.getElem?_eq_getElem Zo⟩
  have hstep:(T.take (j+1)).flatMap Zh=(T.take j).flatMap Zh++ [Kb q.1,Kb q.2]:=by rw[List.take_add_one,hq];simp[Zh]
  obtain⟨pj,hpj⟩:∃pj,pj=(p++ [[Am v]])++(T.take j).flatMap Zh:=⟨_,rfl⟩
  have hrng:=htri j q (hT▸hq)
  refine ZR <| ZJ (decide ((j:Int)<(r:Int))) true Zp <| ZA (Kj 185 (.slice (some ⟨g,0,none⟩) r 3) j) (Zq g (j*2)) (fun w1 hw h=>Kq (elem:=57) Zk Zk hlt2) <| ZA (L5 57 ⟨g,j*2,none⟩) (pt q.1 q.2) (fun w1 hw h=>tri_ld h.2 (hT▸hq)) <| ZC (fun w1 hw h=>Kv (n:=q.1) Zo Zo) fun u1=>ZC (fun w1 hw h=>Kv (n:=q.2) Zo Zo) fun u2=>K0.make (Lq 66 2 #[(0,K4 (Kb q.1)),(1,K4 (Kb q.2))]) (Kf 2) (L4 9 #[K4 (Kb q.1),K4 (Kb q.2)]) Zk (fun w1 hw h=>Kc Zk) fun gb2=>ZS 8 <| K0.mutAny (L:=bl y2) (val:=fun(z:Option Addr×Nat)=> .slice z.1 (mj+2) z.2) (Φ':=fun(z:Option Addr×Nat) vv=>K6 vv w.heap.size 9 1 z.1 (mj+2) z.2 (sv (pj++ [Kb q.1,Kb q.2]))∧L4 57 #[Zi ax,Zi ay,Zi bx,Zi by_,Zi cx,Zi cy] g vv) (G:=fun(z:Option Addr×Nat) vv=>K6 vv w.heap.size 9 1 z.1 (mj+2) z.2 (sv (pj++ [Kb q.1,Kb q.2]))) (M9 66 66 (.slice y2 mj yc2) (Kf 2 gb2)) (fun w1 hw h=>by have ho:K6 w1 w.heap.size 9 1 y2 mj yc2 (sv (pj)):=(by rw[hpj];exact h.1.1.1.1);exact app_strs (l:=[Kb q.1,Kb q.2]) ho hw.size h.2 (show mj<1000000 from by omega) Zs) (fun w1 h=>fun b hb=>⟨((show K6 w1 w.heap.size 9 1 y2 mj yc2 (sv (pj))from(by rw[hpj];exact h.1.1.1.1)).lt b hb).1,((show K6 w1 w.heap.size 9 1 y2 mj yc2 (sv (pj))from(by rw[hpj];exact h.1.1.1.1)).blk b hb).2⟩) (fun z wa w1 e1 e2 h hG=>⟨hG,(e2 g (lit_ne (show K6 wa w.heap.size 9 1 y2 mj yc2 (sv (pj))from(by rw[hpj];exact h.1.1.1.1)) h.1.1.1.2)).symm.trans h.1.1.1.2⟩) Zk Zk fun z2=>ZR <| K0.slot 39 (Zi (IntKind.i64.wrap ((j:Int)+1))) (Zi ((j+1:Nat):Int)) Zk (by rw[Kd hlt2 Zo]) <| K0.next (⟨(j+1,mj+2,z2.1,z2.2),by show j+1≤r;omega,by show mj+2=_;omega⟩) Zk (by show r- (j+1)<r-j;omega) ⟨Zk,Zk,Zk⟩ (fun u h=>⟨(by have h1:=h.1;show K6 u w.heap.size 9 1 z2.1 (mj+2) z2.2 (sv ((p++ [[Am v]])++(T.take (j+1)).flatMap Zh));rw[hstep,←List.append_assoc,←hpj];exact h1),h.2⟩)
 ·refine Qa.callv (i:=9) (fun w1 hw h=>points_m hv hr) Zk fun u=>ZR <| K0.make (Lq (185) 3 #[(0,pt ax ay),(1,pt bx by_),(2,pt cx cy)]) (Kf 3) (L4 57 #[Zi ax,Zi ay,Zi bx,Zi by_,Zi cx,Zi cy]) Zk (fun w1 hw h=>Kc Zk) fun g=>ZS 10 <| ZA (slH 185 (.slice (some ⟨g,0,none⟩) 3 3) (r:Nat)) (.slice (some ⟨g,0,none⟩) r 3) (fun w1 hw h=>run_slHp Zo) <| K0.loop (ι:={q:Nat×Nat×(Option Addr×Nat) // q.1≤r∧q.2.1=m+1+2*q.1}) 56 (fun q=>⟨[(0,.v (.slice A n c)),(4,.v (.slice q.1.2.2.1 q.1.2.1 q.1.2.2.2)),(12,.v (.slice A n c)),(13,.v (Zi n)),(14,.v (Zi k)),(37,.v (.slice (some ⟨g,0,none⟩) r 3)),(38,.v (Zi r)),(39,.v (Zi q.1.1))],[]⟩) (fun q u=>K6 u w.heap.size 9 1 q.1.2.2.1 q.1.2.1 q.1.2.2.2 (sv ((p++ [[Am v]])++(T.take q.1.1).flatMap Zh))∧L4 57 #[Zi ax,Zi ay,Zi bx,Zi by_,Zi cx,Zi cy] g u) (fun q=>r-q.1.1) (⟨(0,m+1,z.1,z.2),Nat.zero_le _,rfl⟩) Zk (fun _=>by kernel_rfl) ⟨Zk,Zk,Zk⟩ (fun u h=>(by have h2:=h;simp only[List.take_zero,List.flatMap_nil,List.append_nil];exact⟨h2.1.1,h2.2⟩)) ?_
  rintro⟨⟨j,mj,y2,yc2⟩,hj,hmj⟩ gg2
  have hj:j≤r:=hj
  have hmj:mj=m+1+2*j:=hmj
  by_cases hlt2:j<r
  case neg=>
   obtain rfl:j=r:=by omega
   refine ZR <| ZJ (decide ((j:Int)<(j:Int))) false Zs <| K0.leave Zk <| ZR <| K0.slot 14 (Zi (IntKind.i64.wrap ((k:Int)+1))) (Zi ((k+1:Nat):Int)) Zk (by rw[Kd hlt Zo]) <| K0.next (⟨(k+1,mj,y2,yc2),by show k+1≤n;omega,by show mj=_;rw[hnext];simp only[List.length_append,List.length_cons,List.length_flatMap,Zh,List.length_nil];have e:∀l:List (Int×Int),(l.map fun _=>0+1+1).sum=2*l.length:=(fun l=>by induction l with|nil=>rfl|cons p l ih=>simp only[List.map_cons,List.sum_cons,ih,List.length_cons];omega);rw[e,List.length_take,hTl];omega⟩) Zk (by show n- (k+1)<n-k;omega) ⟨Zk,Zk,Zk⟩ (fun u h=>(by have h1:=h.1;show K6 u w.heap.size 9 1 y2 mj yc2 (sv (M8 (ls.take (k+1))));rw[hnext,List.append_cons];exact h1))
  obtain⟨q,hq⟩:∃q,T[j]? =some q:=⟨_,List.getElem?_eq_getElem Zo⟩
  have hstep:(T.take (j+1)).flatMap Zh=(T.take j).flatMap Zh++ [Kb q.1,Kb q.2]:=by rw[List.take_add_one,hq];simp[Zh]
  obtain⟨pj,hpj⟩:∃pj,pj=(p++ [[Am v]])++(T.take j).flatMap Zh:=⟨_,rfl⟩
  have hrng:=htri j q (hT▸hq)
  refine ZR <| ZJ (decide ((j:Int)<(r:Int))) true Zp <| ZA (Kj 185 (.slice (some ⟨g,0,none⟩) r 3) j) (Zq g (j*2)) (fun w1 hw h=>Kq (elem:=57) Zk Zk hlt2) <| ZA (L5 57 ⟨g,j*2,none⟩) (pt q.1 q.2) (fun w1 hw h=>tri_ld h.2 (hT▸hq)) <| ZC (fun w1 hw h=>Kv (n:=q.1) Zo Zo) fun u1=>ZC (fun w1 hw h=>Kv (n:=q.2) Zo Zo) fun u2=>K0.make (Lq 66 2 #[(0,K4 (Kb q.1)),(1,K4 (Kb q.2))]) (Kf 2) (L4 9 #[K4 (Kb q.1),K4 (Kb q.2)]) Zk (fun w1 hw h=>Kc Zk) fun gb2=>ZS 8 <| K0.mutAny (L:=bl y2) (val:=fun(z:Option Addr×Nat)=> .slice z.1 (mj+2) z.2) (Φ':=fun(z:Option Addr×Nat) vv=>K6 vv w.heap.size 9 1 z.1 (mj+2) z.2 (sv (pj++ [Kb q.1,Kb q.2]))∧L4 57 #[Zi ax,Zi ay,Zi bx,Zi by_,Zi cx,Zi cy] g vv) (G:=fun(z:Option Addr×Nat) vv=>K6 vv w.heap.size 9 1 z.1 (mj+2) z.2 (sv (pj++ [Kb q.1,Kb q.2]))) (M9 66 66 (.slice y2 mj yc2) (Kf 2 gb2)) (fun w1 hw h=>by have ho:K6 w1 w.heap.size 9 1 y2 mj yc2 (sv (pj)):=(by rw[hpj];exact h.1.1.1.1);exact app_strs (l:=[Kb q.1,Kb q.2]) ho hw.size h.2 (show mj<1000000 from by omega) Zs) (fun w1 h=>fun b hb=>⟨((show K6 w1 w.heap.size 9 1 y2 mj yc2 (sv (pj))from(by rw[hpj];exact h.1.1.1.1)).lt b hb).1,((show K6 w1 w.heap.size 9 1 y2 mj yc2 (sv (pj))from(by rw[hpj];exact h.1.1.1.1)).blk b hb).2⟩) (fun z wa w1 e1 e2 h hG=>⟨hG,(e2 g (lit_ne (show K6 wa w.heap.size 9 1 y2 mj yc2 (sv (pj))from(by rw[hpj];exact h.1.1.1.1)) h.1.1.1.2)).symm.trans h.1.1.1.2⟩) Zk Zk fun z2=>ZR <| K0.slot 39 (Zi (IntKind.i64.wrap ((j:Int)+1))) (Zi ((j+1:Nat):Int)) Zk (by rw[Kd hlt2 Zo]) <| K0.next (⟨(j+1,mj+2,z2.1,z2.2),by show j+1≤r;omega,by show mj+2=_;omega⟩) Zk (by show r- (j+1)<r-j;omega) ⟨Zk,Zk,Zk⟩ (fun u h=>⟨(by have h1:=h.1;show K6 u w.heap.size 9 1 z2.1 (mj+2) z2.2 (sv ((p++ [[Am v]])++(T.take (j+1)).flatMap Zh));rw[hstep,←List.append_assoc,←hpj];exact h1),h.2⟩)
end
end Go.Proofs.YtoeiphicmcndlaaGreatDoor
