/-
 Paths as text.
-/
import Derived.Test.YtoeiphicmcndlaaGreatDoorPG
namespace Go.Proofs.YtoeiphicmcndlaaGreatDoor
set_option maxRecDepth 100000
set_option maxHeartbeats 8000000
set_option linter.unusedVariables false
set_option linter.unusedSimpArgs false
open Go.RowKit
structure Sg where
 v:Int
 ax:Int
 ay:Int
 bx:Int
 by_:Int
 cx:Int
 cy:Int
def iv(z:Int):Value:=Zi z
@[reducible] def Sg.cl(s:Sg):List Value:=[Zi s.v,Zi s.ax,Zi s.ay,Zi s.bx,Zi s.by_,Zi s.cx,Zi s.cy]
@[reducible] def Sg.val(s:Sg):Value:= .agg #[Zi s.v,Zi s.ax,Zi s.ay,Zi s.bx,Zi s.by_,Zi s.cx,Zi s.cy]
theorem M0{x y:Operand}{a b c d:Int}{w:World}:(neP 57 x y (pt a b) (pt c d)).run Tryz.prog w= .ok (.value (.bool (!(a==c&&b==d)))) w:=by
 have h3:Tryz.prog.eqGuardType Tryz.prog.depth 57=false:=by kernel_rfl
 have he:=run_eqP (x:=x) (y:=y) (a:=a) (b:=b) (c:=c) (d:=d) (w:=w)
 simp only[eqP,pt,Sem.run_bind,run_eqGuard_agg w .eql _ x y _ _ h3,Result.andThen_ok,run_eql_struct,Sem.run_pure]at he
 simp only[neP,pt,Sem.run_bind,run_eqGuard_agg w .neq _ x y _ _ h3,Result.andThen_ok,run_neq_struct,Sem.run_pure]
 generalize (Op.equalIn 10000 57 (.agg #[Zi a,Zi b]) (.agg #[Zi c,Zi d])).run Tryz.prog w=r at he ⊢
 cases r with
 |ok x w'=>simp only[Result.andThen_ok,Sem.run_pure,Result.ok.injEq,Next.value.injEq,Value.bool.injEq]at he ⊢;exact⟨by rw[he.1],he.2⟩
 |_=>cases he
def Lf(v:Int):Int:=if v=1∨v=2 then 1 else if v=3 then 2 else if v=4 then 3 else if v=5 then 0 else -1
theorem named_cases(v:Int):v=1∨v=2∨v=3∨v=4∨v=5∨(v≠1∧v≠2∧v≠3∧v≠4∧v≠5):=by omega
theorem Ri{v:Int}(h:v≠1∧v≠2∧v≠3∧v≠4∧v≠5):Lf v= -1:=by
 unfold Lf
 rw[if_neg Zo,if_neg Zo,if_neg Zo,if_neg Zo]
def okP(i n x y:Int):Bool:=La x y&&(decide (i<n)||(x==0&&y==0))
def O4(s:Sg):Bool:=okP 0 (Lf s.v) s.ax s.ay&&okP 1 (Lf s.v) s.bx s.by_&&okP 2 (Lf s.v) s.cx s.cy
def My(last v:Int):Bool:=v==1||(last !=5&&(v !=5||last !=1))
def chkS(last:Int)(s:Sg):Int:=if Lf s.v<0 then 2 else if My last s.v=false then 10 else if O4 s=false then 6 else 0
def chkL:Int→Nat→List Sg→Int×Nat
 |_,_,[]=>(0,0)
 |last,i,s::l=>if chkS last s=0 then chkL s.v (i+1) l else(chkS last s,i)
def chk(l:List Sg):Int×Nat:=if 256<l.length then(5,256)else chkL 5 0 l
def Rr(w:World)(A:Option Addr)(n:Nat)(ls:List Sg):Prop:=ls.length=n∧∀(k:Nat) (s:Sg),ls[k]? =some s→∃ad,A=some ad∧∀(j:Nat) (v:Value),s.cl[j]? =some v→w.cell? ((ad.add (k*7)).add j)=some v
theorem Rr.below{w w1:World}{A:Option Addr}{n:Nat}{ls:List Sg}(h:Rr w A n ls)(hw:Below w.heap.size w w1):Rr w1 A n ls:=
 ⟨h.1,fun k s hk=>by obtain⟨ad,h1,h2⟩:=h.2 k s hk;exact⟨ad,h1,fun j v hj=>Lr hw (h2 j v hj)⟩⟩
section
variable{w:World}{A A2:Option Addr}{n n2 c c2:Nat}{ls ms:List Sg}{X Y:Int}
theorem Tj{k:Nat}{ad:Addr}(hA:A=some ad)(hk:k<n):(Ku 43 (.slice A n c) k).run Tryz.prog w= .ok (.value (.pointer (some (ad.add (k*7))))) w:=by
 rw[hA];exact Vy (elem:=150) Zk Zk hk
theorem Z9{ad:Addr}{s:Sg}(h:∀(j:Nat) (v:Value),s.cl[j]? =some v→w.cell? (ad.add j)=some v):(Kt 150 ad).run Tryz.prog w= .ok (.value s.val) w:=
 run_ldA (vs:=s.cl) Zk Zk h
theorem Mv{v r:Int}(h:Lf v=r):Zv 223 #[Zi v] w (Zi r):=by
 rcases named_cases v with rfl|rfl|rfl|rfl|rfl|hv
 ·obtain rfl:r=1:=h.symm
  exact K0.enter Tryz.func223 rfl <| K0.runC Zk (stop:=1000) 6000 _ <| ZW (Zi 1)
 ·obtain rfl:r=1:=h.symm
  exact K0.enter Tryz.func223 rfl <| K0.runC Zk (stop:=1000) 6000 _ <| ZW (Zi 1)
 ·obtain rfl:r=2:=h.symm
  exact K0.enter Tryz.func223 rfl <| K0.runC Zk (stop:=1000) 6000 _ <| ZW (Zi 2)
 ·obtain rfl:r=3:=h.symm
  exact K0.enter Tryz.func223 rfl <| K0.runC Zk (stop:=1000) 6000 _ <| ZW (Zi 3)
 ·obtain rfl:r=0:=h.symm
  exact K0.enter Tryz.func223 rfl <| K0.runC Zk (stop:=1000) 6000 _ <| ZW (Zi 0)
 ·obtain rfl:r= -1:=h.symm.trans (Ri hv)
  exact K0.enter Tryz.func223 rfl <| ZR <| ZJ ((v==4)) false Zp <| ZJ ((v==3)) false Zp <| ZJ ((v==1)) false Zp <| ZJ ((v==2)) false Zp <| ZJ ((v==5)) false Zp <| ZW (Zi (-1))
theorem Rv{v r:Int}(h:Lf v=r):Zv 267 #[Zi v] w (Zi r):=by
 rcases named_cases v with rfl|rfl|rfl|rfl|rfl|hv
 ·obtain rfl:r=1:=h.symm
  exact K0.enter Tryz.func267 rfl <| K0.runC Zk (stop:=1000) 6000 _ <| ZW (Zi 1)
 ·obtain rfl:r=1:=h.symm
  exact K0.enter Tryz.func267 rfl <| K0.runC Zk (stop:=1000) 6000 _ <| ZW (Zi 1)
 ·obtain rfl:r=2:=h.symm
  exact K0.enter Tryz.func267 rfl <| K0.runC Zk (stop:=1000) 6000 _ <| ZW (Zi 2)
 ·obtain rfl:r=3:=h.symm
  exact K0.enter Tryz.func267 rfl <| K0.runC Zk (stop:=1000) 6000 _ <| ZW (Zi 3)
 ·obtain rfl:r=0:=h.symm
  exact K0.enter Tryz.func267 rfl <| K0.runC Zk (stop:=1000) 6000 _ <| ZW (Zi 0)
 ·obtain rfl:r= -1:=h.symm.trans (Ri hv)
  exact K0.enter Tryz.func267 rfl <| ZR <| ZJ ((v==1)) false Zp <| ZJ ((v==2)) false Zp <| ZJ ((v==3)) false Zp <| ZJ ((v==4)) false Zp <| ZJ ((v==5)) false Zp <| ZW (Zi (-1))
theorem R9{g off:Nat}{cells:Array Value}{x y:Int}(h:Kd 57 cells g w)(hc:∀(j:Nat) (v:Value),([Zi x,Zi y]:List Value)[j]? =some v→cells[off+j]? =some v):(Kt 57 ⟨g,off,none⟩).run Tryz.prog w= .ok (.value (pt x y)) w:=
 M1 (vs:=[Zi x,Zi y]) Zk Zk (fun j v hj=>by
  have h1:w.heap[g]? =some (.cells cells 57 (0,0)):=h
  simp only[World.cell?,h1,Option.isSome_none,Bool.false_eq_true,if_false]
  exact hc j v hj)
theorem Q3{i n x y:Int}(h:i<n):okP i n x y=La x y:=by unfold okP;rw[decide_eq_true h];simp
theorem Og{i n x y:Int}(h:¬i<n):okP i n x y=(La x y&&(x==0&&y==0)):=by unfold okP;rw[decide_eq_false h];simp
theorem fits_0{s:Sg}{B:Bool}(hn:Lf s.v=0)(h:O4 s=B):Zv 224 #[s.val] w (.bool B):=by
 unfold O4 at h
 rw[hn,Og (show¬((0:Int)<0) by decide),Og (show¬((1:Int)<0) by decide),Og (show¬((2:Int)<0) by decide)]at h
 refine K0.enter Tryz.func224 rfl <| ZR <| K0.make (Li (185) 3 #[(0,pt s.ax s.ay),(1,pt s.bx s.by_),(2,pt s.cx s.cy)]) (Kg 3) (Kd 57 #[Zi s.ax,Zi s.ay,Zi s.bx,Zi s.by_,Zi s.cx,Zi s.cy]) Zk (fun w1 hw h=>Ke Zk) fun g=>ZR <| K0.un Zk <| ZR <| K0.drop 4 Zk fun _=>ZI true <| ZA (Ku 185 (Kg 3 g) (0:Nat)) (Zq g (0*2)) (fun w1 hw h=>Kq (elem:=57) Zk Zk Zd) <| ZA (Kt 57 ⟨g,0*2,none⟩) (pt s.ax s.ay) (fun w1 hw h=>R9 h.2 (fun j v hj=>by rcases j with _|_|j<;>simp at hj ⊢ <;>exact hj)) ?_
 cases hv0:La s.ax s.ay with
 |false=>
  obtain rfl:B=false:=by rw[←h,hv0];simp
  exact ZC (fun w1 hw h=>Mu hv0) fun u=>ZI true <| ZW Zf
 |true=>
 rw[hv0]at h
 refine ZC (fun w1 hw h=>Mu hv0) fun u=>ZD 12 (fun w1 hw h=>Mv hn) fun u=> ?_
 cases hz0:(s.ax==0&&s.ay==0)with
 |false=>
  obtain rfl:B=false:=by rw[←h,hz0];simp
  exact ZA (neP 57 (.tmp 28) (.tmp 29) (pt s.ax s.ay) (pt 0 0)) Zt (fun w1 hw h=>by rw[M0,hz0];rfl) <| ZI true <| ZW Zf
 |true=>
 rw[hz0]at h
 refine ZA (neP 57 (.tmp 28) (.tmp 29) (pt s.ax s.ay) (pt 0 0)) Zf (fun w1 hw h=>by rw[M0,hz0];rfl) <| ZI false <| K0.drop 4 Zk fun _=>ZI true <| ZA (Ku 185 (Kg 3 g) (1:Nat)) (Zq g (1*2)) (fun w1 hw h=>Kq (elem:=57) Zk Zk Zd) <| ZA (Kt 57 ⟨g,1*2,none⟩) (pt s.bx s.by_) (fun w1 hw h=>R9 h.1.1.2 (fun j v hj=>by rcases j with _|_|j<;>simp at hj ⊢ <;>exact hj)) ?_
 cases hv1:La s.bx s.by_ with
 |false=>
  obtain rfl:B=false:=by rw[←h,hv1];simp
  exact ZC (fun w1 hw h=>Mu hv1) fun u=>ZI true <| ZW Zf
 |true=>
 rw[hv1]at h
 refine ZC (fun w1 hw h=>Mu hv1) fun u=>ZD 12 (fun w1 hw h=>Mv hn) fun u=> ?_
 cases hz1:(s.bx==0&&s.by_==0)with
 |false=>
  obtain rfl:B=false:=by rw[←h,hz1];simp
  exact ZA (neP 57 (.tmp 28) (.tmp 29) (pt s.bx s.by_) (pt 0 0)) Zt (fun w1 hw h=>by rw[M0,hz1];rfl) <| ZI true <| ZW Zf
 |true=>
 rw[hz1]at h
 refine ZA (neP 57 (.tmp 28) (.tmp 29) (pt s.bx s.by_) (pt 0 0)) Zf (fun w1 hw h=>by rw[M0,hz1];rfl) <| ZI false <| K0.drop 4 Zk fun _=>ZI true <| ZA (Ku 185 (Kg 3 g) (2:Nat)) (Zq g (2*2)) (fun w1 hw h=>Kq (elem:=57) Zk Zk Zd) <| ZA (Kt 57 ⟨g,2*2,none⟩) (pt s.cx s.cy) (fun w1 hw h=>R9 h.1.1.1.1.2 (fun j v hj=>by rcases j with _|_|j<;>simp at hj ⊢ <;>exact hj)) ?_
 cases hv2:La s.cx s.cy with
 |false=>
  obtain rfl:B=false:=by rw[←h,hv2];simp
  exact ZC (fun w1 hw h=>Mu hv2) fun u=>ZI true <| ZW Zf
 |true=>
 rw[hv2]at h
 refine ZC (fun w1 hw h=>Mu hv2) fun u=>ZD 12 (fun w1 hw h=>Mv hn) fun u=> ?_
 cases hz2:(s.cx==0&&s.cy==0)with
 |false=>
  obtain rfl:B=false:=by rw[←h,hz2];simp
  exact ZA (neP 57 (.tmp 28) (.tmp 29) (pt s.cx s.cy) (pt 0 0)) Zt (fun w1 hw h=>by rw[M0,hz2];rfl) <| ZI true <| ZW Zf
 |true=>
 rw[hz2]at h
 refine ZA (neP 57 (.tmp 28) (.tmp 29) (pt s.cx s.cy) (pt 0 0)) Zf (fun w1 hw h=>by rw[M0,hz2];rfl) <| ZI false ?_
 obtain rfl:B=true:=by rw[←h];rfl
 exact ZI false <| ZW Zt
theorem fits_1{s:Sg}{B:Bool}(hn:Lf s.v=1)(h:O4 s=B):Zv 224 #[s.val] w (.bool B):=by
 unfold O4 at h
 rw[hn,Q3 (show(0:Int)<1 by decide),Og (show¬((1:Int)<1) by decide),Og (show¬((2:Int)<1) by decide)]at h
 refine K0.enter Tryz.func224 rfl <| ZR <| K0.make (Li (185) 3 #[(0,pt s.ax s.ay),(1,pt s.bx s.by_),(2,pt s.cx s.cy)]) (Kg 3) (Kd 57 #[Zi s.ax,Zi s.ay,Zi s.bx,Zi s.by_,Zi s.cx,Zi s.cy]) Zk (fun w1 hw h=>Ke Zk) fun g=>ZR <| K0.un Zk <| ZR <| K0.drop 4 Zk fun _=>ZI true <| ZA (Ku 185 (Kg 3 g) (0:Nat)) (Zq g (0*2)) (fun w1 hw h=>Kq (elem:=57) Zk Zk Zd) <| ZA (Kt 57 ⟨g,0*2,none⟩) (pt s.ax s.ay) (fun w1 hw h=>R9 h.2 (fun j v hj=>by rcases j with _|_|j<;>simp at hj ⊢ <;>exact hj)) ?_
 cases hv0:La s.ax s.ay with
 |false=>
  obtain rfl:B=false:=by rw[←h,hv0];simp
  exact ZC (fun w1 hw h=>Mu hv0) fun u=>ZI true <| ZW Zf
 |true=>
 rw[hv0]at h
 refine ZC (fun w1 hw h=>Mu hv0) fun u=>ZC (fun w1 hw h=>Mv hn) fun u=>ZI false <| K0.drop 4 Zk fun _=>ZI true <| ZA (Ku 185 (Kg 3 g) (1:Nat)) (Zq g (1*2)) (fun w1 hw h=>Kq (elem:=57) Zk Zk Zd) <| ZA (Kt 57 ⟨g,1*2,none⟩) (pt s.bx s.by_) (fun w1 hw h=>R9 h.1.1.2 (fun j v hj=>by rcases j with _|_|j<;>simp at hj ⊢ <;>exact hj)) ?_
 cases hv1:La s.bx s.by_ with
 |false=>
  obtain rfl:B=false:=by rw[←h,hv1];simp
  exact ZC (fun w1 hw h=>Mu hv1) fun u=>ZI true <| ZW Zf
 |true=>
 rw[hv1]at h
 refine ZC (fun w1 hw h=>Mu hv1) fun u=>ZD 12 (fun w1 hw h=>Mv hn) fun u=> ?_
 cases hz1:(s.bx==0&&s.by_==0)with
 |false=>
  obtain rfl:B=false:=by rw[←h,hz1];simp
  exact ZA (neP 57 (.tmp 28) (.tmp 29) (pt s.bx s.by_) (pt 0 0)) Zt (fun w1 hw h=>by rw[M0,hz1];rfl) <| ZI true <| ZW Zf
 |true=>
 rw[hz1]at h
 refine ZA (neP 57 (.tmp 28) (.tmp 29) (pt s.bx s.by_) (pt 0 0)) Zf (fun w1 hw h=>by rw[M0,hz1];rfl) <| ZI false <| K0.drop 4 Zk fun _=>ZI true <| ZA (Ku 185 (Kg 3 g) (2:Nat)) (Zq g (2*2)) (fun w1 hw h=>Kq (elem:=57) Zk Zk Zd) <| ZA (Kt 57 ⟨g,2*2,none⟩) (pt s.cx s.cy) (fun w1 hw h=>R9 h.1.1.1.1.2 (fun j v hj=>by rcases j with _|_|j<;>simp at hj ⊢ <;>exact hj)) ?_
 cases hv2:La s.cx s.cy with
 |false=>
  obtain rfl:B=false:=by rw[←h,hv2];simp
  exact ZC (fun w1 hw h=>Mu hv2) fun u=>ZI true <| ZW Zf
 |true=>
 rw[hv2]at h
 refine ZC (fun w1 hw h=>Mu hv2) fun u=>ZD 12 (fun w1 hw h=>Mv hn) fun u=> ?_
 cases hz2:(s.cx==0&&s.cy==0)with
 |false=>
  obtain rfl:B=false:=by rw[←h,hz2];simp
  exact ZA (neP 57 (.tmp 28) (.tmp 29) (pt s.cx s.cy) (pt 0 0)) Zt (fun w1 hw h=>by rw[M0,hz2];rfl) <| ZI true <| ZW Zf
 |true=>
 rw[hz2]at h
 refine ZA (neP 57 (.tmp 28) (.tmp 29) (pt s.cx s.cy) (pt 0 0)) Zf (fun w1 hw h=>by rw[M0,hz2];rfl) <| ZI false ?_
 obtain rfl:B=true:=by rw[←h];rfl
 exact ZI false <| ZW Zt
theorem fits_2{s:Sg}{B:Bool}(hn:Lf s.v=2)(h:O4 s=B):Zv 224 #[s.val] w (.bool B):=by
 unfold O4 at h
 rw[hn,Q3 (show(0:Int)<2 by decide),Q3 (show(1:Int)<2 by decide),Og (show¬((2:Int)<2) by decide)]at h
 refine K0.enter Tryz.func224 rfl <| ZR <| K0.make (Li (185) 3 #[(0,pt s.ax s.ay),(1,pt s.bx s.by_),(2,pt s.cx s.cy)]) (Kg 3) (Kd 57 #[Zi s.ax,Zi s.ay,Zi s.bx,Zi s.by_,Zi s.cx,Zi s.cy]) Zk (fun w1 hw h=>Ke Zk) fun g=>ZR <| K0.un Zk <| ZR <| K0.drop 4 Zk fun _=>ZI true <| ZA (Ku 185 (Kg 3 g) (0:Nat)) (Zq g (0*2)) (fun w1 hw h=>Kq (elem:=57) Zk Zk Zd) <| ZA (Kt 57 ⟨g,0*2,none⟩) (pt s.ax s.ay) (fun w1 hw h=>R9 h.2 (fun j v hj=>by rcases j with _|_|j<;>simp at hj ⊢ <;>exact hj)) ?_
 cases hv0:La s.ax s.ay with
 |false=>
  obtain rfl:B=false:=by rw[←h,hv0];simp
  exact ZC (fun w1 hw h=>Mu hv0) fun u=>ZI true <| ZW Zf
 |true=>
 rw[hv0]at h
 refine ZC (fun w1 hw h=>Mu hv0) fun u=>ZC (fun w1 hw h=>Mv hn) fun u=>ZI false <| K0.drop 4 Zk fun _=>ZI true <| ZA (Ku 185 (Kg 3 g) (1:Nat)) (Zq g (1*2)) (fun w1 hw h=>Kq (elem:=57) Zk Zk Zd) <| ZA (Kt 57 ⟨g,1*2,none⟩) (pt s.bx s.by_) (fun w1 hw h=>R9 h.1.1.2 (fun j v hj=>by rcases j with _|_|j<;>simp at hj ⊢ <;>exact hj)) ?_
 cases hv1:La s.bx s.by_ with
 |false=>
  obtain rfl:B=false:=by rw[←h,hv1];simp
  exact ZC (fun w1 hw h=>Mu hv1) fun u=>ZI true <| ZW Zf
 |true=>
 rw[hv1]at h
 refine ZC (fun w1 hw h=>Mu hv1) fun u=>ZC (fun w1 hw h=>Mv hn) fun u=>ZI false <| K0.drop 4 Zk fun _=>ZI true <| ZA (Ku 185 (Kg 3 g) (2:Nat)) (Zq g (2*2)) (fun w1 hw h=>Kq (elem:=57) Zk Zk Zd) <| ZA (Kt 57 ⟨g,2*2,none⟩) (pt s.cx s.cy) (fun w1 hw h=>R9 h.1.1.1.1.2 (fun j v hj=>by rcases j with _|_|j<;>simp at hj ⊢ <;>exact hj)) ?_
 cases hv2:La s.cx s.cy with
 |false=>
  obtain rfl:B=false:=by rw[←h,hv2];simp
  exact ZC (fun w1 hw h=>Mu hv2) fun u=>ZI true <| ZW Zf
 |true=>
 rw[hv2]at h
 refine ZC (fun w1 hw h=>Mu hv2) fun u=>ZD 12 (fun w1 hw h=>Mv hn) fun u=> ?_
 cases hz2:(s.cx==0&&s.cy==0)with
 |false=>
  obtain rfl:B=false:=by rw[←h,hz2];simp
  exact ZA (neP 57 (.tmp 28) (.tmp 29) (pt s.cx s.cy) (pt 0 0)) Zt (fun w1 hw h=>by rw[M0,hz2];rfl) <| ZI true <| ZW Zf
 |true=>
 rw[hz2]at h
 refine ZA (neP 57 (.tmp 28) (.tmp 29) (pt s.cx s.cy) (pt 0 0)) Zf (fun w1 hw h=>by rw[M0,hz2];rfl) <| ZI false ?_
 obtain rfl:B=true:=by rw[←h];rfl
 exact ZI false <| ZW Zt
theorem fits_3{s:Sg}{B:Bool}(hn:Lf s.v=3)(h:O4 s=B):Zv 224 #[s.val] w (.bool B):=by
 unfold O4 at h
 rw[hn,Q3 (show(0:Int)<3 by decide),Q3 (show(1:Int)<3 by decide),Q3 (show(2:Int)<3 by decide)]at h
 refine K0.enter Tryz.func224 rfl <| ZR <| K0.make (Li (185) 3 #[(0,pt s.ax s.ay),(1,pt s.bx s.by_),(2,pt s.cx s.cy)]) (Kg 3) (Kd 57 #[Zi s.ax,Zi s.ay,Zi s.bx,Zi s.by_,Zi s.cx,Zi s.cy]) Zk (fun w1 hw h=>Ke Zk) fun g=>ZR <| K0.un Zk <| ZR <| K0.drop 4 Zk fun _=>ZI true <| ZA (Ku 185 (Kg 3 g) (0:Nat)) (Zq g (0*2)) (fun w1 hw h=>Kq (elem:=57) Zk Zk Zd) <| ZA (Kt 57 ⟨g,0*2,none⟩) (pt s.ax s.ay) (fun w1 hw h=>R9 h.2 (fun j v hj=>by rcases j with _|_|j<;>simp at hj ⊢ <;>exact hj)) ?_
 cases hv0:La s.ax s.ay with
 |false=>
  obtain rfl:B=false:=by rw[←h,hv0];simp
  exact ZC (fun w1 hw h=>Mu hv0) fun u=>ZI true <| ZW Zf
 |true=>
 rw[hv0]at h
 refine ZC (fun w1 hw h=>Mu hv0) fun u=>ZC (fun w1 hw h=>Mv hn) fun u=>ZI false <| K0.drop 4 Zk fun _=>ZI true <| ZA (Ku 185 (Kg 3 g) (1:Nat)) (Zq g (1*2)) (fun w1 hw h=>Kq (elem:=57) Zk Zk Zd) <| ZA (Kt 57 ⟨g,1*2,none⟩) (pt s.bx s.by_) (fun w1 hw h=>R9 h.1.1.2 (fun j v hj=>by rcases j with _|_|j<;>simp at hj ⊢ <;>exact hj)) ?_
 cases hv1:La s.bx s.by_ with
 |false=>
  obtain rfl:B=false:=by rw[←h,hv1];simp
  exact ZC (fun w1 hw h=>Mu hv1) fun u=>ZI true <| ZW Zf
 |true=>
 rw[hv1]at h
 refine ZC (fun w1 hw h=>Mu hv1) fun u=>ZC (fun w1 hw h=>Mv hn) fun u=>ZI false <| K0.drop 4 Zk fun _=>ZI true <| ZA (Ku 185 (Kg 3 g) (2:Nat)) (Zq g (2*2)) (fun w1 hw h=>Kq (elem:=57) Zk Zk Zd) <| ZA (Kt 57 ⟨g,2*2,none⟩) (pt s.cx s.cy) (fun w1 hw h=>R9 h.1.1.1.1.2 (fun j v hj=>by rcases j with _|_|j<;>simp at hj ⊢ <;>exact hj)) ?_
 cases hv2:La s.cx s.cy with
 |false=>
  obtain rfl:B=false:=by rw[←h,hv2];simp
  exact ZC (fun w1 hw h=>Mu hv2) fun u=>ZI true <| ZW Zf
 |true=>
 rw[hv2]at h
 refine ZC (fun w1 hw h=>Mu hv2) fun u=>ZC (fun w1 hw h=>Mv hn) fun u=>ZI false ?_
 obtain rfl:B=true:=by rw[←h];rfl
 exact ZI false <| ZW Zt
end
section
variable{w:World}{A A2:Option Addr}{n n2 c c2:Nat}{ls ms:List Sg}
theorem chkL_ok{last:Int}{k:Nat}{s:Sg}{l:List Sg}(h:chkS last s=0):chkL last k (s::l)=chkL s.v (k+1) l:=by rw[chkL,if_pos h]
theorem Pt{last:Int}{k:Nat}{s:Sg}{l:List Sg}(h:chkS last s≠0):chkL last k (s::l)=(chkS last s,k):=by rw[chkL,if_neg h]
theorem chkS_arg{last:Int}{s:Sg}(h:Lf s.v= -1):chkS last s=2:=by unfold chkS;rw[h,if_pos Zd]
theorem Qn{last m:Int}{s:Sg}(h:Lf s.v=m)(hm:0≤m)(h2:My last s.v=false):chkS last s=10:=by unfold chkS;rw[h,if_neg Zo,if_pos h2]
theorem S7{last m:Int}{s:Sg}(h:Lf s.v=m)(hm:0≤m)(h2:My last s.v=true)(h3:O4 s=false):chkS last s=6:=by unfold chkS;rw[h,if_neg Zo,h2,if_neg Zd,if_pos h3]
theorem Tz{last m:Int}{s:Sg}(h:Lf s.v=m)(hm:0≤m)(h2:My last s.v=true)(h3:O4 s=true):chkS last s=0:=by unfold chkS;rw[h,if_neg Zo,h2,if_neg Zd,h3,if_neg Zd]
theorem sg_drop{ls:List Sg}{k:Nat}{s:Sg}(h:ls[k]? =some s):ls.drop k=s::ls.drop (k+1):=by
 obtain⟨h1,h2⟩:=List.getElem?_eq_some_iff.1 h
 rw[List.drop_eq_getElem_cons h1,h2]
theorem check_m{e:Int}{i:Nat}(hs:Rr w A n ls)(hn:n≤1000000)(h:chk ls=(e,i)):Zv 177 #[.slice A n c] w (.tuple #[Zi e,Zi i]):=by
 have hln:=hs.1
 by_cases hbig:256<ls.length
 ·have hch:chk ls=(5,256):=if_pos hbig
  rw[hch]at h
  obtain⟨rfl,rfl⟩:=Prod.mk.inj h
  exact K0.enter Tryz.func177 rfl <| ZR <| ZJ (decide ((n:Int)>256)) true Zp <| ZW (.tuple #[Zi 5,Zi 256])
 have hch:chk ls=chkL 5 0 ls:=if_neg hbig
 rw[hch]at h
 refine K0.enter Tryz.func177 rfl <| ZR <| ZJ (decide ((n:Int)>256)) false Zp <| K0.loop (ι:={q:Nat×Int // q.1≤n∧chkL 5 0 ls=chkL q.2 q.1 (ls.drop q.1)∧(1≤q.2∧q.2≤5)}) 52 (fun q=>⟨[(4,.v (Zi q.1.2)),(11,.v (.slice A n c)),(12,.v (Zi n)),(13,.v (Zi q.1.1))],[]⟩) (fun _ _=>True) (fun q=>n-q.1.1) (⟨(0,5),Nat.zero_le _,rfl,by decide⟩) Zk (fun _=>by kernel_rfl) ⟨Zk,Zk,Zk⟩ (fun _ _=>trivial) ?_
 rintro⟨⟨k,last⟩,hk⟩ g
 have hk1:k≤n:=hk.1
 have hk2:chkL 5 0 ls=chkL last k (ls.drop k):=hk.2.1
 have hk3:1≤last∧last≤5:=hk.2.2
 by_cases hlt:k<n
 case neg=>
  rw[hk2,List.drop_of_length_le Zo]at h
  obtain⟨rfl,rfl⟩:=Prod.mk.inj h
  exact ZR <| ZJ (decide ((k:Int)<(n:Int))) false Zp <| K0.leave Zk <| ZR <| ZW (.tuple #[Zi 0,Zi 0])
 obtain⟨s,hsk⟩:∃s,ls[k]? =some s:=⟨_,List.getElem?_eq_getElem Zo⟩
 obtain⟨ad,hA,hc⟩:=hs.2 k s hsk
 rw[hk2,sg_drop hsk]at h
 rw[sg_drop hsk]at hk2
 refine ZR <| ZJ (decide ((k:Int)<(n:Int))) true Zp <| ZA (Ku 43 (.slice A n c) k) (.pointer (some (ad.add (k*7)))) (fun w1 hw h=>Tj hA hlt) ?_
 obtain⟨v,ax,ay,bx,by_,cx,cy⟩:=s
 rcases named_cases v with rfl|rfl|rfl|rfl|rfl|hv
 ·have hst:My last 1=true:=rfl
  refine K0.ask (Kt 150 (ad.add (k*7))) (Sg.val ⟨1,ax,ay,bx,by_,cx,cy⟩) Zk (fun w1 hw h=>Z9 fun j u hj=>Lr hw (hc j u hj)) <| ZS 6 <| ZR <| ZC (fun w1 hw h=>Mv (v:=1) (r:=1) rfl) fun u=>ZI false <| ZI false ?_
  cases hf:O4 ⟨1,ax,ay,bx,by_,cx,cy⟩with
  |true=>
   have hz:=Tz (s:=⟨1,ax,ay,bx,by_,cx,cy⟩) (m:=1) rfl Zd hst hf
   rw[chkL_ok hz]at hk2
   refine ZC (fun w1 hw h=>fits_1 (s:=⟨1,ax,ay,bx,by_,cx,cy⟩) rfl hf) fun u=>ZI false <| K0.slot 13 (Zi (IntKind.i64.wrap ((k:Int)+1))) (Zi ((k+1:Nat):Int)) Zk (by rw[Ki hlt Zo]) <| K0.next (⟨(k+1,1),by show k+1≤n;omega,hk2,by show(1:Int)≤1∧((1:Int)≤5);decide⟩) Zk (by show n- (k+1)<n-k;omega) ⟨Zk,Zk,Zk⟩ (fun _ _=>trivial)
  |false=>
   have hz:=S7 (s:=⟨1,ax,ay,bx,by_,cx,cy⟩) (m:=1) rfl Zd hst hf
   rw[Pt (by rw[hz];decide),hz]at h
   obtain⟨rfl,rfl⟩:=Prod.mk.inj h
   exact ZC (fun w1 hw h=>fits_1 (s:=⟨1,ax,ay,bx,by_,cx,cy⟩) rfl hf) fun u=>ZI true <| K0.leave Zk <| ZR <| ZW (.tuple #[Zi 6,Zi k])
 ·refine K0.ask (Kt 150 (ad.add (k*7))) (Sg.val ⟨2,ax,ay,bx,by_,cx,cy⟩) Zk (fun w1 hw h=>Z9 fun j u hj=>Lr hw (hc j u hj)) <| ZS 6 ?_
  by_cases hl:last=5
  ·have hst:My last 2=false:=by rw[hl];rfl
   refine ZT 23 (.bool (last !=5)) Zf Zp ?_
   have hz:=Qn (s:=⟨2,ax,ay,bx,by_,cx,cy⟩) (m:=1) rfl Zd hst
   rw[Pt (by rw[hz];decide),hz]at h
   obtain⟨rfl,rfl⟩:=Prod.mk.inj h
   exact ZC (fun w1 hw h=>Mv (v:=2) (r:=1) rfl) fun u=>ZI false <| ZI true <| K0.leave Zk <| ZR <| ZW (.tuple #[Zi 10,Zi k])
  ·have hst:My last 2=true:=by unfold My;simp[hl]
   refine ZT 23 (.bool (last !=5)) Zt Zp <| ZC (fun w1 hw h=>Mv (v:=2) (r:=1) rfl) fun u=>ZI false <| ZI false ?_
   cases hf:O4 ⟨2,ax,ay,bx,by_,cx,cy⟩with
   |true=>
    have hz:=Tz (s:=⟨2,ax,ay,bx,by_,cx,cy⟩) (m:=1) rfl Zd hst hf
    rw[chkL_ok hz]at hk2
    refine ZC (fun w1 hw h=>fits_1 (s:=⟨2,ax,ay,bx,by_,cx,cy⟩) rfl hf) fun u=>ZI false <| K0.slot 13 (Zi (IntKind.i64.wrap ((k:Int)+1))) (Zi ((k+1:Nat):Int)) Zk (by rw[Ki hlt Zo]) <| K0.next (⟨(k+1,2),by show k+1≤n;omega,hk2,by show(1:Int)≤2∧((2:Int)≤5);decide⟩) Zk (by show n- (k+1)<n-k;omega) ⟨Zk,Zk,Zk⟩ (fun _ _=>trivial)
   |false=>
    have hz:=S7 (s:=⟨2,ax,ay,bx,by_,cx,cy⟩) (m:=1) rfl Zd hst hf
    rw[Pt (by rw[hz];decide),hz]at h
    obtain⟨rfl,rfl⟩:=Prod.mk.inj h
    exact ZC (fun w1 hw h=>fits_1 (s:=⟨2,ax,ay,bx,by_,cx,cy⟩) rfl hf) fun u=>ZI true <| K0.leave Zk <| ZR <| ZW (.tuple #[Zi 6,Zi k])
 ·refine K0.ask (Kt 150 (ad.add (k*7))) (Sg.val ⟨3,ax,ay,bx,by_,cx,cy⟩) Zk (fun w1 hw h=>Z9 fun j u hj=>Lr hw (hc j u hj)) <| ZS 6 ?_
  by_cases hl:last=5
  ·have hst:My last 3=false:=by rw[hl];rfl
   refine ZT 23 (.bool (last !=5)) Zf Zp ?_
   have hz:=Qn (s:=⟨3,ax,ay,bx,by_,cx,cy⟩) (m:=2) rfl Zd hst
   rw[Pt (by rw[hz];decide),hz]at h
   obtain⟨rfl,rfl⟩:=Prod.mk.inj h
   exact ZC (fun w1 hw h=>Mv (v:=3) (r:=2) rfl) fun u=>ZI false <| ZI true <| K0.leave Zk <| ZR <| ZW (.tuple #[Zi 10,Zi k])
  ·have hst:My last 3=true:=by unfold My;simp[hl]
   refine ZT 23 (.bool (last !=5)) Zt Zp <| ZC (fun w1 hw h=>Mv (v:=3) (r:=2) rfl) fun u=>ZI false <| ZI false ?_
   cases hf:O4 ⟨3,ax,ay,bx,by_,cx,cy⟩with
   |true=>
    have hz:=Tz (s:=⟨3,ax,ay,bx,by_,cx,cy⟩) (m:=2) rfl Zd hst hf
    rw[chkL_ok hz]at hk2
    refine ZC (fun w1 hw h=>fits_2 (s:=⟨3,ax,ay,bx,by_,cx,cy⟩) rfl hf) fun u=>ZI false <| K0.slot 13 (Zi (IntKind.i64.wrap ((k:Int)+1))) (Zi ((k+1:Nat):Int)) Zk (by rw[Ki hlt Zo]) <| K0.next (⟨(k+1,3),by show k+1≤n;omega,hk2,by show(1:Int)≤3∧((3:Int)≤5);decide⟩) Zk (by show n- (k+1)<n-k;omega) ⟨Zk,Zk,Zk⟩ (fun _ _=>trivial)
   |false=>
    have hz:=S7 (s:=⟨3,ax,ay,bx,by_,cx,cy⟩) (m:=2) rfl Zd hst hf
    rw[Pt (by rw[hz];decide),hz]at h
    obtain⟨rfl,rfl⟩:=Prod.mk.inj h
    exact ZC (fun w1 hw h=>fits_2 (s:=⟨3,ax,ay,bx,by_,cx,cy⟩) rfl hf) fun u=>ZI true <| K0.leave Zk <| ZR <| ZW (.tuple #[Zi 6,Zi k])
 ·refine K0.ask (Kt 150 (ad.add (k*7))) (Sg.val ⟨4,ax,ay,bx,by_,cx,cy⟩) Zk (fun w1 hw h=>Z9 fun j u hj=>Lr hw (hc j u hj)) <| ZS 6 ?_
  by_cases hl:last=5
  ·have hst:My last 4=false:=by rw[hl];rfl
   refine ZT 23 (.bool (last !=5)) Zf Zp ?_
   have hz:=Qn (s:=⟨4,ax,ay,bx,by_,cx,cy⟩) (m:=3) rfl Zd hst
   rw[Pt (by rw[hz];decide),hz]at h
   obtain⟨rfl,rfl⟩:=Prod.mk.inj h
   exact ZC (fun w1 hw h=>Mv (v:=4) (r:=3) rfl) fun u=>ZI false <| ZI true <| K0.leave Zk <| ZR <| ZW (.tuple #[Zi 10,Zi k])
  ·have hst:My last 4=true:=by unfold My;simp[hl]
   refine ZT 23 (.bool (last !=5)) Zt Zp <| ZC (fun w1 hw h=>Mv (v:=4) (r:=3) rfl) fun u=>ZI false <| ZI false ?_
   cases hf:O4 ⟨4,ax,ay,bx,by_,cx,cy⟩with
   |true=>
    have hz:=Tz (s:=⟨4,ax,ay,bx,by_,cx,cy⟩) (m:=3) rfl Zd hst hf
    rw[chkL_ok hz]at hk2
    refine ZC (fun w1 hw h=>fits_3 (s:=⟨4,ax,ay,bx,by_,cx,cy⟩) rfl hf) fun u=>ZI false <| K0.slot 13 (Zi (IntKind.i64.wrap ((k:Int)+1))) (Zi ((k+1:Nat):Int)) Zk (by rw[Ki hlt Zo]) <| K0.next (⟨(k+1,4),by show k+1≤n;omega,hk2,by show(1:Int)≤4∧((4:Int)≤5);decide⟩) Zk (by show n- (k+1)<n-k;omega) ⟨Zk,Zk,Zk⟩ (fun _ _=>trivial)
   |false=>
    have hz:=S7 (s:=⟨4,ax,ay,bx,by_,cx,cy⟩) (m:=3) rfl Zd hst hf
    rw[Pt (by rw[hz];decide),hz]at h
    obtain⟨rfl,rfl⟩:=Prod.mk.inj h
    exact ZC (fun w1 hw h=>fits_3 (s:=⟨4,ax,ay,bx,by_,cx,cy⟩) rfl hf) fun u=>ZI true <| K0.leave Zk <| ZR <| ZW (.tuple #[Zi 6,Zi k])
 ·refine K0.ask (Kt 150 (ad.add (k*7))) (Sg.val ⟨5,ax,ay,bx,by_,cx,cy⟩) Zk (fun w1 hw h=>Z9 fun j u hj=>Lr hw (hc j u hj)) <| ZS 6 ?_
  by_cases hl:last=5
  ·have hst:My last 5=false:=by rw[hl];rfl
   refine ZT 23 (.bool (last !=5)) Zf Zp ?_
   have hz:=Qn (s:=⟨5,ax,ay,bx,by_,cx,cy⟩) (m:=0) rfl Zd hst
   rw[Pt (by rw[hz];decide),hz]at h
   obtain⟨rfl,rfl⟩:=Prod.mk.inj h
   exact ZC (fun w1 hw h=>Mv (v:=5) (r:=0) rfl) fun u=>ZI false <| ZI true <| K0.leave Zk <| ZR <| ZW (.tuple #[Zi 10,Zi k])
  ·refine K0.slot 23 (.bool (last !=5)) Zt Zk Zp <| ZS 13 ?_
   by_cases hl1:last=1
   ·have hst:My last 5=false:=by rw[hl1];rfl
    refine ZT 30 (.bool (last !=1)) Zf Zp ?_
    have hz:=Qn (s:=⟨5,ax,ay,bx,by_,cx,cy⟩) (m:=0) rfl Zd hst
    rw[Pt (by rw[hz];decide),hz]at h
    obtain⟨rfl,rfl⟩:=Prod.mk.inj h
    exact ZC (fun w1 hw h=>Mv (v:=5) (r:=0) rfl) fun u=>ZI false <| ZI true <| K0.leave Zk <| ZR <| ZW (.tuple #[Zi 10,Zi k])
   ·have hst:My last 5=true:=by unfold My;simp[hl,hl1]
    refine ZT 30 (.bool (last !=1)) Zt Zp <| ZC (fun w1 hw h=>Mv (v:=5) (r:=0) rfl) fun u=>ZI false <| ZI false ?_
    cases hf:O4 ⟨5,ax,ay,bx,by_,cx,cy⟩with
    |true=>
     have hz:=Tz (s:=⟨5,ax,ay,bx,by_,cx,cy⟩) (m:=0) rfl Zd hst hf
     rw[chkL_ok hz]at hk2
     refine ZC (fun w1 hw h=>fits_0 (s:=⟨5,ax,ay,bx,by_,cx,cy⟩) rfl hf) fun u=>ZI false <| K0.slot 13 (Zi (IntKind.i64.wrap ((k:Int)+1))) (Zi ((k+1:Nat):Int)) Zk (by rw[Ki hlt Zo]) <| K0.next (⟨(k+1,5),by show k+1≤n;omega,hk2,by show(1:Int)≤5∧((5:Int)≤5);decide⟩) Zk (by show n- (k+1)<n-k;omega) ⟨Zk,Zk,Zk⟩ (fun _ _=>trivial)
    |false=>
     have hz:=S7 (s:=⟨5,ax,ay,bx,by_,cx,cy⟩) (m:=0) rfl Zd hst hf
     rw[Pt (by rw[hz];decide),hz]at h
     obtain⟨rfl,rfl⟩:=Prod.mk.inj h
     exact ZC (fun w1 hw h=>fits_0 (s:=⟨5,ax,ay,bx,by_,cx,cy⟩) rfl hf) fun u=>ZI true <| K0.leave Zk <| ZR <| ZW (.tuple #[Zi 6,Zi k])
 ·have hz:=chkS_arg (last:=last) (s:=⟨v,ax,ay,bx,by_,cx,cy⟩) (Ri hv)
  rw[Pt (by rw[hz];decide),hz]at h
  obtain⟨rfl,rfl⟩:=Prod.mk.inj h
  refine K0.ask (Kt 150 (ad.add (k*7))) (Sg.val ⟨v,ax,ay,bx,by_,cx,cy⟩) Zk (fun w1 hw h=>Z9 fun j u hj=>Lr hw (hc j u hj)) <| ZS 3 <| K0.run Zk (stop:=1000) 3 _ <| ZS 3 <| K0.slot 20 (.bool (v==1)) Zf Zk Zp <| ZS 6 ?_
  by_cases hl:last=5
  ·exact ZT 23 (.bool (last !=5)) Zf Zp <| ZC (fun w1 hw h=>Mv (v:=v) (r:= -1) (Ri hv)) fun u=>ZI true <| K0.leave Zk <| ZR <| ZW (.tuple #[Zi 2,Zi k])
  ·exact K0.slot 23 (.bool (last !=5)) Zt Zk Zp <| ZS 10 <| ZT 27 (.bool (v !=5)) Zt Zp <| ZC (fun w1 hw h=>Mv (v:=v) (r:= -1) (Ri hv)) fun u=>ZI true <| K0.leave Zk <| ZR <| ZW (.tuple #[Zi 2,Zi k])
theorem validL_m{B:Bool}(hs:Rr w A n ls)(hn:n≤1000000)(hB:decide ((chk ls).1=0)=B):Zv 118 #[.slice A n c] w (.bool B):=by
 obtain⟨e,i,he⟩:∃e i,chk ls=(e,i):=⟨_,_,rfl⟩
 rw[he]at hB
 exact K0.enter Tryz.func118 rfl <| ZR <| ZC (fun w1 hw h=>check_m (c:=c) (hs.below hw) hn he) fun u=>ZX (.bool (e==0)) (by rw[←hB];rfl)
end
def Ug(ls:List Sg):Nat→Int
 |0=>5
 |k+1=>(ls[k]?.map (·.v)).getD 5
theorem lastAt_succ{ls:List Sg}{k:Nat}{p:Sg}(h:ls[k]? =some p):Ug ls (k+1)=p.v:=by simp[Ug,h]
section
variable{w:World}{A A2:Option Addr}{n n2 c c2 k:Nat}{ls ms:List Sg}{s:Sg}
theorem stand5(v:Int):My 5 v=(v==1):=by unfold My;simp
theorem stand_no{last v:Int}(h:last≠5)(h2:v≠5):My last v=true:=by unfold My;simp[h,h2]
theorem stand_end{last:Int}(h:last≠5):My last 5=(last !=1):=by unfold My;simp[h]
theorem Rh{B:Bool}(hs:Rr w A n ls)(hn:n≤1000000)(hsk:ls[k]? =some s)(hB:My (Ug ls k) s.v=B):Zv 268 #[.slice A n c,Zi k] w (.bool B):=by
 have hln:=hs.1
 have hlt:=(List.getElem?_eq_some_iff.1 hsk).1
 obtain⟨ad,hA,hc⟩:=hs.2 k s hsk
 refine K0.enter Tryz.func268 rfl ?_
 cases k with
 |zero=>
  rw[show Ug ls 0=5 from rfl,stand5]at hB
  exact ZR <| ZI true <| K0.ask (Ku 43 (.slice A n c) (0:Nat)) (.pointer (some (ad.add ((0:Nat)*7)))) Zk (fun w1 hw h=>Tj hA Zo) <| ZS 3 <| ZA (Rp 150 (ad.add ((0:Nat)*7)) 0) (.pointer (some ((ad.add ((0:Nat)*7)).add 0))) (fun w1 hw h=>Mi (d:=0) Zk) <| ZA (Kt 3 ((ad.add ((0:Nat)*7)).add 0)) (Zi s.v) (fun w1 hw h=>K6 Zk (Lr hw (hc 0 _ rfl))) <| ZX (.bool (s.v==1)) (by rw[hB])
 | succ k=>
  obtain⟨p,hp⟩:∃p,ls[k]? =some p:=⟨_,List.getElem?_eq_getElem Zo⟩
  obtain⟨ap,hAp,hcp⟩:=hs.2 k p hp
  rw[lastAt_succ hp]at hB
  refine ZS 2 <| K0.slot 6 (.bool (((k+1:Nat):Int)==0)) Zf Zk Zp <| ZS 6 <| K0.slot 10 (Zi (IntKind.i64.wrap (((k+1:Nat):Int)-1))) (Zi (k:Nat)) Zk (by rw[IntWalk.i64_in _ Zo];congr 1;omega) <| K0.ask (Ku 43 (.slice A n c) k) (.pointer (some (ap.add (k*7)))) Zk (fun w1 hw h=>Tj hAp Zo) <| ZS 7 <| ZA (Rp 150 (ap.add (k*7)) 0) (.pointer (some ((ap.add (k*7)).add 0))) (fun w1 hw h=>Mi (d:=0) Zk) <| ZA (Kt 3 ((ap.add (k*7)).add 0)) (Zi p.v) (fun w1 hw h=>K6 Zk (Lr hw (hcp 0 _ rfl))) ?_
  by_cases h5:p.v=5
  ·rw[h5,stand5]at hB
   exact ZJ ((p.v==5)) true (by simp[h5]) <| K0.ask (Ku 43 (.slice A n c) (k+1:Nat)) (.pointer (some (ad.add ((k+1:Nat)*7)))) Zk (fun w1 hw h=>Tj hA Zo) <| ZS 3 <| ZA (Rp 150 (ad.add ((k+1:Nat)*7)) 0) (.pointer (some ((ad.add ((k+1:Nat)*7)).add 0))) (fun w1 hw h=>Mi (d:=0) Zk) <| ZA (Kt 3 ((ad.add ((k+1:Nat)*7)).add 0)) (Zi s.v) (fun w1 hw h=>K6 Zk (Lr hw (hc 0 _ rfl))) <| ZX (.bool (s.v==1)) (by rw[hB])
  ·refine ZJ ((p.v==5)) false (by simp[h5]) <| K0.ask (Ku 43 (.slice A n c) (k+1:Nat)) (.pointer (some (ad.add ((k+1:Nat)*7)))) Zk (fun w1 hw h=>Tj hA Zo) <| ZS 3 <| ZA (Rp 150 (ad.add ((k+1:Nat)*7)) 0) (.pointer (some ((ad.add ((k+1:Nat)*7)).add 0))) (fun w1 hw h=>Mi (d:=0) Zk) <| K0.ask (Kt 3 ((ad.add ((k+1:Nat)*7)).add 0)) (Zi s.v) Zk (fun w1 hw h=>K6 Zk (Lr hw (hc 0 _ rfl))) <| ZS 6 ?_
   by_cases h6:s.v=5
   ·rw[h6,stand_end h5]at hB
    exact K0.slot 27 (.bool (s.v !=5)) Zf Zk (by simp[h6]) <| ZS 10 <| K0.slot 31 (Zi (IntKind.i64.wrap (((k+1:Nat):Int)-1))) (Zi (k:Nat)) Zk (by rw[IntWalk.i64_in _ Zo];congr 1;omega) <| K0.ask (Ku 43 (.slice A n c) k) (.pointer (some (ap.add (k*7)))) Zk (fun w1 hw h=>Tj hAp Zo) <| ZS 11 <| ZA (Rp 150 (ap.add (k*7)) 0) (.pointer (some ((ap.add (k*7)).add 0))) (fun w1 hw h=>Mi (d:=0) Zk) <| ZA (Kt 3 ((ap.add (k*7)).add 0)) (Zi p.v) (fun w1 hw h=>K6 Zk (Lr hw (hcp 0 _ rfl))) <| ZX (.bool (p.v !=1)) (by rw[hB])
   ·rw[stand_no h5 h6]at hB
    subst hB
    exact ZT 27 (.bool (s.v !=5)) Zt (by simp[h6]) <| ZW Zt
theorem three_m:Zv 269 #[s.val] w (.agg #[Zi s.ax,Zi s.ay,Zi s.bx,Zi s.by_,Zi s.cx,Zi s.cy]):=by
 exact K0.enter Tryz.func269 rfl <| ZR <| ZW (.agg #[Zi s.ax,Zi s.ay,Zi s.bx,Zi s.by_,Zi s.cx,Zi s.cy])
theorem Ny{x y:Int}(h:(x==0&&y==0)=true):La x y=true:=by
 simp at h;obtain⟨rfl,rfl⟩:=h;rfl
theorem named_rng(v:Int):Lf v= -1∨Lf v=0∨Lf v=1∨Lf v=2∨Lf v=3:=by
 unfold Lf;split;omega;split;omega;split;omega;split;omega;omega
theorem wrong_m{e:Int}(hs:Rr w A n ls)(hn:n≤1000000)(hsk:ls[k]? =some s)(he:chkS (Ug ls k) s=e):Zv 231 #[.slice A n c,Zi k] w (Zi e):=by
 have hln:=hs.1
 have hlt:=(List.getElem?_eq_some_iff.1 hsk).1
 obtain⟨ad,hA,hc⟩:=hs.2 k s hsk
 refine K0.enter Tryz.func231 rfl <| ZR <| K0.ask (Ku 43 (.slice A n c) k) (.pointer (some (ad.add (k*7)))) Zk (fun w1 hw h=>Tj hA Zo) <| ZS 3 <| ZA (Rp 150 (ad.add (k*7)) 0) (.pointer (some ((ad.add (k*7)).add 0))) (fun w1 hw h=>Mi (d:=0) Zk) <| ZA (Kt 3 ((ad.add (k*7)).add 0)) (Zi s.v) (fun w1 hw h=>K6 Zk (Lr hw (hc 0 _ rfl))) ?_
 rcases named_rng s.v with hr|hr|hr|hr|hr
 ·obtain rfl:e=2:=he.symm.trans (chkS_arg hr)
  exact ZC (fun w1 hw h=>Rv hr) fun u=>ZI true <| ZW (Zi 2)
 ·cases hst:My (Ug ls k) s.v with
  |false=>
   obtain rfl:e=10:=he.symm.trans (Qn hr Zd hst)
   exact ZC (fun w1 hw h=>Rv hr) fun u=>ZI false <| ZC (fun w1 hw h=>Rh (c:=c) (hs.below hw) hn hsk hst) fun u=>ZI true <| ZW (Zi 10)
  | true=>
   refine ZC (fun w1 hw h=>Rv hr) fun u=>ZI false <| ZC (fun w1 hw h=>Rh (c:=c) (hs.below hw) hn hsk hst) fun u=>ZI false <| ZA (Ku 43 (.slice A n c) k) (.pointer (some (ad.add (k*7)))) (fun w1 hw h=>Tj hA Zo) <| ZA (Kt 150 (ad.add (k*7))) (s.val) (fun w1 hw h=>Z9 fun j u hj=>Lr hw (hc j u hj)) <| ZC (fun w1 hw h=>three_m (s:=s)) fun u=> ?_
   cases hf:O4 s with
   | false=>
    obtain rfl:e=6:=he.symm.trans (S7 hr Zd hst hf)
    unfold O4 at hf
    rw[hr,Og (show¬((0:Int)<0) by decide),Og (show¬((1:Int)<0) by decide),Og (show¬((2:Int)<0) by decide)]at hf
    refine K0.un Zk <| ZR <| K0.cond true Zk <| ZS 19 ?_
    cases hz0:(s.ax==0&&s.ay==0)with
    |false=>
     exact ZA (neP 57 (.tmp 46) (.tmp 47) (pt s.ax s.ay) (pt 0 0)) Zt (fun w1 hw h=>by rw[M0,hz0];rfl) <| ZI true <| ZW (Zi 6)
    |true=>
    have hv0:=Ny hz0
    rw[hz0,hv0]at hf
    refine ZA (neP 57 (.tmp 46) (.tmp 47) (pt s.ax s.ay) (pt 0 0)) Zf (fun w1 hw h=>by rw[M0,hz0];rfl) <| ZI false <| K0.cond true Zk <| ZS 19 ?_
    cases hz1:(s.bx==0&&s.by_==0)with
    |false=>
     exact ZA (neP 57 (.tmp 46) (.tmp 47) (pt s.bx s.by_) (pt 0 0)) Zt (fun w1 hw h=>by rw[M0,hz1];rfl) <| ZI true <| ZW (Zi 6)
    |true=>
    have hv1:=Ny hz1
    rw[hz1,hv1]at hf
    refine ZA (neP 57 (.tmp 46) (.tmp 47) (pt s.bx s.by_) (pt 0 0)) Zf (fun w1 hw h=>by rw[M0,hz1];rfl) <| ZI false <| K0.cond true Zk <| ZS 19 ?_
    cases hz2:(s.cx==0&&s.cy==0)with
    |false=>
     exact ZA (neP 57 (.tmp 46) (.tmp 47) (pt s.cx s.cy) (pt 0 0)) Zt (fun w1 hw h=>by rw[M0,hz2];rfl) <| ZI true <| ZW (Zi 6)
    |true=>
    have hv2:=Ny hz2
    rw[hz2,hv2]at hf
    refine ZA (neP 57 (.tmp 46) (.tmp 47) (pt s.cx s.cy) (pt 0 0)) Zf (fun w1 hw h=>by rw[M0,hz2];rfl) <| ZI false ?_
    simp at hf
   | true=>
    obtain rfl:e=0:=he.symm.trans (Tz hr Zd hst hf)
    unfold O4 at hf
    rw[hr,Og (show¬((0:Int)<0) by decide),Og (show¬((1:Int)<0) by decide),Og (show¬((2:Int)<0) by decide)]at hf
    refine K0.un Zk <| ZR <| K0.cond true Zk <| ZS 19 ?_
    cases hz0:(s.ax==0&&s.ay==0)with
    |false=>
     rw[hz0]at hf;simp at hf
    |true=>
    have hv0:=Ny hz0
    rw[hz0,hv0]at hf
    refine ZA (neP 57 (.tmp 46) (.tmp 47) (pt s.ax s.ay) (pt 0 0)) Zf (fun w1 hw h=>by rw[M0,hz0];rfl) <| ZI false <| K0.cond true Zk <| ZS 19 ?_
    cases hz1:(s.bx==0&&s.by_==0)with
    |false=>
     rw[hz1]at hf;simp at hf
    |true=>
    have hv1:=Ny hz1
    rw[hz1,hv1]at hf
    refine ZA (neP 57 (.tmp 46) (.tmp 47) (pt s.bx s.by_) (pt 0 0)) Zf (fun w1 hw h=>by rw[M0,hz1];rfl) <| ZI false <| K0.cond true Zk <| ZS 19 ?_
    cases hz2:(s.cx==0&&s.cy==0)with
    |false=>
     rw[hz2]at hf;simp at hf
    |true=>
    have hv2:=Ny hz2
    rw[hz2,hv2]at hf
    exact ZA (neP 57 (.tmp 46) (.tmp 47) (pt s.cx s.cy) (pt 0 0)) Zf (fun w1 hw h=>by rw[M0,hz2];rfl) <| ZI false <| ZI false <| ZW (Zi 0)
 ·cases hst:My (Ug ls k) s.v with
  |false=>
   obtain rfl:e=10:=he.symm.trans (Qn hr Zd hst)
   exact ZC (fun w1 hw h=>Rv hr) fun u=>ZI false <| ZC (fun w1 hw h=>Rh (c:=c) (hs.below hw) hn hsk hst) fun u=>ZI true <| ZW (Zi 10)
  | true=>
   refine ZC (fun w1 hw h=>Rv hr) fun u=>ZI false <| ZC (fun w1 hw h=>Rh (c:=c) (hs.below hw) hn hsk hst) fun u=>ZI false <| ZA (Ku 43 (.slice A n c) k) (.pointer (some (ad.add (k*7)))) (fun w1 hw h=>Tj hA Zo) <| ZA (Kt 150 (ad.add (k*7))) (s.val) (fun w1 hw h=>Z9 fun j u hj=>Lr hw (hc j u hj)) <| ZC (fun w1 hw h=>three_m (s:=s)) fun u=> ?_
   cases hf:O4 s with
   | false=>
    obtain rfl:e=6:=he.symm.trans (S7 hr Zd hst hf)
    unfold O4 at hf
    rw[hr,Q3 (show(0:Int)<1 by decide),Og (show¬((1:Int)<1) by decide),Og (show¬((2:Int)<1) by decide)]at hf
    refine K0.un Zk <| ZR <| ZI true ?_
    cases hv0:La s.ax s.ay with
    |false=>
     exact ZC (fun w1 hw h=>N9 hv0) fun u=>ZI true <| ZW (Zi 6)
    |true=>
    rw[hv0]at hf
    refine ZC (fun w1 hw h=>N9 hv0) fun u=>ZI false <| K0.cond true Zk <| ZS 19 ?_
    cases hz1:(s.bx==0&&s.by_==0)with
    |false=>
     exact ZA (neP 57 (.tmp 46) (.tmp 47) (pt s.bx s.by_) (pt 0 0)) Zt (fun w1 hw h=>by rw[M0,hz1];rfl) <| ZI true <| ZW (Zi 6)
    |true=>
    have hv1:=Ny hz1
    rw[hz1,hv1]at hf
    refine ZA (neP 57 (.tmp 46) (.tmp 47) (pt s.bx s.by_) (pt 0 0)) Zf (fun w1 hw h=>by rw[M0,hz1];rfl) <| ZI false <| K0.cond true Zk <| ZS 19 ?_
    cases hz2:(s.cx==0&&s.cy==0)with
    |false=>
     exact ZA (neP 57 (.tmp 46) (.tmp 47) (pt s.cx s.cy) (pt 0 0)) Zt (fun w1 hw h=>by rw[M0,hz2];rfl) <| ZI true <| ZW (Zi 6)
    |true=>
    have hv2:=Ny hz2
    rw[hz2,hv2]at hf
    refine ZA (neP 57 (.tmp 46) (.tmp 47) (pt s.cx s.cy) (pt 0 0)) Zf (fun w1 hw h=>by rw[M0,hz2];rfl) <| ZI false ?_
    simp at hf
   | true=>
    obtain rfl:e=0:=he.symm.trans (Tz hr Zd hst hf)
    unfold O4 at hf
    rw[hr,Q3 (show(0:Int)<1 by decide),Og (show¬((1:Int)<1) by decide),Og (show¬((2:Int)<1) by decide)]at hf
    refine K0.un Zk <| ZR <| ZI true ?_
    cases hv0:La s.ax s.ay with
    |false=>
     rw[hv0]at hf;simp at hf
    |true=>
    rw[hv0]at hf
    refine ZC (fun w1 hw h=>N9 hv0) fun u=>ZI false <| K0.cond true Zk <| ZS 19 ?_
    cases hz1:(s.bx==0&&s.by_==0)with
    |false=>
     rw[hz1]at hf;simp at hf
    |true=>
    have hv1:=Ny hz1
    rw[hz1,hv1]at hf
    refine ZA (neP 57 (.tmp 46) (.tmp 47) (pt s.bx s.by_) (pt 0 0)) Zf (fun w1 hw h=>by rw[M0,hz1];rfl) <| ZI false <| K0.cond true Zk <| ZS 19 ?_
    cases hz2:(s.cx==0&&s.cy==0)with
    |false=>
     rw[hz2]at hf;simp at hf
    |true=>
    have hv2:=Ny hz2
    rw[hz2,hv2]at hf
    exact ZA (neP 57 (.tmp 46) (.tmp 47) (pt s.cx s.cy) (pt 0 0)) Zf (fun w1 hw h=>by rw[M0,hz2];rfl) <| ZI false <| ZI false <| ZW (Zi 0)
 ·cases hst:My (Ug ls k) s.v with
  |false=>
   obtain rfl:e=10:=he.symm.trans (Qn hr Zd hst)
   exact ZC (fun w1 hw h=>Rv hr) fun u=>ZI false <| ZC (fun w1 hw h=>Rh (c:=c) (hs.below hw) hn hsk hst) fun u=>ZI true <| ZW (Zi 10)
  | true=>
   refine ZC (fun w1 hw h=>Rv hr) fun u=>ZI false <| ZC (fun w1 hw h=>Rh (c:=c) (hs.below hw) hn hsk hst) fun u=>ZI false <| ZA (Ku 43 (.slice A n c) k) (.pointer (some (ad.add (k*7)))) (fun w1 hw h=>Tj hA Zo) <| ZA (Kt 150 (ad.add (k*7))) (s.val) (fun w1 hw h=>Z9 fun j u hj=>Lr hw (hc j u hj)) <| ZC (fun w1 hw h=>three_m (s:=s)) fun u=> ?_
   cases hf:O4 s with
   | false=>
    obtain rfl:e=6:=he.symm.trans (S7 hr Zd hst hf)
    unfold O4 at hf
    rw[hr,Q3 (show(0:Int)<2 by decide),Q3 (show(1:Int)<2 by decide),Og (show¬((2:Int)<2) by decide)]at hf
    refine K0.un Zk <| ZR <| ZI true ?_
    cases hv0:La s.ax s.ay with
    |false=>
     exact ZC (fun w1 hw h=>N9 hv0) fun u=>ZI true <| ZW (Zi 6)
    |true=>
    rw[hv0]at hf
    refine ZC (fun w1 hw h=>N9 hv0) fun u=>ZI false <| ZI true ?_
    cases hv1:La s.bx s.by_ with
    |false=>
     exact ZC (fun w1 hw h=>N9 hv1) fun u=>ZI true <| ZW (Zi 6)
    |true=>
    rw[hv1]at hf
    refine ZC (fun w1 hw h=>N9 hv1) fun u=>ZI false <| K0.cond true Zk <| ZS 19 ?_
    cases hz2:(s.cx==0&&s.cy==0)with
    |false=>
     exact ZA (neP 57 (.tmp 46) (.tmp 47) (pt s.cx s.cy) (pt 0 0)) Zt (fun w1 hw h=>by rw[M0,hz2];rfl) <| ZI true <| ZW (Zi 6)
    |true=>
    have hv2:=Ny hz2
    rw[hz2,hv2]at hf
    refine ZA (neP 57 (.tmp 46) (.tmp 47) (pt s.cx s.cy) (pt 0 0)) Zf (fun w1 hw h=>by rw[M0,hz2];rfl) <| ZI false ?_
    simp at hf
   | true=>
    obtain rfl:e=0:=he.symm.trans (Tz hr Zd hst hf)
    unfold O4 at hf
    rw[hr,Q3 (show(0:Int)<2 by decide),Q3 (show(1:Int)<2 by decide),Og (show¬((2:Int)<2) by decide)]at hf
    refine K0.un Zk <| ZR <| ZI true ?_
    cases hv0:La s.ax s.ay with
    |false=>
     rw[hv0]at hf;simp at hf
    |true=>
    rw[hv0]at hf
    refine ZC (fun w1 hw h=>N9 hv0) fun u=>ZI false <| ZI true ?_
    cases hv1:La s.bx s.by_ with
    |false=>
     rw[hv1]at hf;simp at hf
    |true=>
    rw[hv1]at hf
    refine ZC (fun w1 hw h=>N9 hv1) fun u=>ZI false <| K0.cond true Zk <| ZS 19 ?_
    cases hz2:(s.cx==0&&s.cy==0)with
    |false=>
     rw[hz2]at hf;simp at hf
    |true=>
    have hv2:=Ny hz2
    rw[hz2,hv2]at hf
    exact ZA (neP 57 (.tmp 46) (.tmp 47) (pt s.cx s.cy) (pt 0 0)) Zf (fun w1 hw h=>by rw[M0,hz2];rfl) <| ZI false <| ZI false <| ZW (Zi 0)
 ·cases hst:My (Ug ls k) s.v with
  |false=>
   obtain rfl:e=10:=he.symm.trans (Qn hr Zd hst)
   exact ZC (fun w1 hw h=>Rv hr) fun u=>ZI false <| ZC (fun w1 hw h=>Rh (c:=c) (hs.below hw) hn hsk hst) fun u=>ZI true <| ZW (Zi 10)
  | true=>
   refine ZC (fun w1 hw h=>Rv hr) fun u=>ZI false <| ZC (fun w1 hw h=>Rh (c:=c) (hs.below hw) hn hsk hst) fun u=>ZI false <| ZA (Ku 43 (.slice A n c) k) (.pointer (some (ad.add (k*7)))) (fun w1 hw h=>Tj hA Zo) <| ZA (Kt 150 (ad.add (k*7))) (s.val) (fun w1 hw h=>Z9 fun j u hj=>Lr hw (hc j u hj)) <| ZC (fun w1 hw h=>three_m (s:=s)) fun u=> ?_
   cases hf:O4 s with
   | false=>
    obtain rfl:e=6:=he.symm.trans (S7 hr Zd hst hf)
    unfold O4 at hf
    rw[hr,Q3 (show(0:Int)<3 by decide),Q3 (show(1:Int)<3 by decide),Q3 (show(2:Int)<3 by decide)]at hf
    refine K0.un Zk <| ZR <| ZI true ?_
    cases hv0:La s.ax s.ay with
    |false=>
     exact ZC (fun w1 hw h=>N9 hv0) fun u=>ZI true <| ZW (Zi 6)
    |true=>
    rw[hv0]at hf
    refine ZC (fun w1 hw h=>N9 hv0) fun u=>ZI false <| ZI true ?_
    cases hv1:La s.bx s.by_ with
    |false=>
     exact ZC (fun w1 hw h=>N9 hv1) fun u=>ZI true <| ZW (Zi 6)
    |true=>
    rw[hv1]at hf
    refine ZC (fun w1 hw h=>N9 hv1) fun u=>ZI false <| ZI true ?_
    cases hv2:La s.cx s.cy with
    |false=>
     exact ZC (fun w1 hw h=>N9 hv2) fun u=>ZI true <| ZW (Zi 6)
    |true=>
    rw[hv2]at hf
    refine ZC (fun w1 hw h=>N9 hv2) fun u=>ZI false ?_
    simp at hf
   | true=>
    obtain rfl:e=0:=he.symm.trans (Tz hr Zd hst hf)
    unfold O4 at hf
    rw[hr,Q3 (show(0:Int)<3 by decide),Q3 (show(1:Int)<3 by decide),Q3 (show(2:Int)<3 by decide)]at hf
    refine K0.un Zk <| ZR <| ZI true ?_
    cases hv0:La s.ax s.ay with
    |false=>
     rw[hv0]at hf;simp at hf
    |true=>
    rw[hv0]at hf
    refine ZC (fun w1 hw h=>N9 hv0) fun u=>ZI false <| ZI true ?_
    cases hv1:La s.bx s.by_ with
    |false=>
     rw[hv1]at hf;simp at hf
    |true=>
    rw[hv1]at hf
    refine ZC (fun w1 hw h=>N9 hv1) fun u=>ZI false <| ZI true ?_
    cases hv2:La s.cx s.cy with
    |false=>
     rw[hv2]at hf;simp at hf
    |true=>
    rw[hv2]at hf
    exact ZC (fun w1 hw h=>N9 hv2) fun u=>ZI false <| ZI false <| ZW (Zi 0)
theorem rcheck_m{e:Int}{i:Nat}(hs:Rr w A n ls)(hn:n≤1000000)(he:chk ls=(e,i)):Zv 184 #[.slice A n c] w (.tuple #[Zi e,Zi i]):=by
 have hln:=hs.1
 by_cases hbig:256<ls.length
 ·have hch:chk ls=(5,256):=if_pos hbig
  rw[hch]at he
  obtain⟨rfl,rfl⟩:=Prod.mk.inj he
  exact K0.enter Tryz.func184 rfl <| ZR <| ZJ (decide ((n:Int)>256)) true Zp <| ZW (.tuple #[Zi 5,Zi 256])
 have hch:chk ls=chkL 5 0 ls:=if_neg hbig
 rw[hch]at he
 refine K0.enter Tryz.func184 rfl <| ZR <| ZJ (decide ((n:Int)>256)) false Zp <| K0.loop (ι:={k:Nat // k≤n∧chkL 5 0 ls=chkL (Ug ls k) k (ls.drop k)}) 22 (fun q=>⟨[(0,.v (.slice A n c)),(4,.v (Zi q.1))],[]⟩) (fun _ _=>True) (fun q=>n-q.1) (⟨0,Nat.zero_le _,rfl⟩) Zk (fun _=>by kernel_rfl) ⟨Zk,Zk,Zk⟩ (fun _ _=>trivial) ?_
 rintro⟨k,hk1,hk2⟩ g
 by_cases hlt:k<n
 case neg=>
  rw[hk2,List.drop_of_length_le Zo]at he
  obtain⟨rfl,rfl⟩:=Prod.mk.inj he
  exact ZR <| ZJ (decide ((k:Int)<(n:Int))) false Zp <| K0.leave Zk <| ZR <| ZW (.tuple #[Zi 0,Zi 0])
 obtain⟨s,hsk⟩:∃s,ls[k]? =some s:=⟨_,List.getElem?_eq_getElem Zo⟩
 rw[hk2,sg_drop hsk]at he
 rw[sg_drop hsk]at hk2
 refine ZR <| ZJ (decide ((k:Int)<(n:Int))) true Zp ?_
 by_cases h0:chkS (Ug ls k) s=0
 ·rw[chkL_ok h0,←lastAt_succ hsk]at hk2
  refine ZC (fun w1 hw h=>wrong_m (c:=c) (hs.below hw) hn hsk h0) fun u=>ZI false <| K0.slot 4 (Zi (IntKind.i64.wrap ((k:Int)+1))) (Zi ((k+1:Nat):Int)) Zk (by rw[Ki hlt Zo]) <| K0.next (⟨k+1,by omega,hk2⟩) Zk (by show n- (k+1)<n-k;omega) ⟨Zk,Zk,Zk⟩ (fun _ _=>trivial)
 ·rw[Pt h0]at he
  obtain⟨he1,rfl⟩:=Prod.mk.inj he
  have he0:e≠0:=by rw[←he1];exact h0
  exact ZC (fun w1 hw h=>wrong_m (c:=c) (hs.below hw) hn hsk he1) fun u=>ZJ ((e !=0)) true (by simpa using he0) <| K0.leave Zk <| ZR <| ZW (.tuple #[Zi e,Zi k])
theorem rvalidL_m{B:Bool}(hs:Rr w A n ls)(hn:n≤1000000)(hB:decide ((chk ls).1=0)=B):Zv 125 #[.slice A n c] w (.bool B):=by
 obtain⟨e,i,he⟩:∃e i,chk ls=(e,i):=⟨_,_,rfl⟩
 rw[he]at hB
 exact K0.enter Tryz.func125 rfl <| ZR <| ZC (fun w1 hw h=>rcheck_m (c:=c) (hs.below hw) hn he) fun u=>ZX (.bool (e==0)) (by rw[←hB];rfl)
end
def triS(s:Sg):List (Int×Int):=[(s.ax,s.ay),(s.bx,s.by_),(s.cx,s.cy)]
def ptsS(s:Sg):List (Int×Int):=(triS s).take (Lf s.v).toNat
def Yv(p:Int×Int):List (List UInt8):=[Kj p.1,Kj p.2]
def letS(v:Int):UInt8:=if v=1 then 77 else if v=2 then 76 else if v=3 then 81 else if v=4 then 67 else 90
def segW(s:Sg):List (List UInt8):=[letS s.v]::(ptsS s).flatMap Yv
def Pg(l:List Sg):List (List UInt8):=l.flatMap segW
def Uj(l:List Sg):List UInt8:=Sq 32 (Pg l)
def R8(l:List Sg):Bool:=decide ((chk l).1=0)
def GoodS(s:Sg):Prop:=(s.v=1∨s.v=2∨s.v=3∨s.v=4∨s.v=5)∧O4 s=true
theorem chkL_good:∀{last:Int} {k:Nat} {l:List Sg},(chkL last k l).1=0→∀s∈l,GoodS s
 |_,_,[],_,s,hs=>by cases hs
 | last,k,s::l,h,t,ht=>by
  rw[chkL]at h
  split at h
  ·rename_i h0
   have hs:GoodS s:=by
    unfold chkS at h0
    split at h0
    ·cases h0
    ·rename_i hn
     split at h0
     ·cases h0
     ·split at h0
      ·cases h0
      ·rename_i hf
       refine⟨?_,by cases hb:O4 s;exact absurd hb hf;rfl⟩
       rcases named_cases s.v with h1|h1|h1|h1|h1|h1
       ·exact .inl h1
       ·exact .inr (.inl h1)
       ·exact .inr (.inr (.inl h1))
       ·exact .inr (.inr (.inr (.inl h1)))
       ·exact .inr (.inr (.inr (.inr h1)))
       ·rw[Ri h1]at hn;omega
   rcases List.mem_cons.1 ht with rfl|ht
   ·exact hs
   ·exact chkL_good h t ht
  ·rename_i h0;exact absurd h h0
theorem good_path{l:List Sg}(h:R8 l=true):(∀s∈l,GoodS s)∧l.length≤256:=by
 have h1:(chk l).1=0:=of_decide_eq_true h
 unfold chk at h1
 split at h1
 ·cases h1
 ·exact⟨chkL_good h1,by omega⟩
theorem fits_rng{s:Sg}(h:O4 s=true):(-1048576≤s.ax∧s.ax≤1048576∧-1048576≤s.ay∧s.ay≤1048576)∧(-1048576≤s.bx∧s.bx≤1048576∧-1048576≤s.by_∧s.by_≤1048576)∧(-1048576≤s.cx∧s.cx≤1048576∧-1048576≤s.cy∧s.cy≤1048576):=by
 simp only[O4,okP,Bool.and_eq_true,La,decide_eq_true_eq]at h
 omega
theorem Ss{x:Int}(h: -1048576≤x∧x≤1048576):(Kj x).length≤25:=by
 have:=Uk (x:=x) (k:=1) Zd (by rw[show pw 1=4294967296 from by decide];omega)
 omega
theorem wordsP_snoc{l:List Sg}{k:Nat}{s:Sg}(h:l[k]? =some s):Pg (l.take (k+1))=Pg (l.take k)++segW s:=by
 unfold Pg;rw[List.take_add_one,h];simp
theorem segW_len(s:Sg):(segW s).length≤7:=by
 have h1:(ptsS s).length≤3:=by unfold ptsS triS;rw[List.length_take];simp;omega
 simp only[segW,Yv,List.length_cons,List.length_flatMap]
 have h2:∀l:List (Int×Int),(l.map fun _=>0+1+1).sum=2*l.length:=fun l=>by
  induction l with
  |nil=>rfl
  |cons p l ih=>simp only[List.map_cons,List.sum_cons,ih,List.length_cons];omega
 have h3:=h2 (ptsS s)
 simp only[List.length_nil]at h3 ⊢
 omega
theorem wordsP_len:∀l:List Sg,(Pg l).length≤7*l.length
 | []=>Nat.le_refl _
 |s::l=>by
  have ih:=wordsP_len l
  have:=segW_len s
  simp only[Pg,List.flatMap_cons,List.length_append,List.length_cons]at ih ⊢
  omega
theorem segW_sum{s:Sg}(h:GoodS s):Mq (segW s)≤151:=by
 obtain⟨h1,h2,h3⟩:=fits_rng h.2
 have a1:=Ss ⟨h1.1,h1.2.1⟩
 have a2:=Ss ⟨h1.2.2.1,h1.2.2.2⟩
 have b1:=Ss ⟨h2.1,h2.2.1⟩
 have b2:=Ss ⟨h2.2.2.1,h2.2.2.2⟩
 have c1:=Ss ⟨h3.1,h3.2.1⟩
 have c2:=Ss ⟨h3.2.2.1,h3.2.2.2⟩
 unfold segW ptsS triS
 rcases named_rng s.v with hr|hr|hr|hr|hr<;>rw[hr]<;>simp[Mq,Yv]<;>omega
theorem wordsP_sum:∀{l:List Sg},(∀s∈l,GoodS s)→Mq (Pg l)≤151*l.length
 | [],_=>Nat.le_refl _
 |s::l,h=>by
  have ih:=wordsP_sum (l:=l) fun t ht=>h t (by simp[ht])
  have:=segW_sum (h s Zs)
  have e:Pg (s::l)=segW s++Pg l:=by simp[Pg]
  rw[e,Pp]
  simp only[List.length_cons]
  omega
theorem fmtP_len{l:List Sg}(h:∀s∈l,GoodS s):(Uj l).length≤158*l.length:=by
 have h1:=join_len 32 (Pg l)
 have h2:=wordsP_sum h
 have h3:=wordsP_len l
 unfold Uj;omega
section
variable{w:World}{A:Option Addr}{n c:Nat}{ls:List Sg}
theorem lit_ne{u:World}{B m cc g:Nat}{Y:Option Addr}{xs:List Value}{cells:Array Value}(h:K7 u B 9 1 Y m cc xs)(hl:Kd 57 cells g u):g∉bl Y:=fun hg=>by
 obtain⟨cur,own,h1⟩:=h.ty g hg
 have h2:u.heap[g]? =some (.cells cells 57 (0,0)):=hl
 rw[h2]at h1
 simp only[Option.some.injEq,Obj.cells.injEq]at h1
 exact absurd h1.2.1 Zd
theorem Ud{v r:Int}(hv:v=1∨v=2∨v=3∨v=4∨v=5)(h:Lf v=r):Zv 119 #[Zi v] w (Zi r):=by
 rcases hv with rfl|rfl|rfl|rfl|rfl
 ·obtain rfl:r=1:=h.symm
  exact K0.enter Tryz.func119 rfl <| ZR <| ZW (Zi 1)
 ·obtain rfl:r=1:=h.symm
  exact K0.enter Tryz.func119 rfl <| ZR <| ZW (Zi 1)
 ·obtain rfl:r=2:=h.symm
  exact K0.enter Tryz.func119 rfl <| ZR <| ZW (Zi 2)
 ·obtain rfl:r=3:=h.symm
  exact K0.enter Tryz.func119 rfl <| ZR <| ZW (Zi 3)
 ·obtain rfl:r=0:=h.symm
  exact K0.enter Tryz.func119 rfl <| ZR <| ZW (Zi 0)
theorem app_strs{B m yc gb:Nat}{y:Option Addr}{p l:List (List UInt8)}(ho:K7 w B 9 1 y m yc (sv p))(hB:B≤w.heap.size)(hg:Kd 9 (sv l).toArray gb w)(hm:m<1000000)(hl:l.length≤10):
 Ok Tryz.prog w (bl y) (fun z:Option Addr×Nat=> .slice z.1 (m+l.length) z.2) (fun z v=>K7 v B 9 1 z.1 (m+l.length) z.2 (sv (p++l))) (M4 66 66 (.slice y m yc) (Kg l.length gb)):=by
 have ha:=Nr (P:=Tryz.prog) (s:=1) (z:= .string ⟨#[]⟩) (bytes:=16) (m:=l.length) (cc:=l.length) (t:=66) (elem:=9) Zk Zk rfl Zd ho hB (N4 (n:=l.length) hg (by simp[sv])) (by intro v hv;simp[sv]at hv;obtain⟨x,_,rfl⟩:=hv;rfl) Zo Zd
 have e:sv (p++l)=sv p++sv l:=by simp[sv]
 rw[e];exact ha
theorem run_slHp{g n c i:Nat}(hi:i≤c:=by decide):(slH 185 (.slice (some ⟨g,0,none⟩) n c) i).run Tryz.prog w= .ok (.value (.slice (some ⟨g,0,none⟩) i c)) w:=by
 have ht:Tryz.prog.underlying 185=some (.slice 57):=by kernel_rfl
 have he:Tryz.prog.elem 185=57:=by kernel_rfl
 have hs:O5 Tryz.prog 57=some 2:=by kernel_rfl
 have h1:=run_slice_h (P:=Tryz.prog) w 185 (some ⟨g,0,none⟩) n c (by rw[he];exact ht) .i64 i Zo Zo
 have h2:=run_sliceAt_slice (P:=Tryz.prog) w 185 (.slice (some ⟨g,0,none⟩) n c) none (some (Zi i)) none (by rw[he];exact ht)
 simp only[slH,Sem.run_bind,h2,h1,he,Lq hs,Result.andThen_ok,Sem.run_pure]
 simp[sliced,Addr.add]
end
section
variable{w:World}{A:Option Addr}{n c:Nat}{ls:List Sg}
theorem run_let{v:Int}(hv:v=1∨v=2∨v=3∨v=4∨v=5):(slC 9 (K4 [32,77,76,81,67,90]) .i64 v (IntKind.i64.wrap (v+1))).run Tryz.prog w= .ok (.value (K4 [letS v])) w:=by
 rcases hv with rfl|rfl|rfl|rfl|rfl
 ·exact Zc (i:=1) Zk rfl
 ·exact Zc (i:=2) Zk rfl
 ·exact Zc (i:=3) Zk rfl
 ·exact Zc (i:=4) Zk rfl
 ·exact Zc (i:=5) Zk rfl
theorem tri_ld{g j:Nat}{v ax ay bx by_ cx cy:Int}{q:Int×Int}(h:Kd 57 #[Zi ax,Zi ay,Zi bx,Zi by_,Zi cx,Zi cy] g w)(hq:(triS ⟨v,ax,ay,bx,by_,cx,cy⟩)[j]? =some q):(Kt 57 ⟨g,j*2,none⟩).run Tryz.prog w= .ok (.value (pt q.1 q.2)) w:=by
 rcases j with _|_|_|j
 ·obtain rfl:(ax,ay)=q:=by simpa[triS]using hq
  refine R9 h fun i x hx=> ?_
  rcases i with _|_|i<;>simp at hx<;>subst hx<;>rfl
 ·obtain rfl:(bx,by_)=q:=by simpa[triS]using hq
  refine R9 h fun i x hx=> ?_
  rcases i with _|_|i<;>simp at hx<;>subst hx<;>rfl
 ·obtain rfl:(cx,cy)=q:=by simpa[triS]using hq
  refine R9 h fun i x hx=> ?_
  rcases i with _|_|i<;>simp at hx<;>subst hx<;>rfl
 ·simp[triS]at hq
theorem tri_rng{s:Sg}{j:Nat}{q:Int×Int}(h:O4 s=true)(hq:(triS s)[j]? =some q): -1048576≤q.1∧q.1≤1048576∧-1048576≤q.2∧q.2≤1048576:=by
 obtain⟨ra,rb,rc⟩:=fits_rng h
 rcases j with _|_|_|j
 ·obtain rfl:(s.ax,s.ay)=q:=by simpa[triS]using hq
  exact ra
 ·obtain rfl:(s.bx,s.by_)=q:=by simpa[triS]using hq
  exact rb
 ·obtain rfl:(s.cx,s.cy)=q:=by simpa[triS]using hq
  exact rc
 ·simp[triS]at hq
theorem named_good{v:Int}(hv:v=1∨v=2∨v=3∨v=4∨v=5):∃r:Nat,Lf v=(r:Int)∧r≤3:=by
 rcases hv with rfl|rfl|rfl|rfl|rfl
 ·exact⟨1,rfl,by decide⟩
 ·exact⟨1,rfl,by decide⟩
 ·exact⟨2,rfl,by decide⟩
 ·exact⟨3,rfl,by decide⟩
 ·exact⟨0,rfl,by decide⟩
theorem format_s(hs:Rr w A n ls)(hB:R8 ls=true):Zv 69 #[.slice A n c] w (.tuple #[K4 (Uj ls),Zi 0]):=by
 have hln:=hs.1
 obtain⟨hgood,hsmall⟩:=good_path hB
 have hfl:=fmtP_len hgood
 refine K0.enter Tryz.func69 rfl <| ZR <| ZC (fun w1 hw h=>validL_m (c:=c) (hs.below hw) Zo hB) fun u=>ZI false <| K0.loop (ι:={q:Nat×Nat×(Option Addr×Nat) // q.1≤n∧q.2.1=(Pg (ls.take q.1)).length}) 56 (fun q=>⟨[(0,.v (.slice A n c)),(4,.v (.slice q.1.2.2.1 q.1.2.1 q.1.2.2.2)),(12,.v (.slice A n c)),(13,.v (Zi n)),(14,.v (Zi q.1.1))],[]⟩) (fun q u=>K7 u w.heap.size 9 1 q.1.2.2.1 q.1.2.1 q.1.2.2.2 (sv (Pg (ls.take q.1.1)))) (fun q=>n-q.1.1) (⟨(0,0,none,0),Nat.zero_le _,rfl⟩) Zk (fun _=>by kernel_rfl) ⟨Zk,Zk,Zk⟩ (fun u h=>K7.nil_) ?_
 rintro⟨⟨k,m,y,yc⟩,hk,hm⟩ gg
 have hk:k≤n:=hk
 have hm:m=(Pg (ls.take k)).length:=hm
 have hml:m≤7*256:=by
  have h1:=wordsP_len (ls.take k)
  have h2:(ls.take k).length≤256:=by rw[List.length_take];omega
  omega
 by_cases hlt:k<n
 case neg=>
  obtain rfl:k=n:=by omega
  have hfull:ls.take k=ls:=List.take_of_length_le Zo
  exact ZR <| ZJ (decide ((k:Int)<(k:Int))) false Zs <| K0.leave Zk <| ZR <| ZC (fun w1 hw h=>join_m (p:=Pg ls) (by rw[←hfull];exact h) (by show(Uj ls).length≤_;omega) (show m≤100000000 from by omega)) fun u=>ZW (.tuple #[K4 (Sq 32 (Pg ls)),Zi 0])
 obtain⟨s,hsk⟩:∃s,ls[k]? =some s:=⟨_,List.getElem?_eq_getElem Zo⟩
 obtain⟨ad,hA,hc⟩:=hs.2 k s hsk
 have hgs:=hgood s (List.mem_of_getElem? hsk)
 have hnext:=wordsP_snoc hsk
 obtain⟨p,hp⟩:∃p,p=Pg (ls.take k):=⟨_,rfl⟩
 rw[←hp]at hnext hm
 refine ZR <| ZJ (decide ((k:Int)<(n:Int))) true Zp <| ZA (Ku 43 (.slice A n c) k) (.pointer (some (ad.add (k*7)))) (fun w1 hw h=>Tj hA hlt) ?_
 have htri:= @tri_rng s
 obtain⟨v,ax,ay,bx,by_,cx,cy⟩:=s
 obtain⟨hv,hfit⟩:=hgs
 replace htri:=fun j q=> @htri j q hfit
 have hv:v=1∨v=2∨v=3∨v=4∨v=5:=hv
 obtain⟨r,hr,hr3⟩:=named_good hv
 have hpts:segW ⟨v,ax,ay,bx,by_,cx,cy⟩=[letS v]::((triS ⟨v,ax,ay,bx,by_,cx,cy⟩).take r).flatMap Yv:=by
  unfold segW ptsS;rw[show(Sg.mk v ax ay bx by_ cx cy).v=v from rfl,hr];rfl
 obtain⟨T,hT⟩:∃T,T=triS ⟨v,ax,ay,bx,by_,cx,cy⟩:=⟨_,rfl⟩
 have hTl:T.length=3:=by rw[hT];rfl
 rw[hpts,←hT]at hnext
 refine K0.ask (Kt 150 (ad.add (k*7))) (Sg.val ⟨v,ax,ay,bx,by_,cx,cy⟩) Zk (fun w1 hw h=>Z9 fun j u hj=>Lr hw (hc j u hj)) <| ZS 6 <| K0.ask (slC 9 (K4 [32,77,76,81,67,90]) .i64 v (IntKind.i64.wrap (v+1))) (K4 [letS v]) Zk (fun w1 hw h=>run_let hv) <| ZS 7 <| K0.make (Li 66 1 #[(0,K4 [letS v])]) (Kg 1) (Kd 9 #[K4 [letS v]]) Zk (fun w1 hw h=>Ke Zk) fun gb=>ZS 8 <| K0.mutOp (L:=bl y) (val:=fun(z:Option Addr×Nat)=> .slice z.1 (m+1) z.2) (Φ':=fun(z:Option Addr×Nat) vv=>K7 vv w.heap.size 9 1 z.1 (m+1) z.2 (sv (p++ [[letS v]]))) (G:=fun(z:Option Addr×Nat) vv=>K7 vv w.heap.size 9 1 z.1 (m+1) z.2 (sv (p++ [[letS v]]))) (M4 66 66 (.slice y m yc) (Kg 1 gb)) (fun w1 hw h=>by have ho:K7 w1 w.heap.size 9 1 y m yc (sv (p)):=(by rw[hp];exact h.1);exact app_strs (l:=[[letS v]]) ho hw.size h.2 (show m<1000000 from by omega) Zs) (fun w1 h=>fun b hb=>⟨((show K7 w1 w.heap.size 9 1 y m yc (sv (p))from(by rw[hp];exact h.1)).lt b hb).1,((show K7 w1 w.heap.size 9 1 y m yc (sv (p))from(by rw[hp];exact h.1)).blk b hb).2⟩) (fun z wa w1 e1 e2 h hG=>hG) Zk Zk fun z=>ZR <| K0.two (i:=6) (j:=9) Zk ?_ ?_
 ·refine Q7.make (i:=6) (Li (185) 3 #[(0,pt ax ay),(1,pt bx by_),(2,pt cx cy)]) (Kg 3) (Kd 57 #[Zi ax,Zi ay,Zi bx,Zi by_,Zi cx,Zi cy]) Zk (fun w1 hw h=>Ke Zk) fun g=>ZR <| ZD 10 (fun w1 hw h=>Ud hv hr) fun u=>ZA (slH 185 (.slice (some ⟨g,0,none⟩) 3 3) (r:Nat)) (.slice (some ⟨g,0,none⟩) r 3) (fun w1 hw h=>run_slHp Zo) <| K0.loop (ι:={q:Nat×Nat×(Option Addr×Nat) // q.1≤r∧q.2.1=m+1+2*q.1}) 56 (fun q=>⟨[(0,.v (.slice A n c)),(4,.v (.slice q.1.2.2.1 q.1.2.1 q.1.2.2.2)),(12,.v (.slice A n c)),(13,.v (Zi n)),(14,.v (Zi k)),(37,.v (.slice (some ⟨g,0,none⟩) r 3)),(38,.v (Zi r)),(39,.v (Zi q.1.1))],[]⟩) (fun q u=>K7 u w.heap.size 9 1 q.1.2.2.1 q.1.2.1 q.1.2.2.2 (sv ((p++ [[letS v]])++(T.take q.1.1).flatMap Yv))∧Kd 57 #[Zi ax,Zi ay,Zi bx,Zi by_,Zi cx,Zi cy] g u) (fun q=>r-q.1.1) (⟨(0,m+1,z.1,z.2),Nat.zero_le _,rfl⟩) Zk (fun _=>by kernel_rfl) ⟨Zk,Zk,Zk⟩ (fun u h=>(by have h2:=h;simp only[List.take_zero,List.flatMap_nil,List.append_nil];exact⟨h2.1.1,h2.1.2⟩)) ?_
  rintro⟨⟨j,mj,y2,yc2⟩,hj,hmj⟩ gg2
  have hj:j≤r:=hj
  have hmj:mj=m+1+2*j:=hmj
  by_cases hlt2:j<r
  case neg=>
   obtain rfl:j=r:=by omega
   refine ZR <| ZJ (decide ((j:Int)<(j:Int))) false Zs <| K0.leave Zk <| ZR <| K0.slot 14 (Zi (IntKind.i64.wrap ((k:Int)+1))) (Zi ((k+1:Nat):Int)) Zk (by rw[Ki hlt Zo]) <| K0.next (⟨(k+1,mj,y2,yc2),by show k+1≤n;omega,by show mj=_;rw[hnext];simp only[List.length_append,List.length_cons,List.length_flatMap,Yv,List.length_nil];have e:∀l:List (Int×Int),(l.map fun _=>0+1+1).sum=2*l.length:=(fun l=>by induction l with|nil=>rfl|cons p l ih=>simp only[List.map_cons,List.sum_cons,ih,List.length_cons];omega);rw[e,List.length_take,hTl];omega⟩) Zk (by show n- (k+1)<n-k;omega) ⟨Zk,Zk,Zk⟩ (fun u h=>(by have h1:=h.1;show K7 u w.heap.size 9 1 y2 mj yc2 (sv (Pg (ls.take (k+1))));rw[hnext,List.append_cons];exact h1))
  obtain⟨q,hq⟩:∃q,T[j]? =some q:=⟨_,List.getElem?_eq_getElem Zo⟩
  have hstep:(T.take (j+1)).flatMap Yv=(T.take j).flatMap Yv++ [Kj q.1,Kj q.2]:=by rw[List.take_add_one,hq];simp[Yv]
  obtain⟨pj,hpj⟩:∃pj,pj=(p++ [[letS v]])++(T.take j).flatMap Yv:=⟨_,rfl⟩
  have hrng:=htri j q (hT▸hq)
  refine ZR <| ZJ (decide ((j:Int)<(r:Int))) true Zp <| ZA (Ku 185 (.slice (some ⟨g,0,none⟩) r 3) j) (Zq g (j*2)) (fun w1 hw h=>Kq (elem:=57) Zk Zk hlt2) <| ZA (Kt 57 ⟨g,j*2,none⟩) (pt q.1 q.2) (fun w1 hw h=>tri_ld h.2 (hT▸hq)) <| ZC (fun w1 hw h=>Kx (n:=q.1) Zo Zo) fun u1=>ZC (fun w1 hw h=>Kx (n:=q.2) Zo Zo) fun u2=>K0.make (Li 66 2 #[(0,K4 (Kj q.1)),(1,K4 (Kj q.2))]) (Kg 2) (Kd 9 #[K4 (Kj q.1),K4 (Kj q.2)]) Zk (fun w1 hw h=>Ke Zk) fun gb2=>ZS 8 <| K0.mutAny (L:=bl y2) (val:=fun(z:Option Addr×Nat)=> .slice z.1 (mj+2) z.2) (Φ':=fun(z:Option Addr×Nat) vv=>K7 vv w.heap.size 9 1 z.1 (mj+2) z.2 (sv (pj++ [Kj q.1,Kj q.2]))∧Kd 57 #[Zi ax,Zi ay,Zi bx,Zi by_,Zi cx,Zi cy] g vv) (G:=fun(z:Option Addr×Nat) vv=>K7 vv w.heap.size 9 1 z.1 (mj+2) z.2 (sv (pj++ [Kj q.1,Kj q.2]))) (M4 66 66 (.slice y2 mj yc2) (Kg 2 gb2)) (fun w1 hw h=>by have ho:K7 w1 w.heap.size 9 1 y2 mj yc2 (sv (pj)):=(by rw[hpj];exact h.1.1.1.1);exact app_strs (l:=[Kj q.1,Kj q.2]) ho hw.size h.2 (show mj<1000000 from by omega) Zs) (fun w1 h=>fun b hb=>⟨((show K7 w1 w.heap.size 9 1 y2 mj yc2 (sv (pj))from(by rw[hpj];exact h.1.1.1.1)).lt b hb).1,((show K7 w1 w.heap.size 9 1 y2 mj yc2 (sv (pj))from(by rw[hpj];exact h.1.1.1.1)).blk b hb).2⟩) (fun z wa w1 e1 e2 h hG=>⟨hG,(e2 g (lit_ne (show K7 wa w.heap.size 9 1 y2 mj yc2 (sv (pj))from(by rw[hpj];exact h.1.1.1.1)) h.1.1.1.2)).symm.trans h.1.1.1.2⟩) Zk Zk fun z2=>ZR <| K0.slot 39 (Zi (IntKind.i64.wrap ((j:Int)+1))) (Zi ((j+1:Nat):Int)) Zk (by rw[Ki hlt2 Zo]) <| K0.next (⟨(j+1,mj+2,z2.1,z2.2),by show j+1≤r;omega,by show mj+2=_;omega⟩) Zk (by show r- (j+1)<r-j;omega) ⟨Zk,Zk,Zk⟩ (fun u h=>⟨(by have h1:=h.1;show K7 u w.heap.size 9 1 z2.1 (mj+2) z2.2 (sv ((p++ [[letS v]])++(T.take (j+1)).flatMap Yv));rw[hstep,←List.append_assoc,←hpj];exact h1),h.2⟩)
 ·refine Q7.callv (i:=9) (fun w1 hw h=>Ud hv hr) Zk fun u=>ZR <| K0.make (Li (185) 3 #[(0,pt ax ay),(1,pt bx by_),(2,pt cx cy)]) (Kg 3) (Kd 57 #[Zi ax,Zi ay,Zi bx,Zi by_,Zi cx,Zi cy]) Zk (fun w1 hw h=>Ke Zk) fun g=>ZS 10 <| ZA (slH 185 (.slice (some ⟨g,0,none⟩) 3 3) (r:Nat)) (.slice (some ⟨g,0,none⟩) r 3) (fun w1 hw h=>run_slHp Zo) <| K0.loop (ι:={q:Nat×Nat×(Option Addr×Nat) // q.1≤r∧q.2.1=m+1+2*q.1}) 56 (fun q=>⟨[(0,.v (.slice A n c)),(4,.v (.slice q.1.2.2.1 q.1.2.1 q.1.2.2.2)),(12,.v (.slice A n c)),(13,.v (Zi n)),(14,.v (Zi k)),(37,.v (.slice (some ⟨g,0,none⟩) r 3)),(38,.v (Zi r)),(39,.v (Zi q.1.1))],[]⟩) (fun q u=>K7 u w.heap.size 9 1 q.1.2.2.1 q.1.2.1 q.1.2.2.2 (sv ((p++ [[letS v]])++(T.take q.1.1).flatMap Yv))∧Kd 57 #[Zi ax,Zi ay,Zi bx,Zi by_,Zi cx,Zi cy] g u) (fun q=>r-q.1.1) (⟨(0,m+1,z.1,z.2),Nat.zero_le _,rfl⟩) Zk (fun _=>by kernel_rfl) ⟨Zk,Zk,Zk⟩ (fun u h=>(by have h2:=h;simp only[List.take_zero,List.flatMap_nil,List.append_nil];exact⟨h2.1.1,h2.2⟩)) ?_
  rintro⟨⟨j,mj,y2,yc2⟩,hj,hmj⟩ gg2
  have hj:j≤r:=hj
  have hmj:mj=m+1+2*j:=hmj
  by_cases hlt2:j<r
  case neg=>
   obtain rfl:j=r:=by omega
   refine ZR <| ZJ (decide ((j:Int)<(j:Int))) false Zs <| K0.leave Zk <| ZR <| K0.slot 14 (Zi (IntKind.i64.wrap ((k:Int)+1))) (Zi ((k+1:Nat):Int)) Zk (by rw[Ki hlt Zo]) <| K0.next (⟨(k+1,mj,y2,yc2),by show k+1≤n;omega,by show mj=_;rw[hnext];simp only[List.length_append,List.length_cons,List.length_flatMap,Yv,List.length_nil];have e:∀l:List (Int×Int),(l.map fun _=>0+1+1).sum=2*l.length:=(fun l=>by induction l with|nil=>rfl|cons p l ih=>simp only[List.map_cons,List.sum_cons,ih,List.length_cons];omega);rw[e,List.length_take,hTl];omega⟩) Zk (by show n- (k+1)<n-k;omega) ⟨Zk,Zk,Zk⟩ (fun u h=>(by have h1:=h.1;show K7 u w.heap.size 9 1 y2 mj yc2 (sv (Pg (ls.take (k+1))));rw[hnext,List.append_cons];exact h1))
  obtain⟨q,hq⟩:∃q,T[j]? =some q:=⟨_,List.getElem?_eq_getElem Zo⟩
  have hstep:(T.take (j+1)).flatMap Yv=(T.take j).flatMap Yv++ [Kj q.1,Kj q.2]:=by rw[List.take_add_one,hq];simp[Yv]
  obtain⟨pj,hpj⟩:∃pj,pj=(p++ [[letS v]])++(T.take j).flatMap Yv:=⟨_,rfl⟩
  have hrng:=htri j q (hT▸hq)
  refine ZR <| ZJ (decide ((j:Int)<(r:Int))) true Zp <| ZA (Ku 185 (.slice (some ⟨g,0,none⟩) r 3) j) (Zq g (j*2)) (fun w1 hw h=>Kq (elem:=57) Zk Zk hlt2) <| ZA (Kt 57 ⟨g,j*2,none⟩) (pt q.1 q.2) (fun w1 hw h=>tri_ld h.2 (hT▸hq)) <| ZC (fun w1 hw h=>Kx (n:=q.1) Zo Zo) fun u1=>ZC (fun w1 hw h=>Kx (n:=q.2) Zo Zo) fun u2=>K0.make (Li 66 2 #[(0,K4 (Kj q.1)),(1,K4 (Kj q.2))]) (Kg 2) (Kd 9 #[K4 (Kj q.1),K4 (Kj q.2)]) Zk (fun w1 hw h=>Ke Zk) fun gb2=>ZS 8 <| K0.mutAny (L:=bl y2) (val:=fun(z:Option Addr×Nat)=> .slice z.1 (mj+2) z.2) (Φ':=fun(z:Option Addr×Nat) vv=>K7 vv w.heap.size 9 1 z.1 (mj+2) z.2 (sv (pj++ [Kj q.1,Kj q.2]))∧Kd 57 #[Zi ax,Zi ay,Zi bx,Zi by_,Zi cx,Zi cy] g vv) (G:=fun(z:Option Addr×Nat) vv=>K7 vv w.heap.size 9 1 z.1 (mj+2) z.2 (sv (pj++ [Kj q.1,Kj q.2]))) (M4 66 66 (.slice y2 mj yc2) (Kg 2 gb2)) (fun w1 hw h=>by have ho:K7 w1 w.heap.size 9 1 y2 mj yc2 (sv (pj)):=(by rw[hpj];exact h.1.1.1.1);exact app_strs (l:=[Kj q.1,Kj q.2]) ho hw.size h.2 (show mj<1000000 from by omega) Zs) (fun w1 h=>fun b hb=>⟨((show K7 w1 w.heap.size 9 1 y2 mj yc2 (sv (pj))from(by rw[hpj];exact h.1.1.1.1)).lt b hb).1,((show K7 w1 w.heap.size 9 1 y2 mj yc2 (sv (pj))from(by rw[hpj];exact h.1.1.1.1)).blk b hb).2⟩) (fun z wa w1 e1 e2 h hG=>⟨hG,(e2 g (lit_ne (show K7 wa w.heap.size 9 1 y2 mj yc2 (sv (pj))from(by rw[hpj];exact h.1.1.1.1)) h.1.1.1.2)).symm.trans h.1.1.1.2⟩) Zk Zk fun z2=>ZR <| K0.slot 39 (Zi (IntKind.i64.wrap ((j:Int)+1))) (Zi ((j+1:Nat):Int)) Zk (by rw[Ki hlt2 Zo]) <| K0.next (⟨(j+1,mj+2,z2.1,z2.2),by show j+1≤r;omega,by show mj+2=_;omega⟩) Zk (by show r- (j+1)<r-j;omega) ⟨Zk,Zk,Zk⟩ (fun u h=>⟨(by have h1:=h.1;show K7 u w.heap.size 9 1 z2.1 (mj+2) z2.2 (sv ((p++ [[letS v]])++(T.take (j+1)).flatMap Yv));rw[hstep,←List.append_assoc,←hpj];exact h1),h.2⟩)
end
end Go.Proofs.YtoeiphicmcndlaaGreatDoor
