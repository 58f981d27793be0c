/-
 A part of the proof.
-/
import Derived.Test.YtpgkbllcnphmbaaGreatDoorBSd
import Derived.Scope
import Derived.Test.YtpgkbllcnphmbaaGreatDoorBIx
import Derived.Test.YtpgkbllcnphmbaaGreatDoorBAr
namespace Go.Proofs.YtpgkbllcnphmbaaGreatDoor
set_option maxRecDepth 100000
set_option maxHeartbeats 8000000
set_option linter.unusedVariables false
set_option linter.unusedSimpArgs false
open Go.RowKit
def Ep(c:Md):Option Md:=match c.foc with
 | .code (.scope x)=>match c.k with
  | []=>some ⟨.code x,[],c.st⟩
  |_=>none
 |_=>none
def amScope(c:Md):Md:=(Ep c).getD c
theorem K0.scope{P:Program}{Δ:List Deferred}{W:World}{fn:Func}{R:Ending→World→Prop}{Φ:World→Prop}{c:Md}(hc:(Ep c).isSome=true)(h:K0 P Δ W (bodyPost P fn R) Φ (amScope c)):K0 P Δ W (bodyPost P fn R) Φ c:=by
 obtain⟨foc,k,σ⟩:=c
 unfold amScope at h
 unfold Ep at hc h
 simp only at hc h
 split at hc
 ·rename_i x
  split at hc
  ·replace h:=h.get
   refine⟨fun hwf β a w hr=>wpIn_wide.2 (wp_scope_straight (wp_mono (wpIn_wide.1 (h hwf β a w hr)) fun e a w hq=> ?_))⟩
   cases e<;>first|exact hq|exact hq.elim
  ·cases hc
 ·cases hc
def mk1S(t:TypeId):Sem Next:=Instr.makeSlice t (.int .i64 1) (.int .i64 1) >>= fun v=>pure (.value v)
theorem make_1{P:Program}{w:World}{t e:TypeId}{N:Nat}(ht:P.underlying t=some (.slice e))(hi:S5 P e=some (.int .u8 0,1,1))(hN:N≤w.heap.size):
 Lp P w (fun g:Nat=> .slice (some ⟨g,0,none⟩) 1 1) (fun g u=>Kb u g e [.int .u8 0]∧N≤g) (mk1S t):=by
 unfold S5 at hi
 obtain⟨i,hi0,hi1⟩:=Option.bind_eq_some_iff.1 hi
 obtain⟨z,hz,hi2⟩:=Option.map_eq_some_iff.1 hi1
 simp only[Prod.mk.injEq]at hi2
 obtain⟨rfl,hsz,hby⟩:=hi2
 have hr:=run_makeSlice (P:=P) w t e i _ ht hi0 hz .i64 .i64 1 1 Zd Zd (by rw[hsz];decide) (by rw[hby];decide) Zd
 rw[hsz]at hr
 refine⟨w.heap.size,_,by simp only[mk1S,Sem.run_bind,hr,Result.andThen_ok,Sem.run_pure];rfl,Om _ _,fun w'' h1 h2=>⟨?_,hN⟩⟩
 unfold Kb
 rw[(P6 w _ h1 h2).1]
 show some (Obj.cells (madeCells (Value.int .u8 0).cells (1*1)) e)=_
 have:madeCells (Value.int .u8 0).cells (1*1)=[Value.int .u8 0].toArray:=Array.ext (by rw[size_madeCells];rfl) fun i h1 h2=>by
  obtain rfl:i=0:=by simp at h2;omega
  simp[madeCells];rfl
 rw[this]
section
variable{w u:World}{A:Option Addr}{n c:Nat}{H:List LP}{rule x y:Int}
theorem cmask_no(hp:Np w A n H)(hn:n≤1000000)(hl:∀x∈H,x.1.length≤1000000)(hv:vL 0 (K4 H)=false){r:Value}(hr:r=Mv x y (x+1) (y+1)):
 Calls Tryz.prog 280 #[.slice A n c,.int .i64 rule,r] w (K3 w (fun _:Unit=> .tuple #[.agg #[.int .i64 0,.int .i64 0,.int .i64 0,.int .i64 0,.slice none 0 0],.int .i64 12]) fun _ _=>True):=by
 subst hr
 refine K0.enter Tryz.func280 rfl ?_
 refine ZR ?_
 refine K0.scope Zk ?_
 refine ZR ?_
 refine ZC (fun w1 hw h=>Pg (c:=c) (hp.below hw) hn hl hv) fun v=> ?_
 refine ZI true ?_
 exact ZW (.tuple #[.agg #[.int .i64 0,.int .i64 0,.int .i64 0,.int .i64 0,.slice none 0 0],.int .i64 12])
theorem cmask_m(hp:Np w A n H)(hn:n≤1000000)(hl:∀x∈H,x.1.length≤1000000)(hv:vL 0 (K4 H)=true)(hV:(K4 H).flatten.length≤192)(hr:rule=1∨rule=2)(hx:0≤x∧x≤4000)(hy:0≤y∧y≤4000):
 Calls Tryz.prog 280 #[.slice A n c,.int .i64 rule,Mv x y (x+1) (y+1)] w (K3 w (fun g:Nat=> .tuple #[.agg #[.int .i64 x,.int .i64 y,.int .i64 (x+1),.int .i64 (y+1),.slice (some ⟨g,0,none⟩) 1 1],.int .i64 0]) fun g u=>Kb u g 5 [.int .u8 (Mh (K4 H) rule x y:Int)]∧w.heap.size≤g):=by
 have hR:Qk x y (x+1) (y+1):=by unfold Qk;omega
 have h1:(x+1-x)*(y+1-y)=1:=by rw[show x+1-x=1 by omega,show y+1-y=1 by omega];rfl
 rcases hr with rfl|rfl
 ·
  refine K0.enter Tryz.func280 rfl ?_
  refine ZR ?_
  refine K0.scope Zk ?_
  refine ZR ?_
  refine ZC (fun w1 hw h=>Pg (c:=c) (hp.below hw) hn hl hv) fun v=> ?_
  refine ZI false ?_
  refine ZI false ?_
  refine ZC (fun w1 hw h=>R4 hR.in_) fun v1=> ?_
  refine ZI false ?_
  refine ZC (fun w1 hw h=>Rv hR h1 Zd) fun a1=> ?_
  refine ZI false ?_
  refine ZC (fun w1 hw h=>Nk hR) fun c1=> ?_
  refine ZC (fun w1 hw h=>Rv hR h1 Zd) fun a2=> ?_
  refine K0.make (mk1S 223) (fun g:Nat=> .slice (some ⟨g,0,none⟩) 1 1) (fun g u=>Kb u g 5 [.int .u8 0]∧w.heap.size≤g) Zk (fun w1 hw h=>make_1 Zk Zk hw.size) (fun g=> ?_)
  refine ZR ?_
  refine ZC (fun w1 hw h=>pixb_m (c:=c) (hp.below hw) hn hv) fun px=> ?_
  obtain⟨⟨p1,p2,p3,p4⟩,hpx⟩:=px
  have hq:=hpx.rng
  dsimp only at hq
  have hz:¬((p1≤x∧x<p3)∧(p2≤y∧y<p4))→Mh (K4 H) 1 x y=0:=fun k=>by unfold Mh;rw[if_pos hv];exact Fb (hpx.out x y k)
  refine K0.un Zk ?_
  refine ZR ?_
  refine K0.condr (decide (y<y+1)) true Zk (decide_eq_true Zo) ?_
  refine ZS 4 ?_
  by_cases c1:y<p2
  ·
   refine ZT 55 (.bool (decide (y<p2))) (.bool true) (by rw[decide_eq_true c1]) ?_
   refine ZI true ?_
   refine ZJ (decide (IntKind.i64.wrap (y+1)<y+1)) false (decide_eq_false (by rw[IntWalk.i64_in _ Zo];omega)) ?_
   refine ZV (.tuple #[.agg #[.int .i64 x,.int .i64 y,.int .i64 (x+1),.int .i64 (y+1),.slice (some ⟨g,0,none⟩) 1 1],.int .i64 0]) (fun w1 hw h=>⟨g,rfl,hw,fun u k1 k2=>by rw[hz Zo];exact(h u k1 k2).1.2⟩)
  refine ZT 55 (.bool (decide (y<p2))) (.bool false) (by rw[decide_eq_false c1]) ?_
  by_cases c2:y≥p4
  ·
   refine ZJ (decide (y≥p4)) true (decide_eq_true c2) ?_
   refine ZJ (decide (IntKind.i64.wrap (y+1)<y+1)) false (decide_eq_false (by rw[IntWalk.i64_in _ Zo];omega)) ?_
   refine ZV (.tuple #[.agg #[.int .i64 x,.int .i64 y,.int .i64 (x+1),.int .i64 (y+1),.slice (some ⟨g,0,none⟩) 1 1],.int .i64 0]) (fun w1 hw h=>⟨g,rfl,hw,fun u k1 k2=>by rw[hz Zo];exact(h u k1 k2).1.2⟩)
  refine ZJ (decide (y≥p4)) false (decide_eq_false c2) ?_
  refine K0.un Zk ?_
  refine ZR ?_
  have e1:∀a b:Int,(if a>b then a else b)=max a b:=fun a b=>by split<;>omega
  have e2:∀a b:Int,(if a<b then a else b)=min a b:=fun a b=>by split<;>omega
  by_cases c3:p1≤x∧x<p3
  case neg=>
   refine ZJ (decide ((if p1>x then p1 else x)<(if p3<x+1 then p3 else x+1))) false (decide_eq_false (by rw[e1,e2];omega)) ?_
   refine ZJ (decide (IntKind.i64.wrap (y+1)<y+1)) false (decide_eq_false (by rw[IntWalk.i64_in _ Zo];omega)) ?_
   refine ZV (.tuple #[.agg #[.int .i64 x,.int .i64 y,.int .i64 (x+1),.int .i64 (y+1),.slice (some ⟨g,0,none⟩) 1 1],.int .i64 0]) (fun w1 hw h=>⟨g,rfl,hw,fun u k1 k2=>by rw[hz Zo];exact(h u k1 k2).1.2⟩)
  refine K0.slot 11 (.int .i64 (if p1>x then p1 else x)) (.int .i64 x) Zk (by rw[e1,Int.max_eq_right c3.1]) ?_
  refine ZJ (decide ((if p1>x then p1 else x)<(if p3<x+1 then p3 else x+1))) true (decide_eq_true (by rw[e1,e2];omega)) ?_
  refine ZC (fun w1 hw h=>B1 hR) fun ix=> ?_
  refine ZC (fun w1 hw h=>Fa (c:=c) (rule:=1) (hp.below hw) hn hl hV Zd hx hy) fun pv=> ?_
  refine ZA (Kc 223 (.slice (some ⟨g,0,none⟩) 1 1) (0:Nat)) (.pointer (some ((⟨g,0,none⟩:Addr).add 0))) (fun w1 hw h=>R5 (elem:=5) Zk Zk Zd) ?_
  refine K0.mutStB (L:=[g]) (G:=fun u=>Kb u g 5 [.int .u8 (Mh (K4 H) 1 x y:Int)]) (Φ':=fun u=>Kb u g 5 [.int .u8 (Mh (K4 H) 1 x y:Int)]∧w.heap.size≤g) (Rm 5 ⟨g,0,none⟩ (.int .u8 (Mh (K4 H) 1 x y:Int))) (fun w1 hw h=>Kb.store (v:= .int .u8 (Mh (K4 H) 1 x y:Int)) h.1.1.1.2.1 Zk rfl (fun u hu=>by simp[Value.cells]at hu;subst hu;rfl)) (fun u h b hb=>by have hb:=List.mem_singleton.1 hb;subst hb;exact⟨h.1.1.1.2.2,h.1.1.1.2.1.own⟩) (fun wa u e1 e2 h hG=>⟨hG,h.1.1.1.2.2⟩) Zk Zk ?_
  refine ZR ?_
  refine ZJ (decide (IntKind.i64.wrap (x+1)<(if p3<x+1 then p3 else x+1))) false (decide_eq_false (by rw[e2,IntWalk.i64_in _ Zo];omega)) ?_
  refine ZJ (decide (IntKind.i64.wrap (y+1)<y+1)) false (decide_eq_false (by rw[IntWalk.i64_in _ Zo];omega)) ?_
  refine ZV (.tuple #[.agg #[.int .i64 x,.int .i64 y,.int .i64 (x+1),.int .i64 (y+1),.slice (some ⟨g,0,none⟩) 1 1],.int .i64 0]) (fun w1 hw h=>⟨g,rfl,hw,fun u k1 k2=>h u k1 k2⟩)
 ·
  refine K0.enter Tryz.func280 rfl ?_
  refine ZR ?_
  refine K0.scope Zk ?_
  refine ZR ?_
  refine ZC (fun w1 hw h=>Pg (c:=c) (hp.below hw) hn hl hv) fun v=> ?_
  refine ZI false ?_
  refine ZI false ?_
  refine ZC (fun w1 hw h=>R4 hR.in_) fun v1=> ?_
  refine ZI false ?_
  refine ZC (fun w1 hw h=>Rv hR h1 Zd) fun a1=> ?_
  refine ZI false ?_
  refine ZC (fun w1 hw h=>Nk hR) fun c1=> ?_
  refine ZC (fun w1 hw h=>Rv hR h1 Zd) fun a2=> ?_
  refine K0.make (mk1S 223) (fun g:Nat=> .slice (some ⟨g,0,none⟩) 1 1) (fun g u=>Kb u g 5 [.int .u8 0]∧w.heap.size≤g) Zk (fun w1 hw h=>make_1 Zk Zk hw.size) (fun g=> ?_)
  refine ZR ?_
  refine ZC (fun w1 hw h=>pixb_m (c:=c) (hp.below hw) hn hv) fun px=> ?_
  obtain⟨⟨p1,p2,p3,p4⟩,hpx⟩:=px
  have hq:=hpx.rng
  dsimp only at hq
  have hz:¬((p1≤x∧x<p3)∧(p2≤y∧y<p4))→Mh (K4 H) 2 x y=0:=fun k=>by unfold Mh;rw[if_pos hv];exact Fb (hpx.out x y k)
  refine K0.un Zk ?_
  refine ZR ?_
  refine K0.condr (decide (y<y+1)) true Zk (decide_eq_true Zo) ?_
  refine ZS 4 ?_
  by_cases c1:y<p2
  ·
   refine ZT 55 (.bool (decide (y<p2))) (.bool true) (by rw[decide_eq_true c1]) ?_
   refine ZI true ?_
   refine ZJ (decide (IntKind.i64.wrap (y+1)<y+1)) false (decide_eq_false (by rw[IntWalk.i64_in _ Zo];omega)) ?_
   refine ZV (.tuple #[.agg #[.int .i64 x,.int .i64 y,.int .i64 (x+1),.int .i64 (y+1),.slice (some ⟨g,0,none⟩) 1 1],.int .i64 0]) (fun w1 hw h=>⟨g,rfl,hw,fun u k1 k2=>by rw[hz Zo];exact(h u k1 k2).1.2⟩)
  refine ZT 55 (.bool (decide (y<p2))) (.bool false) (by rw[decide_eq_false c1]) ?_
  by_cases c2:y≥p4
  ·
   refine ZJ (decide (y≥p4)) true (decide_eq_true c2) ?_
   refine ZJ (decide (IntKind.i64.wrap (y+1)<y+1)) false (decide_eq_false (by rw[IntWalk.i64_in _ Zo];omega)) ?_
   refine ZV (.tuple #[.agg #[.int .i64 x,.int .i64 y,.int .i64 (x+1),.int .i64 (y+1),.slice (some ⟨g,0,none⟩) 1 1],.int .i64 0]) (fun w1 hw h=>⟨g,rfl,hw,fun u k1 k2=>by rw[hz Zo];exact(h u k1 k2).1.2⟩)
  refine ZJ (decide (y≥p4)) false (decide_eq_false c2) ?_
  refine K0.un Zk ?_
  refine ZR ?_
  have e1:∀a b:Int,(if a>b then a else b)=max a b:=fun a b=>by split<;>omega
  have e2:∀a b:Int,(if a<b then a else b)=min a b:=fun a b=>by split<;>omega
  by_cases c3:p1≤x∧x<p3
  case neg=>
   refine ZJ (decide ((if p1>x then p1 else x)<(if p3<x+1 then p3 else x+1))) false (decide_eq_false (by rw[e1,e2];omega)) ?_
   refine ZJ (decide (IntKind.i64.wrap (y+1)<y+1)) false (decide_eq_false (by rw[IntWalk.i64_in _ Zo];omega)) ?_
   refine ZV (.tuple #[.agg #[.int .i64 x,.int .i64 y,.int .i64 (x+1),.int .i64 (y+1),.slice (some ⟨g,0,none⟩) 1 1],.int .i64 0]) (fun w1 hw h=>⟨g,rfl,hw,fun u k1 k2=>by rw[hz Zo];exact(h u k1 k2).1.2⟩)
  refine K0.slot 11 (.int .i64 (if p1>x then p1 else x)) (.int .i64 x) Zk (by rw[e1,Int.max_eq_right c3.1]) ?_
  refine ZJ (decide ((if p1>x then p1 else x)<(if p3<x+1 then p3 else x+1))) true (decide_eq_true (by rw[e1,e2];omega)) ?_
  refine ZC (fun w1 hw h=>B1 hR) fun ix=> ?_
  refine ZC (fun w1 hw h=>Fa (c:=c) (rule:=2) (hp.below hw) hn hl hV Zd hx hy) fun pv=> ?_
  refine ZA (Kc 223 (.slice (some ⟨g,0,none⟩) 1 1) (0:Nat)) (.pointer (some ((⟨g,0,none⟩:Addr).add 0))) (fun w1 hw h=>R5 (elem:=5) Zk Zk Zd) ?_
  refine K0.mutStB (L:=[g]) (G:=fun u=>Kb u g 5 [.int .u8 (Mh (K4 H) 2 x y:Int)]) (Φ':=fun u=>Kb u g 5 [.int .u8 (Mh (K4 H) 2 x y:Int)]∧w.heap.size≤g) (Rm 5 ⟨g,0,none⟩ (.int .u8 (Mh (K4 H) 2 x y:Int))) (fun w1 hw h=>Kb.store (v:= .int .u8 (Mh (K4 H) 2 x y:Int)) h.1.1.1.2.1 Zk rfl (fun u hu=>by simp[Value.cells]at hu;subst hu;rfl)) (fun u h b hb=>by have hb:=List.mem_singleton.1 hb;subst hb;exact⟨h.1.1.1.2.2,h.1.1.1.2.1.own⟩) (fun wa u e1 e2 h hG=>⟨hG,h.1.1.1.2.2⟩) Zk Zk ?_
  refine ZR ?_
  refine ZJ (decide (IntKind.i64.wrap (x+1)<(if p3<x+1 then p3 else x+1))) false (decide_eq_false (by rw[e2,IntWalk.i64_in _ Zo];omega)) ?_
  refine ZJ (decide (IntKind.i64.wrap (y+1)<y+1)) false (decide_eq_false (by rw[IntWalk.i64_in _ Zo];omega)) ?_
  refine ZV (.tuple #[.agg #[.int .i64 x,.int .i64 y,.int .i64 (x+1),.int .i64 (y+1),.slice (some ⟨g,0,none⟩) 1 1],.int .i64 0]) (fun w1 hw h=>⟨g,rfl,hw,fun u k1 k2=>h u k1 k2⟩)
end
abbrev LQ:=LP×Bool
def lqV(x:LQ):Value:= .agg #[Cs x.1,.bool x.2]
def Yh(x:LQ):List Value:=[Cs x.1,.bool x.2]
structure LinA(u:World)(A:Option Addr)(n:Nat)(H:List LQ):Prop where
 row:Kq u A n 2 Yh H
 ring:∀x∈H,Kq u x.1.2.1 x.1.1.length 2 Kf x.1.1
def P0(L:List (List Pt)):List (List Pt):=L.filter fun r=>decide (3≤r.length)
abbrev Rn(H:List LQ):List (List Pt):=H.map (·.1.1)
section
variable{w u:World}{A:Option Addr}{n c N:Nat}{H:List LQ}{l:List Pt}{ad:Addr}
theorem H7{P:Program}{t elem:TypeId}{len s:Nat}{parts:Array (Nat×Value)}{cells:Array Value}{N:Nat}(h:Em P t len parts=some (elem,cells))(hN:N≤w.heap.size)(hn:cells.size=len*s)(hm:len≤maxLen):
 Lp P w (Km len) (fun g u=>K6 u N elem s (some ⟨g,0,none⟩) len len cells.toList) (M5 t len parts):=by
 obtain⟨x,w',hrun,hb,hG⟩:=Lp.fresh (Ke (w:=w) h) (fun g=>[g]) (fun g u h b hb=>by
  simp only[List.mem_singleton]at hb;subst hb;exact⟨_,_,_,h⟩)
 exact⟨x,w',hrun,hb,fun w'' h1 h2=>K6.lit (hG w'' h1 h2).1 hn (Nat.le_trans hN ((hG w'' h1 h2).2 x Zs)) hm⟩
theorem make_0{P:Program}{t elem:TypeId}{s:Nat}{N:Nat}(h:Em P t 0 #[]=some (elem,#[]))(hN:N≤w.heap.size):
 Lp P w (fun y:Option Addr×Nat=> .slice y.1 0 y.2) (fun y u=>K6 u N elem s y.1 0 y.2 []) (M5 t 0 #[]):=by
 obtain⟨g,w',h1⟩:=H7 (w:=w) (s:=s) (len:=0) (cells:= #[]) h hN Zs Zd
 exact⟨(some ⟨g,0,none⟩,0),w',h1⟩
theorem clone_m(hr:Kq w (some ad) n 2 Kf l)(hn:n≤1000000)(hN:N≤w.heap.size):Calls Tryz.prog 50 #[.slice (some ad) n c] w (K3 w (fun y:Option Addr×Nat=> .slice y.1 n y.2) fun y u=>K6 u N 35 2 y.1 n y.2 (l.flatMap Kf)):=by
 refine K0.enter Tryz.func50 rfl ?_
 refine ZR ?_
 refine ZI false ?_
 refine K0.make (M5 108 0 #[]) (fun y:Option Addr×Nat=> .slice y.1 0 y.2) (fun y u=>K6 u w.heap.size 35 2 y.1 0 y.2 []) Zk (fun w1 hw h=>make_0 Zk hw.size) (fun g=> ?_)
 refine ZS 2 ?_
 refine K0.mutOp (L:=bl g.1) (val:=fun(z:Option Addr×Nat)=> .slice z.1 n z.2) (Φ':=fun(z:Option Addr×Nat) v=>K6 v w.heap.size 35 2 z.1 n z.2 (l.flatMap Kf)) (G:=fun(z:Option Addr×Nat) v=>K6 v w.heap.size 35 2 z.1 n z.2 (l.flatMap Kf)) (Nc 108 108 (.slice g.1 0 g.2) (.slice (some ad) n c)) (fun w1 hw h=>by
  have hl:=hr.1
  have:=app_pts (z:=g) (m:=0) (acc:=[]) (l:=l) (A2:=some ad) (c2:=c) h.2 hw.size (by rw[hl];exact hr.below hw) Zo
  rw[hl,Nat.zero_add]at this
  exact this) (fun w1 h b hb=>⟨(h.2.lt b hb).1,(h.2.blk b hb).2⟩) (fun z' wa w1 e1 e2 h hG=>hG) Zk Zk (fun z'=> ?_)
 refine ZR ?_
 refine ZV (.slice z'.1 n z'.2) (fun w1 hw h=>⟨z',rfl,hw,fun w'' k1 k2=>(h w'' k1 k2).rebase fun b hb=>Nat.le_trans hN ((h w'' k1 k2).lt b hb).1⟩)
theorem LinA.at(h:LinA w A n H){k:Nat}(hk:k<n):∃x ad,H[k]? =some x∧A=some ad∧∀(j:Nat) (v:Value),(Yh x)[j]? =some v→w.cell? ((ad.add (k*2)).add j)=some v:=by
 obtain⟨x,hx⟩:∃v,H[k]? =some v:=⟨_,List.getElem?_eq_getElem (by rw[h.row.1];exact hk)⟩
 obtain⟨ad,hA,hc⟩:=h.row.2 k x hx
 exact⟨x,ad,hx,hA,hc⟩
theorem fromL_snoc(L:List (List Pt))(r:List Pt):P0 (L++ [r])=if 3≤r.length then P0 L++ [r]else P0 L:=by
 unfold P0
 rw[List.filter_append]
 by_cases h:3≤r.length
 ·rw[if_pos h];simp[h]
 ·rw[if_neg h];simp[h]
theorem Jh(hp:LinA w A n H)(hn:n≤1000000)(hl:∀x∈H,x.1.1.length≤1000000)(hN:N≤w.heap.size):Calls Tryz.prog 26 #[.slice A n c] w (K3 w (fun q:(Option Addr×Nat)×{L:List LP // K4 L=P0 (Rn H)}=> .slice q.1.1 q.2.1.length q.1.2) fun q u=>L4 N q.1 q.2.1.length q.2.1 u):=by
 refine K0.enter Tryz.func26 rfl ?_
 refine ZR ?_
 refine K0.loop (ι:={q:(Nat×List LP)×(Option Addr×Nat) // q.1.1≤n∧K4 q.1.2=P0 (Rn (H.take q.1.1))}) 24 (fun q=>⟨[(3,.v (.slice q.1.2.1 q.1.1.2.length q.1.2.2)),(6,.v (.slice A n c)),(7,.v (.int .i64 n)),(8,.v (.int .i64 q.1.1.1))],[]⟩) (fun q u=>L4 w.heap.size q.1.2 q.1.1.2.length q.1.1.2 u) (fun q=>n-q.1.1.1) (⟨((0,[]),(none,0)),Nat.zero_le _,rfl⟩) Zk (fun _=>by kernel_rfl) ⟨Zk,Zk,Zk⟩ (fun _ _=>L4.nil_) ?_
 rintro⟨⟨⟨k,L⟩,y⟩,hk,hL⟩ gg
 have hk2:k≤n:=hk
 have hLl:L.length≤k:=by have:=congrArg List.length hL;unfold K4 P0 at this;rw[List.length_map]at this;rw[this];exact Nat.le_trans (List.length_filter_le _ _) (by simp[Rn];omega)
 have hL2:K4 L=P0 (Rn (H.take k)):=hL
 by_cases hlt:k<n
 case neg=>
  obtain rfl:k=n:=by omega
  have hL3:K4 L=P0 (Rn H):=by rw[hL2,List.take_of_length_le (by rw[hp.row.1];omega)]
  refine ZR ?_
  refine ZJ (decide ((k:Int)<(k:Int))) false (decide_eq_false Zo) ?_
  refine K0.leave Zk ?_
  refine ZR ?_
  refine ZV (.slice y.1 L.length y.2) (fun w1 hw h=>⟨(y,⟨L,hL3⟩),rfl,hw,fun w'' k1 k2=>L4.mono (h w'' k1 k2) hN⟩)
 obtain⟨⟨x,cl⟩,ad,hx,hA,hc⟩:=hp.at hlt
 have hmx:=List.mem_of_getElem? hx
 have hlx:x.1.length≤1000000:=hl _ hmx
 have hsn:P0 (Rn (H.take (k+1)))=if 3≤x.1.length then P0 (Rn (H.take k))++ [x.1]else P0 (Rn (H.take k)):=by
  unfold Rn;rw[Lb hx,List.map_append];exact fromL_snoc _ _
 refine ZR ?_
 refine ZJ (decide ((k:Int)<(n:Int))) true (decide_eq_true Zo) ?_
 refine ZA (Kc 83 (.slice A n c) k) (.pointer (some (ad.add (k*2)))) (fun w1 hw h=>by rw[hA];exact Lg (elem:=114) Zk Zk hlt) ?_
 refine ZA (Kd 114 (ad.add (k*2))) (lqV (x,cl)) (fun w1 hw h=>N7 (vs:=Yh (x,cl)) Zk Zk (fun j v hj=>Kt hw (hc j v hj))) ?_
 by_cases h3:3≤x.1.length
 case neg=>
  refine ZJ (decide ((x.1.length:Int)≥3)) false (decide_eq_false Zo) ?_
  refine K0.slot 8 (.int .i64 (IntKind.i64.wrap ((k:Int)+1))) (.int .i64 ((k+1:Nat):Int)) Zk (by rw[K7 hlt Zo]) ?_
  refine K0.next (⟨((k+1,L),y),hlt,by show K4 L=_;rw[hsn,if_neg h3];exact hL2⟩) Zk (by show n- (k+1)<n-k;omega) ⟨Zk,Zk,Zk⟩ (fun _ h=>h)
 have hr:=hp.ring _ hmx
 obtain⟨_,xa,_,hxa,_⟩:∃(p:Pt) (a:Addr),True∧x.2.1=some a∧True:=by
  obtain⟨p,hp2⟩:∃v,x.1[0]? =some v:=⟨_,List.getElem?_eq_getElem Zo⟩
  obtain⟨a,ha,_⟩:=hr.2 0 p hp2
  exact⟨p,a,trivial,ha,trivial⟩
 obtain⟨xs,xA,xc⟩:=x
 obtain rfl:xA=some xa:=hxa
 refine ZJ (decide ((xs.length:Int)≥3)) true (decide_eq_true (by have:3≤xs.length:=h3;omega)) ?_
 refine ZD 5 (fun w1 hw h=>clone_m (c:=xc) (N:=w.heap.size) (hr.below hw) hlx hw.size) fun z=> ?_
 refine K0.make (M5 (57) 1 #[(0,.slice z.1 xs.length z.2)]) (Km 1) (Kv 108 (lpC (xs,z)).toArray) Zk (fun w1 hw h=>Ke Zk) (fun gb=> ?_)
 refine ZS 5 ?_
 refine K0.mutOp (L:=bl y.1) (val:=fun(z:Option Addr×Nat)=> .slice z.1 (L.length+1) z.2) (Φ':=fun(y':Option Addr×Nat) v=>L4 w.heap.size y' (L.length+1) (L++ [(xs,z)]) v) (G:=fun(z':Option Addr×Nat) v=>K6 v w.heap.size 108 1 z'.1 (L.length+1) z'.2 ((L++ [(xs,z)]).flatMap lpC)) (Nc 57 57 (.slice y.1 L.length y.2) (Km 1 gb)) (fun w1 hw h=>app_ring h.1.1 hw.size h.2 Zo) (fun w1 h b hb=>⟨(h.1.1.own.lt b hb).1,(h.1.1.own.blk b hb).2⟩) (fun y' wa w1 e1 e2 h hG=>h.1.1.app h.1.2 e2 hG) Zk Zk (fun y'=> ?_)
 refine ZR ?_
 refine K0.slot 3 (.slice y'.1 (L.length+1) y'.2) (.slice y'.1 (L++ [(xs,z)]).length y'.2) Zk (by rw[List.length_append];rfl) ?_
 refine K0.slot 8 (.int .i64 (IntKind.i64.wrap ((k:Int)+1))) (.int .i64 ((k+1:Nat):Int)) Zk (by rw[K7 hlt Zo]) ?_
 refine K0.next (⟨((k+1,L++ [(xs,z)]),y'),hlt,by show K4 (L++ [(xs,z)])=_;rw[hsn,if_pos h3,←hL2];unfold K4;rw[List.map_append];rfl⟩) Zk (by show n- (k+1)<n-k;omega) ⟨Zk,Zk,Zk⟩ (fun u h=>by show L4 w.heap.size y' (L++ [(xs,z)]).length (L++ [(xs,z)]) u;rw[List.length_append];exact h)
end
def Me(v:Int):Int:=if v=1∨v=2 then 1 else if v=3 then 2 else if v=4 then 3 else if v=5 then 0 else -1
theorem named_cases(v:Int):v=1∨v=2∨v=3∨v=4∨v=5∨(v≠1∧v≠2∧v≠3∧v≠4∧v≠5):=by omega
theorem Cc{v:Int}(h:v≠1∧v≠2∧v≠3∧v≠4∧v≠5):Me v= -1:=by
 unfold Me
 rw[if_neg Zo,if_neg Zo,if_neg Zo,if_neg Zo]
def okP(i n x y:Int):Bool:=Lt x y&&(decide (i<n)||(x==0&&y==0))
def Ti(s:Sg):Bool:=okP 0 (Me s.v) s.ax s.ay&&okP 1 (Me s.v) s.bx s.by_&&okP 2 (Me s.v) s.cx s.cy
def Su(last v:Int):Bool:=v==1||(last !=5&&(v !=5||last !=1))
def T3(last:Int)(s:Sg):Int:=if Me s.v<0 then 2 else if Su last s.v=false then 10 else if Ti s=false then 6 else 0
def Xt:Int→Nat→List Sg→Int×Nat
 |_,_,[]=>(0,0)
 |last,i,s::l=>if T3 last s=0 then Xt s.v (i+1) l else(T3 last s,i)
def Ff(l:List Sg):Int×Nat:=if 256<l.length then(5,256)else Xt 5 0 l
def Sa(w:World)(A:Option Addr)(n:Nat)(ls:List Sg):Prop:=ls.length=n∧∀(k:Nat) (s:Sg),ls[k]? =some s→∃ad,A=some ad∧∀(j:Nat) (v:Value),s.cl[j]? =some v→w.cell? ((ad.add (k*7)).add j)=some v
theorem Sa.below{w w1:World}{A:Option Addr}{n:Nat}{ls:List Sg}(h:Sa w A n ls)(hw:Below w.heap.size w w1):Sa w1 A n ls:=
 ⟨h.1,fun k s hk=>by obtain⟨ad,h1,h2⟩:=h.2 k s hk;exact⟨ad,h1,fun j v hj=>Kt hw (h2 j v hj)⟩⟩
def sgX(s:Sg)(k:Nat):Int:=if k=0 then s.ax else if k=1 then s.bx else s.cx
def sgY(s:Sg)(k:Nat):Int:=if k=0 then s.ay else if k=1 then s.by_ else s.cy
theorem Hp{s:Sg}:Ti s=true↔∀k,k<3→okP (k:Nat) (Me s.v) (sgX s k) (sgY s k)=true:=by
 unfold Ti
 simp only[Bool.and_eq_true]
 constructor
 ·rintro⟨⟨h0,h1⟩,h2⟩ k hk
  rcases(by omega:k=0∨k=1∨k=2)with rfl|rfl|rfl
  ·exact h0
  ·exact h1
  ·exact h2
 ·intro h
  exact⟨⟨h 0 Zo,h 1 Zo⟩,h 2 Zo⟩
section
variable{w:World}{A A2:Option Addr}{n n2 c c2:Nat}{ls ms:List Sg}{X Y:Int}
theorem E3{k:Nat}{ad:Addr}(hA:A=some ad)(hk:k<n):(Kc 29 (.slice A n c) k).run Tryz.prog w= .ok (.value (.pointer (some (ad.add (k*7))))) w:=by
 rw[hA];exact Lg (elem:=96) Zk Zk hk
theorem sg_ld{ad:Addr}{s:Sg}(h:∀(j:Nat) (v:Value),s.cl[j]? =some v→w.cell? (ad.add j)=some v):(Kd 96 ad).run Tryz.prog w= .ok (.value s.val) w:=
 N7 (vs:=s.cl) Zk Zk h
theorem Da{v r:Int}(h:Me v=r):Calls Tryz.prog 87 #[.int .i64 v] w (K3 w (fun _:Unit=> .int .i64 r) fun _ _=>True):=by
 rcases named_cases v with rfl|rfl|rfl|rfl|rfl|hv
 ·obtain rfl:r=1:=h.symm
  refine K0.enter Tryz.func87 rfl ?_
  refine K0.runC Zk (stop:=1000) 6000 _ ?_
  exact ZW (.int .i64 1)
 ·obtain rfl:r=1:=h.symm
  refine K0.enter Tryz.func87 rfl ?_
  refine K0.runC Zk (stop:=1000) 6000 _ ?_
  exact ZW (.int .i64 1)
 ·obtain rfl:r=2:=h.symm
  refine K0.enter Tryz.func87 rfl ?_
  refine K0.runC Zk (stop:=1000) 6000 _ ?_
  exact ZW (.int .i64 2)
 ·obtain rfl:r=3:=h.symm
  refine K0.enter Tryz.func87 rfl ?_
  refine K0.runC Zk (stop:=1000) 6000 _ ?_
  exact ZW (.int .i64 3)
 ·obtain rfl:r=0:=h.symm
  refine K0.enter Tryz.func87 rfl ?_
  refine K0.runC Zk (stop:=1000) 6000 _ ?_
  exact ZW (.int .i64 0)
 ·obtain rfl:r= -1:=h.symm.trans (Cc hv)
  refine K0.enter Tryz.func87 rfl ?_
  refine ZR ?_
  refine ZJ ((v==4)) false Zp ?_
  refine ZJ ((v==3)) false Zp ?_
  refine ZJ ((v==1)) false Zp ?_
  refine ZJ ((v==2)) false Zp ?_
  refine ZJ ((v==5)) false Zp ?_
  exact ZW (.int .i64 (-1))
theorem lit_ld{g off:Nat}{cells:Array Value}{x y:Int}(h:Kv 35 cells g w)(hc:∀(j:Nat) (v:Value),([.int .i64 x,.int .i64 y]:List Value)[j]? =some v→cells[off+j]? =some v):(Kd 35 ⟨g,off,none⟩).run Tryz.prog w= .ok (.value (pt x y)) w:=
 Ka (vs:=[.int .i64 x,.int .i64 y]) Zk Zk (fun j v hj=>by
  have h1:w.heap[g]? =some (.cells cells 35 (0,0)):=h
  simp only[World.cell?,h1,Option.isSome_none,Bool.false_eq_true,if_false]
  exact hc j v hj)
theorem okP_in{i n x y:Int}(h:i<n):okP i n x y=Lt x y:=by unfold okP;rw[decide_eq_true h];simp
theorem okP_out{i n x y:Int}(h:¬i<n):okP i n x y=(Lt x y&&(x==0&&y==0)):=by unfold okP;rw[decide_eq_false h];simp
theorem fits_n{s:Sg}{B:Bool}{r:Int}(hn:Me s.v=r)(h:Ti s=B):Calls Tryz.prog 142 #[s.val] w (K3 w (fun _:Unit=> .bool B) fun _ _=>True):=by
 refine K0.enter Tryz.func142 rfl ?_
 refine ZR ?_
 refine K0.make (M5 (108) 3 #[(0,pt s.ax s.ay),(1,pt s.bx s.by_),(2,pt s.cx s.cy)]) (Km 3) (Kv 35 #[.int .i64 s.ax,.int .i64 s.ay,.int .i64 s.bx,.int .i64 s.by_,.int .i64 s.cx,.int .i64 s.cy]) Zk (fun w1 hw h=>Ke Zk) (fun g=> ?_)
 refine ZR ?_
 refine K0.loop (ι:={k:Nat // k≤3∧∀j,j<k→okP (j:Nat) (Me s.v) (sgX s j) (sgY s j)=true}) 34 (fun q=>⟨[(1,.p 1 0),(11,.v (Km 3 g)),(12,.v (.int .i64 3)),(13,.v (.int .i64 q.1))],[(1,s.cl.map .v)]⟩) (fun q u=>Kv 35 #[.int .i64 s.ax,.int .i64 s.ay,.int .i64 s.bx,.int .i64 s.by_,.int .i64 s.cx,.int .i64 s.cy] g u) (fun q=>3-q.1) (⟨0,Nat.zero_le _,fun j hj=>absurd hj Zo⟩) Zk (fun _=>by kernel_rfl) ⟨Zk,Zk,Zk⟩ (fun u h=>h.2) ?_
 rintro⟨k,hk,hI⟩ g2
 by_cases hlt:k<3
 case neg=>
  obtain rfl:k=3:=by omega
  obtain rfl:B=true:=h.symm.trans (Hp.2 hI)
  refine ZR ?_
  refine ZI false ?_
  refine K0.leave Zk ?_
  refine ZR ?_
  exact ZW (.bool true)
 have bad:okP (k:Nat) (Me s.v) (sgX s k) (sgY s k)=false→B=false:=fun e=>by rw[←h];exact Bool.eq_false_iff.2 fun h2=>by rw[Hp.1 h2 k hlt]at e;cases e
 refine ZR ?_
 refine K0.condr (decide ((k:Int)<3)) true Zk Zp ?_
 refine ZS 1 ?_
 refine ZA (Kc 108 (Km 3 g) k) (.pointer (some ⟨g,k*2,none⟩)) (fun w1 hw h=>K9 (elem:=35) Zk Zk hlt) ?_
 refine ZA (Kd 35 ⟨g,k*2,none⟩) (pt (sgX s k) (sgY s k)) (fun w1 hw h=>lit_ld h (fun j v hj=>by rcases(by omega:k=0∨k=1∨k=2)with rfl|rfl|rfl<;>(rcases j with _|_|j<;>simp[sgX,sgY]at hj ⊢ <;>exact hj))) ?_
 cases hv:Lt (sgX s k) (sgY s k)with
 |false=>
  obtain rfl:B=false:=bad (by unfold okP;rw[hv];rfl)
  refine ZC (fun w1 hw h=>Nh hv) fun u=> ?_
  refine ZI true ?_
  refine K0.leave Zk ?_
  refine ZR ?_
  exact ZW (.bool false)
 |true=>
 refine ZC (fun w1 hw h=>Nh hv) fun u=> ?_
 refine ZD 9 (fun w1 hw h=>Da hn) fun u=> ?_
 have nx:okP (k:Nat) (Me s.v) (sgX s k) (sgY s k)=true→∀j,j<k+1→okP (j:Nat) (Me s.v) (sgX s j) (sgY s j)=true:=fun e j hj=>by
  rcases Nat.lt_or_ge j k with h1|h1
  ·exact hI j h1
  ·obtain rfl:j=k:=by omega
   exact e
 by_cases hkr:(k:Int)<r
 ·
  refine ZT 26 (.bool (decide ((k:Int)≥r))) (.bool false) (by rw[decide_eq_false Zo]) ?_
  refine ZI false ?_
  refine K0.slot 13 (.int .i64 (IntKind.i64.wrap ((k:Int)+1))) (.int .i64 ((k+1:Nat):Int)) Zk (by rw[K7 hlt Zo]) ?_
  refine K0.next (⟨k+1,hlt,nx (by rw[hn,okP_in hkr];exact hv)⟩) Zk (by show 3- (k+1)<3-k;omega) ⟨Zk,Zk,Zk⟩ (fun _ h=>h.1.1)
 refine K0.slot 26 (.bool (decide ((k:Int)≥r))) (.bool true) Zk (by rw[decide_eq_true Zo]) ?_
 refine ZS 12 ?_
 cases hz:(sgX s k==0&&sgY s k==0)with
 |false=>
  obtain rfl:B=false:=bad (by rw[hn,okP_out hkr,hv,hz];rfl)
  refine ZA (neP 35 (.tmp 28) (.tmp 29) (pt (sgX s k) (sgY s k)) (pt 0 0)) (.bool true) (fun w1 hw h=>by rw[D4,hz];rfl) ?_
  refine ZI true ?_
  refine K0.leave Zk ?_
  refine ZR ?_
  exact ZW (.bool false)
 |true=>
  refine ZA (neP 35 (.tmp 28) (.tmp 29) (pt (sgX s k) (sgY s k)) (pt 0 0)) (.bool false) (fun w1 hw h=>by rw[D4,hz];rfl) ?_
  refine ZI false ?_
  refine K0.slot 13 (.int .i64 (IntKind.i64.wrap ((k:Int)+1))) (.int .i64 ((k+1:Nat):Int)) Zk (by rw[K7 hlt Zo]) ?_
  refine K0.next (⟨k+1,hlt,nx (by rw[hn,okP_out hkr,hv,hz];rfl)⟩) Zk (by show 3- (k+1)<3-k;omega) ⟨Zk,Zk,Zk⟩ (fun _ h=>h.1.1)
end
section
variable{w:World}{A A2:Option Addr}{n n2 c c2:Nat}{ls ms:List Sg}
theorem Ab{last:Int}{k:Nat}{s:Sg}{l:List Sg}(h:T3 last s=0):Xt last k (s::l)=Xt s.v (k+1) l:=by rw[Xt,if_pos h]
theorem Tp{last:Int}{k:Nat}{s:Sg}{l:List Sg}(h:T3 last s≠0):Xt last k (s::l)=(T3 last s,k):=by rw[Xt,if_neg h]
theorem chkS_path{last m:Int}{s:Sg}(h:Me s.v=m)(hm:0≤m)(h2:Su last s.v=false):T3 last s=10:=by unfold T3;rw[h,if_neg Zo,if_pos h2]
theorem chkS_rng{last m:Int}{s:Sg}(h:Me s.v=m)(hm:0≤m)(h2:Su last s.v=true)(h3:Ti s=false):T3 last s=6:=by unfold T3;rw[h,if_neg Zo,h2,if_neg Zd,if_pos h3]
theorem chkS_ok{last m:Int}{s:Sg}(h:Me s.v=m)(hm:0≤m)(h2:Su last s.v=true)(h3:Ti s=true):T3 last s=0:=by unfold T3;rw[h,if_neg Zo,h2,if_neg Zd,h3,if_neg Zd]
theorem Is{ls:List Sg}{k:Nat}{s:Sg}(h:ls[k]? =some s):ls.drop k=s::ls.drop (k+1):=by
 obtain⟨h1,h2⟩:=List.getElem?_eq_some_iff.1 h
 rw[List.drop_eq_getElem_cons h1,h2]
theorem check_m{e:Int}{i:Nat}(hs:Sa w A n ls)(hn:n≤1000000)(h:Ff ls=(e,i)):Calls Tryz.prog 86 #[.slice A n c] w (K3 w (fun _:Unit=> .tuple #[.int .i64 e,.int .i64 i]) fun _ _=>True):=by
 have hln:=hs.1
 by_cases hbig:256<ls.length
 ·have hch:Ff ls=(5,256):=if_pos hbig
  rw[hch]at h
  obtain⟨rfl,rfl⟩:=Prod.mk.inj h
  refine K0.enter Tryz.func86 rfl ?_
  refine ZR ?_
  refine ZJ (decide ((n:Int)>256)) true Zp ?_
  exact ZW (.tuple #[.int .i64 5,.int .i64 256])
 have hch:Ff ls=Xt 5 0 ls:=if_neg hbig
 rw[hch]at h
 refine K0.enter Tryz.func86 rfl ?_
 refine ZR ?_
 refine ZJ (decide ((n:Int)>256)) false Zp ?_
 refine K0.loop (ι:={q:Nat×Int // q.1≤n∧Xt 5 0 ls=Xt q.2 q.1 (ls.drop q.1)∧(1≤q.2∧q.2≤5)}) 52 (fun q=>⟨[(4,.v (.int .i64 q.1.2)),(11,.v (.slice A n c)),(12,.v (.int .i64 n)),(13,.v (.int .i64 q.1.1))],[]⟩) (fun _ _=>True) (fun q=>n-q.1.1) (⟨(0,5),Nat.zero_le _,rfl,by decide⟩) Zk (fun _=>by kernel_rfl) ⟨Zk,Zk,Zk⟩ (fun _ _=>trivial) ?_
 rintro⟨⟨k,last⟩,hk⟩ g
 have hk1:k≤n:=hk.1
 have hk2:Xt 5 0 ls=Xt last k (ls.drop k):=hk.2.1
 have hk3:1≤last∧last≤5:=hk.2.2
 by_cases hlt:k<n
 case neg=>
  rw[hk2,List.drop_of_length_le Zo]at h
  obtain⟨rfl,rfl⟩:=Prod.mk.inj h
  refine ZR ?_
  refine ZJ (decide ((k:Int)<(n:Int))) false Zp ?_
  refine K0.leave Zk ?_
  refine ZR ?_
  exact ZW (.tuple #[.int .i64 0,.int .i64 0])
 obtain⟨s,hsk⟩:∃s,ls[k]? =some s:=⟨_,List.getElem?_eq_getElem Zo⟩
 obtain⟨ad,hA,hc⟩:=hs.2 k s hsk
 rw[hk2,Is hsk]at h
 rw[Is hsk]at hk2
 refine ZR ?_
 refine ZJ (decide ((k:Int)<(n:Int))) true Zp ?_
 refine ZA (Kc 29 (.slice A n c) k) (.pointer (some (ad.add (k*7)))) (fun w1 hw h=>E3 hA hlt) ?_
 refine K0.ask (Kd 96 (ad.add (k*7))) (s.val) Zk (fun w1 hw h=>sg_ld fun j u hj=>Kt hw (hc j u hj)) ?_
 refine ZS 3 ?_
 refine K0.run Zk (stop:=1000) 3 _ ?_
 refine ZS 3 ?_
 obtain⟨r,hr⟩:∃r,Me s.v=r:=⟨_,rfl⟩
 have arg:r<0→e=2∧i=k:=fun hr0=>by
  have hz:T3 last s=2:=by unfold T3;rw[hr,if_pos hr0]
  rw[Tp (by rw[hz];decide),hz]at h
  obtain⟨rfl,rfl⟩:=Prod.mk.inj h
  exact⟨rfl,rfl⟩
 cases hst:Su last s.v with
 | false=>
  refine K0.meet (fun(x:Nat→AV) c=>Nu [20,21,22,23,24,25,26,27,28,29,30,31,32,33,34,35] x (Lx Tryz.prog 1000 1000 (Kw 23 (.bool false) (Lx Tryz.prog 6 1000 (Kw 20 (.bool false) c))))) (fun kk=> ?_) (fun xj=> ?_)
  ·have h1:s.v≠1:=fun h1=>by unfold Su at hst;rw[h1]at hst;cases hst
   refine K0.slot 20 (.bool (s.v==1)) (.bool false) Zk Zp ?_
   refine ZS 6 ?_
   by_cases hl:last=5
   ·
    refine ZT 23 (.bool (last !=5)) (.bool false) Zp ?_
    exact K0.blur [20,21,22,23,24,25,26,27,28,29,30,31,32,33,34,35] fun x=>K0.eq (kk x) Zk
   have h2:s.v=5∧last=1:=by
    unfold Su at hst
    simp[h1,hl]at hst
    exact hst
   refine K0.slot 23 (.bool (last !=5)) (.bool true) Zk Zp ?_
   refine ZS 10 ?_
   refine K0.slot 27 (.bool (s.v !=5)) (.bool false) Zk Zp ?_
   refine ZS 13 ?_
   refine ZT 30 (.bool (last !=1)) (.bool false) Zp ?_
   exact K0.blur [20,21,22,23,24,25,26,27,28,29,30,31,32,33,34,35] fun x=>K0.eq (kk x) Zk
  refine ZC (fun w1 hw h=>Da hr) fun u=> ?_
  by_cases hr0:r<0
  ·obtain⟨rfl,rfl⟩:=arg hr0
   refine ZJ (decide (r<0)) true (decide_eq_true hr0) ?_
   refine K0.leave Zk ?_
   refine ZR ?_
   exact ZW (.tuple #[.int .i64 2,.int .i64 i])
  refine ZJ (decide (r<0)) false (decide_eq_false hr0) ?_
  have hz:=chkS_path (s:=s) hr Zo hst
  rw[Tp (by rw[hz];decide),hz]at h
  obtain⟨rfl,rfl⟩:=Prod.mk.inj h
  refine ZI true ?_
  refine K0.leave Zk ?_
  refine ZR ?_
  exact ZW (.tuple #[.int .i64 10,.int .i64 k])
 | true=>
  refine K0.meet (fun(x:Nat→AV) c=>Nu [20,21,22,23,24,25,26,27,28,29,30,31,32,33,34,35] x (Lx Tryz.prog 1000 1000 (Kw 20 (.bool true) c))) (fun kk=> ?_) (fun xj=> ?_)
  ·by_cases h1:s.v=1
   ·
    refine ZT 20 (.bool (s.v==1)) (.bool true) Zp ?_
    exact K0.blur [20,21,22,23,24,25,26,27,28,29,30,31,32,33,34,35] fun x=>K0.eq (kk x) Zk
   have h2:last≠5∧(s.v≠5∨last≠1):=by
    unfold Su at hst
    simp[h1]at hst
    exact hst
   refine K0.slot 20 (.bool (s.v==1)) (.bool false) Zk Zp ?_
   refine ZS 6 ?_
   refine K0.slot 23 (.bool (last !=5)) (.bool true) Zk Zp ?_
   refine ZS 10 ?_
   by_cases h5:s.v=5
   ·
    refine K0.slot 27 (.bool (s.v !=5)) (.bool false) Zk Zp ?_
    refine ZS 13 ?_
    refine ZT 30 (.bool (last !=1)) (.bool true) Zp ?_
    exact K0.blur [20,21,22,23,24,25,26,27,28,29,30,31,32,33,34,35] fun x=>K0.eq (kk x) Zk
   ·
    refine ZT 27 (.bool (s.v !=5)) (.bool true) Zp ?_
    exact K0.blur [20,21,22,23,24,25,26,27,28,29,30,31,32,33,34,35] fun x=>K0.eq (kk x) Zk
  refine ZC (fun w1 hw h=>Da hr) fun u=> ?_
  by_cases hr0:r<0
  ·obtain⟨rfl,rfl⟩:=arg hr0
   refine ZJ (decide (r<0)) true (decide_eq_true hr0) ?_
   refine K0.leave Zk ?_
   refine ZR ?_
   exact ZW (.tuple #[.int .i64 2,.int .i64 i])
  refine ZJ (decide (r<0)) false (decide_eq_false hr0) ?_
  refine ZI false ?_
  cases hf:Ti s with
  |true=>
   have hz:=chkS_ok (s:=s) hr Zo hst hf
   rw[Ab hz]at hk2
   refine ZC (fun w1 hw h=>fits_n hr hf) fun u=> ?_
   refine ZI false ?_
   refine K0.slot 13 (.int .i64 (IntKind.i64.wrap ((k:Int)+1))) (.int .i64 ((k+1:Nat):Int)) Zk (by rw[K7 hlt Zo]) ?_
   refine K0.next (⟨(k+1,s.v),hlt,hk2,by rcases named_cases s.v with e|e|e|e|e|e<;>first|(show 1≤s.v∧s.v≤5;omega)|(rw[Cc e]at hr;omega)⟩) Zk (by show n- (k+1)<n-k;omega) ⟨Zk,Zk,Zk⟩ (fun _ _=>trivial)
  |false=>
   have hz:=chkS_rng (s:=s) hr Zo hst hf
   rw[Tp (by rw[hz];decide),hz]at h
   obtain⟨rfl,rfl⟩:=Prod.mk.inj h
   refine ZC (fun w1 hw h=>fits_n hr hf) fun u=> ?_
   refine ZI true ?_
   refine K0.leave Zk ?_
   refine ZR ?_
   exact ZW (.tuple #[.int .i64 6,.int .i64 k])
theorem Yz{B:Bool}(hs:Sa w A n ls)(hn:n≤1000000)(hB:decide ((Ff ls).1=0)=B):Calls Tryz.prog 44 #[.slice A n c] w (K3 w (fun _:Unit=> .bool B) fun _ _=>True):=by
 obtain⟨e,i,he⟩:∃e i,Ff ls=(e,i):=⟨_,_,rfl⟩
 rw[he]at hB
 refine K0.enter Tryz.func44 rfl ?_
 refine ZR ?_
 refine ZC (fun w1 hw h=>check_m (c:=c) (hs.below hw) hn he) fun u=> ?_
 exact ZX (.bool (e==0)) (by rw[←hB];rfl)
end
end Go.Proofs.YtpgkbllcnphmbaaGreatDoor
