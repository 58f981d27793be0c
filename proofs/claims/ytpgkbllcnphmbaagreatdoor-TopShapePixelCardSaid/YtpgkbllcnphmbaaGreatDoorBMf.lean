/-
 A part of the proof.
-/
import Derived.Test.YtpgkbllcnphmbaaGreatDoorBMe
namespace Go.Proofs.YtpgkbllcnphmbaaGreatDoor
set_option maxRecDepth 100000
set_option maxHeartbeats 8000000
set_option linter.unusedVariables false
set_option linter.unusedSimpArgs false
open Go.RowKit
section
variable{g n c B:Nat}{w W:World}
theorem stable_sp{L:List Nv}(hW:Below W.heap.size W w)(hg:W.heap.size≤g)(ho:K6 w B 254 8 (some ⟨g,0,none⟩) n c (L.flatMap L7))(hln:L.length=n)(hn0:0<n)(hn:n≤1000000000)(hcmp:X6 L7 227 L5 L g w):
 Calls Tryz.prog 291 #[.slice (some ⟨g,0,none⟩) n c,.int .i64 n,.func (.func 227) #[] #[]] w (Ky w [g] (fun _:{M:List Nv // M.Perm L∧NL (ltOf L5) M}=> .tuple #[]) fun M u=>K6 u B 254 8 (some ⟨g,0,none⟩) n c (M.1.flatMap L7)):=by
 have hgl:=(ho.lt g (by simp[bl])).2
 have hins:∀{M:List Nv} {a b:Nat} {w1:World},M.length=n→M.Perm L→K6 w1 B 254 8 (some ⟨g,0,none⟩) n c (M.flatMap L7)→Kn W w g w1→Below W.heap.size W w1→a≤b→b≤n→Calls Tryz.prog 329 #[.slice (some ⟨g,0,none⟩) n c,.int .i64 a,.int .i64 b,.func (.func 227) #[] #[]] w1 (Ky w1 [g] (fun _:{N:List Nv // An (ltOf L5) a b M N}=> .tuple #[]) fun N u=>K6 u B 254 8 (some ⟨g,0,none⟩) n c (N.1.flatMap L7)):=fun{M a b w1} h1 h2 h3 h4 h5 h6 h7=>
  ins_m Zd Lu R0 insSp (fun _=>by kernel_rfl) (fun _=>by kernel_rfl) L5 swo_sp (enters_of Tryz.func227 Zk rfl) h3 h1 hn0 hn h6 h7 (hcmp.to h2 h4.1 (h4.old hW h5))
 have hsym:∀{M:List Nv} {a m b:Nat} {w1:World},M.length=n→M.Perm L→K6 w1 B 254 8 (some ⟨g,0,none⟩) n c (M.flatMap L7)→Kn W w g w1→Below W.heap.size W w1→a<m→m<b→b≤n→Oj (ltOf L5) a m M→Oj (ltOf L5) m b M→Calls Tryz.prog 330 #[.slice (some ⟨g,0,none⟩) n c,.int .i64 a,.int .i64 m,.int .i64 b,.func (.func 227) #[] #[]] w1 (Ky w1 [g] (fun _:{N:List Nv // PR a b M N∧Oj (ltOf L5) a b N}=> .tuple #[]) fun N u=>K6 u B 254 8 (some ⟨g,0,none⟩) n c (N.1.flatMap L7)):=fun{M a m b w1} h1 h2 h3 h4 h5 h6 h7 h8 k1 k2=>
  sym_sp (b-a) (Nat.le_refl _) h5 hg h3 h1 hn h6 h7 h8 k1 k2 (hcmp.to h2 h4.1 (h4.old hW h5))
 refine K0.enterW Tryz.func291 rfl hW ?_
 refine ZR ?_
 refine K0.loop (ι:={q:(Nat×Nat)×List Nv // S1 (ltOf L5) n q.1.1 q.1.2 L q.2∧q.1.2≤n}) 63 (fun q=>⟨[(0,.v (.slice (some ⟨g,0,none⟩) n c)),(1,.v (.int .i64 n)),(2,.v (.func (.func 227) #[] #[])),(6,.v (.int .i64 20)),(7,.v (.int .i64 (q.1.1.2:Int))),(8,.v (.int .i64 ((q.1.1.2+20:Nat):Int)))],[]⟩) (fun q u=>K6 u B 254 8 (some ⟨g,0,none⟩) n c (q.1.2.flatMap L7)∧Kn W w g u) (fun q=>n-q.1.1.2) (⟨((0,0),L),⟨.rfl',fun t ht=>absurd ht (Nat.not_lt_zero _),rfl⟩,Nat.zero_le _⟩) Zk (fun _=>by kernel_rfl) ⟨Zk,Zk,Zk⟩ (fun u h=>⟨ho.same fun b hb=>(by have hb:=List.mem_singleton.1 hb;subst hb;exact h.2 _ hg hgl),h.1,fun b h1 h2 _=>h.2 b h1 h2⟩) ?_
 rintro⟨⟨⟨q,a⟩,M⟩,hS,han⟩ gg
 have hS:S1 (ltOf L5) n q a L M:=hS
 have han:a≤n:=han
 have hMl:M.length=n:=hS.pr.len.trans hln
 by_cases hb:a+20≤n
 ·
  refine ZR ?_
  refine ZJ (decide (((a+20:Nat):Int)≤(n:Int))) true (decide_eq_true Zo) ?_
  refine K0.mut (L:=[g]) (val:=fun _:{N:List Nv // An (ltOf L5) a (a+20) M N}=> .tuple #[]) (G:=fun N u=>K6 u B 254 8 (some ⟨g,0,none⟩) n c (N.1.flatMap L7)) (Φ':=fun N u=>K6 u B 254 8 (some ⟨g,0,none⟩) n c (N.1.flatMap L7)∧Kn W w g u) (fun w1 hw h=>hins hMl hS.pr.perm h.1 h.2 hw Zo hb) (fun u h b hb=>by have hb:=List.mem_singleton.1 hb;subst hb;exact⟨hg,(h.1.blk _ (by simp[bl])).2⟩) (fun _ wa u e1 e2 h hG=>⟨hG,h.2.left e1 e2⟩) Zk Zk (fun N=> ?_)
  refine ZR ?_
  refine K0.slot 8 (.int .i64 (IntKind.i64.wrap (((a+20:Nat):Int)+20))) (.int .i64 ((a+20+20:Nat):Int)) Zk (by rw[IntWalk.i64_in _ Zo];rfl) ?_
  refine K0.next (⟨((q+1,a+20),N.1),hS.ins hb N.2,hb⟩) Zk (by show n- (a+20)<n-a;omega) ⟨Zk,Zk,Zk⟩ (fun _ h=>h)
 refine ZR ?_
 refine ZJ (decide (((a+20:Nat):Int)≤(n:Int))) false (decide_eq_false Zo) ?_
 refine K0.leave Zk ?_
 refine ZR ?_
 refine K0.mut (L:=[g]) (val:=fun _:{N:List Nv // An (ltOf L5) a n M N}=> .tuple #[]) (G:=fun N u=>K6 u B 254 8 (some ⟨g,0,none⟩) n c (N.1.flatMap L7)) (Φ':=fun N u=>K6 u B 254 8 (some ⟨g,0,none⟩) n c (N.1.flatMap L7)∧Kn W w g u) (fun w1 hw h=>hins hMl hS.pr.perm h.1 h.2 hw han (Nat.le_refl _)) (fun u h b hb=>by have hb:=List.mem_singleton.1 hb;subst hb;exact⟨hg,(h.1.blk _ (by simp[bl])).2⟩) (fun _ wa u e1 e2 h hG=>⟨hG,h.2.left e1 e2⟩) Zk Zk (fun N=> ?_)
 obtain⟨N,hN⟩:=N
 obtain⟨hp,hbk⟩:=hS.fin han Zo hN
 refine ZR ?_
 refine K0.loop (ι:={q:Nat×List Nv // 20≤q.1∧q.1≤2000000000∧PR 0 n L q.2∧Fu (ltOf L5) q.1 n q.2}) 63 (fun q=>⟨[(0,.v (.slice (some ⟨g,0,none⟩) n c)),(1,.v (.int .i64 n)),(2,.v (.func (.func 227) #[] #[])),(6,.v (.int .i64 (q.1.1:Int)))],[]⟩) (fun q u=>K6 u B 254 8 (some ⟨g,0,none⟩) n c (q.1.2.flatMap L7)∧Kn W w g u) (fun q=>n-q.1.1) (⟨(20,N),Nat.le_refl _,by show 20≤2000000000;omega,hp,hbk⟩) Zk (fun _=>by kernel_rfl) ⟨Zk,Zk,Zk⟩ (fun u h=>h) ?_
 rintro⟨⟨s,M⟩,hs1,hs2,hp,hbk⟩ gg
 have hs1:20≤s:=hs1
 have hs2:s≤2000000000:=hs2
 have hp:PR 0 n L M:=hp
 have hbk:Fu (ltOf L5) s n M:=hbk
 by_cases hsn:s<n
 case neg=>
  refine ZR ?_
  refine ZJ (decide ((s:Int)<(n:Int))) false (decide_eq_false Zo) ?_
  refine K0.leave Zk ?_
  refine ZR ?_
  refine ZV (.tuple #[]) (fun w1 hw h=>⟨⟨M,hp.perm,(hbk.all Zo).nl (hp.len.trans hln)⟩,rfl,(h w1 (Nat.le_refl _) fun _ _ _=>rfl).2.chg hW hw,fun u k1 k2=>(h w1 (Nat.le_refl _) fun _ _ _=>rfl).1.same fun b hb=>k2 b (.inl hb)⟩)
 refine ZR ?_
 refine ZJ (decide ((s:Int)<(n:Int))) true (decide_eq_true Zo) ?_
 refine K0.slot 8 (.int .i64 (IntKind.i64.wrap (2*(s:Int)))) (.int .i64 ((0+2*s:Nat):Int)) Zk (by rw[IntWalk.i64_in _ Zo];congr 1;omega) ?_
 refine K0.loop (ι:={q:(Nat×Nat)×List Nv // S2 (ltOf L5) s n q.1.1 q.1.2 L q.2∧q.1.2≤n}) 63 (fun q=>⟨[(0,.v (.slice (some ⟨g,0,none⟩) n c)),(1,.v (.int .i64 n)),(2,.v (.func (.func 227) #[] #[])),(6,.v (.int .i64 (s:Int))),(7,.v (.int .i64 (q.1.1.2:Int))),(8,.v (.int .i64 ((q.1.1.2+2*s:Nat):Int)))],[]⟩) (fun q u=>K6 u B 254 8 (some ⟨g,0,none⟩) n c (q.1.2.flatMap L7)∧Kn W w g u) (fun q=>n-q.1.1.2) (⟨((0,0),M),S2.start hp hbk,Nat.zero_le _⟩) Zk (fun _=>by kernel_rfl) ⟨Zk,Zk,Zk⟩ (fun u h=>h) ?_
 rintro⟨⟨⟨q,a⟩,M1⟩,hS,han⟩ gg2
 have hS:S2 (ltOf L5) s n q a L M1:=hS
 have han:a≤n:=han
 have hMl:M1.length=n:=hS.pr.len.trans hln
 by_cases hb:a+2*s≤n
 ·have r1:=hS.r1
  have r2:=hS.r2
  rw[Nat.min_eq_left Zo]at r1 r2
  rw[show a+s+s=a+2*s by omega]at r2
  refine ZR ?_
  refine K0.condr (decide (((a+2*s:Nat):Int)≤(n:Int))) true Zk (decide_eq_true Zo) ?_
  refine ZS 7 ?_
  refine K0.slot 40 (.int .i64 (IntKind.i64.wrap ((a:Int)+(s:Int)))) (.int .i64 ((a+s:Nat):Int)) Zk (by rw[Rq Zo Zo]) ?_
  refine K0.mut (L:=[g]) (val:=fun _:{N:List Nv // PR a (a+2*s) M1 N∧Oj (ltOf L5) a (a+2*s) N}=> .tuple #[]) (G:=fun N u=>K6 u B 254 8 (some ⟨g,0,none⟩) n c (N.1.flatMap L7)) (Φ':=fun N u=>K6 u B 254 8 (some ⟨g,0,none⟩) n c (N.1.flatMap L7)∧Kn W w g u) (fun w1 hw h=>hsym hMl hS.pr.perm h.1 h.2 hw Zo Zo hb r1 r2) (fun u h b hb=>by have hb:=List.mem_singleton.1 hb;subst hb;exact⟨hg,(h.1.blk _ (by simp[bl])).2⟩) (fun _ wa u e1 e2 h hG=>⟨hG,h.2.left e1 e2⟩) Zk Zk (fun N=> ?_)
  refine ZR ?_
  refine K0.slot 8 (.int .i64 (IntKind.i64.wrap (((a+2*s:Nat):Int)+IntKind.i64.wrap (2*(s:Int))))) (.int .i64 ((a+2*s+2*s:Nat):Int)) Zk (by rw[IntWalk.i64_in (2*(s:Int)) Zo,IntWalk.i64_in _ Zo];congr 1<;>omega) ?_
  refine K0.next (⟨((q+1,a+2*s),N.1),hS.step hb N.2,hb⟩) Zk (by show n- (a+2*s)<n-a;omega) ⟨Zk,Zk,Zk⟩ (fun _ h=>h)
 have nxt:∀N:List Nv,PR a n M1 N∧Oj (ltOf L5) a n N→20≤s*2∧s*2≤2000000000∧PR 0 n L N∧Fu (ltOf L5) (s*2) n N:=fun N hN=>by
  have:=hS.fin han Zo hN
  rw[Nat.mul_comm s 2]
  exact⟨by omega,by omega,this.1,this.2⟩
 refine ZR ?_
 refine ZJ (decide (((a+2*s:Nat):Int)≤(n:Int))) false (decide_eq_false Zo) ?_
 refine K0.leave Zk ?_
 refine ZR ?_
 by_cases hm:a+s<n
 ·have r1:=hS.r1
  have r2:=hS.r2
  rw[Nat.min_eq_left Zo]at r1
  rw[Nat.min_eq_right Zo]at r2
  refine K0.condr (decide (IntKind.i64.wrap ((a:Int)+(s:Int))<(n:Int))) true Zk (by rw[Rq Zo Zo];exact decide_eq_true Zo) ?_
  refine ZS 5 ?_
  refine K0.slot 57 (.int .i64 (IntKind.i64.wrap ((a:Int)+(s:Int)))) (.int .i64 ((a+s:Nat):Int)) Zk (by rw[Rq Zo Zo]) ?_
  refine K0.mut (L:=[g]) (val:=fun _:{N:List Nv // PR a n M1 N∧Oj (ltOf L5) a n N}=> .tuple #[]) (G:=fun N u=>K6 u B 254 8 (some ⟨g,0,none⟩) n c (N.1.flatMap L7)) (Φ':=fun N u=>K6 u B 254 8 (some ⟨g,0,none⟩) n c (N.1.flatMap L7)∧Kn W w g u) (fun w1 hw h=>hsym hMl hS.pr.perm h.1 h.2 hw Zo hm (Nat.le_refl _) r1 r2) (fun u h b hb=>by have hb:=List.mem_singleton.1 hb;subst hb;exact⟨hg,(h.1.blk _ (by simp[bl])).2⟩) (fun _ wa u e1 e2 h hG=>⟨hG,h.2.left e1 e2⟩) Zk Zk (fun N=> ?_)
  refine ZR ?_
  refine K0.slot 6 (.int .i64 (IntKind.i64.wrap ((s:Int)*2))) (.int .i64 ((s*2:Nat):Int)) Zk (by rw[IntWalk.i64_in _ Zo];rfl) ?_
  refine K0.next (⟨(s*2,N.1),nxt N.1 N.2⟩) Zk (by show n-s*2<n-s;omega) ⟨Zk,Zk,Zk⟩ (fun _ h=>h)
 ·
  refine ZJ (decide (IntKind.i64.wrap ((a:Int)+(s:Int))<(n:Int))) false (by rw[Rq Zo Zo];exact decide_eq_false Zo) ?_
  refine K0.slot 6 (.int .i64 (IntKind.i64.wrap ((s:Int)*2))) (.int .i64 ((s*2:Nat):Int)) Zk (by rw[IntWalk.i64_in _ Zo];rfl) ?_
  refine K0.next (⟨(s*2,M1),nxt M1 (hS.skip Zo)⟩) Zk (by show n-s*2<n-s;omega) ⟨Zk,Zk,Zk⟩ (fun _ h=>h)
theorem sortS_sp{L:List Nv}(hW:Below W.heap.size W w)(hg:W.heap.size≤g)(ho:K6 w B 254 8 (some ⟨g,0,none⟩) n c (L.flatMap L7))(hln:L.length=n)(hn0:0<n)(hn:n≤1000000000)(hcmp:X6 L7 227 L5 L g w):
 Calls Tryz.prog 226 #[.slice (some ⟨g,0,none⟩) n c,.func (.func 227) #[] #[]] w (Ky w [g] (fun _:{M:List Nv // M.Perm L∧NL (ltOf L5) M}=> .tuple #[]) fun M u=>K6 u B 254 8 (some ⟨g,0,none⟩) n c (M.1.flatMap L7)):=by
 have hgl:=(ho.lt g (by simp[bl])).2
 refine K0.enterW Tryz.func226 rfl hW ?_
 refine ZR ?_
 refine K0.mut (L:=[g]) (val:=fun _:{M:List Nv // M.Perm L∧NL (ltOf L5) M}=> .tuple #[]) (G:=fun M u=>K6 u B 254 8 (some ⟨g,0,none⟩) n c (M.1.flatMap L7)) (Φ':=fun M u=>K6 u B 254 8 (some ⟨g,0,none⟩) n c (M.1.flatMap L7)∧Kn W w g u) (fun w1 hw h=>by
  have hk:Kn W w g w1:=⟨h.1,fun b h1 h2 _=>h.2 b h1 h2⟩
  exact stable_sp hw hg (ho.same fun b hb=>(by have hb:=List.mem_singleton.1 hb;subst hb;exact h.2 _ hg hgl)) hln hn0 hn (hcmp.to (.refl _) hk.1 (hk.old hW hw))) (fun u h b hb=>by have hb:=List.mem_singleton.1 hb;subst hb;exact⟨hg,_,_,_,(h.2 _ hg hgl).trans (ho.blk _ (by simp[bl])).2.choose_spec.choose_spec.choose_spec⟩) (fun _ wa u e1 e2 h hG=>⟨hG,by rw[←e1];exact h.1,fun b h1 h2 h3=>(e2 b (by simpa using h3)).symm.trans (h.2 b h1 h2)⟩) Zk Zk (fun M=> ?_)
 refine ZR ?_
 refine ZV (.tuple #[]) (fun w1 hw h=>⟨M,rfl,(h w1 (Nat.le_refl _) fun _ _ _=>rfl).2.chg hW hw,fun u k1 k2=>(h w1 (Nat.le_refl _) fun _ _ _=>rfl).1.same fun b hb=>k2 b (.inl hb)⟩)
theorem ins0_sp{A:Option Addr}{f:Value}:Calls Tryz.prog 329 #[.slice A 0 c,.int .i64 0,.int .i64 0,f] w (K3 w (fun _:Unit=> .tuple #[]) fun _ _=>True):=by
 refine K0.enter Tryz.func329 rfl ?_
 refine ZR ?_
 refine K0.loop (ι:=Unit) 53 (fun _=>⟨[(2,.v (.int .i64 0)),(8,.v (.int .i64 1))],[]⟩) (fun _ _=>True) (fun _=>0) (()) Zk (fun _=>by kernel_rfl) ⟨Zk,Zk,Zk⟩ (fun _ _=>trivial) ?_
 rintro _ gg
 refine ZR ?_
 refine ZI false ?_
 refine K0.leave Zk ?_
 refine ZR ?_
 exact ZW (.tuple #[])
theorem sort0_sp{A:Option Addr}{f:Value}:Calls Tryz.prog 226 #[.slice A 0 c,f] w (K3 w (fun _:Unit=> .tuple #[]) fun _ _=>True):=by
 have hst:∀w:World,Calls Tryz.prog 291 #[.slice A 0 c,.int .i64 0,f] w (K3 w (fun _:Unit=> .tuple #[]) fun _ _=>True):=fun w=>by
  refine K0.enter Tryz.func291 rfl ?_
  refine ZR ?_
  refine K0.loop (ι:=Unit) 63 (fun _=>⟨[(0,.v (.slice A 0 c)),(1,.v (.int .i64 0)),(2,.v f),(6,.v (.int .i64 20)),(7,.v (.int .i64 0)),(8,.v (.int .i64 20))],[]⟩) (fun _ _=>True) (fun _=>0) (()) Zk (fun _=>by kernel_rfl) ⟨Zk,Zk,Zk⟩ (fun _ _=>trivial) ?_
  rintro _ gg
  refine ZR ?_
  refine ZI false ?_
  refine K0.leave Zk ?_
  refine ZR ?_
  refine ZC (fun w1 hw h=>ins0_sp (A:=A) (f:=f) (c:=c)) fun u=> ?_
  refine K0.loop (ι:=Unit) 63 (fun _=>⟨[(1,.v (.int .i64 0)),(6,.v (.int .i64 20))],[]⟩) (fun _ _=>True) (fun _=>0) (()) Zk (fun _=>by kernel_rfl) ⟨Zk,Zk,Zk⟩ (fun _ _=>trivial) ?_
  rintro _ gg
  refine ZR ?_
  refine ZI false ?_
  refine K0.leave Zk ?_
  refine ZR ?_
  exact ZW (.tuple #[])
 refine K0.enter Tryz.func226 rfl ?_
 refine ZR ?_
 refine ZC (fun w1 hw h=>hst w1) fun u=> ?_
 exact ZW (.tuple #[])
theorem stable_mk{L:List Pv}(hW:Below W.heap.size W w)(hg:W.heap.size≤g)(ho:K6 w B 258 5 (some ⟨g,0,none⟩) n c (L.flatMap M0))(hln:L.length=n)(hn0:0<n)(hn:n≤1000000000)(hcmp:X6 M0 230 L6 L g w):
 Calls Tryz.prog 292 #[.slice (some ⟨g,0,none⟩) n c,.int .i64 n,.func (.func 230) #[] #[]] w (Ky w [g] (fun _:{M:List Pv // M.Perm L∧NL (ltOf L6) M}=> .tuple #[]) fun M u=>K6 u B 258 5 (some ⟨g,0,none⟩) n c (M.1.flatMap M0)):=by
 have hgl:=(ho.lt g (by simp[bl])).2
 have hins:∀{M:List Pv} {a b:Nat} {w1:World},M.length=n→M.Perm L→K6 w1 B 258 5 (some ⟨g,0,none⟩) n c (M.flatMap M0)→Kn W w g w1→Below W.heap.size W w1→a≤b→b≤n→Calls Tryz.prog 331 #[.slice (some ⟨g,0,none⟩) n c,.int .i64 a,.int .i64 b,.func (.func 230) #[] #[]] w1 (Ky w1 [g] (fun _:{N:List Pv // An (ltOf L6) a b M N}=> .tuple #[]) fun N u=>K6 u B 258 5 (some ⟨g,0,none⟩) n c (N.1.flatMap M0)):=fun{M a b w1} h1 h2 h3 h4 h5 h6 h7=>
  ins_m Zd Mg Sm insMk (fun _=>by kernel_rfl) (fun _=>by kernel_rfl) L6 swo_mk (enters_of Tryz.func230 Zk rfl) h3 h1 hn0 hn h6 h7 (hcmp.to h2 h4.1 (h4.old hW h5))
 have hsym:∀{M:List Pv} {a m b:Nat} {w1:World},M.length=n→M.Perm L→K6 w1 B 258 5 (some ⟨g,0,none⟩) n c (M.flatMap M0)→Kn W w g w1→Below W.heap.size W w1→a<m→m<b→b≤n→Oj (ltOf L6) a m M→Oj (ltOf L6) m b M→Calls Tryz.prog 332 #[.slice (some ⟨g,0,none⟩) n c,.int .i64 a,.int .i64 m,.int .i64 b,.func (.func 230) #[] #[]] w1 (Ky w1 [g] (fun _:{N:List Pv // PR a b M N∧Oj (ltOf L6) a b N}=> .tuple #[]) fun N u=>K6 u B 258 5 (some ⟨g,0,none⟩) n c (N.1.flatMap M0)):=fun{M a m b w1} h1 h2 h3 h4 h5 h6 h7 h8 k1 k2=>
  sym_mk (b-a) (Nat.le_refl _) h5 hg h3 h1 hn h6 h7 h8 k1 k2 (hcmp.to h2 h4.1 (h4.old hW h5))
 refine K0.enterW Tryz.func292 rfl hW ?_
 refine ZR ?_
 refine K0.loop (ι:={q:(Nat×Nat)×List Pv // S1 (ltOf L6) n q.1.1 q.1.2 L q.2∧q.1.2≤n}) 63 (fun q=>⟨[(0,.v (.slice (some ⟨g,0,none⟩) n c)),(1,.v (.int .i64 n)),(2,.v (.func (.func 230) #[] #[])),(6,.v (.int .i64 20)),(7,.v (.int .i64 (q.1.1.2:Int))),(8,.v (.int .i64 ((q.1.1.2+20:Nat):Int)))],[]⟩) (fun q u=>K6 u B 258 5 (some ⟨g,0,none⟩) n c (q.1.2.flatMap M0)∧Kn W w g u) (fun q=>n-q.1.1.2) (⟨((0,0),L),⟨.rfl',fun t ht=>absurd ht (Nat.not_lt_zero _),rfl⟩,Nat.zero_le _⟩) Zk (fun _=>by kernel_rfl) ⟨Zk,Zk,Zk⟩ (fun u h=>⟨ho.same fun b hb=>(by have hb:=List.mem_singleton.1 hb;subst hb;exact h.2 _ hg hgl),h.1,fun b h1 h2 _=>h.2 b h1 h2⟩) ?_
 rintro⟨⟨⟨q,a⟩,M⟩,hS,han⟩ gg
 have hS:S1 (ltOf L6) n q a L M:=hS
 have han:a≤n:=han
 have hMl:M.length=n:=hS.pr.len.trans hln
 by_cases hb:a+20≤n
 ·
  refine ZR ?_
  refine ZJ (decide (((a+20:Nat):Int)≤(n:Int))) true (decide_eq_true Zo) ?_
  refine K0.mut (L:=[g]) (val:=fun _:{N:List Pv // An (ltOf L6) a (a+20) M N}=> .tuple #[]) (G:=fun N u=>K6 u B 258 5 (some ⟨g,0,none⟩) n c (N.1.flatMap M0)) (Φ':=fun N u=>K6 u B 258 5 (some ⟨g,0,none⟩) n c (N.1.flatMap M0)∧Kn W w g u) (fun w1 hw h=>hins hMl hS.pr.perm h.1 h.2 hw Zo hb) (fun u h b hb=>by have hb:=List.mem_singleton.1 hb;subst hb;exact⟨hg,(h.1.blk _ (by simp[bl])).2⟩) (fun _ wa u e1 e2 h hG=>⟨hG,h.2.left e1 e2⟩) Zk Zk (fun N=> ?_)
  refine ZR ?_
  refine K0.slot 8 (.int .i64 (IntKind.i64.wrap (((a+20:Nat):Int)+20))) (.int .i64 ((a+20+20:Nat):Int)) Zk (by rw[IntWalk.i64_in _ Zo];rfl) ?_
  refine K0.next (⟨((q+1,a+20),N.1),hS.ins hb N.2,hb⟩) Zk (by show n- (a+20)<n-a;omega) ⟨Zk,Zk,Zk⟩ (fun _ h=>h)
 refine ZR ?_
 refine ZJ (decide (((a+20:Nat):Int)≤(n:Int))) false (decide_eq_false Zo) ?_
 refine K0.leave Zk ?_
 refine ZR ?_
 refine K0.mut (L:=[g]) (val:=fun _:{N:List Pv // An (ltOf L6) a n M N}=> .tuple #[]) (G:=fun N u=>K6 u B 258 5 (some ⟨g,0,none⟩) n c (N.1.flatMap M0)) (Φ':=fun N u=>K6 u B 258 5 (some ⟨g,0,none⟩) n c (N.1.flatMap M0)∧Kn W w g u) (fun w1 hw h=>hins hMl hS.pr.perm h.1 h.2 hw han (Nat.le_refl _)) (fun u h b hb=>by have hb:=List.mem_singleton.1 hb;subst hb;exact⟨hg,(h.1.blk _ (by simp[bl])).2⟩) (fun _ wa u e1 e2 h hG=>⟨hG,h.2.left e1 e2⟩) Zk Zk (fun N=> ?_)
 obtain⟨N,hN⟩:=N
 obtain⟨hp,hbk⟩:=hS.fin han Zo hN
 refine ZR ?_
 refine K0.loop (ι:={q:Nat×List Pv // 20≤q.1∧q.1≤2000000000∧PR 0 n L q.2∧Fu (ltOf L6) q.1 n q.2}) 63 (fun q=>⟨[(0,.v (.slice (some ⟨g,0,none⟩) n c)),(1,.v (.int .i64 n)),(2,.v (.func (.func 230) #[] #[])),(6,.v (.int .i64 (q.1.1:Int)))],[]⟩) (fun q u=>K6 u B 258 5 (some ⟨g,0,none⟩) n c (q.1.2.flatMap M0)∧Kn W w g u) (fun q=>n-q.1.1) (⟨(20,N),Nat.le_refl _,by show 20≤2000000000;omega,hp,hbk⟩) Zk (fun _=>by kernel_rfl) ⟨Zk,Zk,Zk⟩ (fun u h=>h) ?_
 rintro⟨⟨s,M⟩,hs1,hs2,hp,hbk⟩ gg
 have hs1:20≤s:=hs1
 have hs2:s≤2000000000:=hs2
 have hp:PR 0 n L M:=hp
 have hbk:Fu (ltOf L6) s n M:=hbk
 by_cases hsn:s<n
 case neg=>
  refine ZR ?_
  refine ZJ (decide ((s:Int)<(n:Int))) false (decide_eq_false Zo) ?_
  refine K0.leave Zk ?_
  refine ZR ?_
  refine ZV (.tuple #[]) (fun w1 hw h=>⟨⟨M,hp.perm,(hbk.all Zo).nl (hp.len.trans hln)⟩,rfl,(h w1 (Nat.le_refl _) fun _ _ _=>rfl).2.chg hW hw,fun u k1 k2=>(h w1 (Nat.le_refl _) fun _ _ _=>rfl).1.same fun b hb=>k2 b (.inl hb)⟩)
 refine ZR ?_
 refine ZJ (decide ((s:Int)<(n:Int))) true (decide_eq_true Zo) ?_
 refine K0.slot 8 (.int .i64 (IntKind.i64.wrap (2*(s:Int)))) (.int .i64 ((0+2*s:Nat):Int)) Zk (by rw[IntWalk.i64_in _ Zo];congr 1;omega) ?_
 refine K0.loop (ι:={q:(Nat×Nat)×List Pv // S2 (ltOf L6) s n q.1.1 q.1.2 L q.2∧q.1.2≤n}) 63 (fun q=>⟨[(0,.v (.slice (some ⟨g,0,none⟩) n c)),(1,.v (.int .i64 n)),(2,.v (.func (.func 230) #[] #[])),(6,.v (.int .i64 (s:Int))),(7,.v (.int .i64 (q.1.1.2:Int))),(8,.v (.int .i64 ((q.1.1.2+2*s:Nat):Int)))],[]⟩) (fun q u=>K6 u B 258 5 (some ⟨g,0,none⟩) n c (q.1.2.flatMap M0)∧Kn W w g u) (fun q=>n-q.1.1.2) (⟨((0,0),M),S2.start hp hbk,Nat.zero_le _⟩) Zk (fun _=>by kernel_rfl) ⟨Zk,Zk,Zk⟩ (fun u h=>h) ?_
 rintro⟨⟨⟨q,a⟩,M1⟩,hS,han⟩ gg2
 have hS:S2 (ltOf L6) s n q a L M1:=hS
 have han:a≤n:=han
 have hMl:M1.length=n:=hS.pr.len.trans hln
 by_cases hb:a+2*s≤n
 ·have r1:=hS.r1
  have r2:=hS.r2
  rw[Nat.min_eq_left Zo]at r1 r2
  rw[show a+s+s=a+2*s by omega]at r2
  refine ZR ?_
  refine K0.condr (decide (((a+2*s:Nat):Int)≤(n:Int))) true Zk (decide_eq_true Zo) ?_
  refine ZS 7 ?_
  refine K0.slot 40 (.int .i64 (IntKind.i64.wrap ((a:Int)+(s:Int)))) (.int .i64 ((a+s:Nat):Int)) Zk (by rw[Rq Zo Zo]) ?_
  refine K0.mut (L:=[g]) (val:=fun _:{N:List Pv // PR a (a+2*s) M1 N∧Oj (ltOf L6) a (a+2*s) N}=> .tuple #[]) (G:=fun N u=>K6 u B 258 5 (some ⟨g,0,none⟩) n c (N.1.flatMap M0)) (Φ':=fun N u=>K6 u B 258 5 (some ⟨g,0,none⟩) n c (N.1.flatMap M0)∧Kn W w g u) (fun w1 hw h=>hsym hMl hS.pr.perm h.1 h.2 hw Zo Zo hb r1 r2) (fun u h b hb=>by have hb:=List.mem_singleton.1 hb;subst hb;exact⟨hg,(h.1.blk _ (by simp[bl])).2⟩) (fun _ wa u e1 e2 h hG=>⟨hG,h.2.left e1 e2⟩) Zk Zk (fun N=> ?_)
  refine ZR ?_
  refine K0.slot 8 (.int .i64 (IntKind.i64.wrap (((a+2*s:Nat):Int)+IntKind.i64.wrap (2*(s:Int))))) (.int .i64 ((a+2*s+2*s:Nat):Int)) Zk (by rw[IntWalk.i64_in (2*(s:Int)) Zo,IntWalk.i64_in _ Zo];congr 1<;>omega) ?_
  refine K0.next (⟨((q+1,a+2*s),N.1),hS.step hb N.2,hb⟩) Zk (by show n- (a+2*s)<n-a;omega) ⟨Zk,Zk,Zk⟩ (fun _ h=>h)
 have nxt:∀N:List Pv,PR a n M1 N∧Oj (ltOf L6) a n N→20≤s*2∧s*2≤2000000000∧PR 0 n L N∧Fu (ltOf L6) (s*2) n N:=fun N hN=>by
  have:=hS.fin han Zo hN
  rw[Nat.mul_comm s 2]
  exact⟨by omega,by omega,this.1,this.2⟩
 refine ZR ?_
 refine ZJ (decide (((a+2*s:Nat):Int)≤(n:Int))) false (decide_eq_false Zo) ?_
 refine K0.leave Zk ?_
 refine ZR ?_
 by_cases hm:a+s<n
 ·have r1:=hS.r1
  have r2:=hS.r2
  rw[Nat.min_eq_left Zo]at r1
  rw[Nat.min_eq_right Zo]at r2
  refine K0.condr (decide (IntKind.i64.wrap ((a:Int)+(s:Int))<(n:Int))) true Zk (by rw[Rq Zo Zo];exact decide_eq_true Zo) ?_
  refine ZS 5 ?_
  refine K0.slot 57 (.int .i64 (IntKind.i64.wrap ((a:Int)+(s:Int)))) (.int .i64 ((a+s:Nat):Int)) Zk (by rw[Rq Zo Zo]) ?_
  refine K0.mut (L:=[g]) (val:=fun _:{N:List Pv // PR a n M1 N∧Oj (ltOf L6) a n N}=> .tuple #[]) (G:=fun N u=>K6 u B 258 5 (some ⟨g,0,none⟩) n c (N.1.flatMap M0)) (Φ':=fun N u=>K6 u B 258 5 (some ⟨g,0,none⟩) n c (N.1.flatMap M0)∧Kn W w g u) (fun w1 hw h=>hsym hMl hS.pr.perm h.1 h.2 hw Zo hm (Nat.le_refl _) r1 r2) (fun u h b hb=>by have hb:=List.mem_singleton.1 hb;subst hb;exact⟨hg,(h.1.blk _ (by simp[bl])).2⟩) (fun _ wa u e1 e2 h hG=>⟨hG,h.2.left e1 e2⟩) Zk Zk (fun N=> ?_)
  refine ZR ?_
  refine K0.slot 6 (.int .i64 (IntKind.i64.wrap ((s:Int)*2))) (.int .i64 ((s*2:Nat):Int)) Zk (by rw[IntWalk.i64_in _ Zo];rfl) ?_
  refine K0.next (⟨(s*2,N.1),nxt N.1 N.2⟩) Zk (by show n-s*2<n-s;omega) ⟨Zk,Zk,Zk⟩ (fun _ h=>h)
 ·
  refine ZJ (decide (IntKind.i64.wrap ((a:Int)+(s:Int))<(n:Int))) false (by rw[Rq Zo Zo];exact decide_eq_false Zo) ?_
  refine K0.slot 6 (.int .i64 (IntKind.i64.wrap ((s:Int)*2))) (.int .i64 ((s*2:Nat):Int)) Zk (by rw[IntWalk.i64_in _ Zo];rfl) ?_
  refine K0.next (⟨(s*2,M1),nxt M1 (hS.skip Zo)⟩) Zk (by show n-s*2<n-s;omega) ⟨Zk,Zk,Zk⟩ (fun _ h=>h)
theorem sortS_mk{L:List Pv}(hW:Below W.heap.size W w)(hg:W.heap.size≤g)(ho:K6 w B 258 5 (some ⟨g,0,none⟩) n c (L.flatMap M0))(hln:L.length=n)(hn0:0<n)(hn:n≤1000000000)(hcmp:X6 M0 230 L6 L g w):
 Calls Tryz.prog 229 #[.slice (some ⟨g,0,none⟩) n c,.func (.func 230) #[] #[]] w (Ky w [g] (fun _:{M:List Pv // M.Perm L∧NL (ltOf L6) M}=> .tuple #[]) fun M u=>K6 u B 258 5 (some ⟨g,0,none⟩) n c (M.1.flatMap M0)):=by
 have hgl:=(ho.lt g (by simp[bl])).2
 refine K0.enterW Tryz.func229 rfl hW ?_
 refine ZR ?_
 refine K0.mut (L:=[g]) (val:=fun _:{M:List Pv // M.Perm L∧NL (ltOf L6) M}=> .tuple #[]) (G:=fun M u=>K6 u B 258 5 (some ⟨g,0,none⟩) n c (M.1.flatMap M0)) (Φ':=fun M u=>K6 u B 258 5 (some ⟨g,0,none⟩) n c (M.1.flatMap M0)∧Kn W w g u) (fun w1 hw h=>by
  have hk:Kn W w g w1:=⟨h.1,fun b h1 h2 _=>h.2 b h1 h2⟩
  exact stable_mk hw hg (ho.same fun b hb=>(by have hb:=List.mem_singleton.1 hb;subst hb;exact h.2 _ hg hgl)) hln hn0 hn (hcmp.to (.refl _) hk.1 (hk.old hW hw))) (fun u h b hb=>by have hb:=List.mem_singleton.1 hb;subst hb;exact⟨hg,_,_,_,(h.2 _ hg hgl).trans (ho.blk _ (by simp[bl])).2.choose_spec.choose_spec.choose_spec⟩) (fun _ wa u e1 e2 h hG=>⟨hG,by rw[←e1];exact h.1,fun b h1 h2 h3=>(e2 b (by simpa using h3)).symm.trans (h.2 b h1 h2)⟩) Zk Zk (fun M=> ?_)
 refine ZR ?_
 refine ZV (.tuple #[]) (fun w1 hw h=>⟨M,rfl,(h w1 (Nat.le_refl _) fun _ _ _=>rfl).2.chg hW hw,fun u k1 k2=>(h w1 (Nat.le_refl _) fun _ _ _=>rfl).1.same fun b hb=>k2 b (.inl hb)⟩)
theorem ins0_mk{A:Option Addr}{f:Value}:Calls Tryz.prog 331 #[.slice A 0 c,.int .i64 0,.int .i64 0,f] w (K3 w (fun _:Unit=> .tuple #[]) fun _ _=>True):=by
 refine K0.enter Tryz.func331 rfl ?_
 refine ZR ?_
 refine K0.loop (ι:=Unit) 53 (fun _=>⟨[(2,.v (.int .i64 0)),(8,.v (.int .i64 1))],[]⟩) (fun _ _=>True) (fun _=>0) (()) Zk (fun _=>by kernel_rfl) ⟨Zk,Zk,Zk⟩ (fun _ _=>trivial) ?_
 rintro _ gg
 refine ZR ?_
 refine ZI false ?_
 refine K0.leave Zk ?_
 refine ZR ?_
 exact ZW (.tuple #[])
theorem sort0_mk{A:Option Addr}{f:Value}:Calls Tryz.prog 229 #[.slice A 0 c,f] w (K3 w (fun _:Unit=> .tuple #[]) fun _ _=>True):=by
 have hst:∀w:World,Calls Tryz.prog 292 #[.slice A 0 c,.int .i64 0,f] w (K3 w (fun _:Unit=> .tuple #[]) fun _ _=>True):=fun w=>by
  refine K0.enter Tryz.func292 rfl ?_
  refine ZR ?_
  refine K0.loop (ι:=Unit) 63 (fun _=>⟨[(0,.v (.slice A 0 c)),(1,.v (.int .i64 0)),(2,.v f),(6,.v (.int .i64 20)),(7,.v (.int .i64 0)),(8,.v (.int .i64 20))],[]⟩) (fun _ _=>True) (fun _=>0) (()) Zk (fun _=>by kernel_rfl) ⟨Zk,Zk,Zk⟩ (fun _ _=>trivial) ?_
  rintro _ gg
  refine ZR ?_
  refine ZI false ?_
  refine K0.leave Zk ?_
  refine ZR ?_
  refine ZC (fun w1 hw h=>ins0_mk (A:=A) (f:=f) (c:=c)) fun u=> ?_
  refine K0.loop (ι:=Unit) 63 (fun _=>⟨[(1,.v (.int .i64 0)),(6,.v (.int .i64 20))],[]⟩) (fun _ _=>True) (fun _=>0) (()) Zk (fun _=>by kernel_rfl) ⟨Zk,Zk,Zk⟩ (fun _ _=>trivial) ?_
  rintro _ gg
  refine ZR ?_
  refine ZI false ?_
  refine K0.leave Zk ?_
  refine ZR ?_
  exact ZW (.tuple #[])
 refine K0.enter Tryz.func229 rfl ?_
 refine ZR ?_
 refine ZC (fun w1 hw h=>hst w1) fun u=> ?_
 exact ZW (.tuple #[])
end
structure M7{β:Type}(e:TypeId)(s:Nat)(cl:β→List Value)(qs:β→List RQ)(B K:Nat)(y:Option Addr×Nat)(rs:List β)(u:World):Prop where
 own:K6 u B e s y.1 rs.length y.2 (rs.flatMap cl)
 num:∀z∈rs,∀x∈qs z,Kh x.1 x.2 K u
def Un{β:Type}(qs:β→List RQ)(A:Option Addr)(rs:List β):Prop:=∀z∈rs,∀x∈qs z,∀b∈bl A,b∉Ln x.1
section
variable{P:Program}{u wa w:World}{β:Type}{e t:TypeId}{s B K bytes gb N:Nat}{cl:β→List Value}{qs:β→List RQ}{y z':Option Addr×Nat}{rs rs':List β}{z:β}{z0:Value}
theorem M7.nil_:M7 e s cl qs B K (none,0) [] u:=⟨K6.nil_,by simp⟩
theorem Un.nil_{A:Option Addr}:Un qs A ([]:List β):=by intro z hz;cases hz
theorem M7.app(hu:P.underlying t=some (.slice e))(hi:S5 P e=some (z0,s,bytes))(hzs:z0.cells.size=s)(hs:0<s)(hb:bytes≤10000)(hk:∀x,(cl x).length=s)(h1:∀x,∀v∈cl x,v.oneCell'=true)
 (h:M7 e s cl qs B K y rs u) (ha:Un qs y.1 rs) (hB:B≤u.heap.size) (hN:N≤u.heap.size) (hx:∀x∈qs z,Kh x.1 x.2 K u) (hz:∀x∈qs z,∀b∈bl y.1,b∉Ln x.1) (hg:Kv e (cl z).toArray gb u) (hn:rs.length≤99999999):
 Nf P u (bl y.1) (fun z':Option Addr×Nat=> .slice z'.1 (rs.length+1) z'.2) (fun z' v=>K6 v B e s z'.1 (rs.length+1) z'.2 ((rs++ [z]).flatMap cl)∧Un qs z'.1 (rs++ [z])∧∀b∈bl z'.1,b∈bl y.1∨N≤b) (Nc t t (.slice y.1 rs.length y.2) (Km 1 gb)):=by
 have ha2:=M9 (P:=P) (s:=s) (z:=z0) (bytes:=bytes) (m:=1) (cc:=1) (t:=t) (elem:=e) hu hi hzs hs h.own hB (M8 (n:=1) hg (by simp[hk])) (fun v hv=>h1 z v (by simpa using hv)) Zo hb
 have e2:(rs++ [z]).flatMap cl=rs.flatMap cl++(cl z).toArray.toList:=by simp
 rw[e2]
 refine Oy ha2 fun z' hz'=>⟨fun q hq x hxq b hb hc=> ?_,fun b hb=>(hz' b hb).imp id fun h=>Nat.le_trans hN h⟩
 have hx2:Kh x.1 x.2 K u∧∀b∈bl y.1,b∉Ln x.1:=by
  rcases List.mem_append.1 hq with h4|h4
  ·exact⟨h.num q h4 x hxq,ha q h4 x hxq⟩
  ·obtain rfl:q=z:=by simpa using h4
   exact⟨hx x hxq,hz x hxq⟩
 rcases hz' b hb with h5|h5
 ·exact hx2.2 b h5 hc
 ·have:=Nz hx2.1 b hc;omega
theorem M7.next(h:M7 e s cl qs B K y rs wa)(ha:Un qs y.1 rs)(hx:∀x∈qs z,Kh x.1 x.2 K wa)(hz:∀x∈qs z,∀b∈bl y.1,b∉Ln x.1)(e1:wa.heap.size=u.heap.size)(e2:∀b,b∉bl y.1→wa.heap[b]? =u.heap[b]?)(hG:K6 u B e s z'.1 (rs.length+1) z'.2 ((rs++ [z]).flatMap cl)):M7 e s cl qs B K z' (rs++ [z]) u:=by
 refine⟨by rw[List.length_append];exact hG,fun q hq x hxq=> ?_⟩
 rcases List.mem_append.1 hq with h4|h4
 ·exact(h.num q h4 x hxq).leftL e1 e2 fun b hb hc=>ha q h4 x hxq b hc hb
 ·obtain rfl:q=z:=by simpa using h4
  exact(hx x hxq).leftL e1 e2 fun b hb hc=>hz x hxq b hc hb
theorem M7.perm(h:M7 e s cl qs B K y rs wa)(ha:Un qs y.1 rs)(hp:rs'.Perm rs)(e1:wa.heap.size=u.heap.size)(e2:∀b,b∉bl y.1→wa.heap[b]? =u.heap[b]?)(hG:K6 u B e s y.1 rs.length y.2 (rs'.flatMap cl)):M7 e s cl qs B K y rs' u:=
 ⟨by rw[hp.length_eq];exact hG,fun q hq x hxq=>(h.num q (hp.mem_iff.1 hq) x hxq).leftL e1 e2 fun b hb hc=>ha q (hp.mem_iff.1 hq) x hxq b hc hb⟩
theorem M7.left{L:List Nat}(h:M7 e s cl qs B K y rs wa)(h1:∀b∈bl y.1,b∉L)(h2:∀z∈rs,∀x∈qs z,∀b∈Ln x.1,b∉L)(e1:wa.heap.size=u.heap.size)(e2:∀b,b∉L→wa.heap[b]? =u.heap[b]?):M7 e s cl qs B K y rs u:=
 ⟨h.own.left e2 h1,fun z hz x hx=>(h.num z hz x hx).leftL e1 e2 (h2 z hz x hx)⟩
theorem M7.mono(h:M7 e s cl qs B K y rs u)(hN:N≤B):M7 e s cl qs N K y rs u:=⟨h.own.rebase fun b hb=>Nat.le_trans hN (h.own.lt b hb).1,h.num⟩
theorem M7.rows(h:M7 e s cl qs B K y rs u)(hk:∀x,(cl x).length=s):Kq u y.1 rs.length s cl rs:=h.own.reads.rows hk rfl
theorem M7.some(h:M7 e s cl qs B K y rs u)(h0:rs≠[]):∃g,y.1=some ⟨g,0,none⟩:=by
 rcases h.own.2 with ⟨h1,h2⟩|⟨g,cap,cur,h1,_⟩
 ·injection h1 with _ h3 _
  exact absurd (List.eq_nil_of_length_eq_zero h3) h0
 ·injection h1 with h1 _ _
  exact⟨g,h1⟩
end
def Q7(z:Nv):List RQ:=[(z.1.1,z.2.1),(z.1.2,z.2.2)]
def U2(z:Pv):List RQ:=[(z.1,z.2.1)]
section
variable{w w1 W:World}{A:Option Addr}{n c N K:Nat}{y:Option Addr×Nat}
theorem cmpAt_sp{g:Nat}{rs:List Nv}(hq:∀z∈rs,∀x∈Q7 z,Kh x.1 x.2 K w)(ha:∀z∈rs,∀x∈Q7 z,g∉Ln x.1)(hK:2≤K∧K+K≤68719476736):X6 L7 227 L5 rs g w:=fun W' h1 h2 x hx y hy=>by
 have hq2:∀z∈rs,∀q∈Q7 z,Kh q.1 q.2 K W':=fun z hz q hqz=>(hq z hz q hqz).same h1 fun b hb=>h2 b (Nz (hq z hz q hqz) b hb) fun e=>ha z hz q hqz (e▸hb)
 exact mergeCmp_m (hq2 x hx (x.1.1,x.2.1) (by simp[Q7])).q (hq2 y hy (y.1.1,y.2.1) (by simp[Q7])).q hK
theorem cmpAt_mk{g:Nat}{rs:List Pv}(hq:∀z∈rs,∀x∈U2 z,Kh x.1 x.2 K w)(ha:∀z∈rs,∀x∈U2 z,g∉Ln x.1)(hK:2≤K∧K+K≤68719476736):X6 M0 230 L6 rs g w:=fun W' h1 h2 x hx y hy=>by
 have hq2:∀z∈rs,∀q∈U2 z,Kh q.1 q.2 K W':=fun z hz q hqz=>(hq z hz q hqz).same h1 fun b hb=>h2 b (Nz (hq z hz q hqz) b hb) fun e=>ha z hz q hqz (e▸hb)
 exact marksCmp_m (x:=(x.1,x.2.2)) (y:=(y.1,y.2.2)) (hq2 x hx (x.1,x.2.1) (by simp[U2])).q (hq2 y hy (y.1,y.2.1) (by simp[U2])).q hK
theorem sortQ_sp{rs:List Nv}(hW:Below W.heap.size W w1)(h:M7 254 8 L7 Q7 W.heap.size K y rs w1)(ha:Un Q7 y.1 rs)(hn:rs.length≤1000000000)(hK:2≤K∧K+K≤68719476736):
 Calls Tryz.prog 226 #[.slice y.1 rs.length y.2,.func (.func 227) #[] #[]] w1 (Ky w1 (bl y.1) (fun _:{M:List Nv // M.Perm rs∧NL (ltOf L5) M}=> .tuple #[]) fun M u=>K6 u W.heap.size 254 8 y.1 rs.length y.2 (M.1.flatMap L7)):=by
 by_cases h0:rs=[]
 ·subst h0
  refine(sort0_sp (c:=y.2) (A:=y.1)).mono fun e w' he=> ?_
  obtain⟨_,rfl,hb,_⟩:=he
  exact⟨⟨[],.refl _,List.Pairwise.nil⟩,rfl,⟨hb.os,hb.tape,hb.output,hb.size,fun k h _=>hb.block k h⟩,fun w'' k1 k2=>h.own.same fun b hb2=>(k2 b (.inl hb2)).trans (hb.block b (h.own.lt b hb2).2)⟩
 ·obtain⟨g,hg⟩:=h.some h0
  obtain⟨A,c⟩:=y
  obtain rfl:A=some ⟨g,0,none⟩:=hg
  have hl:0<rs.length:=List.length_pos_iff.2 h0
  exact sortS_sp hW ((h.own.lt g (by simp[bl])).1) h.own rfl hl hn (cmpAt_sp h.num (fun z hz x hx=>ha z hz x hx g (by simp[bl])) hK)
theorem sortQ_mk{rs:List Pv}(hW:Below W.heap.size W w1)(h:M7 258 5 M0 U2 W.heap.size K y rs w1)(ha:Un U2 y.1 rs)(hn:rs.length≤1000000000)(hK:2≤K∧K+K≤68719476736):
 Calls Tryz.prog 229 #[.slice y.1 rs.length y.2,.func (.func 230) #[] #[]] w1 (Ky w1 (bl y.1) (fun _:{M:List Pv // M.Perm rs∧NL (ltOf L6) M}=> .tuple #[]) fun M u=>K6 u W.heap.size 258 5 y.1 rs.length y.2 (M.1.flatMap M0)):=by
 by_cases h0:rs=[]
 ·subst h0
  refine(sort0_mk (c:=y.2) (A:=y.1)).mono fun e w' he=> ?_
  obtain⟨_,rfl,hb,_⟩:=he
  exact⟨⟨[],.refl _,List.Pairwise.nil⟩,rfl,⟨hb.os,hb.tape,hb.output,hb.size,fun k h _=>hb.block k h⟩,fun w'' k1 k2=>h.own.same fun b hb2=>(k2 b (.inl hb2)).trans (hb.block b (h.own.lt b hb2).2)⟩
 ·obtain⟨g,hg⟩:=h.some h0
  obtain⟨A,c⟩:=y
  obtain rfl:A=some ⟨g,0,none⟩:=hg
  have hl:0<rs.length:=List.length_pos_iff.2 h0
  exact sortS_mk hW ((h.own.lt g (by simp[bl])).1) h.own rfl hl hn (cmpAt_mk h.num (fun z hz x hx=>ha z hz x hx g (by simp[bl])) hK)
end
end Go.Proofs.YtpgkbllcnphmbaaGreatDoor
