/-
 A part of the proof.
-/
import Derived.Test.YtpgkbllcnphmbaaGreatDoorBMc
import Derived.Test.YtpgkbllcnphmbaaGreatDoorBAr
namespace Go.Proofs.YtpgkbllcnphmbaaGreatDoor
set_option maxRecDepth 100000
set_option maxHeartbeats 8000000
set_option linter.unusedVariables false
set_option linter.unusedSimpArgs false
open Go.RowKit
def X6{β:Type}(cl:β→List Value)(f:FuncId)(cf:β→β→Int)(L:List β)(g:Nat)(w:World):Prop:=∀W:World,w.heap.size≤W.heap.size→(∀b,b<w.heap.size→b≠g→W.heap[b]? =w.heap[b]?)→∀x∈L,∀y∈L,Calls Tryz.prog f #[.agg (cl x).toArray,.agg (cl y).toArray] W (K3 W (fun _:Unit=> .int .i64 (cf x y)) fun _ _=>True)
theorem X6.to{β:Type}{cl:β→List Value}{f:FuncId}{cf:β→β→Int}{L M:List β}{g:Nat}{w u:World}(h:X6 cl f cf L g w)(hp:M.Perm L)(hs:w.heap.size≤u.heap.size)(ho:∀b,b<w.heap.size→b≠g→u.heap[b]? =w.heap[b]?):X6 cl f cf M g u:=fun W h1 h2 x hx y hy=>h W (Nat.le_trans hs h1) (fun b hb hne=>(h2 b (Nat.lt_of_lt_of_le hb hs) hne).trans (ho b hb hne)) x (hp.mem_iff.1 hx) y (hp.mem_iff.1 hy)
def L5(x y:Nv):Int:=Kk x.2.1 y.2.1
def L6(x y:Pv):Int:=cmpM x.2 y.2
theorem swo_sp:Sort.SWO (ltOf L5):=cmp_swo fun z:Nv=>z.2.1
theorem lt_mk{x y:Pv}:ltOf L6 x y=Us x.2 y.2:=cmpM_lt
theorem swo_mk:Sort.SWO (ltOf L6):=by
 refine⟨fun x=> ?_,fun x y z h1 h2=> ?_,fun x y z h1 h2=> ?_⟩
 ·rw[lt_mk];simp[Us]
 ·rw[lt_mk]at*
  simp only[Us,Bool.or_eq_true,Bool.and_eq_true,decide_eq_true_eq]at*
  rcases h1 with h1|⟨h1,h3⟩<;>rcases h2 with h2|⟨h2,h4⟩
  ·exact .inl (by grind)
  ·exact .inl (by grind)
  ·exact .inl (by grind)
  ·exact .inr ⟨h1.trans h2,by omega⟩
 ·rw[lt_mk]at*
  exact mkLt_t _ _ _ h2 h1
section
variable{g n c B:Nat}
theorem sym_sp:∀(k:Nat) {a m b:Nat} {L:List Nv} {w W:World},b-a≤k→Below W.heap.size W w→W.heap.size≤g→K6 w B 254 8 (some ⟨g,0,none⟩) n c (L.flatMap L7)→L.length=n→n≤1000000000→a<m→m<b→b≤n→Oj (ltOf L5) a m L→Oj (ltOf L5) m b L→X6 L7 227 L5 L g w→
 Calls Tryz.prog 330 #[.slice (some ⟨g,0,none⟩) n c,.int .i64 a,.int .i64 m,.int .i64 b,.func (.func 227) #[] #[]] w (Ky w [g] (fun _:{M:List Nv // PR a b L M∧Oj (ltOf L5) a b M}=> .tuple #[]) fun M u=>K6 u B 254 8 (some ⟨g,0,none⟩) n c (M.1.flatMap L7))
 |0,a,m,b,L,w,W,hk,_,_,_,_,_,h1,h2,_,_,_,_=>by omega
 | k +1,a,m,b,L,w,W,hk,hW,hg,ho,hln,hn,ham,hmb,hbn,k1,k2,hcmp=>by
  have hgl:=(ho.lt g (by simp[bl])).2
  have hO:=swo_sp
  have hsame:∀u:World,(w.heap.size≤u.heap.size∧∀b,W.heap.size≤b→b<w.heap.size→u.heap[b]? =w.heap[b]?)→K6 u B 254 8 (some ⟨g,0,none⟩) n c (L.flatMap L7)∧Kn W w g u:=fun u h=>⟨ho.same fun b hb=>(by have hb:=List.mem_singleton.1 hb;subst hb;exact h.2 _ hg hgl),h.1,fun b h1 h2 _=>h.2 b h1 h2⟩
  refine K0.enterW Tryz.func330 rfl hW ?_
  by_cases hm1:m=a+1
  · -- one element ahead
   obtain⟨x,hx⟩:∃x,L[a]? =some x:=⟨_,List.getElem?_eq_getElem Zo⟩
   refine ZR ?_
   refine ZJ ((IntKind.i64.wrap ((m:Int)- (a:Int))==1)) true (by rw[Up Zo Zo];simp;omega) ?_
   refine K0.loop (ι:={q:Nat×Nat // (q.1≤q.2∧m≤q.1∧q.2≤b)∧(∀y,m<q.1→L[q.1-1]? =some y→ltOf L5 y x=true)∧(∀y,q.2<b→L[q.2]? =some y→ltOf L5 y x=false)}) 220 (fun q=>⟨[(0,.v (.slice (some ⟨g,0,none⟩) n c)),(1,.v (.int .i64 a)),(4,.v (.func (.func 227) #[] #[])),(10,.v (.int .i64 q.1.1)),(11,.v (.int .i64 q.1.2))],[]⟩) (fun _ u=>K6 u B 254 8 (some ⟨g,0,none⟩) n c (L.flatMap L7)∧Kn W w g u) (fun q=>q.1.2-q.1.1) (⟨(m,b),⟨by show m≤b;omega,Nat.le_refl _,Nat.le_refl _⟩,fun _ h=>absurd h (Nat.lt_irrefl _),fun _ h=>absurd h (Nat.lt_irrefl _)⟩) Zk (fun _=>by kernel_rfl) ⟨Zk,Zk,Zk⟩ (fun u h=>hsame u h) ?_
   rintro⟨⟨i,j⟩,⟨q1,q2,q3⟩,q4,q5⟩ gg
   have q1:i≤j:=q1
   have q2:m≤i:=q2
   have q3:j≤b:=q3
   have q4:∀y,m<i→L[i-1]? =some y→ltOf L5 y x=true:=q4
   have q5:∀y,j<b→L[j]? =some y→ltOf L5 y x=false:=q5
   by_cases hij:i<j
   case neg=>
    obtain rfl:i=j:=by omega
    have hup:=up_ok hO hx (show b≤L.length by omega) (show a<i by omega) q3 (by rw[←hm1];exact k2) (by rw[←hm1];exact q4) q5
    refine ZR ?_
    refine ZJ (decide ((i:Int)<(i:Int))) false (decide_eq_false Zo) ?_
    refine K0.leave Zk ?_
    refine ZR ?_
    refine K0.loop (ι:={d:Nat // d≤i-1-a}) 220 (fun d=>⟨[(0,.v (.slice (some ⟨g,0,none⟩) n c)),(10,.v (.int .i64 i)),(13,.v (.int .i64 ((a+d.1:Nat):Int)))],[]⟩) (fun d u=>K6 u B 254 8 (some ⟨g,0,none⟩) n c ((Xz a d.1 L).flatMap L7)∧Kn W w g u) (fun d=>i-1-a-d.1) (⟨0,Nat.zero_le _⟩) Zk (fun _=>by kernel_rfl) ⟨Zk,Zk,Zk⟩ (fun u h=>h) ?_
    rintro⟨d,hd⟩ gg2
    have hd:d≤i-1-a:=hd
    have hmv:=(Jb (L:=L) (a:=a) (d:=d) Zo).1.len
    by_cases hdl:a+d<i-1
    case neg=>
     obtain rfl:d=i-1-a:=by omega
     refine ZR ?_
     refine ZJ (decide (((a+(i-1-a):Nat):Int)<IntKind.i64.wrap ((i:Int)-1))) false (decide_eq_false (by rw[IntWalk.i64_in _ Zo];omega)) ?_
     refine K0.leave Zk ?_
     refine ZR ?_
     refine ZV (.tuple #[]) (fun w1 hw h=>⟨⟨Xz a (i-1-a) L,hup⟩,rfl,(h w1 (Nat.le_refl _) fun _ _ _=>rfl).2.chg hW hw,fun u k1 k2=>(h w1 (Nat.le_refl _) fun _ _ _=>rfl).1.same fun b hb=>k2 b (.inl hb)⟩)
    obtain⟨y,hy⟩:∃y,(Xz a d L)[a+d]? =some y:=⟨_,List.getElem?_eq_getElem Zo⟩
    obtain⟨z,hz⟩:∃z,(Xz a d L)[a+d+1]? =some z:=⟨_,List.getElem?_eq_getElem Zo⟩
    refine ZR ?_
    refine ZJ (decide (((a+d:Nat):Int)<IntKind.i64.wrap ((i:Int)-1))) true (decide_eq_true (by rw[IntWalk.i64_in _ Zo];omega)) ?_
    refine K0.slot 65 (.int .i64 (IntKind.i64.wrap (((a+d:Nat):Int)+1))) (.int .i64 ((a+d+1:Nat):Int)) Zk (by rw[IntWalk.i64_in _ Zo];rfl) ?_
    refine K0.slot 68 (.int .i64 (IntKind.i64.wrap (((a+d:Nat):Int)+1))) (.int .i64 ((a+d+1:Nat):Int)) Zk (by rw[IntWalk.i64_in _ Zo];rfl) ?_
    refine ZB 8 (Kc 171 (.slice (some ⟨g,0,none⟩) n c) ((a+d+1:Nat):Int)) (.pointer (some ⟨g,(a+d+1)*8,none⟩)) (fun w1 hw h=>K9 (elem:=254) Zk Zk Zo) ?_
    refine ZB 9 (Kd 254 ⟨g,(a+d+1)*8,none⟩) (.agg (L7 z).toArray) (fun w1 hw h=>Ka (vs:=L7 z) Zk Zk (Lw Lu h.1 Zo hz)) ?_
    refine ZB 12 (Kc 171 (.slice (some ⟨g,0,none⟩) n c) ((a+d:Nat):Int)) (.pointer (some ⟨g,(a+d)*8,none⟩)) (fun w1 hw h=>K9 (elem:=254) Zk Zk Zo) ?_
    refine ZB 13 (Kd 254 ⟨g,(a+d)*8,none⟩) (.agg (L7 y).toArray) (fun w1 hw h=>Ka (vs:=L7 y) Zk Zk (Lw Lu h.1 Zo hy)) ?_
    refine ZB 14 (Kc 171 (.slice (some ⟨g,0,none⟩) n c) ((a+d:Nat):Int)) (.pointer (some ⟨g,(a+d)*8,none⟩)) (fun w1 hw h=>K9 (elem:=254) Zk Zk Zo) ?_
    refine K0.mutStB (L:=[g]) (G:=fun u=>K6 u B 254 8 (some ⟨g,0,none⟩) n c (((Xz a d L).set (a+d) z).flatMap L7)) (Φ':=fun u=>K6 u B 254 8 (some ⟨g,0,none⟩) n c (((Xz a d L).set (a+d) z).flatMap L7)∧Kn W w g u) (Rm 254 ⟨g,(a+d)*8,none⟩ (.agg (L7 z).toArray)) (fun w1 hw h=>K6.setE Lu h.1 Zo rfl Zk (R0 z)) (fun u h b hb=>by have hb:=List.mem_singleton.1 hb;subst hb;exact⟨hg,(h.1.blk _ (by simp[bl])).2⟩) (fun wa u e1 e2 h hG=>⟨hG,h.2.left e1 e2⟩) Zk Zk ?_
    refine ZB 16 (Kc 171 (.slice (some ⟨g,0,none⟩) n c) ((a+d+1:Nat):Int)) (.pointer (some ⟨g,(a+d+1)*8,none⟩)) (fun w1 hw h=>K9 (elem:=254) Zk Zk Zo) ?_
    refine K0.mutStB (L:=[g]) (G:=fun u=>K6 u B 254 8 (some ⟨g,0,none⟩) n c ((((Xz a d L).set (a+d) z).set (a+d+1) y).flatMap L7)) (Φ':=fun u=>K6 u B 254 8 (some ⟨g,0,none⟩) n c ((((Xz a d L).set (a+d) z).set (a+d+1) y).flatMap L7)∧Kn W w g u) (Rm 254 ⟨g,(a+d+1)*8,none⟩ (.agg (L7 y).toArray)) (fun w1 hw h=>K6.setE Lu h.1 Zp rfl Zk (R0 y)) (fun u h b hb=>by have hb:=List.mem_singleton.1 hb;subst hb;exact⟨hg,(h.1.blk _ (by simp[bl])).2⟩) (fun wa u e1 e2 h hG=>⟨hG,h.2.left e1 e2⟩) Zk Zk ?_
    refine ZR ?_
    have hsw:Xz a (d+1) L=((Xz a d L).set (a+d) z).set (a+d+1) y:=by
     show Az (Xz a d L) (a+d) (a+d+1)=_
     unfold Az;rw[hy,hz]
    refine K0.slot 13 (.int .i64 (IntKind.i64.wrap (((a+d:Nat):Int)+1))) (.int .i64 ((a+(d+1):Nat):Int)) Zk (by rw[IntWalk.i64_in _ Zo];rfl) ?_
    refine K0.next (⟨d+1,by omega⟩) Zk (by show i-1-a- (d+1)<i-1-a-d;omega) ⟨Zk,Zk,Zk⟩ (fun u h=>⟨by show K6 u B _ 8 _ n c ((Xz a (d+1) L).flatMap L7);rw[hsw];exact h.1,h.2⟩)
   obtain⟨t,ht⟩:∃t,t=(i+j)/2:=⟨_,rfl⟩
   obtain⟨y,hy⟩:∃y,L[t]? =some y:=⟨_,List.getElem?_eq_getElem Zo⟩
   refine ZR ?_
   refine ZJ (decide ((i:Int)<(j:Int))) true (decide_eq_true Zo) ?_
   refine K0.slot 12 (.int .i64 (IntKind.i64.wrap (Int.fdiv (IntKind.u64.wrap (IntKind.i64.wrap ((i:Int)+(j:Int)))) 2))) (.int .i64 (t:Int)) Zk (by rw[L9 Zo Zo,ht]) ?_
   refine K0.slot 42 (.int .i64 (IntKind.i64.wrap (Int.fdiv (IntKind.u64.wrap (IntKind.i64.wrap ((i:Int)+(j:Int)))) 2))) (.int .i64 (t:Int)) Zk (by rw[L9 Zo Zo,ht]) ?_
   refine ZB 3 (Kc 171 (.slice (some ⟨g,0,none⟩) n c) t) (.pointer (some ⟨g,t*8,none⟩)) (fun w1 hw h=>K9 (elem:=254) Zk Zk Zo) ?_
   refine ZB 4 (Kd 254 ⟨g,t*8,none⟩) (.agg (L7 y).toArray) (fun w1 hw h=>Ka (vs:=L7 y) Zk Zk (Lw Lu h.1 Zo hy)) ?_
   refine ZA (Kc 171 (.slice (some ⟨g,0,none⟩) n c) a) (.pointer (some ⟨g,a*8,none⟩)) (fun w1 hw h=>K9 (elem:=254) Zk Zk Zo) ?_
   refine ZA (Kd 254 ⟨g,a*8,none⟩) (.agg (L7 x).toArray) (fun w1 hw h=>Ka (vs:=L7 x) Zk Zk (Lw Lu h.1 Zo hx)) ?_
   refine ZC (fun w1 hw h=>hcmp w1 h.2.1 (h.2.old hW hw) y (List.mem_of_getElem? hy) x (List.mem_of_getElem? hx)) fun u=> ?_
   cases hc:decide (L5 y x<0)
   ·
    refine ZJ (decide (L5 y x<0)) false (hc) ?_
    refine K0.next (⟨(i,t),⟨by show i≤t;omega,q2,by show t≤b;omega⟩,q4,fun y' _ hy'=>by rw[hy]at hy';injection hy' with hy';subst hy';exact hc⟩) Zk (by show t-i<j-i;omega) ⟨Zk,Zk,Zk⟩ (fun _ h=>h.1)
   ·
    refine ZJ (decide (L5 y x<0)) true (hc) ?_
    refine K0.slot 10 (.int .i64 (IntKind.i64.wrap ((t:Int)+1))) (.int .i64 ((t+1:Nat):Int)) Zk (by rw[IntWalk.i64_in _ Zo];rfl) ?_
    refine K0.next (⟨(t+1,j),⟨by show t+1≤j;omega,by show m≤t+1;omega,q3⟩,fun y' _ hy'=>by rw[Nat.add_sub_cancel,hy]at hy';injection hy' with hy';subst hy';exact hc,q5⟩) Zk (by show j- (t+1)<j-i;omega) ⟨Zk,Zk,Zk⟩ (fun _ h=>h.1)
  by_cases hb1:b=m+1
  · -- one element behind
   obtain⟨x,hx⟩:∃x,L[m]? =some x:=⟨_,List.getElem?_eq_getElem Zo⟩
   refine ZR ?_
   refine ZJ ((IntKind.i64.wrap ((m:Int)- (a:Int))==1)) false (by rw[Up Zo Zo];simp;omega) ?_
   refine ZJ ((IntKind.i64.wrap ((b:Int)- (m:Int))==1)) true (by rw[Up Zo Zo];simp;omega) ?_
   refine K0.loop (ι:={q:Nat×Nat // (q.1≤q.2∧a≤q.1∧q.2≤m)∧(∀y,a<q.1→L[q.1-1]? =some y→ltOf L5 x y=false)∧(∀y,q.2<m→L[q.2]? =some y→ltOf L5 x y=true)}) 220 (fun q=>⟨[(0,.v (.slice (some ⟨g,0,none⟩) n c)),(2,.v (.int .i64 m)),(4,.v (.func (.func 227) #[] #[])),(14,.v (.int .i64 q.1.1)),(15,.v (.int .i64 q.1.2))],[]⟩) (fun _ u=>K6 u B 254 8 (some ⟨g,0,none⟩) n c (L.flatMap L7)∧Kn W w g u) (fun q=>q.1.2-q.1.1) (⟨(a,m),⟨by show a≤m;omega,Nat.le_refl _,Nat.le_refl _⟩,fun _ h=>absurd h (Nat.lt_irrefl _),fun _ h=>absurd h (Nat.lt_irrefl _)⟩) Zk (fun _=>by kernel_rfl) ⟨Zk,Zk,Zk⟩ (fun u h=>hsame u h) ?_
   rintro⟨⟨i,j⟩,⟨q1,q2,q3⟩,q4,q5⟩ gg
   have q1:i≤j:=q1
   have q2:a≤i:=q2
   have q3:j≤m:=q3
   have q4:∀y,a<i→L[i-1]? =some y→ltOf L5 x y=false:=q4
   have q5:∀y,j<m→L[j]? =some y→ltOf L5 x y=true:=q5
   by_cases hij:i<j
   case neg=>
    obtain rfl:i=j:=by omega
    have hdn:=down_ok hO hx (show m<L.length by omega) q2 q3 k1 q4 q5
    rw[←hb1]at hdn
    refine ZR ?_
    refine ZJ (decide ((i:Int)<(i:Int))) false (decide_eq_false Zo) ?_
    refine K0.leave Zk ?_
    refine ZR ?_
    refine K0.loop (ι:={d:Nat // d≤m-i}) 220 (fun d=>⟨[(0,.v (.slice (some ⟨g,0,none⟩) n c)),(14,.v (.int .i64 i)),(17,.v (.int .i64 ((m-d.1:Nat):Int)))],[]⟩) (fun d u=>K6 u B 254 8 (some ⟨g,0,none⟩) n c ((Y4 m d.1 L).flatMap L7)∧Kn W w g u) (fun d=>m-i-d.1) (⟨0,Nat.zero_le _⟩) Zk (fun _=>by kernel_rfl) ⟨Zk,Zk,Zk⟩ (fun u h=>h) ?_
    rintro⟨d,hd⟩ gg2
    have hd:d≤m-i:=hd
    have hmv:=(Jc (L:=L) (m:=m) (d:=d) Zo Zo).1.len
    by_cases hdl:i<m-d
    case neg=>
     obtain rfl:d=m-i:=by omega
     refine ZR ?_
     refine ZJ (decide (((m- (m-i):Nat):Int)>(i:Int))) false (decide_eq_false Zo) ?_
     refine K0.leave Zk ?_
     refine ZR ?_
     refine ZV (.tuple #[]) (fun w1 hw h=>⟨⟨Y4 m (m-i) L,hdn⟩,rfl,(h w1 (Nat.le_refl _) fun _ _ _=>rfl).2.chg hW hw,fun u k1 k2=>(h w1 (Nat.le_refl _) fun _ _ _=>rfl).1.same fun b hb=>k2 b (.inl hb)⟩)
    obtain⟨y,hy⟩:∃y,(Y4 m d L)[m-d]? =some y:=⟨_,List.getElem?_eq_getElem Zo⟩
    obtain⟨z,hz⟩:∃z,(Y4 m d L)[m-d-1]? =some z:=⟨_,List.getElem?_eq_getElem Zo⟩
    refine ZR ?_
    refine ZJ (decide (((m-d:Nat):Int)>(i:Int))) true (decide_eq_true Zo) ?_
    refine K0.slot 117 (.int .i64 (IntKind.i64.wrap (((m-d:Nat):Int)-1))) (.int .i64 ((m-d-1:Nat):Int)) Zk (by rw[IntWalk.i64_in _ Zo];congr 1;omega) ?_
    refine K0.slot 120 (.int .i64 (IntKind.i64.wrap (((m-d:Nat):Int)-1))) (.int .i64 ((m-d-1:Nat):Int)) Zk (by rw[IntWalk.i64_in _ Zo];congr 1;omega) ?_
    refine ZB 8 (Kc 171 (.slice (some ⟨g,0,none⟩) n c) ((m-d-1:Nat):Int)) (.pointer (some ⟨g,(m-d-1)*8,none⟩)) (fun w1 hw h=>K9 (elem:=254) Zk Zk Zo) ?_
    refine ZB 9 (Kd 254 ⟨g,(m-d-1)*8,none⟩) (.agg (L7 z).toArray) (fun w1 hw h=>Ka (vs:=L7 z) Zk Zk (Lw Lu h.1 Zo hz)) ?_
    refine ZB 12 (Kc 171 (.slice (some ⟨g,0,none⟩) n c) ((m-d:Nat):Int)) (.pointer (some ⟨g,(m-d)*8,none⟩)) (fun w1 hw h=>K9 (elem:=254) Zk Zk Zo) ?_
    refine ZB 13 (Kd 254 ⟨g,(m-d)*8,none⟩) (.agg (L7 y).toArray) (fun w1 hw h=>Ka (vs:=L7 y) Zk Zk (Lw Lu h.1 Zo hy)) ?_
    refine ZB 14 (Kc 171 (.slice (some ⟨g,0,none⟩) n c) ((m-d:Nat):Int)) (.pointer (some ⟨g,(m-d)*8,none⟩)) (fun w1 hw h=>K9 (elem:=254) Zk Zk Zo) ?_
    refine K0.mutStB (L:=[g]) (G:=fun u=>K6 u B 254 8 (some ⟨g,0,none⟩) n c (((Y4 m d L).set (m-d) z).flatMap L7)) (Φ':=fun u=>K6 u B 254 8 (some ⟨g,0,none⟩) n c (((Y4 m d L).set (m-d) z).flatMap L7)∧Kn W w g u) (Rm 254 ⟨g,(m-d)*8,none⟩ (.agg (L7 z).toArray)) (fun w1 hw h=>K6.setE Lu h.1 Zo rfl Zk (R0 z)) (fun u h b hb=>by have hb:=List.mem_singleton.1 hb;subst hb;exact⟨hg,(h.1.blk _ (by simp[bl])).2⟩) (fun wa u e1 e2 h hG=>⟨hG,h.2.left e1 e2⟩) Zk Zk ?_
    refine ZB 16 (Kc 171 (.slice (some ⟨g,0,none⟩) n c) ((m-d-1:Nat):Int)) (.pointer (some ⟨g,(m-d-1)*8,none⟩)) (fun w1 hw h=>K9 (elem:=254) Zk Zk Zo) ?_
    refine K0.mutStB (L:=[g]) (G:=fun u=>K6 u B 254 8 (some ⟨g,0,none⟩) n c ((((Y4 m d L).set (m-d) z).set (m-d-1) y).flatMap L7)) (Φ':=fun u=>K6 u B 254 8 (some ⟨g,0,none⟩) n c ((((Y4 m d L).set (m-d) z).set (m-d-1) y).flatMap L7)∧Kn W w g u) (Rm 254 ⟨g,(m-d-1)*8,none⟩ (.agg (L7 y).toArray)) (fun w1 hw h=>K6.setE Lu h.1 Zp rfl Zk (R0 y)) (fun u h b hb=>by have hb:=List.mem_singleton.1 hb;subst hb;exact⟨hg,(h.1.blk _ (by simp[bl])).2⟩) (fun wa u e1 e2 h hG=>⟨hG,h.2.left e1 e2⟩) Zk Zk ?_
    refine ZR ?_
    have hsw:Y4 m (d+1) L=((Y4 m d L).set (m-d) z).set (m-d-1) y:=by
     show Az (Y4 m d L) (m-d) (m-d-1)=_
     unfold Az;rw[hy,hz]
    refine K0.slot 17 (.int .i64 (IntKind.i64.wrap (((m-d:Nat):Int)-1))) (.int .i64 ((m- (d+1):Nat):Int)) Zk (by rw[IntWalk.i64_in _ Zo];congr 1;omega) ?_
    refine K0.next (⟨d+1,by omega⟩) Zk (by show m-i- (d+1)<m-i-d;omega) ⟨Zk,Zk,Zk⟩ (fun u h=>⟨by show K6 u B _ 8 (some ⟨g,0,none⟩) n c ((Y4 m (d+1) L).flatMap L7);rw[hsw];exact h.1,h.2⟩)
   obtain⟨t,ht⟩:∃t,t=(i+j)/2:=⟨_,rfl⟩
   obtain⟨y,hy⟩:∃y,L[t]? =some y:=⟨_,List.getElem?_eq_getElem Zo⟩
   refine ZR ?_
   refine ZJ (decide ((i:Int)<(j:Int))) true (decide_eq_true Zo) ?_
   refine K0.slot 16 (.int .i64 (IntKind.i64.wrap (Int.fdiv (IntKind.u64.wrap (IntKind.i64.wrap ((i:Int)+(j:Int)))) 2))) (.int .i64 (t:Int)) Zk (by rw[L9 Zo Zo,ht]) ?_
   refine K0.slot 98 (.int .i64 (IntKind.i64.wrap (Int.fdiv (IntKind.u64.wrap (IntKind.i64.wrap ((i:Int)+(j:Int)))) 2))) (.int .i64 (t:Int)) Zk (by rw[L9 Zo Zo,ht]) ?_
   refine ZB 3 (Kc 171 (.slice (some ⟨g,0,none⟩) n c) m) (.pointer (some ⟨g,m*8,none⟩)) (fun w1 hw h=>K9 (elem:=254) Zk Zk Zo) ?_
   refine ZB 4 (Kd 254 ⟨g,m*8,none⟩) (.agg (L7 x).toArray) (fun w1 hw h=>Ka (vs:=L7 x) Zk Zk (Lw Lu h.1 Zo hx)) ?_
   refine ZA (Kc 171 (.slice (some ⟨g,0,none⟩) n c) t) (.pointer (some ⟨g,t*8,none⟩)) (fun w1 hw h=>K9 (elem:=254) Zk Zk Zo) ?_
   refine ZA (Kd 254 ⟨g,t*8,none⟩) (.agg (L7 y).toArray) (fun w1 hw h=>Ka (vs:=L7 y) Zk Zk (Lw Lu h.1 Zo hy)) ?_
   refine ZC (fun w1 hw h=>hcmp w1 h.2.1 (h.2.old hW hw) x (List.mem_of_getElem? hx) y (List.mem_of_getElem? hy)) fun u=> ?_
   cases hc:decide (L5 x y<0)
   ·
    refine ZJ (!(decide (L5 x y<0))) true (by rw[hc];rfl) ?_
    refine K0.slot 14 (.int .i64 (IntKind.i64.wrap ((t:Int)+1))) (.int .i64 ((t+1:Nat):Int)) Zk (by rw[IntWalk.i64_in _ Zo];rfl) ?_
    refine K0.next (⟨(t+1,j),⟨by show t+1≤j;omega,by show a≤t+1;omega,q3⟩,fun y' _ hy'=>by rw[Nat.add_sub_cancel,hy]at hy';injection hy' with hy';subst hy';exact hc,q5⟩) Zk (by show j- (t+1)<j-i;omega) ⟨Zk,Zk,Zk⟩ (fun _ h=>h.1)
   ·
    refine ZJ (!(decide (L5 x y<0))) false (by rw[hc];rfl) ?_
    refine K0.next (⟨(i,t),⟨by show i≤t;omega,q2,by show t≤m;omega⟩,q4,fun y' _ hy'=>by rw[hy]at hy';injection hy' with hy';subst hy';exact hc⟩) Zk (by show t-i<j-i;omega) ⟨Zk,Zk,Zk⟩ (fun _ h=>h.1)
  obtain⟨mid,hmid⟩:∃mid,mid=(a+b)/2:=⟨_,rfl⟩
  refine ZR ?_
  refine ZJ ((IntKind.i64.wrap ((m:Int)- (a:Int))==1)) false (by rw[Up Zo Zo];simp;omega) ?_
  refine ZJ ((IntKind.i64.wrap ((b:Int)- (m:Int))==1)) false (by rw[Up Zo Zo];simp;omega) ?_
  refine K0.meet (ι:={q:Nat×Nat // ((a≤q.1∧q.1≤q.2)∧q.2≤m∧q.2≤mid∧mid+m≤b+q.1)∧(q.1=a∨mid+m-q.1=b)∧(q.2=m∨mid+m-q.2=m)}×(Nat→AV)) (fun i c=>Nu [141,142,143,144,145,146] i.2 (Kw 22 (.int .i64 ((mid+m-1:Nat):Int)) (Kw 21 (.int .i64 (i.1.1.2:Int)) (Kw 20 (.int .i64 (i.1.1.1:Int)) (Kw 19 (.int .i64 ((mid+m:Nat):Int)) (Kw 18 (.int .i64 (mid:Int)) (Lx Tryz.prog 1000 1000 (Ag true c)))))))) (fun kk=> ?_) (fun i=> ?_)
  ·by_cases hgt:mid<m
   ·
    refine ZJ (decide ((m:Int)>IntKind.i64.wrap (Int.fdiv (IntKind.u64.wrap (IntKind.i64.wrap ((a:Int)+(b:Int)))) 2))) true (by rw[L9 Zo Zo,←hmid];exact decide_eq_true Zo) ?_
    refine K0.slot 18 (.int .i64 (IntKind.i64.wrap (Int.fdiv (IntKind.u64.wrap (IntKind.i64.wrap ((a:Int)+(b:Int)))) 2))) (.int .i64 (mid:Int)) Zk (by rw[L9 Zo Zo,←hmid]) ?_
    refine K0.slot 19 (.int .i64 (IntKind.i64.wrap (IntKind.i64.wrap (Int.fdiv (IntKind.u64.wrap (IntKind.i64.wrap ((a:Int)+(b:Int)))) 2)+(m:Int)))) (.int .i64 ((mid+m:Nat):Int)) Zk (by rw[L9 Zo Zo,←hmid,Rq Zo Zo]) ?_
    refine K0.slot 20 (.int .i64 (IntKind.i64.wrap (IntKind.i64.wrap (IntKind.i64.wrap (Int.fdiv (IntKind.u64.wrap (IntKind.i64.wrap ((a:Int)+(b:Int)))) 2)+(m:Int))- (b:Int)))) (.int .i64 ((mid+m-b:Nat):Int)) Zk (by rw[L9 Zo Zo,←hmid,Rq Zo Zo,Up Zo Zo]) ?_
    refine K0.slot 21 (.int .i64 (IntKind.i64.wrap (Int.fdiv (IntKind.u64.wrap (IntKind.i64.wrap ((a:Int)+(b:Int)))) 2))) (.int .i64 (mid:Int)) Zk (by rw[L9 Zo Zo,←hmid]) ?_
    refine K0.slot 22 (.int .i64 (IntKind.i64.wrap (IntKind.i64.wrap (IntKind.i64.wrap (Int.fdiv (IntKind.u64.wrap (IntKind.i64.wrap ((a:Int)+(b:Int)))) 2)+(m:Int))-1))) (.int .i64 ((mid+m-1:Nat):Int)) Zk (by rw[L9 Zo Zo,←hmid,Rq Zo Zo,IntWalk.i64_in _ Zo];congr 1;omega) ?_
    exact K0.blur [141,142,143,144,145,146] fun x=>K0.eq (kk (⟨(mid+m-b,mid),⟨⟨by show a≤mid+m-b;omega,by show mid+m-b≤mid;omega⟩,by show mid≤m;omega,by show mid≤mid;omega,by show mid+m≤b+(mid+m-b);omega⟩,by show mid+m-b=a∨mid+m- (mid+m-b)=b;omega,by show mid=m∨mid+m-mid=m;omega⟩,x)) Zk
   ·
    refine ZJ (decide ((m:Int)>IntKind.i64.wrap (Int.fdiv (IntKind.u64.wrap (IntKind.i64.wrap ((a:Int)+(b:Int)))) 2))) false (by rw[L9 Zo Zo,←hmid];exact decide_eq_false Zo) ?_
    refine K0.slot 18 (.int .i64 (IntKind.i64.wrap (Int.fdiv (IntKind.u64.wrap (IntKind.i64.wrap ((a:Int)+(b:Int)))) 2))) (.int .i64 (mid:Int)) Zk (by rw[L9 Zo Zo,←hmid]) ?_
    refine K0.slot 19 (.int .i64 (IntKind.i64.wrap (IntKind.i64.wrap (Int.fdiv (IntKind.u64.wrap (IntKind.i64.wrap ((a:Int)+(b:Int)))) 2)+(m:Int)))) (.int .i64 ((mid+m:Nat):Int)) Zk (by rw[L9 Zo Zo,←hmid,Rq Zo Zo]) ?_
    refine K0.slot 20 (.int .i64 (a:Int)) (.int .i64 (a:Int)) Zk (rfl) ?_
    refine K0.slot 21 (.int .i64 (m:Int)) (.int .i64 (m:Int)) Zk (rfl) ?_
    refine K0.slot 22 (.int .i64 (IntKind.i64.wrap (IntKind.i64.wrap (IntKind.i64.wrap (Int.fdiv (IntKind.u64.wrap (IntKind.i64.wrap ((a:Int)+(b:Int)))) 2)+(m:Int))-1))) (.int .i64 ((mid+m-1:Nat):Int)) Zk (by rw[L9 Zo Zo,←hmid,Rq Zo Zo,IntWalk.i64_in _ Zo];congr 1;omega) ?_
    exact K0.blur [141,142,143,144,145,146] fun x=>K0.eq (kk (⟨(a,m),⟨⟨by show a≤a;omega,by show a≤m;omega⟩,by show m≤m;omega,by show m≤mid;omega,by show mid+m≤b+(a);omega⟩,by show a=a∨mid+m- (a)=b;omega,by show m=m∨mid+m-m=m;omega⟩,x)) Zk
  obtain⟨⟨⟨s0,r0⟩,⟨⟨f1,f2⟩,f3,f4,f5⟩,f6,f7⟩,xj⟩:=i
  have f1:a≤s0:=f1
  have f2:s0≤r0:=f2
  have f3:r0≤m:=f3
  have f4:r0≤mid:=f4
  have f5:mid+m≤b+s0:=f5
  have f6:s0=a∨mid+m-s0=b:=f6
  have f7:r0=m∨mid+m-r0=m:=f7
  refine K0.loop (ι:={q:Nat×Nat // (q.1≤q.2∧s0≤q.1∧q.2≤r0)∧(∀x y,s0<q.1→L[q.1-1]? =some x→L[mid+m-q.1]? =some y→ltOf L5 y x=false)∧(∀x y,q.2<r0→L[mid+m-1-q.2]? =some x→L[q.2]? =some y→ltOf L5 x y=true)}) 220 (fun q=>⟨[(0,.v (.slice (some ⟨g,0,none⟩) n c)),(1,.v (.int .i64 a)),(2,.v (.int .i64 m)),(3,.v (.int .i64 b)),(4,.v (.func (.func 227) #[] #[])),(18,.v (.int .i64 mid)),(19,.v (.int .i64 ((mid+m:Nat):Int))),(20,.v (.int .i64 q.1.1)),(21,.v (.int .i64 q.1.2)),(22,.v (.int .i64 ((mid+m-1:Nat):Int)))],[]⟩) (fun _ u=>K6 u B 254 8 (some ⟨g,0,none⟩) n c (L.flatMap L7)∧Kn W w g u) (fun q=>q.1.2-q.1.1) (⟨(s0,r0),⟨f2,Nat.le_refl _,Nat.le_refl _⟩,fun _ _ h=>absurd h (Nat.lt_irrefl _),fun _ _ h=>absurd h (Nat.lt_irrefl _)⟩) Zk (fun _=>by kernel_rfl) ⟨Zk,Zk,Zk⟩ (fun u h=>hsame u h) ?_
  rintro⟨⟨s,r⟩,⟨q1,q2,q3⟩,q4,q5⟩ gg
  have q1:s≤r:=q1
  have q2:s0≤s:=q2
  have q3:r≤r0:=q3
  have q4:∀x y,s0<s→L[s-1]? =some x→L[mid+m-s]? =some y→ltOf L5 y x=false:=q4
  have q5:∀x y,r<r0→L[mid+m-1-r]? =some x→L[r]? =some y→ltOf L5 x y=true:=q5
  by_cases hsr:s<r
  ·obtain⟨t,ht⟩:∃t,t=(s+r)/2:=⟨_,rfl⟩
   obtain⟨x,hx⟩:∃x,L[mid+m-1-t]? =some x:=⟨_,List.getElem?_eq_getElem Zo⟩
   obtain⟨y,hy⟩:∃y,L[t]? =some y:=⟨_,List.getElem?_eq_getElem Zo⟩
   refine ZR ?_
   refine ZJ (decide ((s:Int)<(r:Int))) true (decide_eq_true Zo) ?_
   refine K0.slot 23 (.int .i64 (IntKind.i64.wrap (Int.fdiv (IntKind.u64.wrap (IntKind.i64.wrap ((s:Int)+(r:Int)))) 2))) (.int .i64 (t:Int)) Zk (by rw[L9 Zo Zo,ht]) ?_
   refine K0.slot 162 (.int .i64 (IntKind.i64.wrap (((mid+m-1:Nat):Int)-IntKind.i64.wrap (Int.fdiv (IntKind.u64.wrap (IntKind.i64.wrap ((s:Int)+(r:Int)))) 2)))) (.int .i64 ((mid+m-1-t:Nat):Int)) Zk (by rw[L9 Zo Zo,←ht,Up Zo Zo]) ?_
   refine K0.slot 166 (.int .i64 (IntKind.i64.wrap (Int.fdiv (IntKind.u64.wrap (IntKind.i64.wrap ((s:Int)+(r:Int)))) 2))) (.int .i64 (t:Int)) Zk (by rw[L9 Zo Zo,ht]) ?_
   refine ZB 5 (Kc 171 (.slice (some ⟨g,0,none⟩) n c) ((mid+m-1-t:Nat):Int)) (.pointer (some ⟨g,(mid+m-1-t)*8,none⟩)) (fun w1 hw h=>K9 (elem:=254) Zk Zk Zo) ?_
   refine ZB 6 (Kd 254 ⟨g,(mid+m-1-t)*8,none⟩) (.agg (L7 x).toArray) (fun w1 hw h=>Ka (vs:=L7 x) Zk Zk (Lw Lu h.1 Zo hx)) ?_
   refine ZA (Kc 171 (.slice (some ⟨g,0,none⟩) n c) t) (.pointer (some ⟨g,t*8,none⟩)) (fun w1 hw h=>K9 (elem:=254) Zk Zk Zo) ?_
   refine ZA (Kd 254 ⟨g,t*8,none⟩) (.agg (L7 y).toArray) (fun w1 hw h=>Ka (vs:=L7 y) Zk Zk (Lw Lu h.1 Zo hy)) ?_
   refine ZC (fun w1 hw h=>hcmp w1 h.2.1 (h.2.old hW hw) x (List.mem_of_getElem? hx) y (List.mem_of_getElem? hy)) fun u=> ?_
   cases hc:decide (L5 x y<0)
   ·
    refine ZJ (!(decide (L5 x y<0))) true (by rw[hc];rfl) ?_
    refine K0.slot 20 (.int .i64 (IntKind.i64.wrap ((t:Int)+1))) (.int .i64 ((t+1:Nat):Int)) Zk (by rw[IntWalk.i64_in _ Zo];rfl) ?_
    refine K0.next (⟨(t+1,r),⟨by show t+1≤r;omega,by show s0≤t+1;omega,q3⟩,fun x' y' _ hx' hy'=>by rw[Nat.add_sub_cancel,hy]at hx';rw[show mid+m- (t+1)=mid+m-1-t by omega,hx]at hy';injection hx' with hx';injection hy' with hy';subst hx';subst hy';exact hc,q5⟩) Zk (by show r- (t+1)<r-s;omega) ⟨Zk,Zk,Zk⟩ (fun _ h=>h.1)
   ·
    refine ZJ (!(decide (L5 x y<0))) false (by rw[hc];rfl) ?_
    refine K0.next (⟨(s,t),⟨by show s≤t;omega,q2,by show t≤r0;omega⟩,q4,fun x' y' _ hx' hy'=>by rw[hx]at hx';rw[hy]at hy';injection hx' with hx';injection hy' with hy';subst hx';subst hy';exact hc⟩) Zk (by show t-s<r-s;omega) ⟨Zk,Zk,Zk⟩ (fun _ h=>h.1)
  obtain rfl:s=r:=by omega
  obtain⟨e,he⟩:∃e,e=mid+m-s:=⟨_,rfl⟩
  have hse:s+e=mid+m:=by omega
  have hX:∀x y,a<s→e<b→L[s-1]? =some x→L[e]? =some y→ltOf L5 y x=false:=fun x y h1 h2 hx hy=>q4 x y Zo hx (by rw[←he];exact hy)
  have hY:∀x y,s<m→m<e→L[e-1]? =some x→L[s]? =some y→ltOf L5 y x=false:=fun x y h1 h2 hx hy=>Dc hO (q5 x y Zo (by rw[show mid+m-1-s=e-1 by omega];exact hx) hy)
  have hem:s+(e-m)=mid:=by omega
  have hse2:a≤s∧s≤m∧m≤e∧e≤b:=by omega
  refine ZR ?_
  refine ZJ (decide ((s:Int)<(s:Int))) false (decide_eq_false Zo) ?_
  refine K0.leave Zk ?_
  refine ZS 3 ?_
  refine K0.slot 177 (.int .i64 (IntKind.i64.wrap (((mid+m:Nat):Int)- (s:Int)))) (.int .i64 (e:Int)) Zk (by rw[Up Zo Zo,he]) ?_
  refine K0.run Zk (stop:=1000) 1 _ ?_
  refine ZS 3 ?_
  refine K0.meet3 (ι:={M:List Nv // W4 s m e L M}×(Nat→AV)) (fun i c=>Nu [180,181,182,183,184,185,186,187,188,189,190,191] i.2 (Lx Tryz.prog 3 1000 (Ag false (Lx Tryz.prog 1000 1000 (Kw 180 (.bool false) c))))) (fun i u=>K6 u B 254 8 (some ⟨g,0,none⟩) n c (i.1.1.flatMap L7)∧Kn W w g u) (fun kk=> ?_) (fun i=> ?_)
  ·by_cases c1:s<m
   ·
    refine ZT 180 (.bool (decide ((s:Int)<(m:Int)))) (.bool true) (by rw[decide_eq_true Zo]) ?_
    by_cases c2:m<e
    ·
     refine ZJ (decide ((m:Int)<(e:Int))) true (decide_eq_true Zo) ?_
     have hcut:L=L.take s++((L.drop s).take (m-s)++((L.drop m).take (e-m)++L.drop e)):=by
      conv=>lhs;rw[←List.take_append_drop s L,←List.take_append_drop (m-s) (L.drop s),List.drop_drop,show s+(m-s)=m by omega,←List.take_append_drop (e-m) (L.drop m),List.drop_drop,show m+(e-m)=e by omega]
     have l1:(L.take s).length=s:=by rw[List.length_take];omega
     have l2:((L.drop s).take (m-s)).length=m-s:=by rw[List.length_take,List.length_drop];omega
     have l3:((L.drop m).take (e-m)).length=e-m:=by rw[List.length_take,List.length_drop];omega
     have hrot:=rot_cut (s:=s) (m:=m) (e:=e) (S:=L.drop e) l1 (show s+((L.drop s).take (m-s)).length=m by omega) (show m+((L.drop m).take (e-m)).length=e by omega)
     rw[←hcut]at hrot
     generalize hM:L.take s++((L.drop m).take (e-m)++((L.drop s).take (m-s)++L.drop e))=M at hrot
     refine K0.mut (L:=[g]) (val:=fun _:Unit=> .tuple #[]) (G:=fun _ u=>K6 u B 254 8 (some ⟨g,0,none⟩) n c (M.flatMap L7)) (Φ':=fun _ u=>K6 u B 254 8 (some ⟨g,0,none⟩) n c (M.flatMap L7)∧Kn W w g u) (fun w1 hw h=>by
      have h1:=h.1
      rw[hcut]at h1
      have h2:=rot_sp (f:= .func (.func 227) #[] #[]) (a:=s) (m:=m) (b:=e) hw hg h1 (by rw[←hcut];exact hln) hn l1 Zo Zo Zo Zo
      rw[hM]at h2
      exact h2) (fun u h b hb=>by have hb:=List.mem_singleton.1 hb;subst hb;exact⟨hg,(h.1.blk _ (by simp[bl])).2⟩) (fun _ wa u e1 e2 h hG=>⟨hG,h.2.left e1 e2⟩) Zk Zk (fun _=> ?_)
     refine ZS 3 ?_
     exact K0.blur [180,181,182,183,184,185,186,187,188,189,190,191] fun x=>K0.eq (kk (⟨M,hrot⟩,x)) Zk
    ·
     refine K0.condr (decide ((m:Int)<(e:Int))) false Zk (decide_eq_false Zo) ?_
     refine ZS 3 ?_
     exact K0.blur [180,181,182,183,184,185,186,187,188,189,190,191] fun x=>K0.eq (kk (⟨L,Zh (.inr Zo) hse2.2.1 hse2.2.2.1⟩,x)) Zk
   ·
    refine ZT 180 (.bool (decide ((s:Int)<(m:Int)))) (.bool false) (by rw[decide_eq_false Zo]) ?_
    refine K0.cond false Zk ?_
    refine ZS 3 ?_
    exact K0.blur [180,181,182,183,184,185,186,187,188,189,190,191] fun x=>K0.eq (kk (⟨L,Zh (.inl Zo) hse2.2.1 hse2.2.2.1⟩,x)) Zk
  obtain⟨⟨L1,hr⟩,x1⟩:=i
  have hl1:=hr.pr.len
  refine K0.meet3 (ι:={M:List Nv // PR a mid L1 M∧Oj (ltOf L5) a mid M}×(Nat→AV)) (fun i c=>Nu [194,195,196,197,198,199,200,201,202,203,204,205] i.2 (Lx Tryz.prog 3 1000 (Ag false (Lx Tryz.prog 1000 1000 (Kw 194 (.bool false) c))))) (fun i u=>K6 u B 254 8 (some ⟨g,0,none⟩) n c (i.1.1.flatMap L7)∧Kn W w g u) (fun kk=> ?_) (fun i=> ?_)
  ·by_cases c1:a<s
   ·
    refine ZT 194 (.bool (decide ((a:Int)<(s:Int)))) (.bool true) (by rw[decide_eq_true Zo]) ?_
    by_cases c2:s<mid
    ·
     refine ZJ (decide ((s:Int)<(mid:Int))) true (decide_eq_true Zo) ?_
     refine K0.mut (L:=[g]) (val:=fun _:{M:List Nv // PR a mid L1 M∧Oj (ltOf L5) a mid M}=> .tuple #[]) (G:=fun M u=>K6 u B 254 8 (some ⟨g,0,none⟩) n c (M.1.flatMap L7)) (Φ':=fun M u=>K6 u B 254 8 (some ⟨g,0,none⟩) n c (M.1.flatMap L7)∧Kn W w g u) (fun w1 hw h=>sym_sp k Zo hw hg h.1 Zo hn c1 c2 Zo (Iu (mid:=mid) hse2.1 hse2.2.1 k1 hr) (by have:=It hse2.2.2.1 hse2.2.2.2 k2 hr;rw[hem]at this;exact this) (hcmp.to hr.pr.perm h.2.1 (h.2.old hW hw))) (fun u h b hb=>by have hb:=List.mem_singleton.1 hb;subst hb;exact⟨hg,(h.1.blk _ (by simp[bl])).2⟩) (fun _ wa u e1 e2 h hG=>⟨hG,h.2.left e1 e2⟩) Zk Zk (fun M=> ?_)
     refine ZS 3 ?_
     exact K0.blur [194,195,196,197,198,199,200,201,202,203,204,205] fun x=>K0.eq (kk (M,x)) Zk
    ·
     refine K0.condr (decide ((s:Int)<(mid:Int))) false Zk (decide_eq_false Zo) ?_
     refine ZS 3 ?_
     exact K0.blur [194,195,196,197,198,199,200,201,202,203,204,205] fun x=>K0.eq (kk (⟨L1,.rfl',by rw[←hem,show s+(e-m)=s by omega];exact Iu (mid:=mid) hse2.1 hse2.2.1 k1 hr⟩,x)) Zk
   ·
    refine ZT 194 (.bool (decide ((a:Int)<(s:Int)))) (.bool false) (by rw[decide_eq_false Zo]) ?_
    refine K0.cond false Zk ?_
    refine ZS 3 ?_
    exact K0.blur [194,195,196,197,198,199,200,201,202,203,204,205] fun x=>K0.eq (kk (⟨L1,.rfl',by have:=It hse2.2.2.1 hse2.2.2.2 k2 hr;rw[hem,show s=a by omega]at this;exact this⟩,x)) Zk
  obtain⟨⟨L2,hp,hps⟩,x2⟩:=i
  have hl2:=hp.len
  have t3:Oj (ltOf L5) mid e L2:=by have:=rot_s3 hse2.1 hse2.2.1 hse2.2.2.1 k1 hr;rw[hem]at this;exact this.same fun i u v=>hp.out i (.inr u)
  have t4:Oj (ltOf L5) e b L2:=(rot_s4 hse2.2.2.1 k2 hr).same fun i u v=>hp.out i (.inr Zo)
  have fin:∀L3:List Nv,PR mid b L2 L3→Oj (ltOf L5) mid b L3→PR a b L L3∧Oj (ltOf L5) a b L3:=fun L3 u v=>sym_ok hO Zo hse2.1 hse2.2.1 hse2.2.2.1 hse2.2.2.2 hse k1 k2 hr hp hps u v hX hY
  by_cases c1:mid<e
  ·
   refine ZT 208 (.bool (decide ((mid:Int)<(e:Int)))) (.bool true) (by rw[decide_eq_true Zo]) ?_
   by_cases c2:e<b
   ·
    refine ZJ (decide ((e:Int)<(b:Int))) true (decide_eq_true Zo) ?_
    refine K0.mut (L:=[g]) (val:=fun _:{M:List Nv // PR mid b L2 M∧Oj (ltOf L5) mid b M}=> .tuple #[]) (G:=fun M u=>K6 u B 254 8 (some ⟨g,0,none⟩) n c (M.1.flatMap L7)) (Φ':=fun M u=>K6 u B 254 8 (some ⟨g,0,none⟩) n c (M.1.flatMap L7)∧Kn W w g u) (fun w1 hw h=>sym_sp k Zo hw hg h.1 Zo hn c1 c2 hbn t3 t4 (hcmp.to (hp.perm.trans hr.pr.perm) h.2.1 (h.2.old hW hw))) (fun u h b hb=>by have hb:=List.mem_singleton.1 hb;subst hb;exact⟨hg,(h.1.blk _ (by simp[bl])).2⟩) (fun _ wa u e1 e2 h hG=>⟨hG,h.2.left e1 e2⟩) Zk Zk (fun M=> ?_)
    refine ZR ?_
    refine ZV (.tuple #[]) (fun w1 hw h=>⟨⟨M.1,fin M.1 M.2.1 M.2.2⟩,rfl,(h w1 (Nat.le_refl _) fun _ _ _=>rfl).2.chg hW hw,fun u k1 k2=>(h w1 (Nat.le_refl _) fun _ _ _=>rfl).1.same fun b hb=>k2 b (.inl hb)⟩)
   ·
    refine ZJ (decide ((e:Int)<(b:Int))) false (decide_eq_false Zo) ?_
    refine ZV (.tuple #[]) (fun w1 hw h=>⟨⟨L2,fin L2 .rfl' (by rw[show b=e by omega];exact t3)⟩,rfl,(h w1 (Nat.le_refl _) fun _ _ _=>rfl).2.chg hW hw,fun u k1 k2=>(h w1 (Nat.le_refl _) fun _ _ _=>rfl).1.same fun b hb=>k2 b (.inl hb)⟩)
  ·
   refine ZT 208 (.bool (decide ((mid:Int)<(e:Int)))) (.bool false) (by rw[decide_eq_false Zo]) ?_
   refine ZI false ?_
   refine ZV (.tuple #[]) (fun w1 hw h=>⟨⟨L2,fin L2 .rfl' (by rw[show mid=e by omega];exact t4)⟩,rfl,(h w1 (Nat.le_refl _) fun _ _ _=>rfl).2.chg hW hw,fun u k1 k2=>(h w1 (Nat.le_refl _) fun _ _ _=>rfl).1.same fun b hb=>k2 b (.inl hb)⟩)
theorem sym_mk:∀(k:Nat) {a m b:Nat} {L:List Pv} {w W:World},b-a≤k→Below W.heap.size W w→W.heap.size≤g→K6 w B 258 5 (some ⟨g,0,none⟩) n c (L.flatMap M0)→L.length=n→n≤1000000000→a<m→m<b→b≤n→Oj (ltOf L6) a m L→Oj (ltOf L6) m b L→X6 M0 230 L6 L g w→
 Calls Tryz.prog 332 #[.slice (some ⟨g,0,none⟩) n c,.int .i64 a,.int .i64 m,.int .i64 b,.func (.func 230) #[] #[]] w (Ky w [g] (fun _:{M:List Pv // PR a b L M∧Oj (ltOf L6) a b M}=> .tuple #[]) fun M u=>K6 u B 258 5 (some ⟨g,0,none⟩) n c (M.1.flatMap M0))
 |0,a,m,b,L,w,W,hk,_,_,_,_,_,h1,h2,_,_,_,_=>by omega
 | k +1,a,m,b,L,w,W,hk,hW,hg,ho,hln,hn,ham,hmb,hbn,k1,k2,hcmp=>by
  have hgl:=(ho.lt g (by simp[bl])).2
  have hO:=swo_mk
  have hsame:∀u:World,(w.heap.size≤u.heap.size∧∀b,W.heap.size≤b→b<w.heap.size→u.heap[b]? =w.heap[b]?)→K6 u B 258 5 (some ⟨g,0,none⟩) n c (L.flatMap M0)∧Kn W w g u:=fun u h=>⟨ho.same fun b hb=>(by have hb:=List.mem_singleton.1 hb;subst hb;exact h.2 _ hg hgl),h.1,fun b h1 h2 _=>h.2 b h1 h2⟩
  refine K0.enterW Tryz.func332 rfl hW ?_
  by_cases hm1:m=a+1
  · -- one element ahead
   obtain⟨x,hx⟩:∃x,L[a]? =some x:=⟨_,List.getElem?_eq_getElem Zo⟩
   refine ZR ?_
   refine ZJ ((IntKind.i64.wrap ((m:Int)- (a:Int))==1)) true (by rw[Up Zo Zo];simp;omega) ?_
   refine K0.loop (ι:={q:Nat×Nat // (q.1≤q.2∧m≤q.1∧q.2≤b)∧(∀y,m<q.1→L[q.1-1]? =some y→ltOf L6 y x=true)∧(∀y,q.2<b→L[q.2]? =some y→ltOf L6 y x=false)}) 220 (fun q=>⟨[(0,.v (.slice (some ⟨g,0,none⟩) n c)),(1,.v (.int .i64 a)),(4,.v (.func (.func 230) #[] #[])),(10,.v (.int .i64 q.1.1)),(11,.v (.int .i64 q.1.2))],[]⟩) (fun _ u=>K6 u B 258 5 (some ⟨g,0,none⟩) n c (L.flatMap M0)∧Kn W w g u) (fun q=>q.1.2-q.1.1) (⟨(m,b),⟨by show m≤b;omega,Nat.le_refl _,Nat.le_refl _⟩,fun _ h=>absurd h (Nat.lt_irrefl _),fun _ h=>absurd h (Nat.lt_irrefl _)⟩) Zk (fun _=>by kernel_rfl) ⟨Zk,Zk,Zk⟩ (fun u h=>hsame u h) ?_
   rintro⟨⟨i,j⟩,⟨q1,q2,q3⟩,q4,q5⟩ gg
   have q1:i≤j:=q1
   have q2:m≤i:=q2
   have q3:j≤b:=q3
   have q4:∀y,m<i→L[i-1]? =some y→ltOf L6 y x=true:=q4
   have q5:∀y,j<b→L[j]? =some y→ltOf L6 y x=false:=q5
   by_cases hij:i<j
   case neg=>
    obtain rfl:i=j:=by omega
    have hup:=up_ok hO hx (show b≤L.length by omega) (show a<i by omega) q3 (by rw[←hm1];exact k2) (by rw[←hm1];exact q4) q5
    refine ZR ?_
    refine ZJ (decide ((i:Int)<(i:Int))) false (decide_eq_false Zo) ?_
    refine K0.leave Zk ?_
    refine ZR ?_
    refine K0.loop (ι:={d:Nat // d≤i-1-a}) 220 (fun d=>⟨[(0,.v (.slice (some ⟨g,0,none⟩) n c)),(10,.v (.int .i64 i)),(13,.v (.int .i64 ((a+d.1:Nat):Int)))],[]⟩) (fun d u=>K6 u B 258 5 (some ⟨g,0,none⟩) n c ((Xz a d.1 L).flatMap M0)∧Kn W w g u) (fun d=>i-1-a-d.1) (⟨0,Nat.zero_le _⟩) Zk (fun _=>by kernel_rfl) ⟨Zk,Zk,Zk⟩ (fun u h=>h) ?_
    rintro⟨d,hd⟩ gg2
    have hd:d≤i-1-a:=hd
    have hmv:=(Jb (L:=L) (a:=a) (d:=d) Zo).1.len
    by_cases hdl:a+d<i-1
    case neg=>
     obtain rfl:d=i-1-a:=by omega
     refine ZR ?_
     refine ZJ (decide (((a+(i-1-a):Nat):Int)<IntKind.i64.wrap ((i:Int)-1))) false (decide_eq_false (by rw[IntWalk.i64_in _ Zo];omega)) ?_
     refine K0.leave Zk ?_
     refine ZR ?_
     refine ZV (.tuple #[]) (fun w1 hw h=>⟨⟨Xz a (i-1-a) L,hup⟩,rfl,(h w1 (Nat.le_refl _) fun _ _ _=>rfl).2.chg hW hw,fun u k1 k2=>(h w1 (Nat.le_refl _) fun _ _ _=>rfl).1.same fun b hb=>k2 b (.inl hb)⟩)
    obtain⟨y,hy⟩:∃y,(Xz a d L)[a+d]? =some y:=⟨_,List.getElem?_eq_getElem Zo⟩
    obtain⟨z,hz⟩:∃z,(Xz a d L)[a+d+1]? =some z:=⟨_,List.getElem?_eq_getElem Zo⟩
    refine ZR ?_
    refine ZJ (decide (((a+d:Nat):Int)<IntKind.i64.wrap ((i:Int)-1))) true (decide_eq_true (by rw[IntWalk.i64_in _ Zo];omega)) ?_
    refine K0.slot 65 (.int .i64 (IntKind.i64.wrap (((a+d:Nat):Int)+1))) (.int .i64 ((a+d+1:Nat):Int)) Zk (by rw[IntWalk.i64_in _ Zo];rfl) ?_
    refine K0.slot 68 (.int .i64 (IntKind.i64.wrap (((a+d:Nat):Int)+1))) (.int .i64 ((a+d+1:Nat):Int)) Zk (by rw[IntWalk.i64_in _ Zo];rfl) ?_
    refine ZB 8 (Kc 255 (.slice (some ⟨g,0,none⟩) n c) ((a+d+1:Nat):Int)) (.pointer (some ⟨g,(a+d+1)*5,none⟩)) (fun w1 hw h=>K9 (elem:=258) Zk Zk Zo) ?_
    refine ZB 9 (Kd 258 ⟨g,(a+d+1)*5,none⟩) (.agg (M0 z).toArray) (fun w1 hw h=>Ka (vs:=M0 z) Zk Zk (Lw Mg h.1 Zo hz)) ?_
    refine ZB 12 (Kc 255 (.slice (some ⟨g,0,none⟩) n c) ((a+d:Nat):Int)) (.pointer (some ⟨g,(a+d)*5,none⟩)) (fun w1 hw h=>K9 (elem:=258) Zk Zk Zo) ?_
    refine ZB 13 (Kd 258 ⟨g,(a+d)*5,none⟩) (.agg (M0 y).toArray) (fun w1 hw h=>Ka (vs:=M0 y) Zk Zk (Lw Mg h.1 Zo hy)) ?_
    refine ZB 14 (Kc 255 (.slice (some ⟨g,0,none⟩) n c) ((a+d:Nat):Int)) (.pointer (some ⟨g,(a+d)*5,none⟩)) (fun w1 hw h=>K9 (elem:=258) Zk Zk Zo) ?_
    refine K0.mutStB (L:=[g]) (G:=fun u=>K6 u B 258 5 (some ⟨g,0,none⟩) n c (((Xz a d L).set (a+d) z).flatMap M0)) (Φ':=fun u=>K6 u B 258 5 (some ⟨g,0,none⟩) n c (((Xz a d L).set (a+d) z).flatMap M0)∧Kn W w g u) (Rm 258 ⟨g,(a+d)*5,none⟩ (.agg (M0 z).toArray)) (fun w1 hw h=>K6.setE Mg h.1 Zo rfl Zk (Sm z)) (fun u h b hb=>by have hb:=List.mem_singleton.1 hb;subst hb;exact⟨hg,(h.1.blk _ (by simp[bl])).2⟩) (fun wa u e1 e2 h hG=>⟨hG,h.2.left e1 e2⟩) Zk Zk ?_
    refine ZB 16 (Kc 255 (.slice (some ⟨g,0,none⟩) n c) ((a+d+1:Nat):Int)) (.pointer (some ⟨g,(a+d+1)*5,none⟩)) (fun w1 hw h=>K9 (elem:=258) Zk Zk Zo) ?_
    refine K0.mutStB (L:=[g]) (G:=fun u=>K6 u B 258 5 (some ⟨g,0,none⟩) n c ((((Xz a d L).set (a+d) z).set (a+d+1) y).flatMap M0)) (Φ':=fun u=>K6 u B 258 5 (some ⟨g,0,none⟩) n c ((((Xz a d L).set (a+d) z).set (a+d+1) y).flatMap M0)∧Kn W w g u) (Rm 258 ⟨g,(a+d+1)*5,none⟩ (.agg (M0 y).toArray)) (fun w1 hw h=>K6.setE Mg h.1 Zp rfl Zk (Sm y)) (fun u h b hb=>by have hb:=List.mem_singleton.1 hb;subst hb;exact⟨hg,(h.1.blk _ (by simp[bl])).2⟩) (fun wa u e1 e2 h hG=>⟨hG,h.2.left e1 e2⟩) Zk Zk ?_
    refine ZR ?_
    have hsw:Xz a (d+1) L=((Xz a d L).set (a+d) z).set (a+d+1) y:=by
     show Az (Xz a d L) (a+d) (a+d+1)=_
     unfold Az;rw[hy,hz]
    refine K0.slot 13 (.int .i64 (IntKind.i64.wrap (((a+d:Nat):Int)+1))) (.int .i64 ((a+(d+1):Nat):Int)) Zk (by rw[IntWalk.i64_in _ Zo];rfl) ?_
    refine K0.next (⟨d+1,by omega⟩) Zk (by show i-1-a- (d+1)<i-1-a-d;omega) ⟨Zk,Zk,Zk⟩ (fun u h=>⟨by show K6 u B _ 5 _ n c ((Xz a (d+1) L).flatMap M0);rw[hsw];exact h.1,h.2⟩)
   obtain⟨t,ht⟩:∃t,t=(i+j)/2:=⟨_,rfl⟩
   obtain⟨y,hy⟩:∃y,L[t]? =some y:=⟨_,List.getElem?_eq_getElem Zo⟩
   refine ZR ?_
   refine ZJ (decide ((i:Int)<(j:Int))) true (decide_eq_true Zo) ?_
   refine K0.slot 12 (.int .i64 (IntKind.i64.wrap (Int.fdiv (IntKind.u64.wrap (IntKind.i64.wrap ((i:Int)+(j:Int)))) 2))) (.int .i64 (t:Int)) Zk (by rw[L9 Zo Zo,ht]) ?_
   refine K0.slot 42 (.int .i64 (IntKind.i64.wrap (Int.fdiv (IntKind.u64.wrap (IntKind.i64.wrap ((i:Int)+(j:Int)))) 2))) (.int .i64 (t:Int)) Zk (by rw[L9 Zo Zo,ht]) ?_
   refine ZB 3 (Kc 255 (.slice (some ⟨g,0,none⟩) n c) t) (.pointer (some ⟨g,t*5,none⟩)) (fun w1 hw h=>K9 (elem:=258) Zk Zk Zo) ?_
   refine ZB 4 (Kd 258 ⟨g,t*5,none⟩) (.agg (M0 y).toArray) (fun w1 hw h=>Ka (vs:=M0 y) Zk Zk (Lw Mg h.1 Zo hy)) ?_
   refine ZA (Kc 255 (.slice (some ⟨g,0,none⟩) n c) a) (.pointer (some ⟨g,a*5,none⟩)) (fun w1 hw h=>K9 (elem:=258) Zk Zk Zo) ?_
   refine ZA (Kd 258 ⟨g,a*5,none⟩) (.agg (M0 x).toArray) (fun w1 hw h=>Ka (vs:=M0 x) Zk Zk (Lw Mg h.1 Zo hx)) ?_
   refine ZC (fun w1 hw h=>hcmp w1 h.2.1 (h.2.old hW hw) y (List.mem_of_getElem? hy) x (List.mem_of_getElem? hx)) fun u=> ?_
   cases hc:decide (L6 y x<0)
   ·
    refine ZJ (decide (L6 y x<0)) false (hc) ?_
    refine K0.next (⟨(i,t),⟨by show i≤t;omega,q2,by show t≤b;omega⟩,q4,fun y' _ hy'=>by rw[hy]at hy';injection hy' with hy';subst hy';exact hc⟩) Zk (by show t-i<j-i;omega) ⟨Zk,Zk,Zk⟩ (fun _ h=>h.1)
   ·
    refine ZJ (decide (L6 y x<0)) true (hc) ?_
    refine K0.slot 10 (.int .i64 (IntKind.i64.wrap ((t:Int)+1))) (.int .i64 ((t+1:Nat):Int)) Zk (by rw[IntWalk.i64_in _ Zo];rfl) ?_
    refine K0.next (⟨(t+1,j),⟨by show t+1≤j;omega,by show m≤t+1;omega,q3⟩,fun y' _ hy'=>by rw[Nat.add_sub_cancel,hy]at hy';injection hy' with hy';subst hy';exact hc,q5⟩) Zk (by show j- (t+1)<j-i;omega) ⟨Zk,Zk,Zk⟩ (fun _ h=>h.1)
  by_cases hb1:b=m+1
  · -- one element behind
   obtain⟨x,hx⟩:∃x,L[m]? =some x:=⟨_,List.getElem?_eq_getElem Zo⟩
   refine ZR ?_
   refine ZJ ((IntKind.i64.wrap ((m:Int)- (a:Int))==1)) false (by rw[Up Zo Zo];simp;omega) ?_
   refine ZJ ((IntKind.i64.wrap ((b:Int)- (m:Int))==1)) true (by rw[Up Zo Zo];simp;omega) ?_
   refine K0.loop (ι:={q:Nat×Nat // (q.1≤q.2∧a≤q.1∧q.2≤m)∧(∀y,a<q.1→L[q.1-1]? =some y→ltOf L6 x y=false)∧(∀y,q.2<m→L[q.2]? =some y→ltOf L6 x y=true)}) 220 (fun q=>⟨[(0,.v (.slice (some ⟨g,0,none⟩) n c)),(2,.v (.int .i64 m)),(4,.v (.func (.func 230) #[] #[])),(14,.v (.int .i64 q.1.1)),(15,.v (.int .i64 q.1.2))],[]⟩) (fun _ u=>K6 u B 258 5 (some ⟨g,0,none⟩) n c (L.flatMap M0)∧Kn W w g u) (fun q=>q.1.2-q.1.1) (⟨(a,m),⟨by show a≤m;omega,Nat.le_refl _,Nat.le_refl _⟩,fun _ h=>absurd h (Nat.lt_irrefl _),fun _ h=>absurd h (Nat.lt_irrefl _)⟩) Zk (fun _=>by kernel_rfl) ⟨Zk,Zk,Zk⟩ (fun u h=>hsame u h) ?_
   rintro⟨⟨i,j⟩,⟨q1,q2,q3⟩,q4,q5⟩ gg
   have q1:i≤j:=q1
   have q2:a≤i:=q2
   have q3:j≤m:=q3
   have q4:∀y,a<i→L[i-1]? =some y→ltOf L6 x y=false:=q4
   have q5:∀y,j<m→L[j]? =some y→ltOf L6 x y=true:=q5
   by_cases hij:i<j
   case neg=>
    obtain rfl:i=j:=by omega
    have hdn:=down_ok hO hx (show m<L.length by omega) q2 q3 k1 q4 q5
    rw[←hb1]at hdn
    refine ZR ?_
    refine ZJ (decide ((i:Int)<(i:Int))) false (decide_eq_false Zo) ?_
    refine K0.leave Zk ?_
    refine ZR ?_
    refine K0.loop (ι:={d:Nat // d≤m-i}) 220 (fun d=>⟨[(0,.v (.slice (some ⟨g,0,none⟩) n c)),(14,.v (.int .i64 i)),(17,.v (.int .i64 ((m-d.1:Nat):Int)))],[]⟩) (fun d u=>K6 u B 258 5 (some ⟨g,0,none⟩) n c ((Y4 m d.1 L).flatMap M0)∧Kn W w g u) (fun d=>m-i-d.1) (⟨0,Nat.zero_le _⟩) Zk (fun _=>by kernel_rfl) ⟨Zk,Zk,Zk⟩ (fun u h=>h) ?_
    rintro⟨d,hd⟩ gg2
    have hd:d≤m-i:=hd
    have hmv:=(Jc (L:=L) (m:=m) (d:=d) Zo Zo).1.len
    by_cases hdl:i<m-d
    case neg=>
     obtain rfl:d=m-i:=by omega
     refine ZR ?_
     refine ZJ (decide (((m- (m-i):Nat):Int)>(i:Int))) false (decide_eq_false Zo) ?_
     refine K0.leave Zk ?_
     refine ZR ?_
     refine ZV (.tuple #[]) (fun w1 hw h=>⟨⟨Y4 m (m-i) L,hdn⟩,rfl,(h w1 (Nat.le_refl _) fun _ _ _=>rfl).2.chg hW hw,fun u k1 k2=>(h w1 (Nat.le_refl _) fun _ _ _=>rfl).1.same fun b hb=>k2 b (.inl hb)⟩)
    obtain⟨y,hy⟩:∃y,(Y4 m d L)[m-d]? =some y:=⟨_,List.getElem?_eq_getElem Zo⟩
    obtain⟨z,hz⟩:∃z,(Y4 m d L)[m-d-1]? =some z:=⟨_,List.getElem?_eq_getElem Zo⟩
    refine ZR ?_
    refine ZJ (decide (((m-d:Nat):Int)>(i:Int))) true (decide_eq_true Zo) ?_
    refine K0.slot 117 (.int .i64 (IntKind.i64.wrap (((m-d:Nat):Int)-1))) (.int .i64 ((m-d-1:Nat):Int)) Zk (by rw[IntWalk.i64_in _ Zo];congr 1;omega) ?_
    refine K0.slot 120 (.int .i64 (IntKind.i64.wrap (((m-d:Nat):Int)-1))) (.int .i64 ((m-d-1:Nat):Int)) Zk (by rw[IntWalk.i64_in _ Zo];congr 1;omega) ?_
    refine ZB 8 (Kc 255 (.slice (some ⟨g,0,none⟩) n c) ((m-d-1:Nat):Int)) (.pointer (some ⟨g,(m-d-1)*5,none⟩)) (fun w1 hw h=>K9 (elem:=258) Zk Zk Zo) ?_
    refine ZB 9 (Kd 258 ⟨g,(m-d-1)*5,none⟩) (.agg (M0 z).toArray) (fun w1 hw h=>Ka (vs:=M0 z) Zk Zk (Lw Mg h.1 Zo hz)) ?_
    refine ZB 12 (Kc 255 (.slice (some ⟨g,0,none⟩) n c) ((m-d:Nat):Int)) (.pointer (some ⟨g,(m-d)*5,none⟩)) (fun w1 hw h=>K9 (elem:=258) Zk Zk Zo) ?_
    refine ZB 13 (Kd 258 ⟨g,(m-d)*5,none⟩) (.agg (M0 y).toArray) (fun w1 hw h=>Ka (vs:=M0 y) Zk Zk (Lw Mg h.1 Zo hy)) ?_
    refine ZB 14 (Kc 255 (.slice (some ⟨g,0,none⟩) n c) ((m-d:Nat):Int)) (.pointer (some ⟨g,(m-d)*5,none⟩)) (fun w1 hw h=>K9 (elem:=258) Zk Zk Zo) ?_
    refine K0.mutStB (L:=[g]) (G:=fun u=>K6 u B 258 5 (some ⟨g,0,none⟩) n c (((Y4 m d L).set (m-d) z).flatMap M0)) (Φ':=fun u=>K6 u B 258 5 (some ⟨g,0,none⟩) n c (((Y4 m d L).set (m-d) z).flatMap M0)∧Kn W w g u) (Rm 258 ⟨g,(m-d)*5,none⟩ (.agg (M0 z).toArray)) (fun w1 hw h=>K6.setE Mg h.1 Zo rfl Zk (Sm z)) (fun u h b hb=>by have hb:=List.mem_singleton.1 hb;subst hb;exact⟨hg,(h.1.blk _ (by simp[bl])).2⟩) (fun wa u e1 e2 h hG=>⟨hG,h.2.left e1 e2⟩) Zk Zk ?_
    refine ZB 16 (Kc 255 (.slice (some ⟨g,0,none⟩) n c) ((m-d-1:Nat):Int)) (.pointer (some ⟨g,(m-d-1)*5,none⟩)) (fun w1 hw h=>K9 (elem:=258) Zk Zk Zo) ?_
    refine K0.mutStB (L:=[g]) (G:=fun u=>K6 u B 258 5 (some ⟨g,0,none⟩) n c ((((Y4 m d L).set (m-d) z).set (m-d-1) y).flatMap M0)) (Φ':=fun u=>K6 u B 258 5 (some ⟨g,0,none⟩) n c ((((Y4 m d L).set (m-d) z).set (m-d-1) y).flatMap M0)∧Kn W w g u) (Rm 258 ⟨g,(m-d-1)*5,none⟩ (.agg (M0 y).toArray)) (fun w1 hw h=>K6.setE Mg h.1 Zp rfl Zk (Sm y)) (fun u h b hb=>by have hb:=List.mem_singleton.1 hb;subst hb;exact⟨hg,(h.1.blk _ (by simp[bl])).2⟩) (fun wa u e1 e2 h hG=>⟨hG,h.2.left e1 e2⟩) Zk Zk ?_
    refine ZR ?_
    have hsw:Y4 m (d+1) L=((Y4 m d L).set (m-d) z).set (m-d-1) y:=by
     show Az (Y4 m d L) (m-d) (m-d-1)=_
     unfold Az;rw[hy,hz]
    refine K0.slot 17 (.int .i64 (IntKind.i64.wrap (((m-d:Nat):Int)-1))) (.int .i64 ((m- (d+1):Nat):Int)) Zk (by rw[IntWalk.i64_in _ Zo];congr 1;omega) ?_
    refine K0.next (⟨d+1,by omega⟩) Zk (by show m-i- (d+1)<m-i-d;omega) ⟨Zk,Zk,Zk⟩ (fun u h=>⟨by show K6 u B _ 5 (some ⟨g,0,none⟩) n c ((Y4 m (d+1) L).flatMap M0);rw[hsw];exact h.1,h.2⟩)
   obtain⟨t,ht⟩:∃t,t=(i+j)/2:=⟨_,rfl⟩
   obtain⟨y,hy⟩:∃y,L[t]? =some y:=⟨_,List.getElem?_eq_getElem Zo⟩
   refine ZR ?_
   refine ZJ (decide ((i:Int)<(j:Int))) true (decide_eq_true Zo) ?_
   refine K0.slot 16 (.int .i64 (IntKind.i64.wrap (Int.fdiv (IntKind.u64.wrap (IntKind.i64.wrap ((i:Int)+(j:Int)))) 2))) (.int .i64 (t:Int)) Zk (by rw[L9 Zo Zo,ht]) ?_
   refine K0.slot 98 (.int .i64 (IntKind.i64.wrap (Int.fdiv (IntKind.u64.wrap (IntKind.i64.wrap ((i:Int)+(j:Int)))) 2))) (.int .i64 (t:Int)) Zk (by rw[L9 Zo Zo,ht]) ?_
   refine ZB 3 (Kc 255 (.slice (some ⟨g,0,none⟩) n c) m) (.pointer (some ⟨g,m*5,none⟩)) (fun w1 hw h=>K9 (elem:=258) Zk Zk Zo) ?_
   refine ZB 4 (Kd 258 ⟨g,m*5,none⟩) (.agg (M0 x).toArray) (fun w1 hw h=>Ka (vs:=M0 x) Zk Zk (Lw Mg h.1 Zo hx)) ?_
   refine ZA (Kc 255 (.slice (some ⟨g,0,none⟩) n c) t) (.pointer (some ⟨g,t*5,none⟩)) (fun w1 hw h=>K9 (elem:=258) Zk Zk Zo) ?_
   refine ZA (Kd 258 ⟨g,t*5,none⟩) (.agg (M0 y).toArray) (fun w1 hw h=>Ka (vs:=M0 y) Zk Zk (Lw Mg h.1 Zo hy)) ?_
   refine ZC (fun w1 hw h=>hcmp w1 h.2.1 (h.2.old hW hw) x (List.mem_of_getElem? hx) y (List.mem_of_getElem? hy)) fun u=> ?_
   cases hc:decide (L6 x y<0)
   ·
    refine ZJ (!(decide (L6 x y<0))) true (by rw[hc];rfl) ?_
    refine K0.slot 14 (.int .i64 (IntKind.i64.wrap ((t:Int)+1))) (.int .i64 ((t+1:Nat):Int)) Zk (by rw[IntWalk.i64_in _ Zo];rfl) ?_
    refine K0.next (⟨(t+1,j),⟨by show t+1≤j;omega,by show a≤t+1;omega,q3⟩,fun y' _ hy'=>by rw[Nat.add_sub_cancel,hy]at hy';injection hy' with hy';subst hy';exact hc,q5⟩) Zk (by show j- (t+1)<j-i;omega) ⟨Zk,Zk,Zk⟩ (fun _ h=>h.1)
   ·
    refine ZJ (!(decide (L6 x y<0))) false (by rw[hc];rfl) ?_
    refine K0.next (⟨(i,t),⟨by show i≤t;omega,q2,by show t≤m;omega⟩,q4,fun y' _ hy'=>by rw[hy]at hy';injection hy' with hy';subst hy';exact hc⟩) Zk (by show t-i<j-i;omega) ⟨Zk,Zk,Zk⟩ (fun _ h=>h.1)
  obtain⟨mid,hmid⟩:∃mid,mid=(a+b)/2:=⟨_,rfl⟩
  refine ZR ?_
  refine ZJ ((IntKind.i64.wrap ((m:Int)- (a:Int))==1)) false (by rw[Up Zo Zo];simp;omega) ?_
  refine ZJ ((IntKind.i64.wrap ((b:Int)- (m:Int))==1)) false (by rw[Up Zo Zo];simp;omega) ?_
  refine K0.meet (ι:={q:Nat×Nat // ((a≤q.1∧q.1≤q.2)∧q.2≤m∧q.2≤mid∧mid+m≤b+q.1)∧(q.1=a∨mid+m-q.1=b)∧(q.2=m∨mid+m-q.2=m)}×(Nat→AV)) (fun i c=>Nu [141,142,143,144,145,146] i.2 (Kw 22 (.int .i64 ((mid+m-1:Nat):Int)) (Kw 21 (.int .i64 (i.1.1.2:Int)) (Kw 20 (.int .i64 (i.1.1.1:Int)) (Kw 19 (.int .i64 ((mid+m:Nat):Int)) (Kw 18 (.int .i64 (mid:Int)) (Lx Tryz.prog 1000 1000 (Ag true c)))))))) (fun kk=> ?_) (fun i=> ?_)
  ·by_cases hgt:mid<m
   ·
    refine ZJ (decide ((m:Int)>IntKind.i64.wrap (Int.fdiv (IntKind.u64.wrap (IntKind.i64.wrap ((a:Int)+(b:Int)))) 2))) true (by rw[L9 Zo Zo,←hmid];exact decide_eq_true Zo) ?_
    refine K0.slot 18 (.int .i64 (IntKind.i64.wrap (Int.fdiv (IntKind.u64.wrap (IntKind.i64.wrap ((a:Int)+(b:Int)))) 2))) (.int .i64 (mid:Int)) Zk (by rw[L9 Zo Zo,←hmid]) ?_
    refine K0.slot 19 (.int .i64 (IntKind.i64.wrap (IntKind.i64.wrap (Int.fdiv (IntKind.u64.wrap (IntKind.i64.wrap ((a:Int)+(b:Int)))) 2)+(m:Int)))) (.int .i64 ((mid+m:Nat):Int)) Zk (by rw[L9 Zo Zo,←hmid,Rq Zo Zo]) ?_
    refine K0.slot 20 (.int .i64 (IntKind.i64.wrap (IntKind.i64.wrap (IntKind.i64.wrap (Int.fdiv (IntKind.u64.wrap (IntKind.i64.wrap ((a:Int)+(b:Int)))) 2)+(m:Int))- (b:Int)))) (.int .i64 ((mid+m-b:Nat):Int)) Zk (by rw[L9 Zo Zo,←hmid,Rq Zo Zo,Up Zo Zo]) ?_
    refine K0.slot 21 (.int .i64 (IntKind.i64.wrap (Int.fdiv (IntKind.u64.wrap (IntKind.i64.wrap ((a:Int)+(b:Int)))) 2))) (.int .i64 (mid:Int)) Zk (by rw[L9 Zo Zo,←hmid]) ?_
    refine K0.slot 22 (.int .i64 (IntKind.i64.wrap (IntKind.i64.wrap (IntKind.i64.wrap (Int.fdiv (IntKind.u64.wrap (IntKind.i64.wrap ((a:Int)+(b:Int)))) 2)+(m:Int))-1))) (.int .i64 ((mid+m-1:Nat):Int)) Zk (by rw[L9 Zo Zo,←hmid,Rq Zo Zo,IntWalk.i64_in _ Zo];congr 1;omega) ?_
    exact K0.blur [141,142,143,144,145,146] fun x=>K0.eq (kk (⟨(mid+m-b,mid),⟨⟨by show a≤mid+m-b;omega,by show mid+m-b≤mid;omega⟩,by show mid≤m;omega,by show mid≤mid;omega,by show mid+m≤b+(mid+m-b);omega⟩,by show mid+m-b=a∨mid+m- (mid+m-b)=b;omega,by show mid=m∨mid+m-mid=m;omega⟩,x)) Zk
   ·
    refine ZJ (decide ((m:Int)>IntKind.i64.wrap (Int.fdiv (IntKind.u64.wrap (IntKind.i64.wrap ((a:Int)+(b:Int)))) 2))) false (by rw[L9 Zo Zo,←hmid];exact decide_eq_false Zo) ?_
    refine K0.slot 18 (.int .i64 (IntKind.i64.wrap (Int.fdiv (IntKind.u64.wrap (IntKind.i64.wrap ((a:Int)+(b:Int)))) 2))) (.int .i64 (mid:Int)) Zk (by rw[L9 Zo Zo,←hmid]) ?_
    refine K0.slot 19 (.int .i64 (IntKind.i64.wrap (IntKind.i64.wrap (Int.fdiv (IntKind.u64.wrap (IntKind.i64.wrap ((a:Int)+(b:Int)))) 2)+(m:Int)))) (.int .i64 ((mid+m:Nat):Int)) Zk (by rw[L9 Zo Zo,←hmid,Rq Zo Zo]) ?_
    refine K0.slot 20 (.int .i64 (a:Int)) (.int .i64 (a:Int)) Zk (rfl) ?_
    refine K0.slot 21 (.int .i64 (m:Int)) (.int .i64 (m:Int)) Zk (rfl) ?_
    refine K0.slot 22 (.int .i64 (IntKind.i64.wrap (IntKind.i64.wrap (IntKind.i64.wrap (Int.fdiv (IntKind.u64.wrap (IntKind.i64.wrap ((a:Int)+(b:Int)))) 2)+(m:Int))-1))) (.int .i64 ((mid+m-1:Nat):Int)) Zk (by rw[L9 Zo Zo,←hmid,Rq Zo Zo,IntWalk.i64_in _ Zo];congr 1;omega) ?_
    exact K0.blur [141,142,143,144,145,146] fun x=>K0.eq (kk (⟨(a,m),⟨⟨by show a≤a;omega,by show a≤m;omega⟩,by show m≤m;omega,by show m≤mid;omega,by show mid+m≤b+(a);omega⟩,by show a=a∨mid+m- (a)=b;omega,by show m=m∨mid+m-m=m;omega⟩,x)) Zk
  obtain⟨⟨⟨s0,r0⟩,⟨⟨f1,f2⟩,f3,f4,f5⟩,f6,f7⟩,xj⟩:=i
  have f1:a≤s0:=f1
  have f2:s0≤r0:=f2
  have f3:r0≤m:=f3
  have f4:r0≤mid:=f4
  have f5:mid+m≤b+s0:=f5
  have f6:s0=a∨mid+m-s0=b:=f6
  have f7:r0=m∨mid+m-r0=m:=f7
  refine K0.loop (ι:={q:Nat×Nat // (q.1≤q.2∧s0≤q.1∧q.2≤r0)∧(∀x y,s0<q.1→L[q.1-1]? =some x→L[mid+m-q.1]? =some y→ltOf L6 y x=false)∧(∀x y,q.2<r0→L[mid+m-1-q.2]? =some x→L[q.2]? =some y→ltOf L6 x y=true)}) 220 (fun q=>⟨[(0,.v (.slice (some ⟨g,0,none⟩) n c)),(1,.v (.int .i64 a)),(2,.v (.int .i64 m)),(3,.v (.int .i64 b)),(4,.v (.func (.func 230) #[] #[])),(18,.v (.int .i64 mid)),(19,.v (.int .i64 ((mid+m:Nat):Int))),(20,.v (.int .i64 q.1.1)),(21,.v (.int .i64 q.1.2)),(22,.v (.int .i64 ((mid+m-1:Nat):Int)))],[]⟩) (fun _ u=>K6 u B 258 5 (some ⟨g,0,none⟩) n c (L.flatMap M0)∧Kn W w g u) (fun q=>q.1.2-q.1.1) (⟨(s0,r0),⟨f2,Nat.le_refl _,Nat.le_refl _⟩,fun _ _ h=>absurd h (Nat.lt_irrefl _),fun _ _ h=>absurd h (Nat.lt_irrefl _)⟩) Zk (fun _=>by kernel_rfl) ⟨Zk,Zk,Zk⟩ (fun u h=>hsame u h) ?_
  rintro⟨⟨s,r⟩,⟨q1,q2,q3⟩,q4,q5⟩ gg
  have q1:s≤r:=q1
  have q2:s0≤s:=q2
  have q3:r≤r0:=q3
  have q4:∀x y,s0<s→L[s-1]? =some x→L[mid+m-s]? =some y→ltOf L6 y x=false:=q4
  have q5:∀x y,r<r0→L[mid+m-1-r]? =some x→L[r]? =some y→ltOf L6 x y=true:=q5
  by_cases hsr:s<r
  ·obtain⟨t,ht⟩:∃t,t=(s+r)/2:=⟨_,rfl⟩
   obtain⟨x,hx⟩:∃x,L[mid+m-1-t]? =some x:=⟨_,List.getElem?_eq_getElem Zo⟩
   obtain⟨y,hy⟩:∃y,L[t]? =some y:=⟨_,List.getElem?_eq_getElem Zo⟩
   refine ZR ?_
   refine ZJ (decide ((s:Int)<(r:Int))) true (decide_eq_true Zo) ?_
   refine K0.slot 23 (.int .i64 (IntKind.i64.wrap (Int.fdiv (IntKind.u64.wrap (IntKind.i64.wrap ((s:Int)+(r:Int)))) 2))) (.int .i64 (t:Int)) Zk (by rw[L9 Zo Zo,ht]) ?_
   refine K0.slot 162 (.int .i64 (IntKind.i64.wrap (((mid+m-1:Nat):Int)-IntKind.i64.wrap (Int.fdiv (IntKind.u64.wrap (IntKind.i64.wrap ((s:Int)+(r:Int)))) 2)))) (.int .i64 ((mid+m-1-t:Nat):Int)) Zk (by rw[L9 Zo Zo,←ht,Up Zo Zo]) ?_
   refine K0.slot 166 (.int .i64 (IntKind.i64.wrap (Int.fdiv (IntKind.u64.wrap (IntKind.i64.wrap ((s:Int)+(r:Int)))) 2))) (.int .i64 (t:Int)) Zk (by rw[L9 Zo Zo,ht]) ?_
   refine ZB 5 (Kc 255 (.slice (some ⟨g,0,none⟩) n c) ((mid+m-1-t:Nat):Int)) (.pointer (some ⟨g,(mid+m-1-t)*5,none⟩)) (fun w1 hw h=>K9 (elem:=258) Zk Zk Zo) ?_
   refine ZB 6 (Kd 258 ⟨g,(mid+m-1-t)*5,none⟩) (.agg (M0 x).toArray) (fun w1 hw h=>Ka (vs:=M0 x) Zk Zk (Lw Mg h.1 Zo hx)) ?_
   refine ZA (Kc 255 (.slice (some ⟨g,0,none⟩) n c) t) (.pointer (some ⟨g,t*5,none⟩)) (fun w1 hw h=>K9 (elem:=258) Zk Zk Zo) ?_
   refine ZA (Kd 258 ⟨g,t*5,none⟩) (.agg (M0 y).toArray) (fun w1 hw h=>Ka (vs:=M0 y) Zk Zk (Lw Mg h.1 Zo hy)) ?_
   refine ZC (fun w1 hw h=>hcmp w1 h.2.1 (h.2.old hW hw) x (List.mem_of_getElem? hx) y (List.mem_of_getElem? hy)) fun u=> ?_
   cases hc:decide (L6 x y<0)
   ·
    refine ZJ (!(decide (L6 x y<0))) true (by rw[hc];rfl) ?_
    refine K0.slot 20 (.int .i64 (IntKind.i64.wrap ((t:Int)+1))) (.int .i64 ((t+1:Nat):Int)) Zk (by rw[IntWalk.i64_in _ Zo];rfl) ?_
    refine K0.next (⟨(t+1,r),⟨by show t+1≤r;omega,by show s0≤t+1;omega,q3⟩,fun x' y' _ hx' hy'=>by rw[Nat.add_sub_cancel,hy]at hx';rw[show mid+m- (t+1)=mid+m-1-t by omega,hx]at hy';injection hx' with hx';injection hy' with hy';subst hx';subst hy';exact hc,q5⟩) Zk (by show r- (t+1)<r-s;omega) ⟨Zk,Zk,Zk⟩ (fun _ h=>h.1)
   ·
    refine ZJ (!(decide (L6 x y<0))) false (by rw[hc];rfl) ?_
    refine K0.next (⟨(s,t),⟨by show s≤t;omega,q2,by show t≤r0;omega⟩,q4,fun x' y' _ hx' hy'=>by rw[hx]at hx';rw[hy]at hy';injection hx' with hx';injection hy' with hy';subst hx';subst hy';exact hc⟩) Zk (by show t-s<r-s;omega) ⟨Zk,Zk,Zk⟩ (fun _ h=>h.1)
  obtain rfl:s=r:=by omega
  obtain⟨e,he⟩:∃e,e=mid+m-s:=⟨_,rfl⟩
  have hse:s+e=mid+m:=by omega
  have hX:∀x y,a<s→e<b→L[s-1]? =some x→L[e]? =some y→ltOf L6 y x=false:=fun x y h1 h2 hx hy=>q4 x y Zo hx (by rw[←he];exact hy)
  have hY:∀x y,s<m→m<e→L[e-1]? =some x→L[s]? =some y→ltOf L6 y x=false:=fun x y h1 h2 hx hy=>Dc hO (q5 x y Zo (by rw[show mid+m-1-s=e-1 by omega];exact hx) hy)
  have hem:s+(e-m)=mid:=by omega
  have hse2:a≤s∧s≤m∧m≤e∧e≤b:=by omega
  refine ZR ?_
  refine ZJ (decide ((s:Int)<(s:Int))) false (decide_eq_false Zo) ?_
  refine K0.leave Zk ?_
  refine ZS 3 ?_
  refine K0.slot 177 (.int .i64 (IntKind.i64.wrap (((mid+m:Nat):Int)- (s:Int)))) (.int .i64 (e:Int)) Zk (by rw[Up Zo Zo,he]) ?_
  refine K0.run Zk (stop:=1000) 1 _ ?_
  refine ZS 3 ?_
  refine K0.meet3 (ι:={M:List Pv // W4 s m e L M}×(Nat→AV)) (fun i c=>Nu [180,181,182,183,184,185,186,187,188,189,190,191] i.2 (Lx Tryz.prog 3 1000 (Ag false (Lx Tryz.prog 1000 1000 (Kw 180 (.bool false) c))))) (fun i u=>K6 u B 258 5 (some ⟨g,0,none⟩) n c (i.1.1.flatMap M0)∧Kn W w g u) (fun kk=> ?_) (fun i=> ?_)
  ·by_cases c1:s<m
   ·
    refine ZT 180 (.bool (decide ((s:Int)<(m:Int)))) (.bool true) (by rw[decide_eq_true Zo]) ?_
    by_cases c2:m<e
    ·
     refine ZJ (decide ((m:Int)<(e:Int))) true (decide_eq_true Zo) ?_
     have hcut:L=L.take s++((L.drop s).take (m-s)++((L.drop m).take (e-m)++L.drop e)):=by
      conv=>lhs;rw[←List.take_append_drop s L,←List.take_append_drop (m-s) (L.drop s),List.drop_drop,show s+(m-s)=m by omega,←List.take_append_drop (e-m) (L.drop m),List.drop_drop,show m+(e-m)=e by omega]
     have l1:(L.take s).length=s:=by rw[List.length_take];omega
     have l2:((L.drop s).take (m-s)).length=m-s:=by rw[List.length_take,List.length_drop];omega
     have l3:((L.drop m).take (e-m)).length=e-m:=by rw[List.length_take,List.length_drop];omega
     have hrot:=rot_cut (s:=s) (m:=m) (e:=e) (S:=L.drop e) l1 (show s+((L.drop s).take (m-s)).length=m by omega) (show m+((L.drop m).take (e-m)).length=e by omega)
     rw[←hcut]at hrot
     generalize hM:L.take s++((L.drop m).take (e-m)++((L.drop s).take (m-s)++L.drop e))=M at hrot
     refine K0.mut (L:=[g]) (val:=fun _:Unit=> .tuple #[]) (G:=fun _ u=>K6 u B 258 5 (some ⟨g,0,none⟩) n c (M.flatMap M0)) (Φ':=fun _ u=>K6 u B 258 5 (some ⟨g,0,none⟩) n c (M.flatMap M0)∧Kn W w g u) (fun w1 hw h=>by
      have h1:=h.1
      rw[hcut]at h1
      have h2:=rot_mk (f:= .func (.func 230) #[] #[]) (a:=s) (m:=m) (b:=e) hw hg h1 (by rw[←hcut];exact hln) hn l1 Zo Zo Zo Zo
      rw[hM]at h2
      exact h2) (fun u h b hb=>by have hb:=List.mem_singleton.1 hb;subst hb;exact⟨hg,(h.1.blk _ (by simp[bl])).2⟩) (fun _ wa u e1 e2 h hG=>⟨hG,h.2.left e1 e2⟩) Zk Zk (fun _=> ?_)
     refine ZS 3 ?_
     exact K0.blur [180,181,182,183,184,185,186,187,188,189,190,191] fun x=>K0.eq (kk (⟨M,hrot⟩,x)) Zk
    ·
     refine K0.condr (decide ((m:Int)<(e:Int))) false Zk (decide_eq_false Zo) ?_
     refine ZS 3 ?_
     exact K0.blur [180,181,182,183,184,185,186,187,188,189,190,191] fun x=>K0.eq (kk (⟨L,Zh (.inr Zo) hse2.2.1 hse2.2.2.1⟩,x)) Zk
   ·
    refine ZT 180 (.bool (decide ((s:Int)<(m:Int)))) (.bool false) (by rw[decide_eq_false Zo]) ?_
    refine K0.cond false Zk ?_
    refine ZS 3 ?_
    exact K0.blur [180,181,182,183,184,185,186,187,188,189,190,191] fun x=>K0.eq (kk (⟨L,Zh (.inl Zo) hse2.2.1 hse2.2.2.1⟩,x)) Zk
  obtain⟨⟨L1,hr⟩,x1⟩:=i
  have hl1:=hr.pr.len
  refine K0.meet3 (ι:={M:List Pv // PR a mid L1 M∧Oj (ltOf L6) a mid M}×(Nat→AV)) (fun i c=>Nu [194,195,196,197,198,199,200,201,202,203,204,205] i.2 (Lx Tryz.prog 3 1000 (Ag false (Lx Tryz.prog 1000 1000 (Kw 194 (.bool false) c))))) (fun i u=>K6 u B 258 5 (some ⟨g,0,none⟩) n c (i.1.1.flatMap M0)∧Kn W w g u) (fun kk=> ?_) (fun i=> ?_)
  ·by_cases c1:a<s
   ·
    refine ZT 194 (.bool (decide ((a:Int)<(s:Int)))) (.bool true) (by rw[decide_eq_true Zo]) ?_
    by_cases c2:s<mid
    ·
     refine ZJ (decide ((s:Int)<(mid:Int))) true (decide_eq_true Zo) ?_
     refine K0.mut (L:=[g]) (val:=fun _:{M:List Pv // PR a mid L1 M∧Oj (ltOf L6) a mid M}=> .tuple #[]) (G:=fun M u=>K6 u B 258 5 (some ⟨g,0,none⟩) n c (M.1.flatMap M0)) (Φ':=fun M u=>K6 u B 258 5 (some ⟨g,0,none⟩) n c (M.1.flatMap M0)∧Kn W w g u) (fun w1 hw h=>sym_mk k Zo hw hg h.1 Zo hn c1 c2 Zo (Iu (mid:=mid) hse2.1 hse2.2.1 k1 hr) (by have:=It hse2.2.2.1 hse2.2.2.2 k2 hr;rw[hem]at this;exact this) (hcmp.to hr.pr.perm h.2.1 (h.2.old hW hw))) (fun u h b hb=>by have hb:=List.mem_singleton.1 hb;subst hb;exact⟨hg,(h.1.blk _ (by simp[bl])).2⟩) (fun _ wa u e1 e2 h hG=>⟨hG,h.2.left e1 e2⟩) Zk Zk (fun M=> ?_)
     refine ZS 3 ?_
     exact K0.blur [194,195,196,197,198,199,200,201,202,203,204,205] fun x=>K0.eq (kk (M,x)) Zk
    ·
     refine K0.condr (decide ((s:Int)<(mid:Int))) false Zk (decide_eq_false Zo) ?_
     refine ZS 3 ?_
     exact K0.blur [194,195,196,197,198,199,200,201,202,203,204,205] fun x=>K0.eq (kk (⟨L1,.rfl',by rw[←hem,show s+(e-m)=s by omega];exact Iu (mid:=mid) hse2.1 hse2.2.1 k1 hr⟩,x)) Zk
   ·
    refine ZT 194 (.bool (decide ((a:Int)<(s:Int)))) (.bool false) (by rw[decide_eq_false Zo]) ?_
    refine K0.cond false Zk ?_
    refine ZS 3 ?_
    exact K0.blur [194,195,196,197,198,199,200,201,202,203,204,205] fun x=>K0.eq (kk (⟨L1,.rfl',by have:=It hse2.2.2.1 hse2.2.2.2 k2 hr;rw[hem,show s=a by omega]at this;exact this⟩,x)) Zk
  obtain⟨⟨L2,hp,hps⟩,x2⟩:=i
  have hl2:=hp.len
  have t3:Oj (ltOf L6) mid e L2:=by have:=rot_s3 hse2.1 hse2.2.1 hse2.2.2.1 k1 hr;rw[hem]at this;exact this.same fun i u v=>hp.out i (.inr u)
  have t4:Oj (ltOf L6) e b L2:=(rot_s4 hse2.2.2.1 k2 hr).same fun i u v=>hp.out i (.inr Zo)
  have fin:∀L3:List Pv,PR mid b L2 L3→Oj (ltOf L6) mid b L3→PR a b L L3∧Oj (ltOf L6) a b L3:=fun L3 u v=>sym_ok hO Zo hse2.1 hse2.2.1 hse2.2.2.1 hse2.2.2.2 hse k1 k2 hr hp hps u v hX hY
  by_cases c1:mid<e
  ·
   refine ZT 208 (.bool (decide ((mid:Int)<(e:Int)))) (.bool true) (by rw[decide_eq_true Zo]) ?_
   by_cases c2:e<b
   ·
    refine ZJ (decide ((e:Int)<(b:Int))) true (decide_eq_true Zo) ?_
    refine K0.mut (L:=[g]) (val:=fun _:{M:List Pv // PR mid b L2 M∧Oj (ltOf L6) mid b M}=> .tuple #[]) (G:=fun M u=>K6 u B 258 5 (some ⟨g,0,none⟩) n c (M.1.flatMap M0)) (Φ':=fun M u=>K6 u B 258 5 (some ⟨g,0,none⟩) n c (M.1.flatMap M0)∧Kn W w g u) (fun w1 hw h=>sym_mk k Zo hw hg h.1 Zo hn c1 c2 hbn t3 t4 (hcmp.to (hp.perm.trans hr.pr.perm) h.2.1 (h.2.old hW hw))) (fun u h b hb=>by have hb:=List.mem_singleton.1 hb;subst hb;exact⟨hg,(h.1.blk _ (by simp[bl])).2⟩) (fun _ wa u e1 e2 h hG=>⟨hG,h.2.left e1 e2⟩) Zk Zk (fun M=> ?_)
    refine ZR ?_
    refine ZV (.tuple #[]) (fun w1 hw h=>⟨⟨M.1,fin M.1 M.2.1 M.2.2⟩,rfl,(h w1 (Nat.le_refl _) fun _ _ _=>rfl).2.chg hW hw,fun u k1 k2=>(h w1 (Nat.le_refl _) fun _ _ _=>rfl).1.same fun b hb=>k2 b (.inl hb)⟩)
   ·
    refine ZJ (decide ((e:Int)<(b:Int))) false (decide_eq_false Zo) ?_
    refine ZV (.tuple #[]) (fun w1 hw h=>⟨⟨L2,fin L2 .rfl' (by rw[show b=e by omega];exact t3)⟩,rfl,(h w1 (Nat.le_refl _) fun _ _ _=>rfl).2.chg hW hw,fun u k1 k2=>(h w1 (Nat.le_refl _) fun _ _ _=>rfl).1.same fun b hb=>k2 b (.inl hb)⟩)
  ·
   refine ZT 208 (.bool (decide ((mid:Int)<(e:Int)))) (.bool false) (by rw[decide_eq_false Zo]) ?_
   refine ZI false ?_
   refine ZV (.tuple #[]) (fun w1 hw h=>⟨⟨L2,fin L2 .rfl' (by rw[show mid=e by omega];exact t4)⟩,rfl,(h w1 (Nat.le_refl _) fun _ _ _=>rfl).2.chg hW hw,fun u k1 k2=>(h w1 (Nat.le_refl _) fun _ _ _=>rfl).1.same fun b hb=>k2 b (.inl hb)⟩)
end
end Go.Proofs.YtpgkbllcnphmbaaGreatDoor
