/-
 A part of the proof.
-/
import Derived.Test.YtpgkbllcnphmbaaGreatDoorBBz
namespace Go.Proofs.YtpgkbllcnphmbaaGreatDoor
set_option maxRecDepth 100000
set_option maxHeartbeats 8000000
set_option linter.unusedVariables false
set_option linter.unusedSimpArgs false
open Go.RowKit
theorem Lw{β:Type}{cl:β→List Value}{k i B g n c:Nat}{u:World}{e:TypeId}{L:List β}{x:β}(hk:∀x,(cl x).length=k)(h:K6 u B e k (some ⟨g,0,none⟩) n c (L.flatMap cl))(h0:0<n)(hx:L[i]? =some x):u.rangeAt g (i*k) (cl x):=fun j v hv=>by
 obtain⟨g',h1,h2⟩:=h.cells h0
 injection h1 with h1
 injection h1 with h1
 subst h1
 exact h2 _ _ (Pm hk L i x j v hx hv)
theorem Up{x y:Nat}(h:y≤x)(hx:x≤4000000000):IntKind.i64.wrap ((x:Int)- (y:Int))=((x-y:Nat):Int):=by rw[IntWalk.i64_in _ Zo];omega
theorem Rq{x y:Nat}(hx:x≤4000000000)(hy:y≤4000000000):IntKind.i64.wrap ((x:Int)+(y:Int))=((x+y:Nat):Int):=by rw[IntWalk.i64_in _ Zo];omega
theorem L9{x y:Nat}(hx:x≤2000000000)(hy:y≤2000000000):IntKind.i64.wrap (Int.fdiv (IntKind.u64.wrap (IntKind.i64.wrap ((x:Int)+(y:Int)))) 2)=(((x+y)/2:Nat):Int):=by
 rw[Rq Zo Zo,IntWalk.u64_in _ Zo,Int.fdiv_eq_ediv_of_nonneg _ Zd,IntWalk.i64_in _ Zo];omega
abbrev Nv:=(RV×RV)×Sp
abbrev Pv:=RV×W8
def L7(z:Nv):List Value:=spC z.1
def M0(z:Pv):List Value:=mkC (z.1,z.2.2)
theorem R0:∀x,∀v∈L7 x,v.oneCell'=true:=fun x v hv=>by
 simp[L7,spC,RV.cl]at hv;rcases hv with rfl|rfl|rfl|rfl|rfl|rfl|rfl|rfl<;>rfl
theorem Sm:∀x,∀v∈M0 x,v.oneCell'=true:=fun x v hv=>by
 simp[M0,mkC,RV.cl]at hv;rcases hv with rfl|rfl|rfl|rfl|rfl<;>rfl
theorem Lu:∀x,(L7 x).length=8:=fun _=>rfl
theorem Mg:∀x,(M0 x).length=5:=fun _=>rfl
section
variable{w W:World}{g n c B:Nat}{a b m:Nat}{f:Value}
theorem swapN_sp{L:List Nv}(hW:Below W.heap.size W w)(hg:W.heap.size≤g)(ho:K6 w B 254 8 (some ⟨g,0,none⟩) n c (L.flatMap L7))(hln:L.length=n)(hn:n≤1000000000)(ha:a+m≤b)(hb:b+m≤n):
 Calls Tryz.prog 378 #[.slice (some ⟨g,0,none⟩) n c,.int .i64 a,.int .i64 b,.int .i64 m,f] w (Ky w [g] (fun _:Unit=> .tuple #[]) fun _ u=>K6 u B 254 8 (some ⟨g,0,none⟩) n c ((Y9 a b m L).flatMap L7)):=by
 have hgl:=(ho.lt g (by simp[bl])).2
 refine K0.enterW Tryz.func378 rfl hW ?_
 refine ZR ?_
 refine K0.loop (ι:={i:Nat // i≤m}) 38 (fun i=>⟨[(0,.v (.slice (some ⟨g,0,none⟩) n c)),(1,.v (.int .i64 a)),(2,.v (.int .i64 b)),(3,.v (.int .i64 m)),(10,.v (.int .i64 i.1))],[]⟩) (fun i u=>K6 u B 254 8 (some ⟨g,0,none⟩) n c ((Y9 a b i.1 L).flatMap L7)∧Kn W w g u) (fun i=>m-i.1) (⟨0,Nat.zero_le _⟩) Zk (fun _=>by kernel_rfl) ⟨Zk,Zk,Zk⟩ (fun u h=>⟨ho.same fun b hb=>(by have hb:=List.mem_singleton.1 hb;subst hb;exact h.2 _ hg hgl),h.1,fun b h1 h2 _=>h.2 b h1 h2⟩) ?_
 rintro⟨i,hi⟩ gg
 by_cases hlt:i<m
 case neg=>
  obtain rfl:i=m:=by omega
  refine ZR ?_
  refine ZJ (decide ((i:Int)<(i:Int))) false (decide_eq_false Zo) ?_
  refine K0.leave Zk ?_
  refine ZR ?_
  refine ZV (.tuple #[]) (fun w1 hw h=>⟨(),rfl,(h w1 (Nat.le_refl _) fun _ _ _=>rfl).2.chg hW hw,fun u k1 k2=>(h w1 (Nat.le_refl _) fun _ _ _=>rfl).1.same fun b hb=>k2 b (.inl hb)⟩)
 refine ZR ?_
 refine ZJ (decide ((i:Int)<(m:Int))) true (decide_eq_true Zo) ?_
 have hil:i<m:=hlt
 have hl2:=D3 (L:=L) a b i
 obtain⟨x,hx⟩:∃x,(Y9 a b i L)[a+i]? =some x:=⟨_,List.getElem?_eq_getElem Zo⟩
 obtain⟨y,hy⟩:∃y,(Y9 a b i L)[b+i]? =some y:=⟨_,List.getElem?_eq_getElem Zo⟩
 refine K0.slot 19 (.int .i64 (IntKind.i64.wrap ((a:Int)+(i:Int)))) (.int .i64 ((a+i:Nat):Int)) Zk (by rw[IntWalk.i64_in _ Zo];rfl) ?_
 refine K0.slot 23 (.int .i64 (IntKind.i64.wrap ((b:Int)+(i:Int)))) (.int .i64 ((b+i:Nat):Int)) Zk (by rw[IntWalk.i64_in _ Zo];rfl) ?_
 refine K0.slot 27 (.int .i64 (IntKind.i64.wrap ((b:Int)+(i:Int)))) (.int .i64 ((b+i:Nat):Int)) Zk (by rw[IntWalk.i64_in _ Zo];rfl) ?_
 refine K0.slot 33 (.int .i64 (IntKind.i64.wrap ((a:Int)+(i:Int)))) (.int .i64 ((a+i:Nat):Int)) Zk (by rw[IntWalk.i64_in _ Zo];rfl) ?_
 refine ZB 12 (Kc 171 (.slice (some ⟨g,0,none⟩) n c) ((b+i:Nat):Int)) (.pointer (some ⟨g,(b+i)*8,none⟩)) (fun w1 hw h=>K9 (elem:=254) Zk Zk Zo) ?_
 refine ZB 13 (Kd 254 ⟨g,(b+i)*8,none⟩) (.agg (L7 y).toArray) (fun w1 hw h=>Ka (vs:=L7 y) Zk Zk (Lw Lu h.1 Zo hy)) ?_
 refine ZB 18 (Kc 171 (.slice (some ⟨g,0,none⟩) n c) ((a+i:Nat):Int)) (.pointer (some ⟨g,(a+i)*8,none⟩)) (fun w1 hw h=>K9 (elem:=254) Zk Zk Zo) ?_
 refine ZB 19 (Kd 254 ⟨g,(a+i)*8,none⟩) (.agg (L7 x).toArray) (fun w1 hw h=>Ka (vs:=L7 x) Zk Zk (Lw Lu h.1 Zo hx)) ?_
 refine ZB 20 (Kc 171 (.slice (some ⟨g,0,none⟩) n c) ((a+i:Nat):Int)) (.pointer (some ⟨g,(a+i)*8,none⟩)) (fun w1 hw h=>K9 (elem:=254) Zk Zk Zo) ?_
 refine K0.mutStB (L:=[g]) (G:=fun u=>K6 u B 254 8 (some ⟨g,0,none⟩) n c (((Y9 a b i L).set (a+i) y).flatMap L7)) (Φ':=fun u=>K6 u B 254 8 (some ⟨g,0,none⟩) n c (((Y9 a b i L).set (a+i) y).flatMap L7)∧Kn W w g u) (Rm 254 ⟨g,(a+i)*8,none⟩ (.agg (L7 y).toArray)) (fun w1 hw h=>K6.setE Lu h.1 Zo rfl Zk (R0 y)) (fun u h b hb=>by have hb:=List.mem_singleton.1 hb;subst hb;exact⟨hg,(h.1.blk _ (by simp[bl])).2⟩) (fun wa u e1 e2 h hG=>⟨hG,h.2.left e1 e2⟩) Zk Zk ?_
 refine ZB 22 (Kc 171 (.slice (some ⟨g,0,none⟩) n c) ((b+i:Nat):Int)) (.pointer (some ⟨g,(b+i)*8,none⟩)) (fun w1 hw h=>K9 (elem:=254) Zk Zk Zo) ?_
 refine K0.mutStB (L:=[g]) (G:=fun u=>K6 u B 254 8 (some ⟨g,0,none⟩) n c ((((Y9 a b i L).set (a+i) y).set (b+i) x).flatMap L7)) (Φ':=fun u=>K6 u B 254 8 (some ⟨g,0,none⟩) n c ((((Y9 a b i L).set (a+i) y).set (b+i) x).flatMap L7)∧Kn W w g u) (Rm 254 ⟨g,(b+i)*8,none⟩ (.agg (L7 x).toArray)) (fun w1 hw h=>K6.setE Lu h.1 Zp rfl Zk (R0 x)) (fun u h b hb=>by have hb:=List.mem_singleton.1 hb;subst hb;exact⟨hg,(h.1.blk _ (by simp[bl])).2⟩) (fun wa u e1 e2 h hG=>⟨hG,h.2.left e1 e2⟩) Zk Zk ?_
 refine ZR ?_
 have hsw:Y9 a b (i+1) L=((Y9 a b i L).set (a+i) y).set (b+i) x:=by
  show Az (Y9 a b i L) (a+i) (b+i)=_
  unfold Az;rw[hx,hy]
 refine K0.slot 10 (.int .i64 (IntKind.i64.wrap ((i:Int)+1))) (.int .i64 ((i+1:Nat):Int)) Zk (by rw[K7 hil Zo]) ?_
 refine K0.next (⟨i+1,hil⟩) Zk (by show m- (i+1)<m-i;omega) ⟨Zk,Zk,Zk⟩ (fun u h=>⟨by show K6 u B _ 8 _ n c ((Y9 a b (i+1) L).flatMap L7);rw[hsw];exact h.1,h.2⟩)
theorem Ie{P X Z Y S:List Nv}(hW:Below W.heap.size W w)(hg:W.heap.size≤g)(ho:K6 w B 254 8 (some ⟨g,0,none⟩) n c ((P++(X++(Z++(Y++S)))).flatMap L7))(hln:(P++(X++(Z++(Y++S)))).length=n)(hn:n≤1000000000)(hX:X.length=m)(hY:Y.length=m)(ha:P.length=a)(hb:a+m+Z.length=b):
 Calls Tryz.prog 378 #[.slice (some ⟨g,0,none⟩) n c,.int .i64 a,.int .i64 b,.int .i64 m,f] w (Ky w [g] (fun _:Unit=> .tuple #[]) fun _ u=>K6 u B 254 8 (some ⟨g,0,none⟩) n c ((P++(Y++(Z++(X++S)))).flatMap L7)):=by
 have h:=swapN_sp (f:=f) (a:=a) (b:=b) (m:=m) hW hg ho hln hn Zo (by simp only[List.length_append]at hln;omega)
 rw[swN_cut hX hY ha hb]at h
 exact h
theorem rot_sp{P X Y S:List Nv}(hW:Below W.heap.size W w)(hg:W.heap.size≤g)(ho:K6 w B 254 8 (some ⟨g,0,none⟩) n c ((P++(X++(Y++S))).flatMap L7))(hln:(P++(X++(Y++S))).length=n)(hn:n≤1000000000)(ha:P.length=a)(hm:a+X.length=m)(hb:m+Y.length=b)(hX:0<X.length)(hY:0<Y.length):
 Calls Tryz.prog 363 #[.slice (some ⟨g,0,none⟩) n c,.int .i64 a,.int .i64 m,.int .i64 b,f] w (Ky w [g] (fun _:Unit=> .tuple #[]) fun _ u=>K6 u B 254 8 (some ⟨g,0,none⟩) n c ((P++(Y++(X++S))).flatMap L7)):=by
 have hgl:=(ho.lt g (by simp[bl])).2
 simp only[List.length_append]at hln
 refine K0.enterW Tryz.func363 rfl hW ?_
 refine ZR ?_
 refine K0.slot 10 (.int .i64 (IntKind.i64.wrap ((m:Int)- (a:Int)))) (.int .i64 (X.length:Int)) Zk (by rw[IntWalk.i64_in _ Zo];congr 1;omega) ?_
 refine K0.slot 11 (.int .i64 (IntKind.i64.wrap ((b:Int)- (m:Int)))) (.int .i64 (Y.length:Int)) Zk (by rw[IntWalk.i64_in _ Zo];congr 1;omega) ?_
 refine K0.loop (ι:={q:(List Nv×List Nv)×List Nv×List Nv // (q.1.1.length+q.1.2.length=m∧0<q.1.2.length∧0<q.2.1.length∧q.1.1.length+(q.1.2.length+(q.2.1.length+q.2.2.length))=n)∧q.1.1++(q.2.1++(q.1.2++q.2.2))=P++(Y++(X++S))}) 58 (fun q=>⟨[(0,.v (.slice (some ⟨g,0,none⟩) n c)),(1,.v (.int .i64 a)),(2,.v (.int .i64 m)),(3,.v (.int .i64 b)),(4,.v f),(10,.v (.int .i64 q.1.1.2.length)),(11,.v (.int .i64 q.1.2.1.length))],[]⟩) (fun q u=>K6 u B 254 8 (some ⟨g,0,none⟩) n c ((q.1.1.1++(q.1.1.2++(q.1.2.1++q.1.2.2))).flatMap L7)∧Kn W w g u) (fun q=>q.1.1.2.length+q.1.2.1.length) (⟨((P,X),Y,S),⟨by show P.length+X.length=m;omega,hX,hY,hln⟩,rfl⟩) Zk (fun _=>by kernel_rfl) ⟨Zk,Zk,Zk⟩ (fun u h=>⟨ho.same fun b hb=>(by have hb:=List.mem_singleton.1 hb;subst hb;exact h.2 _ hg hgl),h.1,fun b h1 h2 _=>h.2 b h1 h2⟩) ?_
 rintro⟨⟨⟨P1,X1⟩,Y1,S1⟩,⟨q1,q2,q3,q4⟩,q5⟩ gg
 have q1:P1.length+X1.length=m:=q1
 have q2:0<X1.length:=q2
 have q3:0<Y1.length:=q3
 have q4:P1.length+(X1.length+(Y1.length+S1.length))=n:=q4
 have q5:P1++(Y1++(X1++S1))=P++(Y++(X++S)):=q5
 by_cases hxy:X1.length=Y1.length
 ·
  refine ZR ?_
  refine ZJ ((X1.length:Int) !=(Y1.length:Int)) false (by simp[hxy]) ?_
  refine K0.leave Zk ?_
  refine ZS 7 ?_
  refine ZT 53 (.int .i64 (IntKind.i64.wrap ((m:Int)- (X1.length:Int)))) (.int .i64 (P1.length:Int)) (by rw[IntWalk.i64_in _ Zo];congr 1;omega) ?_
  refine K0.mut (L:=[g]) (val:=fun _:Unit=> .tuple #[]) (G:=fun _ u=>K6 u B 254 8 (some ⟨g,0,none⟩) n c ((P++(Y++(X++S))).flatMap L7)) (Φ':=fun _ u=>K6 u B 254 8 (some ⟨g,0,none⟩) n c ((P++(Y++(X++S))).flatMap L7)∧Kn W w g u) (fun w1 hw h=>by
   have h2:=Ie (f:=f) (Z:=[]) (m:=X1.length) (a:=P1.length) (b:=m) hw hg h.1 (by simp only[List.length_append,List.nil_append];omega) hn rfl hxy.symm rfl Zp
   rw[List.nil_append,q5]at h2;exact h2) (fun u h b hb=>by have hb:=List.mem_singleton.1 hb;subst hb;exact⟨hg,(h.1.blk _ (by simp[bl])).2⟩) (fun _ wa u e1 e2 h hG=>⟨hG,h.2.left e1 e2⟩) Zk Zk (fun _=> ?_)
  refine ZR ?_
  refine ZV (.tuple #[]) (fun w1 hw h=>⟨(),rfl,(h w1 (Nat.le_refl _) fun _ _ _=>rfl).2.chg hW hw,fun u k1 k2=>(h w1 (Nat.le_refl _) fun _ _ _=>rfl).1.same fun b hb=>k2 b (.inl hb)⟩)
 by_cases hgt:Y1.length<X1.length
 ·obtain⟨X2,X3,rfl,hX2⟩:∃X2 X3,X1=X2++X3∧X2.length=Y1.length:=⟨X1.take Y1.length,X1.drop Y1.length,(List.take_append_drop _ _).symm,by rw[List.length_take];omega⟩
  simp only[List.length_append]at q1 q2 q4 hxy hgt
  refine ZR ?_
  refine ZJ (((X2++X3).length:Int) !=(Y1.length:Int)) true Zp ?_
  refine K0.condr (decide (((X2++X3).length:Int)>(Y1.length:Int))) true Zk (decide_eq_true Zp) ?_
  refine ZS 7 ?_
  refine ZT 27 (.int .i64 (IntKind.i64.wrap ((m:Int)- ((X2++X3).length:Int)))) (.int .i64 (P1.length:Int)) (by rw[IntWalk.i64_in _ Zp];congr 1;simp;omega) ?_
  refine K0.mut (L:=[g]) (val:=fun _:Unit=> .tuple #[]) (G:=fun _ u=>K6 u B 254 8 (some ⟨g,0,none⟩) n c ((P1++(Y1++(X3++(X2++S1)))).flatMap L7)) (Φ':=fun _ u=>K6 u B 254 8 (some ⟨g,0,none⟩) n c ((P1++(Y1++(X3++(X2++S1)))).flatMap L7)∧Kn W w g u) (fun w1 hw h=>by
   have h1:K6 w1 B 254 8 (some ⟨g,0,none⟩) n c ((P1++((X2++X3)++(Y1++S1))).flatMap L7):=h.1
   rw[List.append_assoc]at h1
   exact Ie (f:=f) (Z:=X3) (m:=Y1.length) (a:=P1.length) (b:=m) hw hg h1 (by simp only[List.length_append];omega) hn hX2 rfl rfl Zo) (fun u h b hb=>by have hb:=List.mem_singleton.1 hb;subst hb;exact⟨hg,(h.1.blk _ (by simp[bl])).2⟩) (fun _ wa u e1 e2 h hG=>⟨hG,h.2.left e1 e2⟩) Zk Zk (fun _=> ?_)
  refine ZR ?_
  refine K0.slot 10 (.int .i64 (IntKind.i64.wrap (((X2++X3).length:Int)- (Y1.length:Int)))) (.int .i64 (X3.length:Int)) Zk (by rw[IntWalk.i64_in _ Zp];congr 1;simp;omega) ?_
  refine K0.slot 11 (.int .i64 (Y1.length:Int)) (.int .i64 (X2.length:Int)) Zk (by rw[hX2]) ?_
  refine K0.next (⟨((P1++Y1,X3),X2,S1),⟨by show(P1++Y1).length+X3.length=m;simp;omega,by show 0<X3.length;omega,by show 0<X2.length;omega,by show(P1++Y1).length+(X3.length+(X2.length+S1.length))=n;simp;omega⟩,by show(P1++Y1)++(X2++(X3++S1))=_;rw[←q5];simp⟩) Zk (by show X3.length+X2.length<(X2++X3).length+Y1.length;simp;omega) ⟨Zk,Zk,Zk⟩ (fun u h=>⟨by show K6 u B _ 8 _ n c (((P1++Y1)++(X3++(X2++S1))).flatMap L7);rw[List.append_assoc];exact h.1,h.2⟩)
 ·obtain⟨Y2,Y3,rfl,hY3⟩:∃Y2 Y3,Y1=Y2++Y3∧Y3.length=X1.length:=⟨Y1.take (Y1.length-X1.length),Y1.drop (Y1.length-X1.length),(List.take_append_drop _ _).symm,by rw[List.length_drop];omega⟩
  simp only[List.length_append]at q3 q4 hxy hgt
  refine ZR ?_
  refine ZJ ((X1.length:Int) !=((Y2++Y3).length:Int)) true Zp ?_
  refine K0.condr (decide ((X1.length:Int)>((Y2++Y3).length:Int))) false Zk (decide_eq_false Zp) ?_
  refine ZS 11 ?_
  refine K0.slot 38 (.int .i64 (IntKind.i64.wrap ((m:Int)- (X1.length:Int)))) (.int .i64 (P1.length:Int)) Zk (by rw[IntWalk.i64_in _ Zo];congr 1;omega) ?_
  refine ZT 43 (.int .i64 (IntKind.i64.wrap (IntKind.i64.wrap ((m:Int)+((Y2++Y3).length:Int))- (X1.length:Int)))) (.int .i64 ((m+Y2.length:Nat):Int)) (by rw[Rq (x:=m) (y:=(Y2++Y3).length) Zo Zp,Up Zp Zp];congr 1;simp;omega) ?_
  refine K0.mut (L:=[g]) (val:=fun _:Unit=> .tuple #[]) (G:=fun _ u=>K6 u B 254 8 (some ⟨g,0,none⟩) n c ((P1++(Y3++(Y2++(X1++S1)))).flatMap L7)) (Φ':=fun _ u=>K6 u B 254 8 (some ⟨g,0,none⟩) n c ((P1++(Y3++(Y2++(X1++S1)))).flatMap L7)∧Kn W w g u) (fun w1 hw h=>by
   have h1:K6 w1 B 254 8 (some ⟨g,0,none⟩) n c ((P1++(X1++((Y2++Y3)++S1))).flatMap L7):=h.1
   rw[List.append_assoc Y2 Y3 S1]at h1
   exact Ie (f:=f) (Z:=Y2) (m:=X1.length) (a:=P1.length) (b:=m+Y2.length) hw hg h1 (by simp only[List.length_append];omega) hn rfl hY3 rfl Zo) (fun u h b hb=>by have hb:=List.mem_singleton.1 hb;subst hb;exact⟨hg,(h.1.blk _ (by simp[bl])).2⟩) (fun _ wa u e1 e2 h hG=>⟨hG,h.2.left e1 e2⟩) Zk Zk (fun _=> ?_)
  refine ZR ?_
  refine K0.slot 11 (.int .i64 (IntKind.i64.wrap (((Y2++Y3).length:Int)- (X1.length:Int)))) (.int .i64 (Y2.length:Int)) Zk (by rw[IntWalk.i64_in _ Zp];congr 1;simp;omega) ?_
  refine K0.slot 10 (.int .i64 (X1.length:Int)) (.int .i64 (Y3.length:Int)) Zk (by rw[hY3]) ?_
  refine K0.next (⟨((P1,Y3),Y2,X1++S1),⟨by show P1.length+Y3.length=m;omega,by show 0<Y3.length;omega,by show 0<Y2.length;omega,by show P1.length+(Y3.length+(Y2.length+(X1++S1).length))=n;simp;omega⟩,by show P1++(Y2++(Y3++(X1++S1)))=_;rw[←q5];simp⟩) Zk (by show Y3.length+Y2.length<X1.length+(Y2++Y3).length;simp;omega) ⟨Zk,Zk,Zk⟩ (fun _ h=>h)
theorem swapN_mk{L:List Pv}(hW:Below W.heap.size W w)(hg:W.heap.size≤g)(ho:K6 w B 258 5 (some ⟨g,0,none⟩) n c (L.flatMap M0))(hln:L.length=n)(hn:n≤1000000000)(ha:a+m≤b)(hb:b+m≤n):
 Calls Tryz.prog 379 #[.slice (some ⟨g,0,none⟩) n c,.int .i64 a,.int .i64 b,.int .i64 m,f] w (Ky w [g] (fun _:Unit=> .tuple #[]) fun _ u=>K6 u B 258 5 (some ⟨g,0,none⟩) n c ((Y9 a b m L).flatMap M0)):=by
 have hgl:=(ho.lt g (by simp[bl])).2
 refine K0.enterW Tryz.func379 rfl hW ?_
 refine ZR ?_
 refine K0.loop (ι:={i:Nat // i≤m}) 38 (fun i=>⟨[(0,.v (.slice (some ⟨g,0,none⟩) n c)),(1,.v (.int .i64 a)),(2,.v (.int .i64 b)),(3,.v (.int .i64 m)),(10,.v (.int .i64 i.1))],[]⟩) (fun i u=>K6 u B 258 5 (some ⟨g,0,none⟩) n c ((Y9 a b i.1 L).flatMap M0)∧Kn W w g u) (fun i=>m-i.1) (⟨0,Nat.zero_le _⟩) Zk (fun _=>by kernel_rfl) ⟨Zk,Zk,Zk⟩ (fun u h=>⟨ho.same fun b hb=>(by have hb:=List.mem_singleton.1 hb;subst hb;exact h.2 _ hg hgl),h.1,fun b h1 h2 _=>h.2 b h1 h2⟩) ?_
 rintro⟨i,hi⟩ gg
 by_cases hlt:i<m
 case neg=>
  obtain rfl:i=m:=by omega
  refine ZR ?_
  refine ZJ (decide ((i:Int)<(i:Int))) false (decide_eq_false Zo) ?_
  refine K0.leave Zk ?_
  refine ZR ?_
  refine ZV (.tuple #[]) (fun w1 hw h=>⟨(),rfl,(h w1 (Nat.le_refl _) fun _ _ _=>rfl).2.chg hW hw,fun u k1 k2=>(h w1 (Nat.le_refl _) fun _ _ _=>rfl).1.same fun b hb=>k2 b (.inl hb)⟩)
 refine ZR ?_
 refine ZJ (decide ((i:Int)<(m:Int))) true (decide_eq_true Zo) ?_
 have hil:i<m:=hlt
 have hl2:=D3 (L:=L) a b i
 obtain⟨x,hx⟩:∃x,(Y9 a b i L)[a+i]? =some x:=⟨_,List.getElem?_eq_getElem Zo⟩
 obtain⟨y,hy⟩:∃y,(Y9 a b i L)[b+i]? =some y:=⟨_,List.getElem?_eq_getElem Zo⟩
 refine K0.slot 19 (.int .i64 (IntKind.i64.wrap ((a:Int)+(i:Int)))) (.int .i64 ((a+i:Nat):Int)) Zk (by rw[IntWalk.i64_in _ Zo];rfl) ?_
 refine K0.slot 23 (.int .i64 (IntKind.i64.wrap ((b:Int)+(i:Int)))) (.int .i64 ((b+i:Nat):Int)) Zk (by rw[IntWalk.i64_in _ Zo];rfl) ?_
 refine K0.slot 27 (.int .i64 (IntKind.i64.wrap ((b:Int)+(i:Int)))) (.int .i64 ((b+i:Nat):Int)) Zk (by rw[IntWalk.i64_in _ Zo];rfl) ?_
 refine K0.slot 33 (.int .i64 (IntKind.i64.wrap ((a:Int)+(i:Int)))) (.int .i64 ((a+i:Nat):Int)) Zk (by rw[IntWalk.i64_in _ Zo];rfl) ?_
 refine ZB 12 (Kc 255 (.slice (some ⟨g,0,none⟩) n c) ((b+i:Nat):Int)) (.pointer (some ⟨g,(b+i)*5,none⟩)) (fun w1 hw h=>K9 (elem:=258) Zk Zk Zo) ?_
 refine ZB 13 (Kd 258 ⟨g,(b+i)*5,none⟩) (.agg (M0 y).toArray) (fun w1 hw h=>Ka (vs:=M0 y) Zk Zk (Lw Mg h.1 Zo hy)) ?_
 refine ZB 18 (Kc 255 (.slice (some ⟨g,0,none⟩) n c) ((a+i:Nat):Int)) (.pointer (some ⟨g,(a+i)*5,none⟩)) (fun w1 hw h=>K9 (elem:=258) Zk Zk Zo) ?_
 refine ZB 19 (Kd 258 ⟨g,(a+i)*5,none⟩) (.agg (M0 x).toArray) (fun w1 hw h=>Ka (vs:=M0 x) Zk Zk (Lw Mg h.1 Zo hx)) ?_
 refine ZB 20 (Kc 255 (.slice (some ⟨g,0,none⟩) n c) ((a+i:Nat):Int)) (.pointer (some ⟨g,(a+i)*5,none⟩)) (fun w1 hw h=>K9 (elem:=258) Zk Zk Zo) ?_
 refine K0.mutStB (L:=[g]) (G:=fun u=>K6 u B 258 5 (some ⟨g,0,none⟩) n c (((Y9 a b i L).set (a+i) y).flatMap M0)) (Φ':=fun u=>K6 u B 258 5 (some ⟨g,0,none⟩) n c (((Y9 a b i L).set (a+i) y).flatMap M0)∧Kn W w g u) (Rm 258 ⟨g,(a+i)*5,none⟩ (.agg (M0 y).toArray)) (fun w1 hw h=>K6.setE Mg h.1 Zo rfl Zk (Sm y)) (fun u h b hb=>by have hb:=List.mem_singleton.1 hb;subst hb;exact⟨hg,(h.1.blk _ (by simp[bl])).2⟩) (fun wa u e1 e2 h hG=>⟨hG,h.2.left e1 e2⟩) Zk Zk ?_
 refine ZB 22 (Kc 255 (.slice (some ⟨g,0,none⟩) n c) ((b+i:Nat):Int)) (.pointer (some ⟨g,(b+i)*5,none⟩)) (fun w1 hw h=>K9 (elem:=258) Zk Zk Zo) ?_
 refine K0.mutStB (L:=[g]) (G:=fun u=>K6 u B 258 5 (some ⟨g,0,none⟩) n c ((((Y9 a b i L).set (a+i) y).set (b+i) x).flatMap M0)) (Φ':=fun u=>K6 u B 258 5 (some ⟨g,0,none⟩) n c ((((Y9 a b i L).set (a+i) y).set (b+i) x).flatMap M0)∧Kn W w g u) (Rm 258 ⟨g,(b+i)*5,none⟩ (.agg (M0 x).toArray)) (fun w1 hw h=>K6.setE Mg h.1 Zp rfl Zk (Sm x)) (fun u h b hb=>by have hb:=List.mem_singleton.1 hb;subst hb;exact⟨hg,(h.1.blk _ (by simp[bl])).2⟩) (fun wa u e1 e2 h hG=>⟨hG,h.2.left e1 e2⟩) Zk Zk ?_
 refine ZR ?_
 have hsw:Y9 a b (i+1) L=((Y9 a b i L).set (a+i) y).set (b+i) x:=by
  show Az (Y9 a b i L) (a+i) (b+i)=_
  unfold Az;rw[hx,hy]
 refine K0.slot 10 (.int .i64 (IntKind.i64.wrap ((i:Int)+1))) (.int .i64 ((i+1:Nat):Int)) Zk (by rw[K7 hil Zo]) ?_
 refine K0.next (⟨i+1,hil⟩) Zk (by show m- (i+1)<m-i;omega) ⟨Zk,Zk,Zk⟩ (fun u h=>⟨by show K6 u B _ 5 _ n c ((Y9 a b (i+1) L).flatMap M0);rw[hsw];exact h.1,h.2⟩)
theorem If{P X Z Y S:List Pv}(hW:Below W.heap.size W w)(hg:W.heap.size≤g)(ho:K6 w B 258 5 (some ⟨g,0,none⟩) n c ((P++(X++(Z++(Y++S)))).flatMap M0))(hln:(P++(X++(Z++(Y++S)))).length=n)(hn:n≤1000000000)(hX:X.length=m)(hY:Y.length=m)(ha:P.length=a)(hb:a+m+Z.length=b):
 Calls Tryz.prog 379 #[.slice (some ⟨g,0,none⟩) n c,.int .i64 a,.int .i64 b,.int .i64 m,f] w (Ky w [g] (fun _:Unit=> .tuple #[]) fun _ u=>K6 u B 258 5 (some ⟨g,0,none⟩) n c ((P++(Y++(Z++(X++S)))).flatMap M0)):=by
 have h:=swapN_mk (f:=f) (a:=a) (b:=b) (m:=m) hW hg ho hln hn Zo (by simp only[List.length_append]at hln;omega)
 rw[swN_cut hX hY ha hb]at h
 exact h
theorem rot_mk{P X Y S:List Pv}(hW:Below W.heap.size W w)(hg:W.heap.size≤g)(ho:K6 w B 258 5 (some ⟨g,0,none⟩) n c ((P++(X++(Y++S))).flatMap M0))(hln:(P++(X++(Y++S))).length=n)(hn:n≤1000000000)(ha:P.length=a)(hm:a+X.length=m)(hb:m+Y.length=b)(hX:0<X.length)(hY:0<Y.length):
 Calls Tryz.prog 364 #[.slice (some ⟨g,0,none⟩) n c,.int .i64 a,.int .i64 m,.int .i64 b,f] w (Ky w [g] (fun _:Unit=> .tuple #[]) fun _ u=>K6 u B 258 5 (some ⟨g,0,none⟩) n c ((P++(Y++(X++S))).flatMap M0)):=by
 have hgl:=(ho.lt g (by simp[bl])).2
 simp only[List.length_append]at hln
 refine K0.enterW Tryz.func364 rfl hW ?_
 refine ZR ?_
 refine K0.slot 10 (.int .i64 (IntKind.i64.wrap ((m:Int)- (a:Int)))) (.int .i64 (X.length:Int)) Zk (by rw[IntWalk.i64_in _ Zo];congr 1;omega) ?_
 refine K0.slot 11 (.int .i64 (IntKind.i64.wrap ((b:Int)- (m:Int)))) (.int .i64 (Y.length:Int)) Zk (by rw[IntWalk.i64_in _ Zo];congr 1;omega) ?_
 refine K0.loop (ι:={q:(List Pv×List Pv)×List Pv×List Pv // (q.1.1.length+q.1.2.length=m∧0<q.1.2.length∧0<q.2.1.length∧q.1.1.length+(q.1.2.length+(q.2.1.length+q.2.2.length))=n)∧q.1.1++(q.2.1++(q.1.2++q.2.2))=P++(Y++(X++S))}) 58 (fun q=>⟨[(0,.v (.slice (some ⟨g,0,none⟩) n c)),(1,.v (.int .i64 a)),(2,.v (.int .i64 m)),(3,.v (.int .i64 b)),(4,.v f),(10,.v (.int .i64 q.1.1.2.length)),(11,.v (.int .i64 q.1.2.1.length))],[]⟩) (fun q u=>K6 u B 258 5 (some ⟨g,0,none⟩) n c ((q.1.1.1++(q.1.1.2++(q.1.2.1++q.1.2.2))).flatMap M0)∧Kn W w g u) (fun q=>q.1.1.2.length+q.1.2.1.length) (⟨((P,X),Y,S),⟨by show P.length+X.length=m;omega,hX,hY,hln⟩,rfl⟩) Zk (fun _=>by kernel_rfl) ⟨Zk,Zk,Zk⟩ (fun u h=>⟨ho.same fun b hb=>(by have hb:=List.mem_singleton.1 hb;subst hb;exact h.2 _ hg hgl),h.1,fun b h1 h2 _=>h.2 b h1 h2⟩) ?_
 rintro⟨⟨⟨P1,X1⟩,Y1,S1⟩,⟨q1,q2,q3,q4⟩,q5⟩ gg
 have q1:P1.length+X1.length=m:=q1
 have q2:0<X1.length:=q2
 have q3:0<Y1.length:=q3
 have q4:P1.length+(X1.length+(Y1.length+S1.length))=n:=q4
 have q5:P1++(Y1++(X1++S1))=P++(Y++(X++S)):=q5
 by_cases hxy:X1.length=Y1.length
 ·
  refine ZR ?_
  refine ZJ ((X1.length:Int) !=(Y1.length:Int)) false (by simp[hxy]) ?_
  refine K0.leave Zk ?_
  refine ZS 7 ?_
  refine ZT 53 (.int .i64 (IntKind.i64.wrap ((m:Int)- (X1.length:Int)))) (.int .i64 (P1.length:Int)) (by rw[IntWalk.i64_in _ Zo];congr 1;omega) ?_
  refine K0.mut (L:=[g]) (val:=fun _:Unit=> .tuple #[]) (G:=fun _ u=>K6 u B 258 5 (some ⟨g,0,none⟩) n c ((P++(Y++(X++S))).flatMap M0)) (Φ':=fun _ u=>K6 u B 258 5 (some ⟨g,0,none⟩) n c ((P++(Y++(X++S))).flatMap M0)∧Kn W w g u) (fun w1 hw h=>by
   have h2:=If (f:=f) (Z:=[]) (m:=X1.length) (a:=P1.length) (b:=m) hw hg h.1 (by simp only[List.length_append,List.nil_append];omega) hn rfl hxy.symm rfl Zp
   rw[List.nil_append,q5]at h2;exact h2) (fun u h b hb=>by have hb:=List.mem_singleton.1 hb;subst hb;exact⟨hg,(h.1.blk _ (by simp[bl])).2⟩) (fun _ wa u e1 e2 h hG=>⟨hG,h.2.left e1 e2⟩) Zk Zk (fun _=> ?_)
  refine ZR ?_
  refine ZV (.tuple #[]) (fun w1 hw h=>⟨(),rfl,(h w1 (Nat.le_refl _) fun _ _ _=>rfl).2.chg hW hw,fun u k1 k2=>(h w1 (Nat.le_refl _) fun _ _ _=>rfl).1.same fun b hb=>k2 b (.inl hb)⟩)
 by_cases hgt:Y1.length<X1.length
 ·obtain⟨X2,X3,rfl,hX2⟩:∃X2 X3,X1=X2++X3∧X2.length=Y1.length:=⟨X1.take Y1.length,X1.drop Y1.length,(List.take_append_drop _ _).symm,by rw[List.length_take];omega⟩
  simp only[List.length_append]at q1 q2 q4 hxy hgt
  refine ZR ?_
  refine ZJ (((X2++X3).length:Int) !=(Y1.length:Int)) true Zp ?_
  refine K0.condr (decide (((X2++X3).length:Int)>(Y1.length:Int))) true Zk (decide_eq_true Zp) ?_
  refine ZS 7 ?_
  refine ZT 27 (.int .i64 (IntKind.i64.wrap ((m:Int)- ((X2++X3).length:Int)))) (.int .i64 (P1.length:Int)) (by rw[IntWalk.i64_in _ Zp];congr 1;simp;omega) ?_
  refine K0.mut (L:=[g]) (val:=fun _:Unit=> .tuple #[]) (G:=fun _ u=>K6 u B 258 5 (some ⟨g,0,none⟩) n c ((P1++(Y1++(X3++(X2++S1)))).flatMap M0)) (Φ':=fun _ u=>K6 u B 258 5 (some ⟨g,0,none⟩) n c ((P1++(Y1++(X3++(X2++S1)))).flatMap M0)∧Kn W w g u) (fun w1 hw h=>by
   have h1:K6 w1 B 258 5 (some ⟨g,0,none⟩) n c ((P1++((X2++X3)++(Y1++S1))).flatMap M0):=h.1
   rw[List.append_assoc]at h1
   exact If (f:=f) (Z:=X3) (m:=Y1.length) (a:=P1.length) (b:=m) hw hg h1 (by simp only[List.length_append];omega) hn hX2 rfl rfl Zo) (fun u h b hb=>by have hb:=List.mem_singleton.1 hb;subst hb;exact⟨hg,(h.1.blk _ (by simp[bl])).2⟩) (fun _ wa u e1 e2 h hG=>⟨hG,h.2.left e1 e2⟩) Zk Zk (fun _=> ?_)
  refine ZR ?_
  refine K0.slot 10 (.int .i64 (IntKind.i64.wrap (((X2++X3).length:Int)- (Y1.length:Int)))) (.int .i64 (X3.length:Int)) Zk (by rw[IntWalk.i64_in _ Zp];congr 1;simp;omega) ?_
  refine K0.slot 11 (.int .i64 (Y1.length:Int)) (.int .i64 (X2.length:Int)) Zk (by rw[hX2]) ?_
  refine K0.next (⟨((P1++Y1,X3),X2,S1),⟨by show(P1++Y1).length+X3.length=m;simp;omega,by show 0<X3.length;omega,by show 0<X2.length;omega,by show(P1++Y1).length+(X3.length+(X2.length+S1.length))=n;simp;omega⟩,by show(P1++Y1)++(X2++(X3++S1))=_;rw[←q5];simp⟩) Zk (by show X3.length+X2.length<(X2++X3).length+Y1.length;simp;omega) ⟨Zk,Zk,Zk⟩ (fun u h=>⟨by show K6 u B _ 5 _ n c (((P1++Y1)++(X3++(X2++S1))).flatMap M0);rw[List.append_assoc];exact h.1,h.2⟩)
 ·obtain⟨Y2,Y3,rfl,hY3⟩:∃Y2 Y3,Y1=Y2++Y3∧Y3.length=X1.length:=⟨Y1.take (Y1.length-X1.length),Y1.drop (Y1.length-X1.length),(List.take_append_drop _ _).symm,by rw[List.length_drop];omega⟩
  simp only[List.length_append]at q3 q4 hxy hgt
  refine ZR ?_
  refine ZJ ((X1.length:Int) !=((Y2++Y3).length:Int)) true Zp ?_
  refine K0.condr (decide ((X1.length:Int)>((Y2++Y3).length:Int))) false Zk (decide_eq_false Zp) ?_
  refine ZS 11 ?_
  refine K0.slot 38 (.int .i64 (IntKind.i64.wrap ((m:Int)- (X1.length:Int)))) (.int .i64 (P1.length:Int)) Zk (by rw[IntWalk.i64_in _ Zo];congr 1;omega) ?_
  refine ZT 43 (.int .i64 (IntKind.i64.wrap (IntKind.i64.wrap ((m:Int)+((Y2++Y3).length:Int))- (X1.length:Int)))) (.int .i64 ((m+Y2.length:Nat):Int)) (by rw[Rq (x:=m) (y:=(Y2++Y3).length) Zo Zp,Up Zp Zp];congr 1;simp;omega) ?_
  refine K0.mut (L:=[g]) (val:=fun _:Unit=> .tuple #[]) (G:=fun _ u=>K6 u B 258 5 (some ⟨g,0,none⟩) n c ((P1++(Y3++(Y2++(X1++S1)))).flatMap M0)) (Φ':=fun _ u=>K6 u B 258 5 (some ⟨g,0,none⟩) n c ((P1++(Y3++(Y2++(X1++S1)))).flatMap M0)∧Kn W w g u) (fun w1 hw h=>by
   have h1:K6 w1 B 258 5 (some ⟨g,0,none⟩) n c ((P1++(X1++((Y2++Y3)++S1))).flatMap M0):=h.1
   rw[List.append_assoc Y2 Y3 S1]at h1
   exact If (f:=f) (Z:=Y2) (m:=X1.length) (a:=P1.length) (b:=m+Y2.length) hw hg h1 (by simp only[List.length_append];omega) hn rfl hY3 rfl Zo) (fun u h b hb=>by have hb:=List.mem_singleton.1 hb;subst hb;exact⟨hg,(h.1.blk _ (by simp[bl])).2⟩) (fun _ wa u e1 e2 h hG=>⟨hG,h.2.left e1 e2⟩) Zk Zk (fun _=> ?_)
  refine ZR ?_
  refine K0.slot 11 (.int .i64 (IntKind.i64.wrap (((Y2++Y3).length:Int)- (X1.length:Int)))) (.int .i64 (Y2.length:Int)) Zk (by rw[IntWalk.i64_in _ Zp];congr 1;simp;omega) ?_
  refine K0.slot 10 (.int .i64 (X1.length:Int)) (.int .i64 (Y3.length:Int)) Zk (by rw[hY3]) ?_
  refine K0.next (⟨((P1,Y3),Y2,X1++S1),⟨by show P1.length+Y3.length=m;omega,by show 0<Y3.length;omega,by show 0<Y2.length;omega,by show P1.length+(Y3.length+(Y2.length+(X1++S1).length))=n;simp;omega⟩,by show P1++(Y2++(Y3++(X1++S1)))=_;rw[←q5];simp⟩) Zk (by show Y3.length+Y2.length<X1.length+(Y2++Y3).length;simp;omega) ⟨Zk,Zk,Zk⟩ (fun _ h=>h)
end
end Go.Proofs.YtpgkbllcnphmbaaGreatDoor
