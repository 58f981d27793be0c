/-
 Paints as text: rows of structs; what is read and written.
-/
import Derived.Test.YtoeiphicmcndlaaGreatDoorYI
import Derived.Test.YtoeiphicmcndlaaGreatDoorYA
namespace Go.Proofs.YtoeiphicmcndlaaGreatDoor
set_option maxRecDepth 100000
set_option maxHeartbeats 8000000
set_option linter.unusedVariables false
set_option linter.unusedSimpArgs false
open Go.RowKit
section
variable{w:World}{t:TV}{T:Y0}{K:Nat}
theorem P3{N:Nat}(hN:N≤w.heap.size)(ht:Ag t T K w)(hK:2≤K∧K≤1000):Calls Tryz.prog 34 #[t.val] w (K7 w (fun y:Option Addr×Nat=> .slice y.1 6 y.2) fun y u=>K6 u N 9 1 y.1 6 y.2 (sv (Oz T))):=by
 refine K0.enter Tryz.func34 rfl <| ZR <| K0.un Zk <| ZR <| ZI true <| ZD 3 (fun w1 hw h=>T9 (ht.a.below hw) hK) fun u=>K0.make (Lq (66) 1 #[(0,K4 (Kr T.a))]) (Kf 1) (L4 9 #[K4 (Kr T.a)]) Zk (fun w1 hw h=>Kc Zk) fun gb0=>ZS 4 <| K0.mutOp (L:=bl none) (val:=fun(z:Option Addr×Nat)=> .slice z.1 (0+1) z.2) (Φ':=fun(z:Option Addr×Nat) v=>K6 v w.heap.size 9 1 z.1 (0+1) z.2 (sv [Kr T.a])) (G:=fun(z:Option Addr×Nat) v=>K6 v w.heap.size 9 1 z.1 (0+1) z.2 (sv [Kr T.a])) (M9 66 66 (.slice none 0 0) (Kf 1 gb0)) (fun w1 hw h=>Xj (p:=([]:List (List UInt8))) (m:=0) (K6.nil_:K6 w1 w.heap.size 9 1 none 0 0 (sv [])) hw.size h.2 Zd) (fun wb h=>fun b hb=>⟨((K6.nil_:K6 wb w.heap.size 9 1 none 0 0 (sv [])).lt b hb).1,((K6.nil_:K6 wb w.heap.size 9 1 none 0 0 (sv [])).blk b hb).2⟩) (fun z wa wb e1 e2 h hG=>hG) Zk Zk fun z0=>ZR <| K0.drop 5 Zk fun _=>ZI true <| ZD 3 (fun w1 hw h=>T9 (ht.b.below hw) hK) fun u=>K0.make (Lq (66) 1 #[(0,K4 (Kr T.b))]) (Kf 1) (L4 9 #[K4 (Kr T.b)]) Zk (fun w1 hw h=>Kc Zk) fun gb1=>ZS 4 <| K0.mutOp (L:=bl z0.1) (val:=fun(z:Option Addr×Nat)=> .slice z.1 (1+1) z.2) (Φ':=fun(z:Option Addr×Nat) v=>K6 v w.heap.size 9 1 z.1 (1+1) z.2 (sv [Kr T.a,Kr T.b])) (G:=fun(z:Option Addr×Nat) v=>K6 v w.heap.size 9 1 z.1 (1+1) z.2 (sv [Kr T.a,Kr T.b])) (M9 66 66 (.slice z0.1 1 z0.2) (Kf 1 gb1)) (fun w1 hw h=>Xj (p:=([Kr T.a]:List (List UInt8))) (m:=1) (show K6 w1 w.heap.size 9 1 z0.1 1 z0.2 (sv ([Kr T.a]:List (List UInt8)))from h.1.1) hw.size h.2 Zd) (fun wb h=>fun b hb=>⟨((show K6 wb w.heap.size 9 1 z0.1 1 z0.2 (sv ([Kr T.a]:List (List UInt8)))from h.1.1).lt b hb).1,((show K6 wb w.heap.size 9 1 z0.1 1 z0.2 (sv ([Kr T.a]:List (List UInt8)))from h.1.1).blk b hb).2⟩) (fun z wa wb e1 e2 h hG=>hG) Zk Zk fun z1=>ZR <| K0.drop 5 Zk fun _=>ZI true <| ZD 3 (fun w1 hw h=>T9 (ht.c.below hw) hK) fun u=>K0.make (Lq (66) 1 #[(0,K4 (Kr T.c))]) (Kf 1) (L4 9 #[K4 (Kr T.c)]) Zk (fun w1 hw h=>Kc Zk) fun gb2=>ZS 4 <| K0.mutOp (L:=bl z1.1) (val:=fun(z:Option Addr×Nat)=> .slice z.1 (2+1) z.2) (Φ':=fun(z:Option Addr×Nat) v=>K6 v w.heap.size 9 1 z.1 (2+1) z.2 (sv [Kr T.a,Kr T.b,Kr T.c])) (G:=fun(z:Option Addr×Nat) v=>K6 v w.heap.size 9 1 z.1 (2+1) z.2 (sv [Kr T.a,Kr T.b,Kr T.c])) (M9 66 66 (.slice z1.1 2 z1.2) (Kf 1 gb2)) (fun w1 hw h=>Xj (p:=([Kr T.a,Kr T.b]:List (List UInt8))) (m:=2) (show K6 w1 w.heap.size 9 1 z1.1 2 z1.2 (sv ([Kr T.a,Kr T.b]:List (List UInt8)))from h.1.1) hw.size h.2 Zd) (fun wb h=>fun b hb=>⟨((show K6 wb w.heap.size 9 1 z1.1 2 z1.2 (sv ([Kr T.a,Kr T.b]:List (List UInt8)))from h.1.1).lt b hb).1,((show K6 wb w.heap.size 9 1 z1.1 2 z1.2 (sv ([Kr T.a,Kr T.b]:List (List UInt8)))from h.1.1).blk b hb).2⟩) (fun z wa wb e1 e2 h hG=>hG) Zk Zk fun z2=>ZR <| K0.drop 5 Zk fun _=>ZI true <| ZD 3 (fun w1 hw h=>T9 (ht.d.below hw) hK) fun u=>K0.make (Lq (66) 1 #[(0,K4 (Kr T.d))]) (Kf 1) (L4 9 #[K4 (Kr T.d)]) Zk (fun w1 hw h=>Kc Zk) fun gb3=>ZS 4 <| K0.mutOp (L:=bl z2.1) (val:=fun(z:Option Addr×Nat)=> .slice z.1 (3+1) z.2) (Φ':=fun(z:Option Addr×Nat) v=>K6 v w.heap.size 9 1 z.1 (3+1) z.2 (sv [Kr T.a,Kr T.b,Kr T.c,Kr T.d])) (G:=fun(z:Option Addr×Nat) v=>K6 v w.heap.size 9 1 z.1 (3+1) z.2 (sv [Kr T.a,Kr T.b,Kr T.c,Kr T.d])) (M9 66 66 (.slice z2.1 3 z2.2) (Kf 1 gb3)) (fun w1 hw h=>Xj (p:=([Kr T.a,Kr T.b,Kr T.c]:List (List UInt8))) (m:=3) (show K6 w1 w.heap.size 9 1 z2.1 3 z2.2 (sv ([Kr T.a,Kr T.b,Kr T.c]:List (List UInt8)))from h.1.1) hw.size h.2 Zd) (fun wb h=>fun b hb=>⟨((show K6 wb w.heap.size 9 1 z2.1 3 z2.2 (sv ([Kr T.a,Kr T.b,Kr T.c]:List (List UInt8)))from h.1.1).lt b hb).1,((show K6 wb w.heap.size 9 1 z2.1 3 z2.2 (sv ([Kr T.a,Kr T.b,Kr T.c]:List (List UInt8)))from h.1.1).blk b hb).2⟩) (fun z wa wb e1 e2 h hG=>hG) Zk Zk fun z3=>ZR <| K0.drop 5 Zk fun _=>ZI true <| ZD 3 (fun w1 hw h=>T9 (ht.e.below hw) hK) fun u=>K0.make (Lq (66) 1 #[(0,K4 (Kr T.e))]) (Kf 1) (L4 9 #[K4 (Kr T.e)]) Zk (fun w1 hw h=>Kc Zk) fun gb4=>ZS 4 <| K0.mutOp (L:=bl z3.1) (val:=fun(z:Option Addr×Nat)=> .slice z.1 (4+1) z.2) (Φ':=fun(z:Option Addr×Nat) v=>K6 v w.heap.size 9 1 z.1 (4+1) z.2 (sv [Kr T.a,Kr T.b,Kr T.c,Kr T.d,Kr T.e])) (G:=fun(z:Option Addr×Nat) v=>K6 v w.heap.size 9 1 z.1 (4+1) z.2 (sv [Kr T.a,Kr T.b,Kr T.c,Kr T.d,Kr T.e])) (M9 66 66 (.slice z3.1 4 z3.2) (Kf 1 gb4)) (fun w1 hw h=>Xj (p:=([Kr T.a,Kr T.b,Kr T.c,Kr T.d]:List (List UInt8))) (m:=4) (show K6 w1 w.heap.size 9 1 z3.1 4 z3.2 (sv ([Kr T.a,Kr T.b,Kr T.c,Kr T.d]:List (List UInt8)))from h.1.1) hw.size h.2 Zd) (fun wb h=>fun b hb=>⟨((show K6 wb w.heap.size 9 1 z3.1 4 z3.2 (sv ([Kr T.a,Kr T.b,Kr T.c,Kr T.d]:List (List UInt8)))from h.1.1).lt b hb).1,((show K6 wb w.heap.size 9 1 z3.1 4 z3.2 (sv ([Kr T.a,Kr T.b,Kr T.c,Kr T.d]:List (List UInt8)))from h.1.1).blk b hb).2⟩) (fun z wa wb e1 e2 h hG=>hG) Zk Zk fun z4=>ZR <| K0.drop 5 Zk fun _=>ZI true <| ZD 3 (fun w1 hw h=>T9 (ht.f.below hw) hK) fun u=>K0.make (Lq (66) 1 #[(0,K4 (Kr T.f))]) (Kf 1) (L4 9 #[K4 (Kr T.f)]) Zk (fun w1 hw h=>Kc Zk) fun gb5=>ZS 4 <| K0.mutOp (L:=bl z4.1) (val:=fun(z:Option Addr×Nat)=> .slice z.1 (5+1) z.2) (Φ':=fun(z:Option Addr×Nat) v=>K6 v w.heap.size 9 1 z.1 (5+1) z.2 (sv [Kr T.a,Kr T.b,Kr T.c,Kr T.d,Kr T.e,Kr T.f])) (G:=fun(z:Option Addr×Nat) v=>K6 v w.heap.size 9 1 z.1 (5+1) z.2 (sv [Kr T.a,Kr T.b,Kr T.c,Kr T.d,Kr T.e,Kr T.f])) (M9 66 66 (.slice z4.1 5 z4.2) (Kf 1 gb5)) (fun w1 hw h=>Xj (p:=([Kr T.a,Kr T.b,Kr T.c,Kr T.d,Kr T.e]:List (List UInt8))) (m:=5) (show K6 w1 w.heap.size 9 1 z4.1 5 z4.2 (sv ([Kr T.a,Kr T.b,Kr T.c,Kr T.d,Kr T.e]:List (List UInt8)))from h.1.1) hw.size h.2 Zd) (fun wb h=>fun b hb=>⟨((show K6 wb w.heap.size 9 1 z4.1 5 z4.2 (sv ([Kr T.a,Kr T.b,Kr T.c,Kr T.d,Kr T.e]:List (List UInt8)))from h.1.1).lt b hb).1,((show K6 wb w.heap.size 9 1 z4.1 5 z4.2 (sv ([Kr T.a,Kr T.b,Kr T.c,Kr T.d,Kr T.e]:List (List UInt8)))from h.1.1).blk b hb).2⟩) (fun z wa wb e1 e2 h hG=>hG) Zk Zk fun z5=>ZR <| ZI false <| ZV (.slice z5.1 6 z5.2) (fun w1 hw h=>⟨z5,rfl,hw,fun w'' k1 k2=>(show K6 w'' w.heap.size 9 1 z5.1 6 z5.2 (sv (Oz T))from h w'' k1 k2).rebase fun b hb=>Nat.le_trans hN ((show K6 w'' w.heap.size 9 1 z5.1 6 z5.2 (sv (Oz T))from h w'' k1 k2).lt b hb).1⟩)
end
def Ma{α:Type}(w:World)(A:Option Addr)(n s:Nat)(cl:α→List Value)(l:List α):Prop:=l.length=n∧∀(k:Nat) (x:α),l[k]? =some x→∃ad,A=some ad∧∀(j:Nat) (v:Value),(cl x)[j]? =some v→w.cell? ((ad.add (k*s)).add j)=some v
theorem Ma.below{α:Type}{w w1:World}{A:Option Addr}{n s:Nat}{cl:α→List Value}{l:List α}(h:Ma w A n s cl l)(hw:Below w.heap.size w w1):Ma w1 A n s cl l:=
 ⟨h.1,fun k x hk=>by obtain⟨ad,h1,h2⟩:=h.2 k x hk;exact⟨ad,h1,fun j v hj=>Lc hw (h2 j v hj)⟩⟩
theorem Ei(a:Addr)(m n:Nat):(a.add m).add n=a.add (m+n):=by
 cases a;by_cases h1:m=0<;>by_cases h2:n=0<;>simp[Addr.add,h1,h2,Nat.add_assoc]
theorem flat_get{α:Type}{s:Nat}{cl:α→List Value}(hs:∀x,(cl x).length=s):∀(l:List α) (k:Nat) (x:α) (j:Nat) (v:Value),l[k]? =some x→(cl x)[j]? =some v→(l.flatMap cl)[k*s+j]? =some v
 | [],k,x,j,v,h,_=>by simp at h
 |y::l,0,x,j,v,h,hj=>by
  simp only[List.getElem?_cons_zero,Option.some.injEq]at h
  subst h
  have hl:=(List.getElem?_eq_some_iff.1 hj).1
  rw[List.flatMap_cons,Nat.zero_mul,Nat.zero_add,List.getElem?_append_left hl];exact hj
 |y::l,k+1,x,j,v,h,hj=>by
  rw[List.getElem?_cons_succ]at h
  have ih:=flat_get hs l k x j v h hj
  rw[List.flatMap_cons,List.getElem?_append_right (by rw[hs];rw[Nat.succ_mul];omega),hs]
  rw[show(k+1)*s+j-s=k*s+j by rw[Nat.succ_mul];omega];exact ih
theorem D3:∀l:List Co,(l.flatMap Ep).length=4*l.length
 | []=>rfl
 |x::l=>by
  have:=D3 l
  rw[List.flatMap_cons,List.length_append,this,List.length_cons];show 4+_=_;omega
theorem px1_len(x:Co):(Oa x).length=4:=rfl
theorem st1_len(x:Int×Co):(Ri x).length=5:=rfl
theorem L3.reads{w:World}{A:Option Addr}{n:Nat}{ls:WS}(h:L3 w A n ls):Oj w w.heap.size 1 A n (sv ls):=by
 refine⟨by simp[sv,h.1],fun h0=> ?_⟩
 obtain⟨s,hs⟩:∃s,ls[0]? =some s:=⟨_,List.getElem?_eq_getElem (by rw[h.1];exact h0)⟩
 obtain⟨ad,hA,hc⟩:=h.2 0 s hs
 refine⟨ad,hA,?_,fun j u hj=> ?_⟩
 ·have:=Xg hc
  simpa[Addr.add]using this
 ·simp only[sv,List.getElem?_map]at hj
  obtain⟨x,hx,rfl⟩:=Option.map_eq_some_iff.1 hj
  obtain⟨ad2,hA2,hc2⟩:=h.2 j x hx
  rw[hA]at hA2;cases hA2
  exact hc2
theorem Rb{w:World}{N gb n m cc:Nat}{A2:Option Addr}{p l:WS}(hg:L4 9 (sv p).toArray gb w)(hn:p.length=n)(hr:L3 w A2 m l)(hm:0<m)(hk:n+m≤1000000)(hB:N≤w.heap.size):
 Lh Tryz.prog w (fun y:Option Addr×Nat=> .slice y.1 (n+m) y.2) (fun y v=>K6 v N 9 1 y.1 (n+m) y.2 (sv (p++l))) (M9 66 66 (Kf n gb) (.slice A2 m cc)):=by
 have hr2:=hr.reads
 obtain⟨ad,hA,_⟩:=hr2.2 hm
 subst hA
 have ha:=appendG_m (P:=Tryz.prog) (B:=N) (s:=1) (z:= .string ⟨#[]⟩) (bytes:=16) (n:=n) (m:=m) (c:=n) (cc:=cc) (t:=66) (elem:=9) Zk Zk rfl Zd (N5 (n:=n) hg (by simp[sv,hn])) hr2 Zo Zo Zd hB (by by_cases h0:0<n;exact .inl h0;right;have:p=[]:=List.length_eq_zero_iff.1 Zo;rw[this];rfl) (.inl hm)
 have e:sv (p++l)=sv p++sv l:=by simp[sv]
 rw[e];exact ha
theorem Xk{w:World}{B m n yc cc:Nat}{y A2:Option Addr}{p l:WS}(ho:K6 w B 9 1 y m yc (sv p))(hB:B≤w.heap.size)(hr:L3 w A2 n l)(hm:m+n≤1000000):
 Ot Tryz.prog w (bl y) (fun z:Option Addr×Nat=> .slice z.1 (m+n) z.2) (fun z v=>K6 v B 9 1 z.1 (m+n) z.2 (sv (p++l))) (M9 66 66 (.slice y m yc) (.slice A2 n cc)):=by
 have ha:=O3 (P:=Tryz.prog) (s:=1) (z:= .string ⟨#[]⟩) (bytes:=16) (m:=n) (cc:=cc) (t:=66) (elem:=9) Zk Zk rfl Zd ho hB hr.reads (by intro v hv;simp[sv]at hv;obtain⟨x,_,rfl⟩:=hv;rfl) Zo Zd
 have e:sv (p++l)=sv p++sv l:=by simp[sv]
 rw[e];exact ha
section
variable{w:World}{A:Option Addr}{n c K:Nat}{px:List Co}
theorem app_b4{B m yc gb:Nat}{y:Option Addr}{p:List UInt8}{x:Co}(ho:K6 w B 5 1 y m yc (bv p))(hB:B≤w.heap.size)(hg:L4 5 (Oa x).toArray gb w)(hm:m<1000000):
 Ot Tryz.prog w (bl y) (fun z:Option Addr×Nat=> .slice z.1 (m+4) z.2) (fun z v=>K6 v B 5 1 z.1 (m+4) z.2 (bv (p++Ep x))) (M9 86 86 (.slice y m yc) (Kf 4 gb)):=by
 have ha:=O3 (P:=Tryz.prog) (s:=1) (z:= .int .u8 0) (bytes:=1) (m:=4) (cc:=4) (t:=86) (elem:=5) Zk Zk rfl Zd ho hB (N5 (n:=4) hg rfl) (by intro v hv;simp[Oa]at hv;rcases hv with rfl|rfl|rfl|rfl<;>rfl) Zo Zd
 have e:bv (p++Ep x)=bv p++Oa x:=by simp[bv,Ep,Oa]
 rw[e];exact ha
theorem px_idx{k:Nat}{ad:Addr}(hA:A=some ad)(hk:k<n):(Kj 48 (.slice A n c) k).run Tryz.prog w= .ok (.value (.pointer (some (ad.add (k*4))))) w:=by
 rw[hA];exact Yc (elem:=152) Zk Zk hk
theorem px_ld{ad:Addr}{x:Co}(h:∀j v,(Oa x)[j]? =some v→w.cell? (ad.add j)=some v):(L5 152 ad).run Tryz.prog w= .ok (.value (.agg (Oa x).toArray)) w:=
 F7 Zk Zk h
theorem Z3{k:Nat}{ad:Addr}(hA:A=some ad)(hk:k<n):(Kj 58 (.slice A n c) k).run Tryz.prog w= .ok (.value (.pointer (some (ad.add (k*5))))) w:=by
 rw[hA];exact Yc (elem:=139) Zk Zk hk
theorem st_ld{ad:Addr}{x:Int×Co}(h:∀j v,(Ri x)[j]? =some v→w.cell? (ad.add j)=some v):(L5 139 ad).run Tryz.prog w= .ok (.value (.agg (Ri x).toArray)) w:=
 F7 Zk Zk h
theorem hex_m(hp:Ma w A n 4 Oa px)(hn:n≤20000):Zv 115 #[.slice A n c] w (K4 (hexW px)):=by
 have hpn:=hp.1
 refine K0.enter Tryz.func115 rfl <| ZR <| K0.loop (ι:={q:Nat×(Option Addr×Nat) // q.1≤n}) 26 (fun q=>⟨[(0,.v (.slice A n c)),(3,.v (.slice q.1.2.1 (4*q.1.1) q.1.2.2)),(6,.v (.slice A n c)),(7,.v (Zi n)),(8,.v (Zi q.1.1))],[]⟩) (fun q u=>K6 u w.heap.size 5 1 q.1.2.1 (4*q.1.1) q.1.2.2 (bv ((px.take q.1.1).flatMap Ep))) (fun q=>n-q.1.1) (⟨(0,none,0),Nat.zero_le _⟩) Zk (fun _=>by kernel_rfl) ⟨Zk,Zk,Zk⟩ (fun u h=>K6.nil_) ?_
 rintro⟨⟨k,y,yc⟩,hk⟩ gg
 have hk:k≤n:=hk
 by_cases hlt:k<n
 case neg=>
  obtain rfl:k=n:=by omega
  have hfull:px.take k=px:=List.take_of_length_le Zo
  exact ZR <| ZJ (decide ((k:Int)<(k:Int))) false Zs <| K0.leave Zk <| ZR <| ZC (fun w1 hw h=>xencode_m (A:=y) (n:=4*k) (c:=yc) (bs:=px.flatMap Ep) (by have hl:4*k=(px.flatMap Ep).length:=(by rw[D3,hpn]);have h2:K6 w1 w.heap.size 5 1 y (4*k) yc (bv (px.flatMap Ep)):=(by rw[←hfull];exact h);rw[hl]at h2 ⊢;exact K6.bytes h2) Zo) fun u=>ZW (K4 (hexW px))
 obtain⟨x,hx⟩:∃x,px[k]? =some x:=⟨_,List.getElem?_eq_getElem Zo⟩
 obtain⟨ad,hA,hc⟩:=hp.2 k x hx
 have hstep:(px.take (k+1)).flatMap Ep=(px.take k).flatMap Ep++Ep x:=by rw[List.take_add_one,hx];simp
 obtain⟨p,hp'⟩:∃p,p=(px.take k).flatMap Ep:=⟨_,rfl⟩
 refine ZR <| ZJ (decide ((k:Int)<(n:Int))) true Zp <| ZA (Kj 48 (.slice A n c) k) (.pointer (some (ad.add (k*4)))) (fun w1 hw h=>px_idx hA hlt) <| K0.ask (L5 152 (ad.add (k*4))) (.agg (Oa x).toArray) Zk (fun w1 hw h=>px_ld fun j v hj=>Lc hw (hc j v hj)) <| ZS 9 <| K0.make (Lq (86) 4 #[(0,.int .u8 (x.1.toNat:Int)),(1,.int .u8 (x.2.1.toNat:Int)),(2,.int .u8 (x.2.2.1.toNat:Int)),(3,.int .u8 (x.2.2.2.toNat:Int))]) (Kf 4) (L4 5 (Oa x).toArray) Zk (fun w1 hw h=>Kc Zk) fun gb=>ZS 10 <| K0.mutOp (L:=bl y) (val:=fun(z:Option Addr×Nat)=> .slice z.1 (4*k+4) z.2) (Φ':=fun(z:Option Addr×Nat) v=>K6 v w.heap.size 5 1 z.1 (4*k+4) z.2 (bv (p++Ep x))) (G:=fun(z:Option Addr×Nat) v=>K6 v w.heap.size 5 1 z.1 (4*k+4) z.2 (bv (p++Ep x))) (M9 86 86 (.slice y (4*k) yc) (Kf 4 gb)) (fun w1 hw h=>by have ho:K6 w1 w.heap.size 5 1 y (4*k) yc (bv p):=(by rw[hp'];exact h.1);exact app_b4 ho hw.size h.2 Zo) (fun w1 h=>fun b hb=>⟨((show K6 w1 w.heap.size 5 1 y (4*k) yc (bv p)from(by rw[hp'];exact h.1)).lt b hb).1,((show K6 w1 w.heap.size 5 1 y (4*k) yc (bv p)from(by rw[hp'];exact h.1)).blk b hb).2⟩) (fun z wa wb e1 e2 h hG=>hG) Zk Zk fun z=>ZR <| K0.slot 8 (Zi (IntKind.i64.wrap ((k:Int)+1))) (Zi ((k+1:Nat):Int)) Zk (by rw[Kd hlt Zo]) <| K0.next (⟨(k+1,z.1,z.2),by show k+1≤n;omega⟩) Zk (by show n- (k+1)<n-k;omega) ⟨Zk,Zk,Zk⟩ (fun u h=>(by show K6 u w.heap.size 5 1 z.1 (4*(k+1)) z.2 (bv ((px.take (k+1)).flatMap Ep));rw[hstep,←hp',show 4*(k+1)=4*k+4 by omega];exact h))
theorem Un{m:Im}{y:Option Addr×Nat}(hp:Ma w y.1 m.px.length 4 Oa m.px)(hn:m.px.length≤20000)(h1: -9223372036854775808≤m.w∧m.w≤9223372036854775807)(h2: -9223372036854775808≤m.h∧m.h≤9223372036854775807):Calls Tryz.prog 66 #[imV m y] w (K7 w (fun y:Option Addr×Nat=> .slice y.1 3 y.2) fun y u=>L3 u y.1 3 (Hd m)):=by
 refine K0.enter Tryz.func66 rfl <| ZR <| ZC (fun w1 hw h=>Kv (n:=m.w) h1.1 h1.2) fun u0=>ZC (fun w1 hw h=>Kv (n:=m.h) h2.1 h2.2) fun u1=>ZD 9 (fun w1 hw h=>hex_m (c:=y.2) (hp.below hw) hn) fun u2=>K0.make (Lq (66) 3 #[(0,K4 (Kb m.w)),(1,K4 (Kb m.h)),(2,K4 (hexW m.px))]) (Kf 3) (L4 9 #[K4 (Kb m.w),K4 (Kb m.h),K4 (hexW m.px)]) Zk (fun w1 hw h=>Kc Zk) fun gb=>ZR <| ZV (.slice (some ⟨gb,0,none⟩) 3 3) (fun w1 hw h=>⟨(some ⟨gb,0,none⟩,3),rfl,hw,fun w'' k1 k2=>O9 (L:=Hd m) (h w'' k1 k2).2 rfl⟩)
end
section
variable{ws l:WS}{x y:RSt}
theorem rdN_cons{f:Bool}{s:List UInt8}{v:WS}:Vq f (s::v)=if Aj s=0 then some (Ry s,v,f)else if Aj s=6 then some (0,v,true)else none:=by
 unfold Vq
 rw[Yf,prg_full.1,prg_full.2]
 split
 ·rfl
 ·split<;>rfl
theorem rdC_cons{f:Bool}{s:List UInt8}{v:WS}:rdC f (s::v)=(U3 s).map fun c=>(c,v,f):=rfl
theorem rdS_cc{f:Bool}{s d:List UInt8}{r:WS}:rdS f (s::d::r)=(Vq f [s]).bind fun x=>(U3 d).bind fun k=>(rdS x.2.2 r).map fun l=>((x.1,k)::l.1,l.2):=by rw[rdS]
theorem rdS_step{v r:WS}{z:Int}{k:Co}(h1:Vq false ws=some (z,v,false))(h2:rdC false v=some (k,r,false)):rdS false ws=(rdS false r).map fun l=>((z,k)::l.1,l.2):=by
 cases ws with
 |nil=>cases h1
 | cons s ws=>
  rw[rdN_cons]at h1
  split at h1
  ·rename_i h0
   simp only[Option.some.injEq,Prod.mk.injEq,and_true]at h1
   obtain⟨rfl,rfl⟩:=h1
   cases ws with
   |nil=>cases h2
   |cons c r'=>
    rw[rdC_cons]at h2
    obtain⟨k',h3,h4⟩:=Option.map_eq_some_iff.1 h2
    simp only[Prod.mk.injEq,and_true]at h4
    obtain⟨rfl,rfl⟩:=h4
    rw[rdS_cc,rdN_cons,if_pos h0]
    simp only[Option.bind_some,h3]
  ·split at h1<;>cases h1
end
def Xa(t:TypeId)(x y:Operand)(u v:Value):Sem Next:=(do eqGuard .neq t x y u v;binOp .neq t u v) >>= fun v=>pure (.value v)
theorem Tu{P:Program}{n:Nat}{xs ys:Array Value}{f:Field}{fs:List Field}{u v:Value}{b c:Bool}{w:World}(hn:f.name≠ "_")(h1:(part f.type xs f.offset).run P w= .ok u w)(h2:(part f.type ys f.offset).run P w= .ok v w)
 (h3:(Op.equalIn n f.type u v).run P w= .ok b w) (h4:(Op.eqFields n xs ys fs).run P w= .ok c w):(Op.eqFields n xs ys (f::fs)).run P w= .ok (b&&c) w:=by
 simp only[Op.eqFields,Sem.run_bind,h1,h2,h3,Result.andThen_ok,hn,ne_eq,not_false_eq_true,if_true]
 cases b
 ·simp
 ·simp[h4]
theorem Nf{P:Program}{t:TypeId}{d:TypeDesc}{xs:Array Value}{off:Nat}{v:Value}{w:World}(hu:P.underlying t=some d)(hd:d.isRow=false)(hv:xs[off]? =some v):(part t xs off).run P w= .ok v w:=by
 have hag:(isAgg t).run P w= .ok false w:=by unfold isAgg;rw[Sem.run_bind,run_underlying hu w];cases d<;>first|rfl|cases hd
 simp only[part,Sem.run_bind,hag,Result.andThen_ok,Bool.false_eq_true,if_false,hv,Sem.run_pure]
section
variable{w:World}
def coEq(a b:Co):Bool:=((a.1.toNat:Int)==(b.1.toNat:Int))&&(((a.2.1.toNat:Int)==(b.2.1.toNat:Int))&&(((a.2.2.1.toNat:Int)==(b.2.2.1.toNat:Int))&&(((a.2.2.2.toNat:Int)==(b.2.2.2.toNat:Int))&&true)))
theorem u8_inj{a b:UInt8}:((a.toNat:Int)==(b.toNat:Int))=decide (a=b):=by
 rw[Bool.eq_iff_iff,beq_iff_eq,decide_eq_true_iff,Int.ofNat_inj]
 exact UInt8.toNat_inj
theorem Fy{a b:Co}:coEq a b=decide (a=b):=by
 obtain⟨a1,a2,a3,a4⟩:=a
 obtain⟨b1,b2,b3,b4⟩:=b
 unfold coEq
 rw[u8_inj,u8_inj,u8_inj,u8_inj,Bool.eq_iff_iff]
 simp
theorem eq_co(k:Nat)(a b:Co):(Op.equalIn (k+2) 23 (Rf a) (Rf b)).run Tryz.prog w= .ok (coEq a b) w:=by
 have h1:Tryz.prog.underlying 23=some (.struct (Tryz.prog.fieldsOf 23)):=by kernel_rfl
 have h2:Tryz.prog.stoodInHeld 23=false:=by kernel_rfl
 have hm:(Tryz.prog.fieldsOf 23).toList.map (fun f=>(f.name,f.offset,f.type))=[("R",0,5),("G",1,5),("B",2,5),("A",3,5)]:=by kernel_rfl
 have hu:Tryz.prog.underlying 5=some (.int .u8):=by kernel_rfl
 obtain⟨f0,r0,hf,k0,hm⟩:=List.map_eq_cons_iff.1 hm
 obtain⟨f1,r1,hf1,k1,hm⟩:=List.map_eq_cons_iff.1 hm
 obtain⟨f2,r2,hf2,k2,hm⟩:=List.map_eq_cons_iff.1 hm
 obtain⟨f3,r3,hf3,k3,hm⟩:=List.map_eq_cons_iff.1 hm
 obtain rfl:r3=[]:=List.map_eq_nil_iff.1 hm
 subst hf3;subst hf2;subst hf1
 simp only[Prod.mk.injEq]at k0 k1 k2 k3
 obtain⟨n0,o0,t0⟩:=k0
 obtain⟨n1,o1,t1⟩:=k1
 obtain⟨n2,o2,t2⟩:=k2
 obtain⟨n3,o3,t3⟩:=k3
 have e0:∀a b:Int,(Op.equalIn (k+1) 5 (.int .u8 a) (.int .u8 b)).run Tryz.prog w= .ok (a==b) w:=fun a b=>run_equalIn_int w k _ .u8 .u8 a b hu
 show(Op.equalIn (k+1+1) 23 (.agg _) (.agg _)).run Tryz.prog w=_
 rw[run_equalIn_struct w (k+1) _ _ _ h1 h2,hf]
 refine Tu (by rw[n0];decide) (by rw[t0,o0];exact Nf hu rfl rfl) (by rw[t0,o0];exact Nf hu rfl rfl) (by rw[t0];exact e0 _ _) <| Tu (by rw[n1];decide) (by rw[t1,o1];exact Nf hu rfl rfl) (by rw[t1,o1];exact Nf hu rfl rfl) (by rw[t1];exact e0 _ _) <| Tu (by rw[n2];decide) (by rw[t2,o2];exact Nf hu rfl rfl) (by rw[t2,o2];exact Nf hu rfl rfl) (by rw[t2];exact e0 _ _) <| Tu (by rw[n3];decide) (by rw[t3,o3];exact Nf hu rfl rfl) (by rw[t3,o3];exact Nf hu rfl rfl) (by rw[t3];exact e0 _ _) ?_
 simp[Op.eqFields]
theorem P7{x y:Operand}{a b:Co}{B:Bool}(hB:decide (a=b)=B):(D4 23 x y (Rf a) (Rf b)).run Tryz.prog w= .ok (.value (.bool B)) w:=by
 subst hB
 have h3:Tryz.prog.eqGuardType Tryz.prog.depth 23=false:=by kernel_rfl
 have he:=eq_co (w:=w) 9998 a b
 rw[Fy]at he
 simp only[D4,Sem.run_bind,run_eqGuard_agg w .eql _ x y _ _ h3,Result.andThen_ok,run_eql_struct,Sem.run_pure]at he ⊢
 rw[he]
 rfl
theorem run_ne_co{x y:Operand}{a b:Co}{B:Bool}(hB:decide (a=b)= !B):(Xa 23 x y (Rf a) (Rf b)).run Tryz.prog w= .ok (.value (.bool B)) w:=by
 have h3:Tryz.prog.eqGuardType Tryz.prog.depth 23=false:=by kernel_rfl
 have he:=eq_co (w:=w) 9998 a b
 rw[Fy,hB]at he
 simp only[Xa,Sem.run_bind,run_eqGuard_agg w .neq _ x y _ _ h3,Result.andThen_ok,run_neq_struct,Sem.run_pure]at he ⊢
 rw[he]
 simp
theorem eq_px(k:Nat)(a b:Co):(Op.equalIn (k+2) 152 (Rf a) (Rf b)).run Tryz.prog w= .ok (coEq a b) w:=by
 have h1:Tryz.prog.underlying 152=some (.struct (Tryz.prog.fieldsOf 152)):=by kernel_rfl
 have h2:Tryz.prog.stoodInHeld 152=false:=by kernel_rfl
 have hm:(Tryz.prog.fieldsOf 152).toList.map (fun f=>(f.name,f.offset,f.type))=[("R",0,5),("G",1,5),("B",2,5),("A",3,5)]:=by kernel_rfl
 have hu:Tryz.prog.underlying 5=some (.int .u8):=by kernel_rfl
 obtain⟨f0,r0,hf,k0,hm⟩:=List.map_eq_cons_iff.1 hm
 obtain⟨f1,r1,hf1,k1,hm⟩:=List.map_eq_cons_iff.1 hm
 obtain⟨f2,r2,hf2,k2,hm⟩:=List.map_eq_cons_iff.1 hm
 obtain⟨f3,r3,hf3,k3,hm⟩:=List.map_eq_cons_iff.1 hm
 obtain rfl:r3=[]:=List.map_eq_nil_iff.1 hm
 subst hf3;subst hf2;subst hf1
 simp only[Prod.mk.injEq]at k0 k1 k2 k3
 obtain⟨n0,o0,t0⟩:=k0
 obtain⟨n1,o1,t1⟩:=k1
 obtain⟨n2,o2,t2⟩:=k2
 obtain⟨n3,o3,t3⟩:=k3
 have e0:∀a b:Int,(Op.equalIn (k+1) 5 (.int .u8 a) (.int .u8 b)).run Tryz.prog w= .ok (a==b) w:=fun a b=>run_equalIn_int w k _ .u8 .u8 a b hu
 show(Op.equalIn (k+1+1) 152 (.agg _) (.agg _)).run Tryz.prog w=_
 rw[run_equalIn_struct w (k+1) _ _ _ h1 h2,hf]
 refine Tu (by rw[n0];decide) (by rw[t0,o0];exact Nf hu rfl rfl) (by rw[t0,o0];exact Nf hu rfl rfl) (by rw[t0];exact e0 _ _) <| Tu (by rw[n1];decide) (by rw[t1,o1];exact Nf hu rfl rfl) (by rw[t1,o1];exact Nf hu rfl rfl) (by rw[t1];exact e0 _ _) <| Tu (by rw[n2];decide) (by rw[t2,o2];exact Nf hu rfl rfl) (by rw[t2,o2];exact Nf hu rfl rfl) (by rw[t2];exact e0 _ _) <| Tu (by rw[n3];decide) (by rw[t3,o3];exact Nf hu rfl rfl) (by rw[t3,o3];exact Nf hu rfl rfl) (by rw[t3];exact e0 _ _) ?_
 simp[Op.eqFields]
theorem run_eq_px{x y:Operand}{a b:Co}{B:Bool}(hB:decide (a=b)=B):(D4 152 x y (Rf a) (Rf b)).run Tryz.prog w= .ok (.value (.bool B)) w:=by
 subst hB
 have h3:Tryz.prog.eqGuardType Tryz.prog.depth 152=false:=by kernel_rfl
 have he:=eq_px (w:=w) 9998 a b
 rw[Fy]at he
 simp only[D4,Sem.run_bind,run_eqGuard_agg w .eql _ x y _ _ h3,Result.andThen_ok,run_eql_struct,Sem.run_pure]at he ⊢
 rw[he]
 rfl
theorem run_ne_px{x y:Operand}{a b:Co}{B:Bool}(hB:decide (a=b)= !B):(Xa 152 x y (Rf a) (Rf b)).run Tryz.prog w= .ok (.value (.bool B)) w:=by
 have h3:Tryz.prog.eqGuardType Tryz.prog.depth 152=false:=by kernel_rfl
 have he:=eq_px (w:=w) 9998 a b
 rw[Fy,hB]at he
 simp only[Xa,Sem.run_bind,run_eqGuard_agg w .neq _ x y _ _ h3,Result.andThen_ok,run_neq_struct,Sem.run_pure]at he ⊢
 rw[he]
 simp
theorem eq_stop(a b:Int×Co):(Op.equalIn 10000 139 (.agg (Ri a).toArray) (.agg (Ri b).toArray)).run Tryz.prog w= .ok ((a.1==b.1)&&(coEq a.2 b.2&&true)) w:=by
 have h1:Tryz.prog.underlying 139=some (.struct (Tryz.prog.fieldsOf 139)):=by kernel_rfl
 have h2:Tryz.prog.stoodInHeld 139=false:=by kernel_rfl
 have hm:(Tryz.prog.fieldsOf 139).toList.map (fun f=>(f.name,f.offset,f.type))=[("Offset",0,3),("Color",1,23)]:=by kernel_rfl
 have hu:Tryz.prog.underlying 3=some (.int .i64):=by kernel_rfl
 have huc:Tryz.prog.underlying 23=some (.struct (Tryz.prog.fieldsOf 23)):=by kernel_rfl
 have hz:Nz Tryz.prog 23=some 4:=by kernel_rfl
 obtain⟨f0,r0,hf,k0,hm⟩:=List.map_eq_cons_iff.1 hm
 obtain⟨f1,r1,hf1,k1,hm⟩:=List.map_eq_cons_iff.1 hm
 obtain rfl:r1=[]:=List.map_eq_nil_iff.1 hm
 subst hf1
 simp only[Prod.mk.injEq]at k0 k1
 obtain⟨n0,o0,t0⟩:=k0
 obtain⟨n1,o1,t1⟩:=k1
 have hag:(isAgg 23).run Tryz.prog w= .ok true w:=by unfold isAgg;rw[Sem.run_bind,run_underlying huc w];rfl
 have pc:∀s:Int×Co,(part 23 (Ri s).toArray 1).run Tryz.prog w= .ok (Rf s.2) w:=fun s=>by
  simp only[part,Sem.run_bind,hag,Lf hz,Result.andThen_ok,if_true];rfl
 show(Op.equalIn (9999+1) 139 (.agg _) (.agg _)).run Tryz.prog w=_
 rw[run_equalIn_struct w 9999 _ _ _ h1 h2,hf]
 refine Tu (by rw[n0];decide) (by rw[t0,o0];exact Nf hu rfl rfl) (by rw[t0,o0];exact Nf hu rfl rfl) (by rw[t0];exact run_equalIn_int w 9998 _ .i64 .i64 _ _ hu) <| Tu (by rw[n1];decide) (by rw[t1,o1];exact pc a) (by rw[t1,o1];exact pc b) (by rw[t1];exact eq_co 9997 a.2 b.2) ?_
 simp[Op.eqFields]
theorem run_ne_stop{x y:Operand}{a b:Int×Co}{B:Bool}(hB:decide (a=b)= !B):(Xa 139 x y (.agg (Ri a).toArray) (.agg (Ri b).toArray)).run Tryz.prog w= .ok (.value (.bool B)) w:=by
 have h3:Tryz.prog.eqGuardType Tryz.prog.depth 139=false:=by kernel_rfl
 have he:=eq_stop (w:=w) a b
 have e:((a.1==b.1)&&(coEq a.2 b.2&&true))= !B:=by
  rw[Fy,←hB,Bool.eq_iff_iff]
  simp[Prod.ext_iff]
 rw[e]at he
 simp only[Xa,Sem.run_bind,run_eqGuard_agg w .neq _ x y _ _ h3,Result.andThen_ok,run_neq_struct,Sem.run_pure]at he ⊢
 rw[he]
 simp
end
structure Db(P:Pn)(q:PM)(K:Nat)(w:World):Prop where
 st:Ma w q.sA P.stops.length 5 Ri P.stops
 px:Ma w q.xA P.im.px.length 4 Oa P.im.px
 tr:Ag q.t P.T K w
theorem Db.below{P:Pn}{q:PM}{K:Nat}{w w1:World}(h:Db P q K w)(hw:Below w.heap.size w w1):Db P q K w1:=⟨h.st.below hw,h.px.below hw,h.tr.below hw⟩
theorem Ag.zero{K:Nat}{w:World}:Ag Gg Px K w:=⟨isq0,isq0,isq0,isq0,isq0,isq0⟩
theorem K6.rowA{α:Type}{w:World}{B n c s:Nat}{e:TypeId}{A:Option Addr}{cl:α→List Value}{l:List α}(hs:∀x,(cl x).length=s)(hl:l.length=n)(h:K6 w B e s A n c (l.flatMap cl)):Ma w A n s cl l:=by
 refine⟨hl,fun k x hk=> ?_⟩
 have hk2:=(List.getElem?_eq_some_iff.1 hk).1
 obtain⟨g,hg,hc⟩:=h.cells Zo
 refine⟨_,hg,fun j v hj=> ?_⟩
 rw[Ei,Addr.add_mid,Nat.zero_add]
 exact hc _ _ (flat_get hs l k x j v hk hj)
theorem PAt.rd{N K:Nat}{P:Pn}{q:PM}{w:World}(h:PAt N P q w)(hK:125≤K):Db P q K w:=by
 refine⟨h.st.rowA st1_len rfl,h.px.rowA px1_len rfl,?_⟩
 rcases h.tr with ⟨_,h1,h2⟩|⟨_,h⟩
 ·rw[h1,h2];exact .zero
 ·exact⟨h.a.1.q.mono hK,h.b.1.q.mono hK,h.c.1.q.mono hK,h.d.1.q.mono hK,h.e.1.q.mono hK,h.f.1.q.mono hK⟩
def B4:Int→List (Int×Co)→Bool
 |_,[]=>true
 |a,x::l=>decide (a≤x.1∧x.1≤65536)&&B4 x.1 l
def Ny(l:List (Int×Co)):Bool:=decide (1≤l.length∧l.length≤16)&&B4 0 l
def E7(c:Co):Bool:=decide (c.1≤c.2.2.2∧c.2.1≤c.2.2.2∧c.2.2.1≤c.2.2.2)
def Xy(m:Im):Bool:=A8 m.w m.h&&decide ((m.px.length:Int)=m.w*m.h)&&m.px.all E7
def T4(n:Int):Bool:=decide (1≤n∧n≤3)
def Dk(P:Pn):Pn:=
 if P.kind=1 then{P with co:=Uq,T:=Px}
 else if P.kind=2 then{P with p0x:=0,p0y:=0,p1x:=0,p1y:=0,stops:=[],spread:=0,T:=Px}
 else if P.kind=3 then{P with p0x:=0,p0y:=0,rad:=0,stops:=[],spread:=0,T:=Px}
 else if P.kind=4 then{P with im:=Di,spread:=0,samp:=0,T:=Px}
 else{P with T:=Px}
def T3(P:Pn):Prop:=P.co=Uq∧(P.p0x=0∧P.p0y=0)∧(P.p1x=0∧P.p1y=0)∧P.rad=0∧P.spread=0∧P.samp=0∧P.stops=[]∧(P.im.w=0∧P.im.h=0∧P.im.px=[])
instance(P:Pn):Decidable (T3 P):=decidable_of_iff (P.co=Uq∧(P.p0x=0∧P.p0y=0)∧(P.p1x=0∧P.p1y=0)∧P.rad=0∧P.spread=0∧P.samp=0∧P.stops=[]∧(P.im.w=0∧P.im.h=0∧P.im.px=[])) Iff.rfl
def H7(P:Pn):Bool:=
 if P.kind=1 then eqA P.T Px
 else if P.kind=2 then L8 P.p0x P.p0y&&(L8 P.p1x P.p1y&&((Ny P.stops&&T4 P.spread)&&decide (P.T.det≠0)))
 else if P.kind=3 then L8 P.p0x P.p0y&&(decide (1≤P.rad∧P.rad≤1048576)&&((Ny P.stops&&T4 P.spread)&&decide (P.T.det≠0)))
 else if P.kind=4 then Xy P.im&&((decide (P.spread=0)||T4 P.spread)&&(decide (P.samp=1∨P.samp=2)&&decide (P.T.det≠0)))
 else false
def Ku(P:Pn):Bool:=P.T.ok&&(decide (T3 (Dk P))&&H7 P)
end Go.Proofs.YtoeiphicmcndlaaGreatDoor
