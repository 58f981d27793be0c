/-
 Words and lines.
-/
import Derived.Test.YtoeiphicmcndlaaGreatDoorVA
import Derived.Scope
namespace Go.Proofs.YtoeiphicmcndlaaGreatDoor
set_option maxRecDepth 100000
set_option maxHeartbeats 8000000
set_option linter.unusedVariables false
set_option linter.unusedSimpArgs false
open Go.RowKit
section
variable{w:World}{l:List UInt8}{o:Option (List UInt8)}
theorem Eq{k n:Nat}(h:k+2≤n)(hn:n≤1000000000):IntKind.i64.wrap ((k:Int)+2)=((k+2:Nat):Int):=by rw[IntWalk.i64_in _ Zo];omega
theorem unquote_m(ho:Z1 l=o)(hl:l.length≤90000000):Zv 87 #[K4 l] w (unqV o):=by
 by_cases h0:l=[42]
 ·obtain rfl:o=some []:=by rw[←ho,h0];rfl
  exact K0.enter Tryz.func87 rfl <| ZS 1 <| K0.run Zk (stop:=1000) 1 _ <| ZS 1 <| ZA (Qf .eql 9 (.tmp 8) (.const (.string ⟨#[42]⟩)) (K4 l) (K4 [42])) Zt (fun w1 hw h=>Ks (by simpa using h0)) <| ZI true <| ZW (.tuple #[.string ⟨#[]⟩,Zi 0])
 refine K0.enter Tryz.func87 rfl <| ZS 1 <| K0.run Zk (stop:=1000) 1 _ <| ZS 1 <| ZA (Qf .eql 9 (.tmp 8) (.const (.string ⟨#[42]⟩)) (K4 l) (K4 [42])) Zf (fun w1 hw h=>Ks (by simpa using h0)) <| ZI false <| K0.loop (ι:={q:(Nat×Nat×List UInt8)×(Option Addr×Nat) // q.1.1≤l.length∧unqS l=(unqS (l.drop q.1.1)).map (q.1.2.2++·)∧q.1.2.2.length=q.1.2.1∧q.1.2.1≤q.1.1}) 76 (fun q=>⟨[(0,.v (K4 l)),(4,.v (.slice q.1.2.1 q.1.1.2.1 q.1.2.2)),(5,.v (Zi q.1.1.1))],[]⟩) (fun q u=>K6 u w.heap.size 5 1 q.1.2.1 q.1.1.2.1 q.1.2.2 (bv q.1.1.2.2)) (fun q=>l.length-q.1.1.1) (⟨((0,0,[]),(none,0)),by simp,by show unqS l=(unqS (l.drop 0)).map ([]++·);rw[List.drop_zero];cases unqS l<;>rfl,rfl,Nat.le_refl _⟩) Zk (fun _=>by kernel_rfl) ⟨Zk,Zk,Zk⟩ (fun u h=>K6.nil_) ?_
 rintro⟨⟨⟨k,m,p⟩,y,yc⟩,hk⟩ g
 have hk1:k≤l.length:=hk.1
 have hk2:unqS l=(unqS (l.drop k)).map (p++·):=hk.2.1
 have hk3:p.length=m:=hk.2.2.1
 have hk4:m≤k:=hk.2.2.2
 by_cases hlt:k<l.length
 ·refine ZR <| K0.condr (decide ((k:Int)<(l.length:Int))) true Zk Zp <| ZS 2 ?_
  obtain⟨c,hc⟩:∃c,l[k]? =some c:=⟨_,List.getElem?_eq_getElem hlt⟩
  refine ZA (ixS 9 (K4 l) k) (.int .u8 c.toNat) (fun w1 hw h=>Se Zk hc) ?_
  cases hp:Mf c
  case true=>
   have hs:=unq_one hk2 hc hp
   refine ZC (fun w1 hw h=>Cr hp) fun u=>K0.cond true Zk <| ZS 3 <| K0.ask (ixS 9 (K4 l) k) (.int .u8 c.toNat) Zk (fun w1 hw h=>Se Zk hc) <| ZS 4 <| K0.make (Lq 86 1 #[(0,.int .u8 c.toNat)]) (Kf 1) (L4 5 #[.int .u8 c.toNat]) Zk (fun w1 hw h=>Kc Zk) fun gb=>ZS 5 <| K0.mutOp (L:=bl y) (val:=fun(z:Option Addr×Nat)=> .slice z.1 (m+1) z.2) (Φ':=fun(z:Option Addr×Nat) v=>K6 v w.heap.size 5 1 z.1 (m+1) z.2 (bv (p++ [c]))) (G:=fun(z:Option Addr×Nat) v=>K6 v w.heap.size 5 1 z.1 (m+1) z.2 (bv (p++ [c]))) (M9 86 86 (.slice y m yc) (Kf 1 gb)) (fun w1 hw h=>by have ho:K6 w1 w.heap.size 5 1 y m yc (bv p):=h.1.1;have ha:=O3 (P:=Tryz.prog) (s:=1) (z:= .int .u8 0) (bytes:=1) (m:=1) (cc:=1) (t:=86) (elem:=5) Zk Zk rfl Zd ho hw.size (N5 (n:=1) h.2 rfl) (by intro v hv;simp at hv;rcases hv with rfl;rfl) Zo Zd;have e:bv (p++ [c])=bv p++ [.int .u8 (c).toNat]:=by{simp[bv]};rw[e];exact ha) (fun w1 h=>fun b hb=>⟨((show K6 w1 w.heap.size 5 1 y m yc (bv p)from h.1.1).lt b hb).1,((show K6 w1 w.heap.size 5 1 y m yc (bv p)from h.1.1).blk b hb).2⟩) (fun z wa w1 e1 e2 h hG=>hG) Zk Zk fun z=>ZR <| K0.slot 5 (Zi (IntKind.i64.wrap ((k:Int)+1))) (Zi ((k+1:Nat):Int)) Zk (by rw[Kd hlt Zo]) <| K0.next (⟨((k+1,m+1,p++ [c]),z),by show k+1≤l.length;omega,hs,by simp[hk3],by show m+1≤k+1;omega⟩) Zk (by show l.length- (k+1)<l.length-k;omega) ⟨Zk,Zk,Zk⟩ (fun _ h=>h)
  refine ZC (fun w1 hw h=>Cr hp) fun u=>K0.cond false Zk <| ZS 2 <| K0.ask (ixS 9 (K4 l) k) (.int .u8 c.toNat) Zk (fun w1 hw h=>Se Zk hc) <| ZS 4 ?_
  by_cases h42:c=42
  case neg=>
   obtain rfl:o=none:=ho.symm.trans (Y4 h0 (unq_bad hk2 hc hp h42))
   exact ZT 29 (.bool (((c.toNat:Nat):Int) !=42)) Zt (by simp;intro e;exact h42 (UInt8.toNat_inj.1 (by have e2:(42:UInt8).toNat=42:=rfl;omega))) <| ZI true <| K0.leave Zk <| ZR <| ZW (.tuple #[.string ⟨#[]⟩,Zi 3])
  subst h42
  refine ZT 29 (.bool ((((42:UInt8).toNat:Nat):Int) !=42)) Zf Zs ?_
  by_cases hsh:l.length≤k+2
  ·obtain rfl:o=none:=ho.symm.trans (Y4 h0 (unq_short hk2 hc hsh))
   exact ZJ (decide (IntKind.i64.wrap ((k:Int)+2)≥(l.length:Int))) true (by rw[Eq (n:=l.length+1) Zo Zo];simp;omega) <| K0.leave Zk <| ZR <| ZW (.tuple #[.string ⟨#[]⟩,Zi 3])
  obtain⟨a,ha⟩:∃a,l[k+1]? =some a:=⟨_,List.getElem?_eq_getElem Zo⟩
  obtain⟨b,hb⟩:∃b,l[k+2]? =some b:=⟨_,List.getElem?_eq_getElem Zo⟩
  obtain⟨d1,d2⟩:=unq_hex hk2 hc ha hb
  refine K0.condr (decide (IntKind.i64.wrap ((k:Int)+2)≥(l.length:Int))) false Zk (by rw[Eq (n:=l.length+1) Zo Zo];simp;omega) <| ZS 3 <| K0.slot 39 (Zi (IntKind.i64.wrap ((k:Int)+1))) (Zi ((k+1:Nat):Int)) Zk (by rw[Kd hlt Zo]) <| K0.askAt 3 (ixS 9 (K4 l) (k+1:Nat)) (.int .u8 a.toNat) Zk (fun w1 hw h=>Se Zk ha) <| ZS 8 <| K0.slot 44 (Zi (IntKind.i64.wrap ((k:Int)+2))) (Zi ((k+2:Nat):Int)) Zk (by rw[Eq (n:=l.length) Zo Zo]) <| ZB 8 (ixS 9 (K4 l) (k+2:Nat)) (.int .u8 b.toNat) (fun w1 hw h=>Se Zk hb) <| ZC (fun w1 hw h=>hexi_m a) fun u=>ZD 0 (fun w1 hw h=>hexi_m b) fun u=>K0.run Zk (stop:=1000) 2 _ ?_
  by_cases hva:M1 a<0
  ·obtain rfl:o=none:=ho.symm.trans (Y4 h0 (d1 (.inl hva)))
   exact ZS 2 <| ZT 48 (.bool (decide (M1 a<0))) Zt (by rw[decide_eq_true hva]) <| ZI true <| K0.leave Zk <| ZR <| ZW (.tuple #[.string ⟨#[]⟩,Zi 3])
  by_cases hvb:M1 b<0
  ·obtain rfl:o=none:=ho.symm.trans (Y4 h0 (d1 (.inr (.inl hvb))))
   exact ZS 2 <| K0.slot 48 (.bool (decide (M1 a<0))) Zf Zk (by rw[decide_eq_false hva]) <| ZS 6 <| ZT 52 (.bool (decide (M1 b<0))) Zt (by rw[decide_eq_true hvb]) <| ZI true <| K0.leave Zk <| ZR <| ZW (.tuple #[.string ⟨#[]⟩,Zi 3])
  have hn:=byteH_nat a b Zo Zo
  refine ZS 2 <| K0.slot 48 (.bool (decide (M1 a<0))) Zf Zk (by rw[decide_eq_false hva]) <| ZS 6 <| K0.slot 52 (.bool (decide (M1 b<0))) Zf Zk (by rw[decide_eq_false hvb]) <| ZS 12 <| K0.slot 58 (.int .u8 (IntKind.u8.wrap (bits .or .i64 (IntKind.i64.wrap (M1 a*2 ^ 4)) (M1 b)))) (.int .u8 (Nh a b).toNat) Zk (by rw[hn]) ?_
  cases hpl:Mf (Nh a b)
  case true=>
   obtain rfl:o=none:=ho.symm.trans (Y4 h0 (d1 (.inr (.inr hpl))))
   exact ZC (fun w1 hw h=>Cr hpl) fun u=>ZI true <| K0.leave Zk <| ZR <| ZW (.tuple #[.string ⟨#[]⟩,Zi 3])
  have hs:=d2 (by rw[hpl];simp;omega)
  refine ZC (fun w1 hw h=>Cr hpl) fun u=>K0.cond false Zk <| ZS 6 <| K0.slot 66 (.int .u8 (IntKind.u8.wrap (bits .or .i64 (IntKind.i64.wrap (M1 a*2 ^ 4)) (M1 b)))) (.int .u8 (Nh a b).toNat) Zk (by rw[hn]) <| K0.make (Lq 86 1 #[(0,.int .u8 (Nh a b).toNat)]) (Kf 1) (L4 5 #[.int .u8 (Nh a b).toNat]) Zk (fun w1 hw h=>Kc Zk) fun gb=>ZS 7 <| K0.mutOp (L:=bl y) (val:=fun(z:Option Addr×Nat)=> .slice z.1 (m+1) z.2) (Φ':=fun(z:Option Addr×Nat) v=>K6 v w.heap.size 5 1 z.1 (m+1) z.2 (bv (p++ [Nh a b]))) (G:=fun(z:Option Addr×Nat) v=>K6 v w.heap.size 5 1 z.1 (m+1) z.2 (bv (p++ [Nh a b]))) (M9 86 86 (.slice y m yc) (Kf 1 gb)) (fun w1 hw h=>by have ho:K6 w1 w.heap.size 5 1 y m yc (bv p):=h.1.1.1.1.1;have ha:=O3 (P:=Tryz.prog) (s:=1) (z:= .int .u8 0) (bytes:=1) (m:=1) (cc:=1) (t:=86) (elem:=5) Zk Zk rfl Zd ho hw.size (N5 (n:=1) h.2 rfl) (by intro v hv;simp at hv;rcases hv with rfl;rfl) Zo Zd;have e:bv (p++ [Nh a b])=bv p++ [.int .u8 (Nh a b).toNat]:=by{simp[bv]};rw[e];exact ha) (fun w1 h=>fun b hb=>⟨((show K6 w1 w.heap.size 5 1 y m yc (bv p)from h.1.1.1.1.1).lt b hb).1,((show K6 w1 w.heap.size 5 1 y m yc (bv p)from h.1.1.1.1.1).blk b hb).2⟩) (fun z wa w1 e1 e2 h hG=>hG) Zk Zk fun z=>ZR <| K0.slot 5 (Zi (IntKind.i64.wrap (IntKind.i64.wrap ((k:Int)+2)+1))) (Zi ((k+3:Nat):Int)) Zk (by rw[Eq (n:=l.length) Zo Zo,Kd (n:=l.length) Zo Zo]) <| K0.next (⟨((k+3,m+1,p++ [Nh a b]),z),by show k+3≤l.length;omega,hs,by simp[hk3],by show m+1≤k+3;omega⟩) Zk (by show l.length- (k+3)<l.length-k;omega) ⟨Zk,Zk,Zk⟩ (fun _ h=>h)
 ·have hd:=unq_end hk2 Zo
  refine ZR <| ZJ (decide ((k:Int)<(l.length:Int))) false Zp <| K0.leave Zk <| ZR ?_
  by_cases hm:m=0
  ·obtain rfl:p=[]:=List.length_eq_zero_iff.1 Zo
   obtain rfl:o=none:=ho.symm.trans (unqL_nil h0 hd)
   exact ZJ (((m:Int)==0)) true (by simp[hm]) <| ZW (.tuple #[.string ⟨#[]⟩,Zi 3])
  ·obtain rfl:o=some p:=ho.symm.trans (unqL_some h0 hd (by rintro rfl;exact hm hk3.symm))
   exact K0.condr (((m:Int)==0)) false Zk (by simp[hm]) <| ZS 1 <| ZA (cvS 86 9 (.slice y m yc)) (K4 p) (fun w1 hw h=>by subst hk3;exact run_cv (e:=5) Zk Zk Zk h) <| ZW (.tuple #[K4 p,Zi 0])
end
def Zu(c:UInt8):List UInt8→List UInt8×List UInt8×Bool
 | []=>([],[],false)
 |b::l=>if b=c then([],l,true)else(b::(Zu c l).1,(Zu c l).2.1,(Zu c l).2.2)
theorem lib_cutC(c:UInt8):∀(l:List UInt8),Lib.cut l [c]=Zu c l
 | []=>rfl
 | b::l=>by
  have ih:=lib_cutC c l
  have hge:=Lib.index_ge l [c]
  unfold Lib.cut at ih ⊢
  unfold Zu
  rw[Lib.index]
  by_cases hb:b=c
  ·subst hb
   simp
  ·have hp: [c].isPrefixOf (b::l)=false:=by
    simp only[List.isPrefixOf,Bool.and_true]
    exact beq_eq_false_iff_ne.2 (Ne.symm hb)
   rw[hp,if_neg hb,←ih]
   by_cases h1:Lib.index l [c]= -1
   ·rw[h1];rfl
   ·obtain⟨k,hk⟩:∃k:Nat,Lib.index l [c]=k:=⟨(Lib.index l [c]).toNat,by omega⟩
    rw[hk]
    have e1:((k:Int)== -1)=false:=beq_eq_false_iff_ne.2 Zo
    rw[e1]
    have e2:((k:Int)+1).toNat=k+1:=by omega
    have e3:((k:Int)).toNat=k:=by omega
    simp only[Bool.false_eq_true,if_false,if_pos (show(0:Int)≤(k:Int)+1 by omega),if_pos (show(0:Int)≤(k:Int) by omega),e2,e3,List.take_succ_cons,List.length_singleton,List.drop_succ_cons]
theorem Fv(c:UInt8):∀{l:List UInt8},(Zu c l).2.2=true→Ki c l=(Zu c l).1::Ki c (Zu c l).2.1∧(Zu c l).1.length+(Zu c l).2.1.length+1=l.length
 | [],h=>by cases h
 | b::l,h=>by
  unfold Zu at h ⊢
  by_cases hb:b=c
  ·subst hb
   simp only[if_true]
   exact⟨Wh,by simp⟩
  ·simp only[if_neg hb]at h ⊢
   have ih:=Fv c (l:=l) h
   refine⟨?_,by have:=ih.2;simp only[List.length_cons];omega⟩
   rw[Ki,if_neg hb,ih.1]
theorem Fx(c:UInt8):∀{l:List UInt8},(Zu c l).2.2=false→Ki c l=[l]∧(Zu c l).1=l
 | [],_=>⟨rfl,rfl⟩
 | b::l,h=>by
  unfold Zu at h ⊢
  by_cases hb:b=c
  ·subst hb
   simp only[if_true]at h
   cases h
  ·simp only[if_neg hb]at h ⊢
   have ih:=Fx c (l:=l) h
   rw[Ki,if_neg hb,ih.1,ih.2]
   exact⟨rfl,rfl⟩
theorem lib_split(c:UInt8):∀(n:Nat) (l:List UInt8),l.length≤n→Lib.splitK [c] 0 (Lib.count l [c]) l=Ki c l
 | n,l,hn=>by
  have hc:=lib_cutC c l
  have hge:=Lib.index_ge l [c]
  unfold Lib.cut at hc
  by_cases h1:Lib.index l [c]= -1
  ·rw[if_neg Zo]at hc
   rw[Lib.count_miss h1,(Fx c (l:=l) (by rw[←hc])).1]
   rfl
  ·obtain⟨k,hk⟩:∃k:Nat,Lib.index l [c]=k:=⟨(Lib.index l [c]).toNat,by omega⟩
   rw[if_pos Zo,hk]at hc
   obtain⟨h2,h3⟩:=Fv c (l:=l) (by rw[←hc])
   rw[←hc]at h2 h3
   simp only[Int.toNat_natCast,List.length_singleton]at h2 h3
   have hcount:=Lib.count_hit (sub:=[c]) (s:=l) (i:=k) Zs hk
   match n,hn with
   |0,hn=>omega
   |n+1,hn=>
    rw[hcount,Nat.add_comm,Lib.splitK,if_neg (by rw[hk];simp),h2,hk]
    simp only[Int.toNat_natCast,Nat.add_zero,List.length_singleton]at h3 ⊢
    rw[lib_split c n (l.drop (k+1)) Zo]
theorem lib_join(c:UInt8)(l:List (List UInt8)):Lib.join l [c]=Nb c l:=by
 cases l with
 |nil=>rfl
 | cons x l=>
  rw[Lib.join_cons]
  induction l generalizing x with
  |nil=>simp[Lib.joinTail,Nb]
  |cons y l ih=>
   show _=x++c::Nb c (y::l)
   rw[←ih y]
   simp[Lib.joinTail]
def Mq:List (List UInt8)→Nat
 | []=>0
 |x::l=>x.length+Mq l
theorem join_len(c:UInt8):∀l:List (List UInt8),(Nb c l).length≤Mq l+l.length
 | []=>Nat.zero_le _
 | [x]=>by simp[Nb,Mq]
 |x::y::l=>by
  have ih:=join_len c (y::l)
  show(x++c::Nb c (y::l)).length≤x.length+Mq (y::l)+_
  simp only[List.length_append,List.length_cons]at ih ⊢
  omega
theorem sum_quo:∀l:List (List UInt8),Mq (l.map P0)≤3*Mq l+l.length
 | []=>Nat.zero_le _
 |x::l=>by
  have ih:=sum_quo l
  have:=(quo_len x).2
  simp only[List.map_cons,Mq,List.length_cons]
  omega
theorem Cz(l:List (List UInt8)):(Lr l).length≤3*Mq l+2*l.length:=by
 have h1:=join_len 32 (l.map P0)
 have h2:=sum_quo l
 unfold Lr
 rw[List.length_map]at h1
 omega
theorem joinN_len:∀l:List (List UInt8),(R7 l).length=Mq l+l.length
 | []=>rfl
 |x::l=>by
  have ih:=joinN_len l
  rw[joinN_cons]
  simp only[List.length_append,List.length_cons,Mq]
  omega
theorem Wa:∀(l:List (List UInt8)) (k:Nat),Mq (l.take k)≤Mq l
 | [],k=>by simp
 |x::l,0=>by simp[Mq]
 |x::l,k+1=>by
  have ih:=Wa l k
  simp only[List.take_succ_cons,Mq];omega
theorem mem_sum:∀{l:List (List UInt8)} {x:List UInt8},x∈l→x.length≤Mq l
 |y::l,x,h=>by
  simp only[Mq]
  rcases List.mem_cons.1 h with rfl|h
  ·omega
  ·have:=mem_sum h;omega
theorem joinF_take(l:List (List UInt8))(k:Nat):(Lr (l.take k)).length≤3*Mq l+2*l.length:=by
 have h1:=Cz (l.take k)
 have h2:=Wa l k
 have h3:=List.length_take_le k l
 have h4:(l.take k).length≤l.length:=by rw[List.length_take];omega
 omega
theorem joinN_take(l:List (List UInt8))(k:Nat):(R7 (l.take k)).length≤Mq l+l.length:=by
 have h1:=joinN_len (l.take k)
 have h2:=Wa l k
 have h4:(l.take k).length≤l.length:=by rw[List.length_take];omega
 omega
theorem Gi{l:List (List UInt8)}{k:Nat}{x:List UInt8}(h:l[k]? =some x):l.take (k+1)=l.take k++ [x]:=by rw[List.take_add_one,h];rfl
theorem joinN_snoc(l:List (List UInt8))(x:List UInt8):R7 (l++ [x])=R7 l++(x++ [10]):=by simp[R7]
def sv(l:List (List UInt8)):List Value:=l.map K4
def L3(w:World)(A:Option Addr)(n:Nat)(ls:List (List UInt8)):Prop:=ls.length=n∧∀(k:Nat) (s:List UInt8),ls[k]? =some s→∃ad,A=some ad∧w.cell? (ad.add k)=some (K4 s)
theorem K6.strs{w:World}{A:Option Addr}{B n c:Nat}{e:TypeId}{ls:List (List UInt8)}(h:K6 w B e 1 A n c (sv ls)):L3 w A n ls:=by
 have hl:ls.length=n:=by have:=h.len;simpa[sv]using this
 refine⟨hl,fun k s hk=> ?_⟩
 have hj:=(List.getElem?_eq_some_iff.1 hk).1
 obtain⟨g,hg,hc⟩:=h.cells Zo
 have:=hc k (K4 s) (by simp[sv,hk])
 exact⟨_,hg,by rw[Addr.add_mid,Nat.zero_add];exact this⟩
section
variable{w:World}{A y:Option Addr}{n c m yc:Nat}{ls p:List (List UInt8)}{l:List UInt8}{o:Option (List UInt8)}
theorem Xj{B:Nat}{gb:Nat}{s:List UInt8}(ho:K6 w B 9 1 y m yc (sv p))(hB:B≤w.heap.size)(hg:L4 9 #[K4 s] gb w)(hm:m<100000000):
 Ot Tryz.prog w (bl y) (fun z:Option Addr×Nat=> .slice z.1 (m+1) z.2) (fun z v=>K6 v B 9 1 z.1 (m+1) z.2 (sv (p++ [s]))) (M9 66 66 (.slice y m yc) (Kf 1 gb)):=by
 have ha:=O3 (P:=Tryz.prog) (s:=1) (z:= .string ⟨#[]⟩) (bytes:=16) (m:=1) (cc:=1) (t:=66) (elem:=9) Zk Zk rfl Zd ho hB (N5 (n:=1) hg rfl) (by intro v hv;simp at hv;rcases hv with rfl;rfl) Zo Zd
 have e:sv (p++ [s])=sv p++ [K4 s]:=by simp[sv]
 rw[e];exact ha
theorem own_cap{B:Nat}{e:TypeId}{xs:List Value}(h:K6 w B e 1 y n c xs):n≤c∧(0<n→∃g,y=some ⟨g,0,none⟩∧g<w.heap.size):=by
 rcases h.2 with ⟨h1,h2⟩|⟨g,cap,cur,h1,hB,hh,hn,rest⟩
 ·cases h1;exact⟨Nat.le_refl _,fun h=>by omega⟩
 ·cases h1;exact⟨by first|exact hn|omega|exact rest.1,fun _=>⟨g,rfl,(Array.getElem?_eq_some_iff.1 hh).1⟩⟩
theorem join_m{B:Nat}(h:K6 w B 9 1 y n yc (sv p))(hl:(Nb 32 p).length≤100000000)(hn:n≤100000000):Zv 29 #[.slice y n yc,.string ⟨#[32]⟩] w (K4 (Nb 32 p)):=by
 have hs:=h.strs
 have hpn:=hs.1
 obtain⟨h1,h2⟩:=own_cap h
 by_cases h0:n=0
 ·subst h0
  obtain rfl:p=[]:=List.length_eq_zero_iff.1 hpn
  refine(Tryz.strings_Join_none y yc ⟨#[32]⟩ w).mono fun e w' he=>⟨(),he.1,by rw[he.2];exact Below.refl _ _,fun _ _ _=>trivial⟩
 ·obtain⟨g,rfl,hg⟩:=h2 Zo
  have hmap:(p.map fun s=>(⟨s.toArray⟩:ByteArray)).map (fun b=>b.data.toList)=p:=by simp[Function.comp_def]
  have:=Tryz.strings_Join g 0 yc (p.map fun s=>⟨s.toArray⟩) ⟨#[32]⟩ w (fun j x hj=>by
   rw[List.getElem?_map]at hj
   obtain⟨s,h3,rfl⟩:=Option.map_eq_some_iff.1 hj
   obtain⟨ad,h4,h5⟩:=hs.2 j s h3
   injection h4 with h4
   rw[←h4,Addr.add_mid]at h5
   exact h5) hg Zp Zp (by rw[hmap];show(Lib.join p [32]).length≤_;rw[lib_join];omega)
  rw[hmap,List.length_map,hpn]at this
  refine this.mono fun e w' he=>⟨(),?_,he.2,fun _ _ _=>trivial⟩
  rw[he.1]
  show Ending.returned (K4 (Lib.join p [32]))=_
  rw[lib_join]
theorem cut5_m(c:UInt8)(hM:ML w)(hl:l.length≤100000000):Zv 86 #[K4 l,.string ⟨#[c]⟩] w (.tuple #[K4 (Zu c l).1,K4 (Zu c l).2.1,.bool (Zu c l).2.2]):=by
 obtain⟨m,hm⟩:=hM
 refine(Tryz.strings_Cut ⟨l.toArray⟩ ⟨#[c]⟩ m w (show l.length<_ by omega) hm).mono fun e w' h=> ?_
 obtain⟨he,n,hw⟩:=h
 refine⟨(),?_,by rw[hw];exact Mh (Below.refl _ _) n,fun _ _ _=>trivial⟩
 have hc:=lib_cutC c l
 rw[he]
 show Ending.returned (Value.tuple #[K4 (Lib.cut l [c]).1,K4 (Lib.cut l [c]).2.1,.bool (Lib.cut l [c]).2.2])=_
 rw[hc]
theorem suf_m(hl:l.length≤100000000):Zv 43 #[K4 l,.string ⟨#[10]⟩] w (.tuple #[K4 (Lib.trimSuffix l [10]),.bool (Lib.hasSuffix l [10])]):=
 (Tryz.strings_CutSuffix ⟨l.toArray⟩ ⟨#[10]⟩ w (show l.length≤_ by omega)).mono fun e w' h=>⟨(),h.1,by rw[h.2];exact Below.refl _ _,fun _ _ _=>trivial⟩
theorem split_m(c:UInt8)(hM:ML w)(hl:l.length≤100000000):Calls Tryz.prog 44 #[K4 l,.string ⟨#[c]⟩] w (K7 w (fun y:Nat=> .slice (some ⟨y,0,none⟩) (Ki c l).length (Ki c l).length) fun y u=>L3 u (some ⟨y,0,none⟩) (Ki c l).length (Ki c l)):=by
 obtain⟨m,hm⟩:=hM
 refine(Tryz.strings_Split ⟨l.toArray⟩ ⟨#[c]⟩ m w (show l.length<_ by omega) hm (show 1≤1 from Nat.le_refl 1)).mono fun e w' h=> ?_
 obtain⟨he,hw⟩:=h
 have hdat:=Lib.splitB_data ⟨#[c]⟩ 0 (Lib.countB ⟨l.toArray⟩ ⟨#[c]⟩) ⟨l.toArray⟩
 have hsp:Lib.splitK [c] 0 (Lib.count l [c]) l=Ki c l:=lib_split c _ l (Nat.le_refl _)
 have hdat':(Lib.splitB ⟨#[c]⟩ 0 (Lib.countB ⟨l.toArray⟩ ⟨#[c]⟩) ⟨l.toArray⟩).map (·.data.toList)=Ki c l:=hdat.trans hsp
 have hlen:(Ki c l).length=Lib.countB ⟨l.toArray⟩ ⟨#[c]⟩+1:=by
  rw[←hdat',List.length_map]
  exact Lib.splitB_all ⟨#[c]⟩ (show 1≤1 from Nat.le_refl 1) 0 _ _ rfl
 refine⟨w.heap.size,by rw[he,hlen],by rw[hw];exact Uz _ _,fun w'' h1 h2=>⟨rfl,fun k s hk=>⟨_,rfl,?_⟩⟩⟩
 rw[hw]at h1 h2
 obtain⟨h3,_⟩:=Vk w _ h1 h2
 rw[←hdat',List.getElem?_map]at hk
 obtain⟨b,hb,rfl⟩:=Option.map_eq_some_iff.1 hk
 rw[Addr.add_mid,Nat.zero_add]
 simp only[World.cell?,h3,Option.isSome_none,Bool.false_eq_true,if_false]
 simp[hb,K4]
theorem Zc(hs:L3 w A n ls)(hn:ls.length≤2000000)(ht:Mq ls≤2000000):Zv 15 #[.slice A n c] w (K4 (Lr ls)):=by
 have hln:=hs.1
 have hjl:=Cz ls
 refine K0.enter Tryz.func15 rfl <| ZR <| K0.loop (ι:={q:Nat×(Option Addr×Nat) // q.1≤n}) 20 (fun q=>⟨[(0,.v (.slice A n c)),(3,.v (.slice q.1.2.1 q.1.1 q.1.2.2)),(6,.v (.slice A n c)),(7,.v (Zi n)),(8,.v (Zi q.1.1))],[]⟩) (fun q u=>K6 u w.heap.size 9 1 q.1.2.1 q.1.1 q.1.2.2 (sv ((ls.take q.1.1).map P0))) (fun q=>n-q.1.1) (⟨(0,none,0),Nat.zero_le _⟩) Zk (fun _=>by kernel_rfl) ⟨Zk,Zk,Zk⟩ (fun u h=>K6.nil_) ?_
 rintro⟨⟨m,y,yc⟩,hk⟩ gg
 have hk1:m≤n:=hk
 by_cases hlt:m<n
 ·refine ZR <| ZJ (decide ((m:Int)<(n:Int))) true Zp ?_
  obtain⟨s,hsk⟩:∃s,ls[m]? =some s:=⟨_,List.getElem?_eq_getElem (by rw[hln];exact hlt)⟩
  obtain⟨ad,hA,hcell⟩:=hs.2 m s hsk
  have hsl:=mem_sum (List.mem_of_getElem? hsk)
  obtain⟨p,hp⟩:∃p,p=(ls.take m).map P0:=⟨_,rfl⟩
  have hp2:(ls.take (m+1)).map P0=p++ [P0 s]:=by rw[Gi hsk,List.map_append,hp];rfl
  refine ZA (Kj 66 (.slice A n c) m) (.pointer (some (ad.add m))) (fun w1 hw h=>by rw[hA];exact Kn (elem:=9) Zk Zk hlt) <| ZA (L5 9 (ad.add m)) (K4 s) (fun w1 hw h=>K8 Zk (Lc hw hcell)) <| ZD 3 (fun w1 hw h=>quote_m (l:=s) Zo) fun u=>K0.make (Lq 66 1 #[(0,K4 (P0 s))]) (Kf 1) (L4 9 #[K4 (P0 s)]) Zk (fun w1 hw h=>Kc Zk) fun gb=>ZS 4 <| K0.mutOp (L:=bl y) (val:=fun(z:Option Addr×Nat)=> .slice z.1 (m+1) z.2) (Φ':=fun(z:Option Addr×Nat) v=>K6 v w.heap.size 9 1 z.1 (m+1) z.2 (sv (p++ [P0 s]))) (G:=fun(z:Option Addr×Nat) v=>K6 v w.heap.size 9 1 z.1 (m+1) z.2 (sv (p++ [P0 s]))) (M9 66 66 (.slice y m yc) (Kf 1 gb)) (fun w1 hw h=>by have ho:K6 w1 w.heap.size 9 1 y m yc (sv p):=by{rw[hp];exact h.1.1};exact Xj ho hw.size h.2 (show m<100000000 from by omega)) (fun w1 h=>fun b hb=>⟨((show K6 w1 w.heap.size 9 1 y m yc (sv ((ls.take m).map P0))from h.1.1).lt b hb).1,((show K6 w1 w.heap.size 9 1 y m yc (sv ((ls.take m).map P0))from h.1.1).blk b hb).2⟩) (fun z wa w1 e1 e2 h hG=>hG) Zk Zk fun z=>ZR <| K0.slot 8 (Zi (IntKind.i64.wrap ((m:Int)+1))) (Zi ((m+1:Nat):Int)) Zk (by rw[Kd hlt Zo]) <| K0.next (⟨(m+1,z),by show m+1≤n;omega⟩) Zk (by show n- (m+1)<n-m;omega) ⟨Zk,Zk,Zk⟩ (fun _ h=>by show K6 _ _ _ _ _ _ _ (sv ((ls.take (m+1)).map P0));rw[hp2];exact h)
 ·refine ZR <| ZJ (decide ((m:Int)<(n:Int))) false Zp ?_
  obtain rfl:m=n:=by omega
  have hfull:ls.take m=ls:=List.take_of_length_le Zo
  exact K0.leave Zk <| ZR <| ZC (fun w1 hw h=>join_m (p:=ls.map P0) (by rw[←hfull];exact h) (by show(Lr ls).length≤_;omega) (show m≤100000000 from by omega)) fun u=>ZW (K4 (Nb 32 (ls.map P0)))
theorem joinLines_m(hs:L3 w A n ls)(hn:ls.length≤5000000)(ht:Mq ls≤90000000):Zv 19 #[.slice A n c] w (K4 (R7 ls)):=by
 have hln:=hs.1
 refine K0.enter Tryz.func19 rfl <| ZS 0 <| K0.run Zk (stop:=1000) 1 _ <| ZS 0 <| K0.make (Aq 95) (Ud) (fun g u=>BAt w g [] u) Zk (fun w1 hw h=>make_bld hw.size) fun g=>ZR <| K0.loop (ι:={q:Nat // q≤n}) 17 (fun q=>⟨[(0,.v (.slice A n c)),(3,.v (Ud g)),(6,.v (.slice A n c)),(7,.v (Zi n)),(8,.v (Zi q.1))],[]⟩) (fun q u=>BAt w g (R7 (ls.take q.1)) u) (fun q=>n-q.1) (⟨0,Nat.zero_le _⟩) Zk (fun _=>by kernel_rfl) ⟨Zk,Zk,Zk⟩ (fun u h=>h.2) ?_
 rintro⟨m,hk⟩ gg
 by_cases hlt:m<n
 ·refine ZR <| ZJ (decide ((m:Int)<(n:Int))) true Zp ?_
  obtain⟨s,hsk⟩:∃s,ls[m]? =some s:=⟨_,List.getElem?_eq_getElem (by rw[hln];exact hlt)⟩
  obtain⟨ad,hA,hcell⟩:=hs.2 m s hsk
  have hsl:=mem_sum (List.mem_of_getElem? hsk)
  have hjt:=joinN_take ls (m+1)
  rw[Gi hsk,joinN_snoc,List.length_append,List.length_append,List.length_singleton]at hjt
  refine ZA (Kj 66 (.slice A n c) m) (.pointer (some (ad.add m))) (fun w1 hw h=>by rw[hA];exact Kn (elem:=9) Zk Zk hlt) <| K0.ask (L5 9 (ad.add m)) (K4 s) Zk (fun w1 hw h=>K8 Zk (Lc hw hcell)) <| ZS 0 <| K0.run Zk (stop:=1000) 1 _ <| ZS 1 <| ZA (Qf .add 9 (.tmp 12) (.const (.string ⟨#[10]⟩)) (K4 s) (K4 [10])) (K4 (s++ [10])) (fun w1 hw h=>B9 Zp) <| K0.callB (val:=fun _=> .tuple #[Zi (s++ [10]).length,.nilIface]) (Φ':=fun(_:Unit) u=>BAt w g (R7 (ls.take m)++(s++ [10])) u) (fun w1 hw h=>wstr_m (l:=s++ [10]) hw h (by show(R7 (ls.take m)).length+_≤_;simp only[List.length_append,List.length_singleton];omega)) Zk Zk Zk fun _=>ZR <| K0.slot 8 (Zi (IntKind.i64.wrap ((m:Int)+1))) (Zi ((m+1:Nat):Int)) Zk (by rw[Kd hlt Zo]) <| K0.next (⟨m+1,by show m+1≤n;omega⟩) Zk (by show n- (m+1)<n-m;omega) ⟨Zk,Zk,Zk⟩ (fun _ h=>by show BAt w g (R7 (ls.take (m+1))) _;rw[Gi hsk,joinN_snoc];exact h)
 ·refine ZR <| ZJ (decide ((m:Int)<(n:Int))) false Zp ?_
  have hfull:ls.take m=ls:=List.take_of_length_le Zo
  exact K0.leave Zk <| ZR <| K0.callB (val:=fun _=>K4 (R7 ls)) (Φ':=fun(_:Unit) u=>True) (fun w1 hw h=>bstr_m hw (by rw[←hfull];exact h)) Zk Zk Zk fun _=>ZR <| ZW (K4 (R7 ls))
end
def inScopeC(c:Nn):Option Nn:=match c.foc with
 | .code (.scope x)=>match c.k with
  | []=>some ⟨.code x,[],c.st⟩
  |_=>none
 |_=>none
def amScope(c:Nn):Nn:=(inScopeC c).getD c
theorem K0.scope{P:Program}{Δ:List Deferred}{W:World}{fn:Func}{R:Ending→World→Prop}{Φ:World→Prop}{c:Nn}(hc:(inScopeC c).isSome=true)(h:K0 P Δ W (bodyPost P fn R) Φ (amScope c)):K0 P Δ W (bodyPost P fn R) Φ c:=by
 obtain⟨foc,k,σ⟩:=c
 unfold amScope at h
 unfold inScopeC at hc h
 simp only at hc h
 split at hc
 ·rename_i x
  split at hc
  ·replace h:=h.get
   refine⟨fun hwf β a w hr=>wp_scope_straight (wp_mono (h hwf β a w hr) fun e a w hq=> ?_)⟩
   cases e<;>first|exact hq|exact hq.elim
  ·cases hc
 ·cases hc
section
variable{w:World}{l:List UInt8}{o:Option (List UInt8)}
theorem unq_n(h:Z1 l=none)(hl:l.length≤90000000):Zv 87 #[K4 l] w (.tuple #[K4 [],Zi 3]):=unquote_m h hl
theorem unq_s{s:List UInt8}(h:Z1 l=some s)(hl:l.length≤90000000):Zv 87 #[K4 l] w (.tuple #[K4 s,Zi 0]):=unquote_m h hl
theorem cut5_v{c:UInt8}{x r:List UInt8}{b:Bool}(h:Zu c l=(x,r,b))(hM:ML w)(hl:l.length≤100000000):Zv 86 #[K4 l,.string ⟨#[c]⟩] w (.tuple #[K4 x,K4 r,.bool b]):=by
 have:=cut5_m (w:=w) (l:=l) c hM hl
 rw[h]at this;exact this
theorem Hw{x:List UInt8}{t:List (List UInt8)}:Vm (x::t)=((Z1 x).isSome&&Vm t):=rfl
theorem I0{x s:List UInt8}{t:List (List UInt8)}(h:Z1 x=some s):Lx (x::t)=s::Lx t:=by rw[Lx,h]
theorem unqAll_none{x:List UInt8}{t:List (List UInt8)}(h:Z1 x=none):Lx (x::t)=[]:=by rw[Lx,h]
def fldV(B:Bool)(ps:List (List UInt8))(y:Option Addr×Nat):Value:=match B with
 |true=> .tuple #[.slice y.1 ps.length y.2,.int .i64 0,.int .i64 0]
 |false=> .tuple #[.slice none 0 0,.int .i64 ps.length,.int .i64 3]
def fldG(B:Bool)(ps:List (List UInt8))(y:Option Addr×Nat)(u:World):Prop:=match B with
 |true=>L3 u y.1 ps.length ps∧ps.length≤y.2
 |false=>True
theorem Cc(c:UInt8):∀(l:List UInt8),∀x∈Ki c l,x.length≤l.length
 | [],x,h=>by simp[Ki]at h;subst h;exact Nat.le_refl _
 | b::l,x,h=>by
  have ih:=Cc c l
  rw[Ki]at h
  split at h
  ·rcases List.mem_cons.1 h with rfl|h
   ·simp
   ·have:=ih x h;simp only[List.length_cons];omega
  ·cases hs:Ki c l with
   |nil=>exact absurd hs (Z5 c l)
   |cons y t=>
    rw[hs]at h ih
    rcases List.mem_cons.1 h with rfl|h
    ·have:=ih y Zs;simp only[List.length_cons];omega
    ·have:=ih x (by simp[h]);simp only[List.length_cons];omega
theorem strAt_nil:L3 w none 0 []:=⟨rfl,fun k s h=>by simp at h⟩
theorem Xq{B:Bool}{ps:List (List UInt8)}(hM:ML w)(hB:Vm (L9 l)=B)(hps:Lx (L9 l)=ps)(hl:l.length≤10000000):Calls Tryz.prog 52 #[K4 l] w (K7 w (fun y:Option Addr×Nat=>fldV B ps y) fun y u=>fldG B ps y u):=by
 by_cases h0:l=[]
 ·subst h0
  obtain rfl:B=true:=by rw[←hB];rfl
  obtain rfl:ps=[]:=by rw[←hps];rfl
  refine K0.enter Tryz.func52 rfl <| ZR <| K0.scope Zk <| ZR <| K0.loop (ι:=Unit) 39 (fun _=>⟨[(0,.v (K4 [])),(5,.v (.slice none 0 0))],[]⟩) (fun _ _=>True) (fun _=>0) (()) Zk (fun _=>by kernel_rfl) ⟨Zk,Zk,Zk⟩ (fun _ _=>trivial) ?_
  rintro⟨⟩ g
  refine ZS 1 <| ZA (Qf .neq 9 (.tmp 13) (.const (.string ⟨#[]⟩)) (K4 []) (K4 [])) Zf (fun w1 hw h=>Z7 Zs) <| ZI false <| K0.leave Zk <| ZR <| ZV (.tuple #[.slice none 0 0,Zi 0,Zi 0]) (fun w1 hw h=>⟨(none,0),rfl,hw,fun _ _ _=>⟨strAt_nil,Nat.le_refl _⟩⟩)
 have hw0:L9 l=Ki 32 l:=if_neg h0
 rw[hw0]at hB hps
 refine K0.enter Tryz.func52 rfl <| ZR <| K0.scope Zk <| ZR <| K0.loop (ι:={q:(List UInt8×Nat×List (List UInt8))×(Option Addr×Nat) // q.1.2.1+q.1.1.length≤l.length∧Lx (Ki 32 l)=q.1.2.2++Lx (Ki 32 q.1.1)∧Vm (Ki 32 l)=Vm (Ki 32 q.1.1)∧q.1.2.2.length=q.1.2.1}) 39 (fun q=>⟨[(0,.v (K4 l)),(5,.v (.slice q.1.2.1 q.1.1.2.1 q.1.2.2)),(6,.v (K4 q.1.1.1))],[]⟩) (fun q u=>K6 u w.heap.size 9 1 q.1.2.1 q.1.1.2.1 q.1.2.2 (sv q.1.1.2.2)) (fun q=>q.1.1.1.length) (⟨((l,0,[]),(none,0)),by simp,by simp,rfl,rfl⟩) Zk (fun _=>by kernel_rfl) ⟨Zk,Zk,Zk⟩ (fun u h=>K6.nil_) ?_
 rintro⟨⟨⟨r,m,p⟩,y,yc⟩,hk⟩ g
 have hk1:m+r.length≤l.length:=hk.1
 have hk2:Lx (Ki 32 l)=p++Lx (Ki 32 r):=hk.2.1
 have hk3:Vm (Ki 32 l)=Vm (Ki 32 r):=hk.2.2.1
 have hk4:p.length=m:=hk.2.2.2
 obtain⟨x,r2,b,hcut⟩:∃x r2 b,Zu 32 r=(x,r2,b):=⟨_,_,_,rfl⟩
 have hxl:x.length≤r.length:=by
  cases b
  ·have h1:=Fx 32 (l:=r) (by rw[hcut]);rw[hcut]at h1;have h2:x=r:=h1.2;rw[h2];exact Nat.le_refl _
  ·have h1:=Fv 32 (l:=r) (by rw[hcut]);rw[hcut]at h1;have h2:x.length+r2.length+1=r.length:=h1.2;omega
 have hsp:∃t,Ki 32 r=x::t:=by
  cases b
  ·have h1:=Fx 32 (l:=r) (by rw[hcut]);rw[hcut]at h1;have h2:x=r:=h1.2;exact⟨[],by rw[h1.1,h2]⟩
  ·have h1:=Fv 32 (l:=r) (by rw[hcut]);rw[hcut]at h1;exact⟨_,h1.1⟩
 refine ZS 1 <| ZA (Qf .neq 9 (.tmp 13) (.const (.string ⟨#[]⟩)) (K4 l) (K4 [])) Zt (fun w1 hw h=>Z7 (by simpa using h0)) <| ZI true <| ZC (fun w1 hw h=>cut5_v hcut (hM.below hw) (show r.length≤_ from by omega)) fun u=> ?_
 cases hu:Z1 x with
 |none=>
  obtain⟨t,ht⟩:=hsp
  obtain rfl:B=false:=by rw[←hB,hk3,ht,Hw,hu];rfl
  obtain rfl:ps=p:=by rw[←hps,hk2,ht,unqAll_none hu,List.append_nil]
  refine ZC (fun w1 hw h=>unq_n hu Zo) fun u=>ZI true <| K0.leave Zk <| ZR <| ZV (.tuple #[.slice none 0 0,Zi m,Zi 3]) (fun w1 hw h=>⟨(none,0),by rw[←hk4];rfl,hw,fun _ _ _=>trivial⟩)
 | some s=>
  refine ZC (fun w1 hw h=>unq_s hu Zo) fun u=>K0.cond false Zk <| ZS 2 <| K0.make (Lq 66 1 #[(0,K4 s)]) (Kf 1) (L4 9 #[K4 s]) Zk (fun w1 hw h=>Kc Zk) fun gb=>ZS 3 <| K0.mutOp (L:=bl y) (val:=fun(z:Option Addr×Nat)=> .slice z.1 (m+1) z.2) (Φ':=fun(z:Option Addr×Nat) v=>K6 v w.heap.size 9 1 z.1 (m+1) z.2 (sv (p++ [s]))) (G:=fun(z:Option Addr×Nat) v=>K6 v w.heap.size 9 1 z.1 (m+1) z.2 (sv (p++ [s]))) (M9 66 66 (.slice y m yc) (Kf 1 gb)) (fun w1 hw h=>by have ho:K6 w1 w.heap.size 9 1 y m yc (sv p):=h.1.1.1;exact Xj ho hw.size h.2 (show m<100000000 from by omega)) (fun w1 h=>fun b hb=>⟨((show K6 w1 w.heap.size 9 1 y m yc (sv p)from h.1.1.1).lt b hb).1,((show K6 w1 w.heap.size 9 1 y m yc (sv p)from h.1.1.1).blk b hb).2⟩) (fun z wa w1 e1 e2 h hG=>hG) Zk Zk fun z=>ZR ?_
  cases b
  ·have h1:=Fx 32 (l:=r) (by rw[hcut])
   rw[hcut]at h1
   have hx:x=r:=h1.2
   have h1':Ki 32 r=[x]:=by rw[h1.1,hx]
   obtain rfl:B=true:=by rw[←hB,hk3,h1',Hw,hu];rfl
   obtain rfl:ps=p++ [s]:=by rw[←hps,hk2,h1',I0 hu];rfl
   refine ZI true <| K0.leave Zk <| ZR <| ZV (.tuple #[.slice z.1 (m+1) z.2,Zi 0,Zi 0]) (fun w1 hw h=>⟨z,by show _=Ending.returned (Value.tuple #[.slice z.1 (p++ [s]).length z.2,Zi 0,Zi 0]);rw[List.length_append,hk4];rfl,hw,fun w'' k1 k2=>by have hh:K6 w'' w.heap.size 9 1 z.1 (m+1) z.2 (sv (p++ [s])):=h w'' k1 k2;have h9:=hh.strs;have hc:=(own_cap hh).1;show L3 w'' z.1 (p++ [s]).length (p++ [s])∧(p++ [s]).length≤z.2;rw[h9.1];exact⟨h9,hc⟩⟩)
  ·have h1:=Fv 32 (l:=r) (by rw[hcut])
   rw[hcut]at h1
   have h1a:Ki 32 r=x::Ki 32 r2:=h1.1
   have h1b:x.length+r2.length+1=r.length:=h1.2
   refine ZI false <| K0.next (⟨((r2,m+1,p++ [s]),z),by show m+1+r2.length≤l.length;omega,by show _=(p++ [s])++Lx (Ki 32 r2);rw[hk2,h1a,I0 hu];simp,by show _=Vm (Ki 32 r2);rw[hk3,h1a,Hw,hu];rfl,by simp[hk4]⟩) Zk (by show r2.length<r.length;omega) ⟨Zk,Zk,Zk⟩ (fun _ h=>h)
theorem sf_s(hM:ML w)(hB:Vm (L9 l)=true)(hl:l.length≤10000000):Calls Tryz.prog 52 #[K4 l] w (K7 w (fun y:Option Addr×Nat=> .tuple #[.slice y.1 (Lx (L9 l)).length y.2,Zi 0,Zi 0]) fun y u=>L3 u y.1 (Lx (L9 l)).length (Lx (L9 l))):=(Xq hM hB rfl hl).mono fun e w' k=>k.cast fun y u h=>(show _∧_ from h).1
theorem sf_n(hM:ML w)(hB:Vm (L9 l)=false)(hl:l.length≤10000000):Calls Tryz.prog 52 #[K4 l] w (K7 w (fun _:Option Addr×Nat=> .tuple #[.slice none 0 0,Zi (Lx (L9 l)).length,Zi 3]) fun _ _=>True):=Xq hM hB rfl hl
end
theorem ok_dec{l:List UInt8}(h0:l≠[]):okN l=Lib.hasSuffix l [10]:=by
 obtain⟨m,b,rfl⟩:∃m b,l=m++ [b]:=⟨l.dropLast,l.getLast h0,(List.dropLast_concat_getLast h0).symm⟩
 unfold okN Lib.hasSuffix
 rw[List.getLast?_concat]
 by_cases hb:b=10
 ·subst hb
  have h1:([10]:List UInt8).isSuffixOf (m++ [10])=true:=List.isSuffixOf_iff_suffix.2 ⟨m,rfl⟩
  rw[h1];simp
 ·have h1:([10]:List UInt8).isSuffixOf (m++ [b])=false:=by
   cases hs:([10]:List UInt8).isSuffixOf (m++ [b])
   ·rfl
   ·obtain⟨t,ht⟩:=List.isSuffixOf_iff_suffix.1 hs
    have:=congrArg List.getLast? ht
    rw[List.getLast?_concat,List.getLast?_concat]at this
    injection this with this
    exact absurd this.symm hb
  rw[h1];simp[hb]
theorem trim_ok{l:List UInt8}(h0:l≠[])(h:okN l=true):Lib.trimSuffix l [10]=l.dropLast:=by
 unfold Lib.trimSuffix
 rw[←ok_dec h0,h,if_pos rfl,List.dropLast_eq_take];rfl
def slH(t:TypeId)(s:Value)(i:Int):Sem Next:=Instr.sliceAt t s none (some (Zi i)) none >>= fun v=>pure (.value v)
section
variable{w:World}{l:List UInt8}{A A2:Option Addr}{n n2 c c2:Nat}{xs bs ls:List (List UInt8)}
def Calls_suf(l:List UInt8):Prop:=∀w,Zv 43 #[K4 l,.string ⟨#[10]⟩] w (.tuple #[K4 l.dropLast,.bool true])
theorem run_slH{P:Program}{t e:TypeId}{g n c i:Nat}(ht:P.underlying t=some (.slice e))(he:P.elem t=e)(hs:Nz P e=some 1)(hi:i≤c):(slH t (.slice (some ⟨g,0,none⟩) n c) i).run P w= .ok (.value (.slice (some ⟨g,0,none⟩) i c)) w:=by
 have h1:=run_slice_h (P:=P) w t (some ⟨g,0,none⟩) n c (by rw[he];exact ht) .i64 i Zo Zo
 have h2:=run_sliceAt_slice (P:=P) w t (.slice (some ⟨g,0,none⟩) n c) none (some (Zi i)) none (by rw[he];exact ht)
 simp only[slH,Sem.run_bind,h2,h1,he,Lf hs,Result.andThen_ok,Sem.run_pure]
 simp[sliced,Addr.add]
theorem sl_s(hM:ML w)(hB:okN l=true)(hl:l.length≤10000000):Calls Tryz.prog 22 #[K4 l] w (K7 w (fun y:Option Addr×Nat=> .tuple #[.slice y.1 (Nq l).length y.2,Zi 0]) fun y u=>L3 u y.1 (Nq l).length (Nq l)):=by
 refine K0.enter Tryz.func22 rfl <| ZS 1 <| K0.run Zk (stop:=1000) 1 _ <| ZS 1 ?_
 by_cases h0:l=[]
 ·subst h0
  refine ZA (Qf .eql 9 (.tmp 6) (.const (.string ⟨#[]⟩)) (K4 []) (K4 [])) Zt (fun w1 hw h=>Ks Zs) <| ZI true <| ZV (.tuple #[.slice none 0 0,Zi 0]) (fun w1 hw h=>⟨(none,0),rfl,hw,fun _ _ _=>strAt_nil⟩)
 have e1:=ok_dec h0
 have e2:=trim_ok h0 hB
 have e3:Nq l=Ki 10 l.dropLast:=if_neg h0
 rw[hB]at e1
 have hsuf:Calls_suf l:=fun w=>by have:=suf_m (w:=w) (l:=l) Zo;rw[e2,←e1]at this;exact this
 refine ZA (Qf .eql 9 (.tmp 6) (.const (.string ⟨#[]⟩)) (K4 l) (K4 [])) Zf (fun w1 hw h=>Ks (by simpa using h0)) <| ZI false <| ZC (fun w1 hw h=>hsuf w1) fun u=>ZI false <| ZC (fun w1 hw h=>split_m 10 (l:=l.dropLast) (hM.below hw) Zp) fun g=>ZV (.tuple #[.slice (some ⟨g,0,none⟩) (Ki 10 l.dropLast).length (Ki 10 l.dropLast).length,Zi 0]) (fun w1 hw h=>⟨(some ⟨g,0,none⟩,(Ki 10 l.dropLast).length),by rw[e3],hw,fun w'' k1 k2=>by rw[e3];exact(h w'' k1 k2).2⟩)
end
end Go.Proofs.YtoeiphicmcndlaaGreatDoor
