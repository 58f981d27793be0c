/-
 A part of the proof.
-/
import Derived.Test.YtpgkbllcnphmbaaGreatDoorBBf
namespace Go.Proofs.YtpgkbllcnphmbaaGreatDoor
set_option maxRecDepth 100000
set_option maxHeartbeats 8000000
set_option linter.unusedVariables false
set_option linter.unusedSimpArgs false
open Go.RowKit
def slH(t:TypeId)(s:Value)(i:Int):Sem Next:=Instr.sliceAt t s none (some (.int .i64 i)) none >>= fun v=>pure (.value v)
def slL(t:TypeId)(s:Value)(i:Int):Sem Next:=Instr.sliceAt t s (some (.int .i64 i)) none none >>= fun v=>pure (.value v)
def clrS(t ty:TypeId)(s:Value):Sem Next:=Builtin.clear_ #[t] ty #[s] >>= fun v=>pure (.value v)
section
variable{P:Program}{w:World}{g n c i s j:Nat}{t e ty:TypeId}{A:Option Addr}{z:Value}
theorem E6(ht:P.underlying t=some (.slice e))(he:P.elem t=e)(hs:N8 P e=some s)(hi:i≤c):(slH t (.slice (some ⟨g,0,none⟩) n c) i).run P w= .ok (.value (.slice (some ⟨g,0,none⟩) i c)) w:=by
 have h1:=run_slice_h (P:=P) w t (some ⟨g,0,none⟩) n c (by rw[he];exact ht) .i64 i Zo Zo
 have h2:=run_sliceAt_slice (P:=P) w t (.slice (some ⟨g,0,none⟩) n c) none (some (.int .i64 i)) none (by rw[he];exact ht)
 simp only[slH,Sem.run_bind,h2,h1,he,Lf hs,Result.andThen_ok,Sem.run_pure]
 simp[sliced,Addr.add]
theorem E5(ht:P.underlying t=some (.slice e))(he:P.elem t=e)(hs:N8 P e=some s)(hi:i<c)(hn:i≤n):(slL t (.slice (some ⟨g,0,none⟩) n c) i).run P w= .ok (.value (.slice (some ⟨g,i*s,none⟩) (n-i) (c-i))) w:=by
 have h1:=run_slice_l (P:=P) w t (some ⟨g,0,none⟩) n c (by rw[he];exact ht) .i64 i Zo Zo
 have h2:=run_sliceAt_slice (P:=P) w t (.slice (some ⟨g,0,none⟩) n c) (some (.int .i64 i)) none none (by rw[he];exact ht)
 simp only[slL,Sem.run_bind,h2,h1,he,Lf hs,Result.andThen_ok,Sem.run_pure]
 have:c≠i:=by omega
 simp[sliced,this,Addr.add_mid]
theorem E7{elem:TypeId}{off k:Nat}(hu:P.underlying t=some (.slice elem))(hs:N8 P elem=some s)(hk:k<n):(Kc t (.slice (some ⟨g,off,none⟩) n c) k).run P w= .ok (.value (.pointer (some ⟨g,off+k*s,none⟩))) w:=by
 have:=Lg (P:=P) (w:=w) (ad:=⟨g,off,none⟩) (n:=n) (c:=c) hu hs hk
 rw[Addr.add_mid]at this;exact this
theorem K6.storeL{B:Nat}{xs vs:List Value}(h:K6 w B e s (some ⟨g,0,none⟩) n c xs)(hj:j+vs.length≤xs.length)(h1:∀u∈vs,u.oneCell'=true):
 ∃w',(storeCells ⟨g,j,none⟩ vs 0).run P w= .ok () w'∧Ga [g] w w'∧∀w'',w'.heap.size≤w''.heap.size→(∀b∈[g],w''.heap[b]? =w'.heap[b]?)→K6 w'' B e s (some ⟨g,0,none⟩) n c (xs.take j++vs++xs.drop (j+vs.length)):=by
 obtain⟨hl,hx⟩:=h
 rcases hx with ⟨h2,_⟩|⟨g',cap,cur,h2,hB,hh,hc,hm,hs,ht⟩
 ·cases h2
 injection h2 with h2 _ h3
 injection h2 with h2
 injection h2 with h2 _ _
 subst h2;subst h3
 have hcl:xs.length≤cur.size:=by rw[hl,hs];exact Nat.mul_le_mul_right _ hc
 have hcur:cur.toList=xs++cur.toList.drop xs.length:=by
  rw[←ht,List.length_take,Nat.min_eq_left (by rw[hl]at hcl;simpa using hcl),List.take_append_drop]
 have hst:=run_storeCells_at P g j e vs 0 cur w hh Zo h1
 rw[Nat.add_zero]at hst
 have hnew:cur.toList.take j++vs++cur.toList.drop (j+vs.length)=(xs.take j++vs++xs.drop (j+vs.length))++cur.toList.drop xs.length:=by
  rw[hcur,List.take_append_of_le_length Zo,List.drop_append_of_le_length Zo]
  simp
 have hlen:(xs.take j++vs++xs.drop (j+vs.length)).length=n*s:=by
  simp only[List.length_append,List.length_take,List.length_drop];omega
 rw[hnew]at hst
 refine⟨w.setRow g ((xs.take j++vs++xs.drop (j+vs.length))++cur.toList.drop xs.length).toArray,hst,⟨rfl,rfl,rfl,by rw[O5];exact Nat.le_refl _,fun k _ hk=>Nj _ _ _ _ (by simpa using hk)⟩,fun w'' k1 k2=>⟨hlen,.inr ⟨g,c,((xs.take j++vs++xs.drop (j+vs.length))++cur.toList.drop xs.length).toArray,rfl,hB,?_,hc,hm,?_,?_⟩⟩⟩
 ·rw[k2 g Zs]
  simp only[World.setRow,Array.getElem?_modify,if_true,hh,Option.map_some]
 ·simp only[List.size_toArray,List.length_append,List.length_take,List.length_drop,Array.length_toList]
  omega
 ·show List.take (n*s) ((xs.take j++vs++xs.drop (j+vs.length))++cur.toList.drop xs.length)=_
  rw[←hlen,List.take_left]
theorem K6.storeN{B:Nat}{xs:List Value}{v:Value}(h:K6 w B e s (some ⟨g,0,none⟩) n c xs)(hn:N8 P t=some v.cells.toList.length)(hj:j+v.cells.toList.length≤xs.length)(h1:∀u∈v.cells.toList,u.oneCell'=true):
 ∃w',(Rm t ⟨g,j,none⟩ v).run P w= .ok .skip w'∧Ga [g] w w'∧∀w'',w'.heap.size≤w''.heap.size→(∀b∈[g],w''.heap[b]? =w'.heap[b]?)→K6 w'' B e s (some ⟨g,0,none⟩) n c (xs.take j++v.cells.toList++xs.drop (j+v.cells.toList.length)):=by
 obtain⟨w',k1,k2,k3⟩:=h.storeL (P:=P) hj h1
 refine⟨w',?_,k2,k3⟩
 simp only[Rm,Instr.storeAt,Instr.sureAddr,storeVar,Sem.run_bind,Sem.run_pure,Result.andThen_ok,Lf hn]
 rw[if_neg Zs]
 simp only[k1,Sem.run_pure,Sem.run_bind,Result.andThen_ok]
end
section
variable{w W:World}{g gc n c B K K1 K2:Nat}{l:List RQ}{a b:RV}{p q:Rat}
theorem cmpQ_eq0:(Kk p q==0)=decide (p=q):=by
 unfold Kk
 by_cases h:p<q
 ·rw[if_pos h,decide_eq_false (by grind)];rfl
 ·rw[if_neg h]
  by_cases h2:p=q
  ·rw[if_pos h2,decide_eq_true h2];rfl
  ·rw[if_neg h2,decide_eq_false h2];rfl
abbrev Fd:Value:= .func (.func 56) #[] #[]
theorem eq_m(ha:Ox a p K1 w)(hb:Ox b q K2 w)(hK:2≤K1∧2≤K2∧K1+K2≤68719476736)(hc:Kb w gc 125 [Fd]):Calls Tryz.prog 244 #[a.val,b.val,Ku gc] w (K3 w (fun _:Unit=> .bool (decide (p=q))) fun _ _=>True):=by
 refine K0.enter Tryz.func244 rfl ?_
 refine ZR ?_
 refine ZA (Kd 125 ⟨gc,0,none⟩) (Fd) (fun w1 hw h=>(hc.below hw).load1 Zk) ?_
 refine ZC (fun w1 hw h=>Lq (ha.below hw) (hb.below hw) hK) fun u=> ?_
 exact ZX (.bool (Kk p q==0)) (by rw[cmpQ_eq0])
def Kn(W w:World)(g:Nat)(u:World):Prop:=w.heap.size≤u.heap.size∧∀b,W.heap.size≤b→b<w.heap.size→b≠g→u.heap[b]? =w.heap[b]?
theorem Kn.old{u:World}(h:Kn W w g u)(hW:Below W.heap.size W w)(hu:Below W.heap.size W u):∀b,b<w.heap.size→b≠g→u.heap[b]? =w.heap[b]? :=fun b h1 h2=>by
 rcases Nat.lt_or_ge b W.heap.size with h3|h3
 ·rw[hu.block b h3,hW.block b h3]
 ·exact h.2 b h3 h1 h2
theorem Kn.chg{u:World}(h:Kn W w g u)(hW:Below W.heap.size W w)(hu:Below W.heap.size W u):Ga [g] w u:=
 ⟨hu.os.trans hW.os.symm,hu.tape.trans hW.tape.symm,hu.output.trans hW.output.symm,h.1,fun b hb hbg=>h.old hW hu b hb (by simpa using hbg)⟩
theorem Kn.left{u wa:World}(h:Kn W w g wa)(e1:wa.heap.size=u.heap.size)(e2:∀b,b∉[g]→wa.heap[b]? =u.heap[b]?):Kn W w g u:=
 ⟨by rw[←e1];exact h.1,fun b h1 h2 h3=>(e2 b (by simpa using h3)).symm.trans (h.2 b h1 h2 h3)⟩
theorem Nz{r:RV}{q:Rat}(h:Kh r q K w):∀b∈Ln r,b<w.heap.size:=fun b hb=>by
 have:∃cs ty own,w.heap[b]? =some (.cells cs ty own):=by
  rcases List.mem_append.1 hb with hb|hb
  ·exact(h.1.2.2.2.blk b hb).2
  ·exact(h.2.2.2.2.blk b hb).2
 obtain⟨_,_,_,hh⟩:=this
 exact(Array.getElem?_eq_some_iff.1 hh).1
theorem Kn.fr{u:World}{z:RQ}(h:Kn W w g u)(hW:Below W.heap.size W w)(hu:Below W.heap.size W u)(hq:Kh z.1 z.2 K w)(hd:g∉Ln z.1):Kh z.1 z.2 K u:=
 hq.same h.1 fun b hb=>h.old hW hu b (Nz hq b hb) fun e=>hd (e▸hb)
theorem Ba{u:World}{L:List RQ}{k:Nat}{x:RQ}(h:K6 u B 26 4 (some ⟨g,0,none⟩) n c (L.flatMap Nx))(h0:0<n)(hx:L[k]? =some x):u.rangeAt g (k*4) x.1.cl:=fun j v hv=>by
 obtain⟨g',h1,h2⟩:=h.cells h0
 injection h1 with h1
 injection h1 with h1
 subst h1
 exact h2 _ _ (Pm (cl:=Nx) Ru L k x j v hx hv)
theorem K6.cap{u:World}{e:TypeId}{s:Nat}{A:Option Addr}{xs:List Value}(h:K6 u B e s A n c xs):n≤c:=by
 rcases h.2 with ⟨h1,h2⟩|⟨g2,cap,cur,h1,_,_,h2,_⟩
 ·omega
 ·injection h1 with _ _ h1;omega
theorem J5{u:World}{e:TypeId}{A:Option Addr}{L:List RQ}(h:K6 u B e 4 A n c (L.flatMap Nx)):L.length=n:=by
 have:=h.len
 have hl:∀l:List RQ,(l.flatMap Nx).length=l.length*4:=fun l=>by
  induction l with
  |nil=>rfl
  |cons x l ih=>rw[List.flatMap_cons,List.length_append,ih,Ru,List.length_cons];omega
 rw[hl]at this;omega
theorem R7(l:List RQ):(l.flatMap Nx).length=l.length*4:=by
 induction l with
 |nil=>rfl
 |cons x l ih=>rw[List.flatMap_cons,List.length_append,ih,Ru,List.length_cons];omega
theorem flat_set(r t:List RQ)(x y:RQ):((r++y::t).flatMap Nx).take (r.length*4)++Nx x++((r++y::t).flatMap Nx).drop (r.length*4+(Nx x).length)=((r++ [x])++t).flatMap Nx:=by
 rw[Ru,List.flatMap_append,List.flatMap_cons,←R7,List.take_left,List.drop_append,List.drop_of_length_le Zo,Nat.add_sub_cancel_left,List.nil_append]
 rw[show(Nx y++t.flatMap Nx).drop 4=t.flatMap Nx from by rw[←Ru y,List.drop_left]]
 simp[List.flatMap_append]
def DD(l r:List RQ)(i:Nat):Prop:=r.Sublist (l.take i)∧r.Pairwise (fun a b=>a.2<b.2)∧∀x∈l.take i,∃y∈r,y.2=x.2
theorem DD.old{r:List RQ}{i:Nat}{x y:RQ}(h:DD l r i)(hx:l[i]? =some x)(hy:l[i-1]? =some y)(hi:0<i)(e:x.2=y.2):DD l r (i+1):=by
 rw[DD,Lb hx]
 refine⟨h.1.trans (List.sublist_append_left _ _),h.2.1,fun z hz=> ?_⟩
 rcases List.mem_append.1 hz with hz|hz
 ·exact h.2.2 z hz
 ·obtain rfl:z=x:=by simpa using hz
  rw[e]
  refine h.2.2 y (List.mem_of_getElem? (i:=i-1) ?_)
  rw[List.getElem?_take,if_pos Zo];exact hy
theorem DD.new{r:List RQ}{i:Nat}{x y:RQ}(hs:l.Pairwise fun a b=>¬b.2<a.2)(h:DD l r i)(hx:l[i]? =some x)(hy:l[i-1]? =some y)(hi:0<i)(e:x.2≠y.2):DD l (r++ [x]) (i+1):=by
 have hxy:y.2<x.2:=by
  obtain⟨h1,h2⟩:=List.getElem?_eq_some_iff.1 hx
  obtain⟨h3,h4⟩:=List.getElem?_eq_some_iff.1 hy
  have:=List.pairwise_iff_getElem.1 hs (i-1) i h3 h1 Zo
  rw[h2,h4]at this
  grind
 have hle:∀z∈l.take i,z.2<x.2:=fun z hz=>by
  obtain⟨j,hj⟩:=List.getElem?_of_mem hz
  rw[List.getElem?_take]at hj
  split at hj
  ·rename_i hji
   obtain⟨h5,h6⟩:=List.getElem?_eq_some_iff.1 hj
   obtain⟨h3,h4⟩:=List.getElem?_eq_some_iff.1 hy
   by_cases hje:j=i-1
   ·subst hje;rw[←h6,h4];exact hxy
   ·have:=List.pairwise_iff_getElem.1 hs j (i-1) h5 h3 Zo
    rw[h6,h4]at this
    grind
  ·cases hj
 rw[DD,Lb hx]
 refine⟨h.1.append (.refl _),List.pairwise_append.2 ⟨h.2.1,by simp,fun a ha b hb=> ?_⟩,fun z hz=> ?_⟩
 ·obtain rfl:b=x:=by simpa using hb
  exact hle a (h.1.subset ha)
 ·rcases List.mem_append.1 hz with hz|hz
  ·obtain⟨y,h1,h2⟩:=h.2.2 z hz
   exact⟨y,List.mem_append_left _ h1,h2⟩
  ·obtain rfl:z=x:=by simpa using hz
   exact⟨z,by simp,rfl⟩
theorem DD.one(h:0<l.length):DD l (l.take 1) 1:=by
 refine⟨.refl _,?_,fun x hx=>⟨x,hx,rfl⟩⟩
 cases l with
 |nil=>cases h
 |cons x l=>simp
theorem zeroC(n:Nat):(Builtin.zeroCells (Value.agg (Nx (Oc,0)).toArray).cells n).toList=(List.replicate n ((Oc,0):RQ)).flatMap Nx:=by
 refine List.ext_getElem? fun i=> ?_
 have hl:((List.replicate n ((Oc,0):RQ)).flatMap Nx).length=n*4:=by rw[R7,List.length_replicate]
 have hs:(Value.agg (Nx (Oc,0)).toArray).cells=(Nx (Oc,0)).toArray:=rfl
 rw[hs]
 by_cases hi:i<n*4
 ·have h1:i/4<n:=by omega
  have h2:i%4<4:=by omega
  have hv:(Nx (Oc,0))[i%4]? =some (Nx (Oc,0))[i%4]! :=by rw[getElem!_pos (Nx (Oc,0)) (i%4) h2,List.getElem?_eq_getElem h2]
  have:=Pm (cl:=Nx) Ru (List.replicate n ((Oc,0):RQ)) (i/4) (Oc,0) (i%4) _ (by rw[List.getElem?_replicate,if_pos h1]) hv
  rw[show i/4*4+i%4=i by omega]at this
  rw[this]
  simp[Builtin.zeroCells,Ru,hi]
 ·have hz:(Builtin.zeroCells (Nx (Oc,0)).toArray n).toList.length=n*4:=by simp[Builtin.zeroCells,Ru]
  rw[List.getElem?_eq_none Zo,List.getElem?_eq_none Zo]
theorem clear_run{r t:List RQ}(h:K6 w B 26 4 (some ⟨g,0,none⟩) n c ((r++t).flatMap Nx))(hr:r.length<n){c2:Nat}:
 Nf Tryz.prog w [g] (fun _:Unit=> .tuple #[]) (fun _ u=>K6 u B 26 4 (some ⟨g,0,none⟩) n c ((r++List.replicate (n-r.length) ((Oc,0):RQ)).flatMap Nx)) (clrS 97 0 (.slice (some ⟨g,r.length*4,none⟩) (n-r.length) c2)):=by
 have hln:=J5 h
 have ht:t.length=n-r.length:=by rw[List.length_append]at hln;omega
 obtain⟨w',k1,k2,k3⟩:=h.storeL (P:=Tryz.prog) (j:=r.length*4) (vs:=(List.replicate (n-r.length) ((Oc,0):RQ)).flatMap Nx) (by rw[R7,R7,List.length_replicate,List.length_append];omega) (fun v hv=>by
  obtain⟨x,hx,hv⟩:=List.mem_flatMap.1 hv
  rw[List.eq_of_mem_replicate hx]at hv
  simp[Nx,RV.cl]at hv
  rcases hv with rfl|rfl|rfl|rfl<;>rfl)
 have e:((r++t).flatMap Nx).take (r.length*4)++(List.replicate (n-r.length) ((Oc,0):RQ)).flatMap Nx++((r++t).flatMap Nx).drop (r.length*4+((List.replicate (n-r.length) ((Oc,0):RQ)).flatMap Nx).length)=(r++List.replicate (n-r.length) ((Oc,0):RQ)).flatMap Nx:=by
  rw[List.flatMap_append,List.flatMap_append,←R7 r,List.take_left,List.drop_of_length_le (by rw[List.length_append,R7 t,R7 (List.replicate _ _),List.length_replicate];omega),List.append_nil]
 rw[e]at k3
 refine⟨(),w',?_,k2,fun w'' h1 h2=>k3 w'' h1 fun b hb=>h2 b (.inl hb)⟩
 obtain⟨m,hm⟩:∃m,n-r.length=m+1:=⟨n-r.length-1,by omega⟩
 have hu:Tryz.prog.underlying 97=some (.slice 26):=by kernel_rfl
 have hz:Tv Tryz.prog 26=some (.agg (Nx (Oc,0)).toArray):=by kernel_rfl
 unfold clrS Builtin.clear_
 simp only[Array.getElem?_eq_getElem,List.getElem?_toArray,List.getElem?_cons_zero,Sem.run_bind,Sem.run_pure,Result.andThen_ok,run_underlying hu]
 rw[hm]at k1 ⊢
 simp only[Sem.run_bind,Result.andThen_ok,Qr hz,zeroC,k1,Sem.run_pure]
def eqV(gc:Nat):Value:= .func (.func 244) #[] #[Ku gc]
theorem compact_m{l:List RQ}(hW:Below W.heap.size W w)(hg:W.heap.size≤g)(hn2:2≤n)(hn:n≤100000000)(ho:K6 w B 26 4 (some ⟨g,0,none⟩) n c (l.flatMap Nx))(hq:∀z∈l,Kh z.1 z.2 K w)(hd:∀z∈l,g∉Ln z.1)(hs:l.Pairwise fun a b=>¬b.2<a.2)(hK:2≤K∧K+K≤68719476736)
 (hc:Kb w gc 125 [Fd]):Calls Tryz.prog 243 #[.slice (some ⟨g,0,none⟩) n c,eqV gc] w (Ky w [g] (fun q:{q:List RQ×List RQ // DD l q.1 n}=> .slice (some ⟨g,0,none⟩) q.1.1.length c) fun q u=>K6 u B 26 4 (some ⟨g,0,none⟩) n c ((q.1.1++q.1.2).flatMap Nx)):=by
 have hln:=J5 ho
 have hcap:=ho.cap
 have hgl:=(ho.lt g (by simp[bl])).2
 have hgc:g≠gc:=hc.ne ho Zd g (by simp[bl])
 have hQ:∀{u:World},Below W.heap.size W u→Kn W w g u→∀{k:Nat} {z:RQ},l[k]? =some z→Ox z.1 z.2 K u:=fun hu hk k z hz=>(hk.fr hW hu (hq z (List.mem_of_getElem? hz)) (hd z (List.mem_of_getElem? hz))).q
 have hC:∀{u:World},Below W.heap.size W u→Kn W w g u→Kb u gc 125 [Fd]:=fun hu hk=>hc.to (hk.old hW hu gc hc.lt (fun e=>hgc e.symm))
 refine K0.enterW Tryz.func243 rfl hW ?_
 refine ZR ?_
 refine ZJ (decide ((n:Int)<2)) false (decide_eq_false Zo) ?_
 refine K0.loop (ι:={k:Nat // 1≤k∧k≤n∧DD l (l.take k) k}) 66 (fun k=>⟨[(0,.v (.slice (some ⟨g,0,none⟩) n c)),(1,.v (eqV gc)),(5,.v (.int .i64 k.1))],[]⟩) (fun _ u=>K6 u B 26 4 (some ⟨g,0,none⟩) n c (l.flatMap Nx)∧Kn W w g u) (fun k=>n-k.1) (⟨1,Nat.le_refl _,by omega,DD.one Zo⟩) Zk (fun _=>by kernel_rfl) ⟨Zk,Zk,Zk⟩ (fun u h=>⟨ho.same fun b hb=>(by have hb:=List.mem_singleton.1 hb;subst hb;exact h.2 _ hg hgl),h.1,fun b h1 h2 _=>h.2 b h1 h2⟩) ?_
 rintro⟨k,hk1,hkn,hD⟩ gg
 by_cases hlt:k<n
 case neg=>
  obtain rfl:k=n:=by omega
  refine ZR ?_
  refine ZJ (decide ((k:Int)<(k:Int))) false (decide_eq_false Zo) ?_
  refine K0.leave Zk ?_
  refine ZR ?_
  refine ZV (.slice (some ⟨g,0,none⟩) k c) (fun w1 hw h=>⟨⟨(l,[]),by have:=hD;rw[List.take_of_length_le Zo]at this;exact this⟩,by show Ending.returned (Value.slice _ k c)=Ending.returned (Value.slice _ l.length c);rw[hln],(h w1 (Nat.le_refl _) fun _ _ _=>rfl).2.chg hW hw,fun u k1 k2=>by show K6 u B _ 4 _ k c ((l++ []).flatMap Nx);rw[List.append_nil];exact(h w1 (Nat.le_refl _) fun _ _ _=>rfl).1.same fun b hb=>k2 b (.inl hb)⟩)
 obtain⟨x,hx⟩:∃v,l[k]? =some v:=⟨_,List.getElem?_eq_getElem Zo⟩
 obtain⟨y,hy⟩:∃v,l[k-1]? =some v:=⟨_,List.getElem?_eq_getElem Zo⟩
 refine ZR ?_
 refine ZJ (decide ((k:Int)<(n:Int))) true (decide_eq_true Zo) ?_
 refine K0.slot 25 (.int .i64 (IntKind.i64.wrap ((k:Int)-1))) (.int .i64 ((k-1:Nat):Int)) Zk (by rw[IntWalk.i64_in _ Zo];congr 1;omega) ?_
 refine ZB 3 (Kc 97 (.slice (some ⟨g,0,none⟩) n c) k) (.pointer (some ⟨g,k*4,none⟩)) (fun w1 hw h=>K9 (elem:=26) Zk Zk hlt) ?_
 refine ZB 4 (Kd 26 ⟨g,k*4,none⟩) (x.1.val) (fun w1 hw h=>Ka (vs:=x.1.cl) Zk Zk (Ba h.1 Zo hx)) ?_
 refine ZA (Kc 97 (.slice (some ⟨g,0,none⟩) n c) ((k-1:Nat):Int)) (.pointer (some ⟨g,(k-1)*4,none⟩)) (fun w1 hw h=>K9 (elem:=26) Zk Zk Zo) ?_
 refine ZA (Kd 26 ⟨g,(k-1)*4,none⟩) (y.1.val) (fun w1 hw h=>Ka (vs:=y.1.cl) Zk Zk (Ba h.1 Zo hy)) ?_
 refine ZC (fun w1 hw h=>eq_m (hQ hw h.2 hx) (hQ hw h.2 hy) ⟨hK.1,hK.1,hK.2⟩ (hC hw h.2)) fun u=> ?_
 cases he:decide (x.2=y.2)
 case false=>
  refine ZI false ?_
  refine K0.slot 5 (.int .i64 (IntKind.i64.wrap ((k:Int)+1))) (.int .i64 ((k+1:Nat):Int)) Zk (by rw[K7 hlt Zo]) ?_
  refine K0.next (⟨k+1,by omega,hlt,by rw[Lb hx];exact DD.new hs hD hx hy hk1 (of_decide_eq_false he)⟩) Zk (by show n- (k+1)<n-k;omega) ⟨Zk,Zk,Zk⟩ (fun _ h=>h.1)
 refine K0.cond true Zk ?_
 refine ZS 2 ?_
 refine ZA (slL 97 (.slice (some ⟨g,0,none⟩) n c) k) (.slice (some ⟨g,k*4,none⟩) (n-k) (c-k)) (fun w1 hw h=>E5 (e:=26) Zk Zk Zk Zo Zo) ?_
 have hD2:=DD.old hD hx hy hk1 (of_decide_eq_true he)
 have hlk:(l.take k).length=k:=by rw[List.length_take];omega
 refine K0.slot 5 (.int .i64 (k:Int)) (.int .i64 ((l.take k).length:Nat)) Zk (by rw[hlk]) ?_
 refine K0.loop (ι:={q:List RQ×Nat // k≤q.1.length∧q.1.length+1≤k+q.2∧k+q.2≤n∧DD l q.1 (k+q.2)}) 66 (fun q=>⟨[(0,.v (.slice (some ⟨g,0,none⟩) n c)),(1,.v (eqV gc)),(5,.v (.int .i64 q.1.1.length)),(6,.v (.slice (some ⟨g,k*4,none⟩) (n-k) (c-k))),(7,.v (.int .i64 q.1.2))],[]⟩) (fun q u=>K6 u B 26 4 (some ⟨g,0,none⟩) n c ((q.1.1++l.drop q.1.1.length).flatMap Nx)∧Kn W w g u) (fun q=>n-q.1.2) (⟨(l.take k,1),by show k≤(l.take k).length;omega,by show(l.take k).length+1≤k+1;omega,by show k+1≤n;omega,hD2⟩) Zk (fun _=>by kernel_rfl) ⟨Zk,Zk,Zk⟩ (fun u h=>⟨by show K6 u B _ 4 _ n c ((l.take k++l.drop (l.take k).length).flatMap Nx);rw[hlk,List.take_append_drop];exact h.1.1,h.1.2⟩) ?_
 rintro⟨⟨r,k2⟩,hr1,hr2,hr3,hr4⟩ gg2
 have hr1:k≤r.length:=hr1
 have hr2:r.length+1≤k+k2:=hr2
 have hr3:k+k2≤n:=hr3
 have hr4:DD l r (k+k2):=hr4
 by_cases hl2:k2<n-k
 case neg=>
  refine ZR ?_
  refine ZJ (decide ((k2:Int)<((n-k:Nat):Int))) false (decide_eq_false Zo) ?_
  refine K0.leave Zk ?_
  refine ZS 2 ?_
  have hkk:k+k2=n:=by omega
  have hrn:r.length<n:=by omega
  refine K0.ask (slL 97 (.slice (some ⟨g,0,none⟩) n c) r.length) (.slice (some ⟨g,r.length*4,none⟩) (n-r.length) (c-r.length)) Zk (fun w1 hw h=>E5 (e:=26) Zk Zk Zk Zo Zo) ?_
  refine ZS 3 ?_
  refine K0.mutOp (L:=[g]) (val:=fun _:Unit=> .tuple #[]) (Φ':=fun _ u=>K6 u B 26 4 (some ⟨g,0,none⟩) n c ((r++List.replicate (n-r.length) ((Oc,0):RQ)).flatMap Nx)∧Kn W w g u) (G:=fun _ u=>K6 u B 26 4 (some ⟨g,0,none⟩) n c ((r++List.replicate (n-r.length) ((Oc,0):RQ)).flatMap Nx)) (clrS 97 0 (.slice (some ⟨g,r.length*4,none⟩) (n-r.length) (c-r.length))) (fun w1 hw h=>clear_run h.1 hrn) (fun u h b hb=>by have hb:=List.mem_singleton.1 hb;subst hb;exact⟨hg,(h.1.blk _ (by simp[bl])).2⟩) (fun _ wa u e1 e2 h hG=>⟨hG,h.2.left e1 e2⟩) Zk Zk (fun _=> ?_)
  refine ZS 2 ?_
  refine ZA (slH 97 (.slice (some ⟨g,0,none⟩) n c) r.length) (.slice (some ⟨g,0,none⟩) r.length c) (fun w1 hw h=>E6 (e:=26) (s:=4) Zk Zk Zk Zo) ?_
  refine K0.leave Zk ?_
  refine ZR ?_
  refine ZV (.slice (some ⟨g,0,none⟩) r.length c) (fun w1 hw h=>⟨⟨(r,List.replicate (n-r.length) ((Oc,0):RQ)),by rw[←hkk];exact hr4⟩,rfl,(h w1 (Nat.le_refl _) fun _ _ _=>rfl).2.chg hW hw,fun u k1 k2=>(h w1 (Nat.le_refl _) fun _ _ _=>rfl).1.same fun b hb=>k2 b (.inl hb)⟩)
 have hil:k+k2<n:=by omega
 obtain⟨x,hx⟩:∃v,l[k+k2]? =some v:=⟨_,List.getElem?_eq_getElem Zo⟩
 obtain⟨y,hy⟩:∃v,l[k+k2-1]? =some v:=⟨_,List.getElem?_eq_getElem Zo⟩
 have hRx:(r++l.drop r.length)[k+k2]? =some x:=by rw[List.getElem?_append_right Zo,List.getElem?_drop,Nat.add_sub_cancel' Zo];exact hx
 have hRy:(r++l.drop r.length)[k+k2-1]? =some y:=by rw[List.getElem?_append_right Zo,List.getElem?_drop,Nat.add_sub_cancel' Zo];exact hy
 refine ZR ?_
 refine ZJ (decide ((k2:Int)<((n-k:Nat):Int))) true (decide_eq_true Zo) ?_
 refine K0.slot 45 (.int .i64 (IntKind.i64.wrap ((k2:Int)-1))) (.int .i64 ((k2-1:Nat):Int)) Zk (by rw[IntWalk.i64_in _ Zo];congr 1;omega) ?_
 refine ZB 3 (Kc 97 (.slice (some ⟨g,k*4,none⟩) (n-k) (c-k)) k2) (.pointer (some ⟨g,(k+k2)*4,none⟩)) (fun w1 hw h=>by rw[show(k+k2)*4=k*4+k2*4 by omega];exact E7 (elem:=26) Zk Zk hl2) ?_
 refine ZB 4 (Kd 26 ⟨g,(k+k2)*4,none⟩) (x.1.val) (fun w1 hw h=>Ka (vs:=x.1.cl) Zk Zk (Ba h.1 Zo hRx)) ?_
 refine ZA (Kc 97 (.slice (some ⟨g,k*4,none⟩) (n-k) (c-k)) ((k2-1:Nat):Int)) (.pointer (some ⟨g,(k+k2-1)*4,none⟩)) (fun w1 hw h=>by rw[show(k+k2-1)*4=k*4+(k2-1)*4 by omega];exact E7 (elem:=26) Zk Zk Zo) ?_
 refine ZA (Kd 26 ⟨g,(k+k2-1)*4,none⟩) (y.1.val) (fun w1 hw h=>Ka (vs:=y.1.cl) Zk Zk (Ba h.1 Zo hRy)) ?_
 refine ZC (fun w1 hw h=>eq_m (hQ hw h.2 hx) (hQ hw h.2 hy) ⟨hK.1,hK.1,hK.2⟩ (hC hw h.2)) fun u=> ?_
 cases he:decide (x.2=y.2)
 case true=>
  refine ZI false ?_
  refine K0.slot 7 (.int .i64 (IntKind.i64.wrap ((k2:Int)+1))) (.int .i64 ((k2+1:Nat):Int)) Zk (by rw[K7 hl2 Zo]) ?_
  refine K0.next (⟨(r,k2+1),hr1,by show r.length+1≤k+(k2+1);omega,by show k+(k2+1)≤n;omega,DD.old hr4 hx hy (show 0<k+k2 by omega) (of_decide_eq_true he)⟩) Zk (by show n- (k2+1)<n-k2;omega) ⟨Zk,Zk,Zk⟩ (fun _ h=>h.1)
 refine ZI true ?_
 have hrl:r.length<l.length:=by omega
 obtain⟨v0,hv0⟩:∃v,l[r.length]? =some v:=⟨_,List.getElem?_eq_getElem hrl⟩
 have hdr:l.drop r.length=v0::l.drop (r.length+1):=Nn hv0
 refine ZA (Kc 97 (.slice (some ⟨g,k*4,none⟩) (n-k) (c-k)) k2) (.pointer (some ⟨g,(k+k2)*4,none⟩)) (fun w1 hw h=>by rw[show(k+k2)*4=k*4+k2*4 by omega];exact E7 (elem:=26) Zk Zk hl2) ?_
 refine ZA (Kd 26 ⟨g,(k+k2)*4,none⟩) (x.1.val) (fun w1 hw h=>Ka (vs:=x.1.cl) Zk Zk (Ba h.1.1 Zo hRx)) ?_
 refine ZA (Kc 97 (.slice (some ⟨g,0,none⟩) n c) r.length) (.pointer (some ⟨g,r.length*4,none⟩)) (fun w1 hw h=>K9 (elem:=26) Zk Zk Zo) ?_
 refine K0.mutSt (L:=[g]) (G:=fun u=>K6 u B 26 4 (some ⟨g,0,none⟩) n c (((r++ [x])++l.drop (r.length+1)).flatMap Nx)) (Φ':=fun u=>K6 u B 26 4 (some ⟨g,0,none⟩) n c (((r++ [x])++l.drop (r.length+1)).flatMap Nx)∧Kn W w g u) (Rm 26 ⟨g,r.length*4,none⟩ x.1.val) (fun w1 hw h=>by
  have h1:K6 w1 B 26 4 (some ⟨g,0,none⟩) n c ((r++l.drop r.length).flatMap Nx):=h.1.1
  rw[hdr]at h1
  have h2:=h1.storeN (P:=Tryz.prog) (t:=26) (v:=x.1.val) (j:=r.length*4) Zk (by show r.length*4+4≤_;rw[R7,List.length_append,List.length_cons,List.length_drop];omega) (fun v hv=>by have hv:v∈x.1.cl:=hv;simp[RV.cl]at hv;rcases hv with rfl|rfl|rfl|rfl<;>rfl)
  rw[←flat_set r (l.drop (r.length+1)) x v0];exact h2) (fun u h b hb=>by have hb:=List.mem_singleton.1 hb;subst hb;exact⟨hg,(h.1.1.blk _ (by simp[bl])).2⟩) (fun wa u e1 e2 h hG=>⟨hG,h.1.2.left e1 e2⟩) Zk Zk ?_
 refine ZR ?_
 refine K0.slot 5 (.int .i64 (IntKind.i64.wrap ((r.length:Int)+1))) (.int .i64 ((r++ [x]).length:Nat)) Zk (by rw[K7 (n:=n) Zo Zo,List.length_append];rfl) ?_
 refine K0.slot 7 (.int .i64 (IntKind.i64.wrap ((k2:Int)+1))) (.int .i64 ((k2+1:Nat):Int)) Zk (by rw[K7 hl2 Zo]) ?_
 refine K0.next (⟨(r++ [x],k2+1),by show k≤(r++ [x]).length;simp;omega,by show(r++ [x]).length+1≤k+(k2+1);simp;omega,by show k+(k2+1)≤n;omega,DD.new hs hr4 hx hy (show 0<k+k2 by omega) (of_decide_eq_false he)⟩) Zk (by show n- (k2+1)<n-k2;omega) ⟨Zk,Zk,Zk⟩ (fun _ h=>⟨by show K6 _ B _ 4 _ n c (((r++ [x])++l.drop (r++ [x]).length).flatMap Nx);rw[List.length_append];exact h.1,h.2⟩)
end
section
variable{w W:World}{g gc n c B K K1 K2:Nat}{l:List RQ}{a b:RV}{p q:Rat}
theorem strict_rat{l:List RQ}{r:List RQ}{m:List RQ}(hm:m.Perm l)(h:DD m r m.length):(r.map (·.2)).Pairwise (· <·)∧∀x,x∈r.map (·.2)↔x∈l.map (·.2):=by
 obtain⟨h1,h2,h3⟩:=h
 rw[List.take_length]at h1 h3
 refine⟨List.pairwise_map.2 h2,fun x=>⟨fun hx=> ?_,fun hx=> ?_⟩⟩
 ·obtain⟨y,hy,rfl⟩:=List.mem_map.1 hx
  exact List.mem_map_of_mem (hm.mem_iff.1 (h1.subset hy))
 ·obtain⟨y,hy,rfl⟩:=List.mem_map.1 hx
  obtain⟨z,hz,e⟩:=h3 y (hm.mem_iff.2 hy)
  rw[←e];exact List.mem_map_of_mem hz
theorem rising_m{l:List RQ}(hW:Below W.heap.size W w)(hg:W.heap.size≤g)(hn2:2≤n)(hn:n≤100000000)(ho:K6 w B 26 4 (some ⟨g,0,none⟩) n c (l.flatMap Nx))(hq:∀z∈l,Kh z.1 z.2 K w)(hd:∀z∈l,g∉Ln z.1)(hK:2≤K∧K+K≤68719476736):
 Calls Tryz.prog 166 #[.slice (some ⟨g,0,none⟩) n c,Fd] w (Ky w [g] (fun q:{q:List RQ×List RQ // q.1 ⊆ l∧q.1.map (·.2)=Xx (l.map (·.2))}=> .slice (some ⟨g,0,none⟩) q.1.1.length c) fun q u=>K6 u B 26 4 (some ⟨g,0,none⟩) n c ((q.1.1++q.1.2).flatMap Nx)):=by
 have hgl:=(ho.lt g (by simp[bl])).2
 refine K0.enterW Tryz.func166 rfl hW ?_
 refine ZS 0 ?_
 refine K0.make (Ad 125 Fd) (Ku) (fun gc u=>Kb u gc 125 [Fd]∧w.heap.size≤gc∧gc∉[]) Zk (fun w1 hw h=>Q3 (v:=Fd) h.1 Zs) (fun gc=> ?_)
 refine ZR ?_
 refine K0.pure_ (p:=w.heap.size≤gc) (fun u hu h=>h.2.2.1) Zk (fun hgc=> ?_)
 refine K0.weak (Φ':=fun u=>K6 u B 26 4 (some ⟨g,0,none⟩) n c (l.flatMap Nx)∧Kn W w g u∧Kb u gc 125 [Fd]) Zk (fun u h=>⟨ho.same fun b hb=>(by have hb:=List.mem_singleton.1 hb;subst hb;exact h.1.2 _ hg hgl),⟨h.1.1,fun b h1 h2 _=>h.1.2 b h1 h2⟩,h.2.1⟩) ?_
 refine ZR ?_
 refine ZA (Kd 125 ⟨gc,0,none⟩) (Fd) (fun w1 hw h=>h.2.2.load1 Zk) ?_
 refine K0.mut (L:=[g]) (val:=fun _:{m:List RQ // m.Perm l∧m.Pairwise fun a b=>¬b.2<a.2}=> .tuple #[]) (G:=fun m u=>K6 u B 26 4 (some ⟨g,0,none⟩) n c (m.1.flatMap Nx)) (Φ':=fun m u=>K6 u B 26 4 (some ⟨g,0,none⟩) n c (m.1.flatMap Nx)∧Kn W w g u∧Kb u gc 125 [Fd]) (fun w1 hw h=>sortq_m h.1 (fun z hz=>h.2.1.fr hW hw (hq z hz) (hd z hz)) hd hK Zo Zo) (fun u h b hb=>by have hb:=List.mem_singleton.1 hb;subst hb;exact⟨hg,(h.1.blk _ (by simp[bl])).2⟩) (fun m wa u e1 e2 h hG=>⟨hG,h.2.1.left e1 e2,h.2.2.left e2 Zp⟩) Zk Zk (fun m=> ?_)
 obtain⟨m,hm1,hm2⟩:=m
 refine ZR ?_
 refine K0.mut (L:=[g]) (val:=fun q:{q:List RQ×List RQ // DD m q.1 n}=> .slice (some ⟨g,0,none⟩) q.1.1.length c) (G:=fun q u=>K6 u B 26 4 (some ⟨g,0,none⟩) n c ((q.1.1++q.1.2).flatMap Nx)) (Φ':=fun q u=>K6 u B 26 4 (some ⟨g,0,none⟩) n c ((q.1.1++q.1.2).flatMap Nx)∧Kn W w g u) (fun w1 hw h=>compact_m hw hg hn2 hn h.1 (fun z hz=>h.2.1.fr hW hw (hq z (hm1.mem_iff.1 hz)) (hd z (hm1.mem_iff.1 hz))) (fun z hz=>hd z (hm1.mem_iff.1 hz)) hm2 hK h.2.2) (fun u h b hb=>by have hb:=List.mem_singleton.1 hb;subst hb;exact⟨hg,(h.1.blk _ (by simp[bl])).2⟩) (fun q wa u e1 e2 h hG=>⟨hG,h.2.1.left e1 e2⟩) Zk Zk (fun q=> ?_)
 obtain⟨q,hq1⟩:=q
 have hmn:m.length=n:=by rw[hm1.length_eq];exact J5 ho
 obtain⟨s1,s2⟩:=strict_rat (l:=l) hm1 (by rw[hmn];exact hq1)
 refine ZR ?_
 refine ZV (.slice (some ⟨g,0,none⟩) q.1.length c) (fun w1 hw h=>⟨⟨q,fun x hx=>hm1.subset (List.take_subset _ _ (hq1.1.subset hx)),sortR_eq s1 s2⟩,rfl,(h w1 (Nat.le_refl _) fun _ _ _=>rfl).2.chg hW hw,fun u k1 k2=>(h w1 (Nat.le_refl _) fun _ _ _=>rfl).1.same fun b hb=>k2 b (.inl hb)⟩)
end
theorem K8.ltW{w:World}{g:Nat}{cs:List Value}(h:K8 w g cs):g<w.heap.size:=by
 obtain⟨t,h⟩:=h;exact(Array.getElem?_eq_some_iff.1 h).1
theorem K8.toW{w u:World}{g:Nat}{cs:List Value}(h:K8 w g cs)(e:u.heap[g]? =w.heap[g]?):K8 u g cs:=by
 obtain⟨t,h⟩:=h;exact⟨t,e.trans h⟩
structure Yr(B go:Nat)(y:Option Addr×Nat)(rs:List RQ)(u:World):Prop where
 box:Kb u go 97 [.slice y.1 rs.length y.2]
 own:K6 u B 26 4 y.1 rs.length y.2 (rs.flatMap Nx)
 apart:∀r∈rs,(∀b∈bl y.1,b∉Ln r.1)∧go∉Ln r.1
structure Out(B go K:Nat)(y:Option Addr×Nat)(rs:List RQ)(u:World):Prop extends Yr B go y rs u where
 num:∀r∈rs,Kh r.1 r.2 K u
def Apq(go:Nat)(y:Option Addr×Nat)(r:RV):Prop:=(∀b∈bl y.1,b∉Ln r)∧go∉Ln r
section
variable{w W u wa:World}{B go gl gh K K1 n:Nat}{y z:Option Addr×Nat}{rs:List RQ}{r rl rh:RV}{q lo hi:Rat}
theorem Kh.leftL{L:List Nat}(h:Kh r q K wa)(e1:wa.heap.size=u.heap.size)(e2:∀b,b∉L→wa.heap[b]? =u.heap[b]?)(hd:∀b∈Ln r,b∉L):Kh r q K u:=h.same (Nat.le_of_eq e1) fun b hb=>(e2 b (hd b hb)).symm
theorem Out.ne(h:Out B go K y rs u):go∉bl y.1:=fun hb=>h.box.ne h.own Zd go hb rfl
theorem Out.same(h:Out B go K y rs wa)(e1:wa.heap.size≤u.heap.size)(e2:∀b,b<wa.heap.size→u.heap[b]? =wa.heap[b]?):Out B go K y rs u:=
 ⟨⟨h.box.to (e2 go h.box.lt),h.own.same fun b hb=>e2 b (h.own.lt b hb).2,h.apart⟩,fun r hr=>(h.num r hr).same e1 fun b hb=>e2 b (Nz (h.num r hr) b hb)⟩
theorem Yr.to(h:Yr B go y rs wa)(e2:∀b,b∈go::bl y.1→u.heap[b]? =wa.heap[b]?):Yr B go y rs u:=
 ⟨h.box.to (e2 go Zs),h.own.same fun b hb=>e2 b (by simp[hb]),h.apart⟩
theorem app_rat(h:Out B go K y rs u)(hB:B≤u.heap.size)(hr:Kh r q K u)(ha:Apq go y r){gb N:Nat}(hg:Kv 26 r.cl.toArray gb u)(hn:rs.length≤99999999)(hN:N≤u.heap.size):
 Nf Tryz.prog u (bl y.1) (fun z:Option Addr×Nat=> .slice z.1 (rs.length+1) z.2) (fun z v=>K6 v B 26 4 z.1 (rs.length+1) z.2 ((rs++ [(r,q)]).flatMap Nx)∧(∀x∈rs++ [(r,q)],∀b∈bl z.1,b∉Ln x.1)∧∀b∈bl z.1,b∈bl y.1∨N≤b) (Nc 97 97 (.slice y.1 rs.length y.2) (Km 1 gb)):=by
 have ha2:=M9 (P:=Tryz.prog) (s:=4) (z:= .agg Oc.cl.toArray) (bytes:=64) (m:=1) (cc:=1) (t:=97) (elem:=26) Zk Zk rfl Zd h.own hB (M8 (n:=1) hg rfl) (by intro v hv;simp[RV.cl]at hv;rcases hv with rfl|rfl|rfl|rfl<;>rfl) Zo Zd
 have e:(rs++ [(r,q)]).flatMap Nx=rs.flatMap Nx++r.cl.toArray.toList:=by simp[Nx]
 rw[e]
 refine Oy ha2 fun z' hz=>⟨fun x hx b hb hc=> ?_,fun b hb=>(hz b hb).imp id fun h=>Nat.le_trans hN h⟩
 have hx2:Kh x.1 x.2 K u∧∀b∈bl y.1,b∉Ln x.1:=by
  rcases List.mem_append.1 hx with h4|h4
  ·exact⟨h.num x h4,(h.apart x h4).1⟩
  ·obtain rfl:x=(r,q):=by simpa using h4
   exact⟨hr,ha.1⟩
 rcases hz b hb with h5|h5
 ·exact hx2.2 b h5 hc
 ·have:=Nz hx2.1 b hc;omega
def Qf(lo hi:Rat)(rs:List RQ)(r:RV)(q:Rat):List RQ:=if lo<q∧q<hi then rs++ [(r,q)]else rs
theorem Qx{p q:Rat}:decide (Kk p q<0)=decide (p<q):=by
 unfold Kk
 by_cases h:p<q
 ·rw[if_pos h,decide_eq_true h];rfl
 ·rw[if_neg h,decide_eq_false h];split<;>rfl
def Uk(L:List Nat)(W w u:World):Prop:=w.heap.size≤u.heap.size∧∀b,W.heap.size≤b→b<w.heap.size→b∉L→u.heap[b]? =w.heap[b]?
theorem Uk.chg{L:List Nat}(h:Uk L W w u)(hW:Below W.heap.size W w)(hu:Below W.heap.size W u):Ga L w u:=
 ⟨hu.os.trans hW.os.symm,hu.tape.trans hW.tape.symm,hu.output.trans hW.output.symm,h.1,fun b hb hbg=>by
  rcases Nat.lt_or_ge b W.heap.size with h3|h3
  ·rw[hu.block b h3,hW.block b h3]
  ·exact h.2 b h3 hb hbg⟩
theorem putend{w1:World}{N:Nat}(hN:N≤w.heap.size)(hW:Below W.heap.size W w)(hw:Below W.heap.size W w1)(h:∀v:World,w1.heap.size≤v.heap.size→(∀b,W.heap.size≤b→b<w1.heap.size→v.heap[b]? =w1.heap[b]?)→Uk (go::bl y.1) W w v∧Kb v go 97 [.slice z.1 (rs.length+1) z.2]∧K6 v B 26 4 z.1 (rs.length+1) z.2 ((rs++ [(r,q)]).flatMap Nx)∧(∀x∈rs++ [(r,q)],∀b∈bl z.1,b∉Ln x.1)∧∀b∈bl z.1,b∈bl y.1∨w.heap.size≤b)
 (ho:Out B go K y rs w) (ha:Apq go y r) (hput:Qf lo hi rs r q=rs++ [(r,q)]):Ky w (go::bl y.1) (fun _:Option Addr×Nat=> .tuple #[]) (fun z u=>Yr B go z (Qf lo hi rs r q) u∧∀b∈bl z.1,b∈bl y.1∨N≤b) (.returned (.tuple #[])) w1:=by
 have h0:=h w1 (Nat.le_refl _) fun _ _ _=>rfl
 refine⟨z,rfl,h0.1.chg hW hw,fun v k1 k2=> ?_⟩
 rw[hput]
 refine⟨?_,fun b hb=>(h0.2.2.2.2 b hb).imp id fun h=>Nat.le_trans hN h⟩
 refine⟨by rw[List.length_append];exact h0.2.1.to (k2 go (.inl Zs)),?_,fun x hx=>⟨h0.2.2.2.1 x hx,?_⟩⟩
 ·rw[List.length_append]
  refine h0.2.2.1.same fun b hb=>k2 b ?_
  rcases h0.2.2.2.2 b hb with h4|h4
  ·exact .inl (by simp[h4])
  ·exact .inr ⟨h4,(h0.2.2.1.lt b hb).2⟩
 ·rcases List.mem_append.1 hx with h4|h4
  ·exact(ho.apart x h4).2
  ·obtain rfl:x=(r,q):=by simpa using h4
   exact ha.2
theorem put_m{N:Nat}(hN:N≤w.heap.size)(hW:Below W.heap.size W w)(hgo:W.heap.size≤go)(hy:∀b∈bl y.1,W.heap.size≤b)(hBW:B≤W.heap.size)(ho:Out B go K y rs w)(hr:Kh r q K w)(ha:Apq go y r)(hn:rs.length≤99999999)(hK:2≤K∧K+K≤68719476736)
 (hl:K8 w gl rl.cl) (hh:K8 w gh rh.cl) (ql:Kh rl lo K w) (qh:Kh rh hi K w) (al:go∉Ln rl∧go∉Ln rh):
 Calls Tryz.prog 162 #[r.val,Ku gl,Ku gh,Ku go] w (Ky w (go::bl y.1) (fun _:Option Addr×Nat=> .tuple #[]) fun z u=>Yr B go z (Qf lo hi rs r q) u∧∀b∈bl z.1,b∈bl y.1∨N≤b):=by
 have hold:∀{u:World},Below W.heap.size W u→(w.heap.size≤u.heap.size∧∀b,W.heap.size≤b→b<w.heap.size→u.heap[b]? =w.heap[b]?)→∀b,b<w.heap.size→u.heap[b]? =w.heap[b]? :=fun hu h b hb=>by
  rcases Nat.lt_or_ge b W.heap.size with h3|h3
  ·rw[hu.block b h3,hW.block b h3]
  ·exact h.2 b h3 hb
 have hq2:∀{u:World} {r:RV} {q:Rat},Kh r q K w→Below W.heap.size W u→(w.heap.size≤u.heap.size∧∀b,W.heap.size≤b→b<w.heap.size→u.heap[b]? =w.heap[b]?)→Kh r q K u:=fun hq hu h=>hq.same h.1 fun b hb=>hold hu h b (Nz hq b hb)
 refine K0.enterW Tryz.func162 rfl hW ?_
 refine ZR ?_
 refine ZA (Kd 26 ⟨gl,0,none⟩) (rl.val) (fun w1 hw h=>Ka (vs:=rl.cl) Zk Zk (K8.range (hl.toW (hold hw h gl hl.ltW)))) ?_
 have hno:∀{u:World},(hp:¬(lo<q∧q<hi))→Below W.heap.size W u→(∀v:World,u.heap.size≤v.heap.size→(∀b,W.heap.size≤b→b<u.heap.size→v.heap[b]? =u.heap[b]?)→w.heap.size≤v.heap.size∧∀b,W.heap.size≤b→b<w.heap.size→v.heap[b]? =w.heap[b]?)→Ky w (go::bl y.1) (fun _:Option Addr×Nat=> .tuple #[]) (fun z u=>Yr B go z (Qf lo hi rs r q) u∧∀b∈bl z.1,b∈bl y.1∨N≤b) (.returned (.tuple #[])) u:=fun{u} hp hu h=>by
  have h0:=h u (Nat.le_refl _) fun _ _ _=>rfl
  refine⟨y,rfl,⟨hu.os.trans hW.os.symm,hu.tape.trans hW.tape.symm,hu.output.trans hW.output.symm,h0.1,fun b hb _=>hold hu h0 b hb⟩,fun v k1 k2=> ?_⟩
  unfold Qf
  rw[if_neg hp]
  refine⟨ho.toYr.to fun b hb=> ?_,fun b hb=> .inl hb⟩
  rw[k2 b (.inl hb)]
  refine hold hu h0 b ?_
  rcases List.mem_cons.1 hb with rfl|hb
  ·exact ho.box.lt
  ·exact(ho.own.lt b hb).2
 cases h1:decide (lo<q)
 case false=>
  refine ZD 5 (fun w1 hw h=>Lq (hq2 ql hw h).q (hq2 hr hw h).q ⟨hK.1,hK.1,hK.2⟩) fun c1=> ?_
  refine ZT 9 (.bool (decide (Kk lo q<0))) (.bool false) (by rw[Qx,h1]) ?_
  refine ZI false ?_
  refine ZV (.tuple #[]) (fun w1 hw h=>hno (fun hc=>absurd hc.1 (of_decide_eq_false h1)) hw (fun v k1 k2=>(h v k1 k2).1))
 refine ZD 5 (fun w1 hw h=>Lq (hq2 ql hw h).q (hq2 hr hw h).q ⟨hK.1,hK.1,hK.2⟩) fun c1=> ?_
 refine ZT 9 (.bool (decide (Kk lo q<0))) (.bool true) (by rw[Qx,h1]) ?_
 refine ZA (Kd 26 ⟨gh,0,none⟩) (rh.val) (fun w1 hw h=>Ka (vs:=rh.cl) Zk Zk (K8.range (hh.toW (hold hw h.1 gh hh.ltW)))) ?_
 cases h2:decide (q<hi)
 case false=>
  refine ZC (fun w1 hw h=>Lq (hq2 hr hw h.1).q (hq2 qh hw h.1).q ⟨hK.1,hK.1,hK.2⟩) fun c2=> ?_
  refine ZJ (decide (Kk q hi<0)) false (by rw[Qx,h2]) ?_
  refine ZV (.tuple #[]) (fun w1 hw h=>hno (fun hc=>absurd hc.2 (of_decide_eq_false h2)) hw (fun v k1 k2=>(h v k1 k2).1.1))
 have hp:lo<q∧q<hi:=⟨of_decide_eq_true h1,of_decide_eq_true h2⟩
 have hput:Qf lo hi rs r q=rs++ [(r,q)]:=if_pos hp
 refine ZC (fun w1 hw h=>Lq (hq2 hr hw h.1).q (hq2 qh hw h.1).q ⟨hK.1,hK.1,hK.2⟩) fun c2=> ?_
 refine ZJ (decide (Kk q hi<0)) true (by rw[Qx,h2]) ?_
 refine K0.weak (Φ':=fun u=>(w.heap.size≤u.heap.size∧∀b,W.heap.size≤b→b<w.heap.size→u.heap[b]? =w.heap[b]?)) Zk (fun u h=>h.1.1) ?_
 refine ZA (Kd 97 ⟨go,0,none⟩) (.slice y.1 rs.length y.2) (fun w1 hw h=>(ho.box.to (hold hw h go ho.box.lt)).load1 Zk) ?_
 refine K0.make (M5 (97) 1 #[(0,r.val)]) (Km 1) (Kv 26 r.cl.toArray) Zk (fun w1 hw h=>Ke Zk) (fun gb=> ?_)
 refine ZS 3 ?_
 refine K0.mutOp (L:=bl y.1) (val:=fun z:Option Addr×Nat=> .slice z.1 (rs.length+1) z.2) (Φ':=fun z u=>Uk (bl y.1) W w u∧Kb u go 97 [.slice y.1 rs.length y.2]∧K6 u B 26 4 z.1 (rs.length+1) z.2 ((rs++ [(r,q)]).flatMap Nx)∧(∀x∈rs++ [(r,q)],∀b∈bl z.1,b∉Ln x.1)∧∀b∈bl z.1,b∈bl y.1∨w.heap.size≤b) (G:=fun z u=>K6 u B 26 4 z.1 (rs.length+1) z.2 ((rs++ [(r,q)]).flatMap Nx)∧(∀x∈rs++ [(r,q)],∀b∈bl z.1,b∉Ln x.1)∧∀b∈bl z.1,b∈bl y.1∨w.heap.size≤b) (Nc 97 97 (.slice y.1 rs.length y.2) (Km 1 gb)) (fun w1 hw h=>app_rat (ho.same h.1.1 (hold hw h.1)) (Nat.le_trans hBW hw.size) (hq2 hr hw h.1) ha h.2 hn h.1.1) (fun u h b hb=>⟨hy b hb,by obtain⟨_,cs,ty,own,hh⟩:=ho.own.blk b hb;exact⟨cs,ty,own,(h.1.2 b (hy b hb) (ho.own.lt b hb).2).trans hh⟩⟩) (fun z wa u e1 e2 h hG=>⟨⟨by rw[←e1];exact h.1.1,fun b k1 k2 k3=>(e2 b k3).symm.trans (h.1.2 b k1 k2)⟩,(ho.box.to (h.1.2 go hgo ho.box.lt)).left e2 ho.ne,hG⟩) Zk Zk (fun z=> ?_)
 refine ZR ?_
 refine K0.mutSt (L:=[go]) (G:=fun u=>Kb u go 97 [.slice z.1 (rs.length+1) z.2]) (Φ':=fun u=>Uk (go::bl y.1) W w u∧Kb u go 97 [.slice z.1 (rs.length+1) z.2]∧K6 u B 26 4 z.1 (rs.length+1) z.2 ((rs++ [(r,q)]).flatMap Nx)∧(∀x∈rs++ [(r,q)],∀b∈bl z.1,b∉Ln x.1)∧∀b∈bl z.1,b∈bl y.1∨w.heap.size≤b) (Rm 97 ⟨go,0,none⟩ (.slice z.1 (rs.length+1) z.2)) (fun w1 hw h=>h.2.1.store Zk rfl (fun v hv=>by have hv:=List.mem_singleton.1 hv;subst hv;rfl)) (fun u h b hb=>by have hb:=List.mem_singleton.1 hb;subst hb;exact⟨hgo,h.2.1.own⟩) (fun wa u e1 e2 h hG=>⟨⟨by rw[←e1];exact h.1.1,fun b k1 k2 k3=>(e2 b (fun hc=>k3 (by simp at hc;simp[hc]))).symm.trans (h.1.2 b k1 k2 (fun hc=>k3 (by simp[hc])))⟩,hG,h.2.2.1.left e2 (fun b hb=>by simpa using h.2.1.ne h.2.2.1 Zd b hb),h.2.2.2⟩) Zk Zk ?_
 refine ZR ?_
 refine ZV (.tuple #[]) (fun w1 hw h=>putend hN hW hw h ho ha hput)
end
theorem Yi{ops:Array Oper}{o:Oper}{σ:AS}(h:(List.range ops.size).all (fun i=>match ops[i]? with
 |some o'=>(o'.dst !=o.dst)||(List.range ops.size).all (fun k=>Nat.beq k i||(Ou ops i ops.size).getD k false||(Ou ops k ops.size).getD i false||(match ops[k]? with|some ok=>(U8 ops ok&& !(σ.plain ok.op))||(isMv ok.op||Q0 ops σ ok)|none=>false))
 |none=>true)=true):Xq ops o σ:=by
 intro i hi listed j hcl hri hrj
 have hlt:i<ops.size:=(Array.getElem?_eq_some_iff.1 hi).1
 have h1:=List.all_eq_true.1 h i (List.mem_range.2 hlt)
 simp only[hi,bne_self_eq_false,Bool.false_or]at h1
 obtain⟨hiu,oi,hoi,halli⟩:=mem_ready.1 hri
 obtain⟨hju,oj,hoj,hallj⟩:=mem_ready.1 hrj
 have hltj:j<ops.size:=(Array.getElem?_eq_some_iff.1 hoj).1
 have h2:=List.all_eq_true.1 h1 j (List.mem_range.2 hltj)
 simp only[Bool.or_eq_true,Nat.beq_eq,hoj,Bool.and_eq_true,Bool.not_eq_true']at h2
 rcases h2 with ((h2|h2)|h2)|h2
 ·exact .inl h2
 ·obtain⟨om,hom,hn⟩:=Rb hcl hiu _ _ h2
  rw[hoj]at hom;injection hom with hom;subst hom
  exact absurd hallj hn
 ·obtain⟨om,hom,hn⟩:=Rb hcl hju _ _ h2
  rw[hoi]at hom;injection hom with hom;subst hom
  exact absurd halli hn
 ·exact .inr ⟨oj,hoj,h2⟩
def By(c:Md):Bool:=match c.foc with
 | .any ops (_+1) listed=>match Region.ready .any ops listed with
  | [i]=>match ops[i]? with
   |some o=>(List.range ops.size).all (fun i=>match ops[i]? with
    |some o'=>(o'.dst !=o.dst)||(List.range ops.size).all (fun k=>Nat.beq k i||(Ou ops i ops.size).getD k false||(Ou ops k ops.size).getD i false||(match ops[k]? with|some ok=>(U8 ops ok&& !(c.st.plain ok.op))||(isMv ok.op||Q0 ops c.st ok)|none=>false))
    |none=>true)
   |none=>false
  |_=>false
 |_=>false
theorem lone_of2{ops:Array Oper}{o:Oper}(h:(List.range ops.size).all (fun i=>match ops[i]? with
 |some o'=>(o'.dst !=o.dst)||(o'.after.size !=o.after.size)||(List.range ops.size).all (fun k=>Nat.beq k i||(Ou ops i ops.size).getD k false||(Ou ops k ops.size).getD i false)
 |none=>true)=true):LoneOp ops o:=by
 intro i hi listed j hcl hri hrj
 have hlt:i<ops.size:=(Array.getElem?_eq_some_iff.1 hi).1
 have h1:=List.all_eq_true.1 h i (List.mem_range.2 hlt)
 simp only[hi,bne_self_eq_false,Bool.false_or]at h1
 obtain⟨hiu,oi,hoi,halli⟩:=mem_ready.1 hri
 obtain⟨hju,oj,hoj,hallj⟩:=mem_ready.1 hrj
 have hltj:j<ops.size:=(Array.getElem?_eq_some_iff.1 hoj).1
 have h2:=List.all_eq_true.1 h1 j (List.mem_range.2 hltj)
 simp only[Bool.or_eq_true,Nat.beq_eq]at h2
 rcases h2 with (h2|h2)|h2
 ·exact h2
 ·obtain⟨om,hom,hn⟩:=Rb hcl hiu _ _ h2
  rw[hoj]at hom;injection hom with hom;subst hom
  exact absurd hallj hn
 ·obtain⟨om,hom,hn⟩:=Rb hcl hju _ _ h2
  rw[hoi]at hom;injection hom with hom;subst hom
  exact absurd halli hn
def lone2Foc(c:Md):Bool:=match c.foc with
 | .any ops (_+1) listed=>match Region.ready .any ops listed with
  | [i]=>match ops[i]? with
   |some o=>(List.range ops.size).all (fun i=>match ops[i]? with
    |some o'=>(o'.dst !=o.dst)||(o'.after.size !=o.after.size)||(List.range ops.size).all (fun k=>Nat.beq k i||(Ou ops i ops.size).getD k false||(Ou ops k ops.size).getD i false)
    |none=>true)
   |none=>false
  |_=>false
 |_=>false
section
variable{P:Program}{Δ:List Deferred}{W:World}{Q:Exit→Act→World→Prop}{Φ:World→Prop}{c:Md}
theorem K0.mutAnyB [Rnd]{X:Type}{L:List Nat}{val:X→Value}{G Φ':X→World→Prop}(s:Sem Next)
 (hs:∀w,Below W.heap.size W w→Φ w→Nf P w L val G s) (hL:Uv W L Φ) (hΦ:∀x,Tt L Φ (G x) (Φ' x))
 (hf:By c=true) (hc:Q1 c=some s) (h:∀x,K0 P Δ W Q (Φ' x) (Lh (.v (val x)) c)):K0 P Δ W Q Φ c:=by
 obtain⟨foc,k,σ⟩:=c
 replace h:=fun x=>(h x).get
 refine⟨?_⟩
 replace hc:=(O1 hc).1
 unfold Pu at hc
 split at hc
 ·rename_i ops o ho
  split at hc
  ·cases hc
  ·cases hc
  ·rename_i hns hnm
   split at hc
   ·rename_i hw
    simp only[Bool.and_eq_true]at hw
    injection hc with hc
    subst hc
    unfold Na at ho
    simp only at ho
    split at ho
    ·cases hf
    ·rename_i ops' fuel listed
     split at ho
     ·rename_i i hrd
      cases hoi:ops'[i]? with
      |none=>rw[hoi]at ho;cases ho
      | some o'=>
       rw[hoi]at ho
       simp only[Option.map_some,Option.some.injEq,Prod.mk.injEq]at ho
       obtain⟨rfl,rfl⟩:=ho
       intro hssa hcl hwf
       refine⟨fun h0=>(by rw[h0]at hrd;cases hrd),fun j hj=> ?_⟩
       rw[hrd]at hj
       obtain rfl:j=i:=by simpa using hj
       obtain⟨_,o2,ho2,hall⟩:=mem_ready.1 (show j∈Region.ready .any ops' listed by rw[hrd];simp)
       obtain rfl:o'=o2:=by rw[hoi]at ho2;injection ho2
       have hlone:Xq ops' o' σ:=by
        refine Yi ?_
        unfold By at hf
        simp only[hrd,hoi]at hf
        exact hf
       refine⟨o',hoi,.mutm val G Φ' hlone hw.1 hw.2 (fun cs b e=>hns cs b e) (.inl fun w a b=> .inl (hs w a b)) hL hΦ fun x=> ?_⟩
       have hx:=h x
       simp only[Qp,Lh,hrd,hoi,Option.bind_some,Nat.add_one_sub_one]at hx
       exact hx hssa (hcl.set_ hoi hall) (hwf.put _ (by intro k hk;simp[AV.ids]at hk))
     ·cases ho
    ·cases ho
   ·cases hc
 ·cases hc
theorem K0.mutStB [Rnd]{L:List Nat}{G Φ':World→Prop}(s:Sem Next)
 (hs:∀w,Below W.heap.size W w→Φ w→∃w',s.run P w= .ok .skip w'∧Ga L w w'∧∀w'',w'.heap.size≤w''.heap.size→(∀b∈L,w''.heap[b]? =w'.heap[b]?)→G w'') (hL:Uv W L Φ) (hΦ:Tt L Φ G Φ')
 (hf:By c=true) (hc:Q1 c=some s) (h:K0 P Δ W Q Φ' (Lh (.v undef) c)):K0 P Δ W Q Φ c:=by
 obtain⟨foc,k,σ⟩:=c
 replace h:=h.get
 refine⟨?_⟩
 replace hc:=(O1 hc).1
 unfold Pu at hc
 split at hc
 ·rename_i ops o ho
  split at hc
  ·cases hc
  ·cases hc
  ·rename_i hns hnm
   split at hc
   ·rename_i hw
    simp only[Bool.and_eq_true]at hw
    injection hc with hc
    subst hc
    unfold Na at ho
    simp only at ho
    split at ho
    ·cases hf
    ·rename_i ops' fuel listed
     split at ho
     ·rename_i i hrd
      cases hoi:ops'[i]? with
      |none=>rw[hoi]at ho;cases ho
      | some o'=>
       rw[hoi]at ho
       simp only[Option.map_some,Option.some.injEq,Prod.mk.injEq]at ho
       obtain⟨rfl,rfl⟩:=ho
       intro hssa hcl hwf
       refine⟨fun h0=>(by rw[h0]at hrd;cases hrd),fun j hj=> ?_⟩
       rw[hrd]at hj
       obtain rfl:j=i:=by simpa using hj
       obtain⟨_,o2,ho2,hall⟩:=mem_ready.1 (show j∈Region.ready .any ops' listed by rw[hrd];simp)
       obtain rfl:o'=o2:=by rw[hoi]at ho2;injection ho2
       have hlone:Xq ops' o' σ:=by
        refine Yi ?_
        unfold By at hf
        simp only[hrd,hoi]at hf
        exact hf
       refine⟨o',hoi,.mutm (fun _:Unit=>undef) (fun _=>G) (fun _=>Φ') hlone hw.1 hw.2 (fun cs b e=>hns cs b e) (.inl fun w a b=> .inr (by obtain⟨w',h1,h2,h3⟩:=hs w a b;exact⟨(),w',rfl,h1,h2,fun w'' k1 k2=>h3 w'' k1 fun b hb=>k2 b (.inl hb)⟩)) hL (fun _=>hΦ) fun x=> ?_⟩
       have hx:=h
       simp only[Qp,Lh,hrd,hoi,Option.bind_some,Nat.add_one_sub_one]at hx
       exact hx hssa (hcl.set_ hoi hall) (hwf.put _ (by intro k hk;simp[AV.ids]at hk))
     ·cases ho
    ·cases ho
   ·cases hc
 ·cases hc
theorem K0.mutStAny [Rnd]{L:List Nat}{G Φ':World→Prop}(s:Sem Next)
 (hs:∀w,Below W.heap.size W w→Φ w→∃w',s.run P w= .ok .skip w'∧Ga L w w'∧∀w'',w'.heap.size≤w''.heap.size→(∀b∈L,w''.heap[b]? =w'.heap[b]?)→G w'') (hL:Uv W L Φ) (hΦ:Tt L Φ G Φ')
 (hf:lone2Foc c=true) (hc:Q1 c=some s) (h:K0 P Δ W Q Φ' (Lh (.v undef) c)):K0 P Δ W Q Φ c:=by
 obtain⟨foc,k,σ⟩:=c
 replace h:=h.get
 refine⟨?_⟩
 replace hc:=(O1 hc).1
 unfold Pu at hc
 split at hc
 ·rename_i ops o ho
  split at hc
  ·cases hc
  ·cases hc
  ·rename_i hns hnm
   split at hc
   ·rename_i hw
    simp only[Bool.and_eq_true]at hw
    injection hc with hc
    subst hc
    unfold Na at ho
    simp only at ho
    split at ho
    ·cases hf
    ·rename_i ops' fuel listed
     split at ho
     ·rename_i i hrd
      cases hoi:ops'[i]? with
      |none=>rw[hoi]at ho;cases ho
      | some o'=>
       rw[hoi]at ho
       simp only[Option.map_some,Option.some.injEq,Prod.mk.injEq]at ho
       obtain⟨rfl,rfl⟩:=ho
       intro hssa hcl hwf
       refine⟨fun h0=>(by rw[h0]at hrd;cases hrd),fun j hj=> ?_⟩
       rw[hrd]at hj
       obtain rfl:j=i:=by simpa using hj
       obtain⟨_,o2,ho2,hall⟩:=mem_ready.1 (show j∈Region.ready .any ops' listed by rw[hrd];simp)
       obtain rfl:o'=o2:=by rw[hoi]at ho2;injection ho2
       have hlone:LoneOp ops' o':=by
        refine lone_of2 ?_
        unfold lone2Foc at hf
        simp only[hrd,hoi]at hf
        exact hf
       refine⟨o',hoi,.lone hlone fun Δ' β a w Q' i' K' hi' hr hwf' hK=> ?_⟩
       unfold wpOpIn
       simp only[hi',Lv hr,hw.1,if_true]
       have hrho:∀x∈o'.op.operands,a.eval x=σ.rho x:=fun x hx=>by
        rw[hr.eval,AV.conc_isV];· rfl
        exact List.all_eq_true.1 hw.2 x (by simpa using hx)
       obtain⟨w',hrun,hch,hG⟩:=hs w hr.bel hr.phi
       refine Y8 ((congrArg (fun s=>s.run P w) (execOp_congr o' (fun cs b e=>hns cs b e) hrho)).trans hrun) Zs ?_
       simp only[Qp,Lh,hrd,hoi,Option.bind_some,Nat.add_one_sub_one]at h
       have hwf2:(σ.put o'.dst (.v undef)).wf:=hwf.put _ (by intro k hk;simp[AV.ids]at hk)
       exact hK _ _ _ _ _ (h hssa (hcl.set_ hoi hall) hwf2) ((hr.mut hL hch (fun w'' a1 a2=>hG w'' a1 fun b hb=>a2 b (.inl hb)) hΦ).put o'.dst (.v undef)) hwf2
     ·cases ho
    ·cases ho
   ·cases hc
 ·cases hc
def Jx(c:Md):Bool:=By c&&(match Na c with|some (_,o)=>c.st.plain o.op|none=>false)
theorem butCall_ok{ops:Array Oper}{fuel:Nat}{listed:Array Bool}{k:List FrK}{σ:AS}{i:Nat}{o:Oper}(hrd:Region.ready .any ops listed=[i])(hoi:ops[i]? =some o)(hf:Jx ⟨.any ops (fuel+1) listed,k,σ⟩=true):Xq ops o σ∧σ.plain o.op=true:=by
 unfold Jx By Na at hf
 simp only[hrd,hoi,Option.map_some,Bool.and_eq_true]at hf
 exact⟨Yi hf.1,hf.2⟩
theorem K0.mutCallAny [Rnd]{X:Type}{L:List Nat}{g:FuncId}{args:Array Value}{val:X→Value}{G Φ':X→World→Prop}
 (hs:∀w,Below W.heap.size W w→Φ w→Calls P g args w (Ky w L val G)) (hL:Uv W L Φ) (hΦ:∀x,Tt L Φ (G x) (Φ' x))
 (hf:Jx c=true) (hc:P7 P c=some (g,args)) (h:∀x,K0 P Δ W Q (Φ' x) (Lh (.v (val x)) c)):K0 P Δ W Q Φ c:=by
 obtain⟨foc,k,σ⟩:=c
 replace h:=fun x=>(h x).get
 refine⟨?_⟩
 unfold P7 at hc
 split at hc
 ·rename_i g' xs hn
  split at hc
  ·rename_i vs hv
   injection hc with hc
   injection hc with h1 h2
   subst h1;subst h2
   unfold V8 at hn
   split at hn
   ·rename_i ops o ho
    split at hn
    ·rename_i hw
     unfold Na at ho
     simp only at ho
     split at ho
     ·cases hf
     ·rename_i ops' fuel listed
      split at ho
      ·rename_i i hrd
       cases hoi:ops'[i]? with
       |none=>rw[hoi]at ho;cases ho
       | some o'=>
        rw[hoi]at ho
        simp only[Option.map_some,Option.some.injEq,Prod.mk.injEq]at ho
        obtain⟨rfl,rfl⟩:=ho
        intro hssa hcl hwf
        refine⟨fun h0=>(by rw[h0]at hrd;cases hrd),fun j hj=> ?_⟩
        rw[hrd]at hj
        obtain rfl:j=i:=by simpa using hj
        obtain⟨_,o2,ho2,hall⟩:=mem_ready.1 (show j∈Region.ready .any ops' listed by rw[hrd];simp)
        obtain rfl:o'=o2:=by rw[hoi]at ho2;injection ho2
        obtain⟨hl,hp⟩:=butCall_ok hrd hoi hf
        refine⟨o',hoi,.mutm val G Φ' hl hw hp (fun cs b e=> ?_) (.inr ⟨g',xs,vs,hn,hv,hs⟩) hL hΦ fun x=> ?_⟩
        ·unfold S6 at hn
         rw[e]at hn
         cases hn
        have hx:=h x
        simp only[Qp,Lh,hrd,hoi,Option.bind_some,Nat.add_one_sub_one]at hx
        exact hx hssa (hcl.set_ hoi hall) (hwf.put _ (by intro k hk;simp[AV.ids]at hk))
      ·cases ho
     ·cases ho
    ·cases hn
   ·cases hn
  ·cases hc
 ·cases hc
end
def Cu(k g:Nat):AV→AV
 | .p j o=>if Nat.beq j k then .v (.pointer (some ⟨g,o,none⟩))else .p j o
 | .s j n=>if Nat.beq j k then .v (.slice (some ⟨g,0,none⟩) n n)else .s j n
 |x=>x
def Zy(k:Nat)(b:Nat→Option (List AV)):Nat→Option (List AV):=fun j=>
 if Nat.beq j k then none else match b j with
  |some cs=>if cs.all AV.isV then some cs else none
  |none=>none
def Rp(k g:Nat)(c:Md):Md:=⟨c.foc,c.k,⟨c.st.tmps.map (Cu k g),Zy k c.st.box⟩⟩
def Ez(k:Nat)(c:Md):Bool:=J7 c&&c.st.tmps.all fun x=>(Cu k 0 x).ids.all fun i=>(Zy k c.st.box i).isSome
theorem Hq{k:Nat}{β:Nat→Nat}(x:AV):(Cu k (β k) x).conc β=x.conc β:=by
 cases x<;>simp only[Cu]
 ·split
  ·rename_i h;rw[Nat.eq_of_beq_eq_true h];rfl
  ·rfl
 ·split
  ·rename_i h;rw[Nat.eq_of_beq_eq_true h];rfl
  ·rfl
theorem expV_ids{k g:Nat}(x:AV):(Cu k g x).ids=(Cu k 0 x).ids:=by
 cases x<;>simp only[Cu]
 ·split<;>rfl
 ·split<;>rfl
theorem M6{k j:Nat}{b:Nat→Option (List AV)}{cs:List AV}(h:Zy k b j=some cs):b j=some cs∧j≠k∧cs.all AV.isV=true:=by
 unfold Zy at h
 split at h
 ·cases h
 ·rename_i hj
  split at h
  ·rename_i cs' hb
   split at h
   ·rename_i ha
    injection h with h
    subst h
    exact⟨hb,fun e=>hj (by rw[e];exact Nat.beq_refl k),ha⟩
   ·cases h
  ·cases h
section
variable{P:Program}{Δ:List Deferred}{W:World}{Q:Exit→Act→World→Prop}{Φ:World→Prop}{c:Md}
theorem K0.expose [Rnd](k:Nat)(vs:List Value)(ho:Ez k c=true)(hb:c.st.box k=some (vs.map .v))(h:∀g,W.heap.size≤g→K0 P Δ W Q (fun u=>Φ u∧K8 u g vs) (Rp k g c)):K0 P Δ W Q Φ c:=by
 obtain⟨foc,kk,σ⟩:=c
 unfold Ez at ho
 simp only[Bool.and_eq_true]at ho
 obtain⟨hf,hids⟩:=ho
 have key:∀{β:Nat→Nat} {a:Act} {w:World},σ.wf→O7 Δ W β σ Φ a w→W.heap.size≤β k∧(AS.mk (σ.tmps.map (Cu k (β k))) (Zy k σ.box)).wf∧O7 Δ W β (AS.mk (σ.tmps.map (Cu k (β k))) (Zy k σ.box)) (fun u=>Φ u∧K8 u (β k) vs) a w:=by
  intro β a w hwf hr
  obtain⟨h1,ty,h2⟩:=hr.box k _ hb
  refine⟨h1,⟨fun x hx i hi=> ?_,fun j cs hj x hx i hi=> ?_⟩,⟨?_,hr.defers,hr.bel,fun j cs hj=>hr.box j cs (M6 hj).1,fun j j' hj hj' e=> ?_,fun w' hw=> ?_⟩⟩
  ·obtain⟨y,hy,rfl⟩:=List.mem_map.1 hx
   rw[expV_ids]at hi
   exact List.all_eq_true.1 (List.all_eq_true.1 hids y hy) i hi
  ·have:=List.all_eq_true.1 (M6 hj).2.2 x hx
   cases x<;>first|(simp[AV.ids]at hi;done)|cases this
  ·rw[hr.tmps]
   simp only[List.map_map]
   exact List.map_congr_left fun x _=>(Hq x).symm
  ·obtain⟨cs,hcs⟩:=Option.isSome_iff_exists.1 hj
   obtain⟨cs',hcs'⟩:=Option.isSome_iff_exists.1 hj'
   exact hr.inj j j' (by rw[(M6 hcs).1];rfl) (by rw[(M6 hcs').1];rfl) e
  ·have hne:∀j,(Zy k σ.box j).isSome=true→β k≠β j:=fun j hj e=>by
    obtain⟨cs,hcs⟩:=Option.isSome_iff_exists.1 hj
    exact(M6 hcs).2.1 (hr.inj k j (by rw[hb];rfl) (by rw[(M6 hcs).1];rfl) e).symm
   refine⟨hr.keep w' ⟨hw.size,fun b k1 k2 k3=>hw.heap b k1 k2 fun j hj=>k3 j ?_⟩,ty,?_⟩
   ·obtain⟨cs,hcs⟩:=Option.isSome_iff_exists.1 hj
    rw[(M6 hcs).1];rfl
   ·rw[hw.heap (β k) h1 (Array.getElem?_eq_some_iff.1 h2).1 fun j hj=>(hne j hj).symm,h2]
    simp[AV.conc,Function.comp_def]
 refine⟨?_⟩
 cases foc with
 |code x=>exact fun hwf β a w hr=>by obtain⟨h1,h2,h3⟩:=key hwf hr;exact(h _ h1).get h2 β a w h3
 |ops o l=>exact fun hwf β a w hr=>by obtain⟨h1,h2,h3⟩:=key hwf hr;exact(h _ h1).get h2 β a w h3
 |any o f l=>cases hf
 |out e=>exact fun hwf β a w hr=>by obtain⟨h1,h2,h3⟩:=key hwf hr;exact(h _ h1).get h2 β a w h3
end
end Go.Proofs.YtpgkbllcnphmbaaGreatDoor
