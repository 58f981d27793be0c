/-
 A part of the proof.
-/
import Derived.Test.YtpgkbllcnphmbaaGreatDoorBMf
namespace Go.Proofs.YtpgkbllcnphmbaaGreatDoor
set_option maxRecDepth 100000
set_option maxHeartbeats 8000000
set_option linter.unusedVariables false
set_option linter.unusedSimpArgs false
open Go.RowKit
def Zw(t:TypeId)(p:Addr)(f:Nat):Sem Next:=Instr.fieldAt t (.pointer (some p)) f >>= fun v=>pure (.value v)
theorem Zc{P:Program}{t:TypeId}{p:Addr}{f d:Nat}{w:World}(h:Ra P t f 0 0=some ⟨.p 0 (0+d),none⟩):(Zw t p f).run P w= .ok (.value (.pointer (some (p.add d)))) w:=by
 unfold Ra at h
 split at h
 ·rename_i fs hu
  split at h
  ·rename_i fd hf
   split at h
   ·rename_i n hn
    injection h with h
    injection h with h _
    injection h with _ h
    rw[Nat.zero_add,Nat.zero_add]at h
    have hrun:(Instr.fieldAt t (.pointer (some p)) f).run P w= .ok (.pointer (some (p.add fd.offset))) w:=by
     simp only[Instr.fieldAt,Sem.run_bind,run_underlying hu,Result.andThen_ok,hf,Instr.sureAddr,Sem.run_pure,fieldPlace,Lf hn,Nat.add_one_ne_zero,if_false]
    simp only[Zw,Sem.run_bind,hrun,Result.andThen_ok,Sem.run_pure,h]
   ·cases h
  ·cases h
 ·cases h
theorem R6{g k fi d:Nat}{t:TypeId}{u:World}(h:Ra Tryz.prog t fi 0 0=some ⟨.p 0 (0+d),none⟩):(Zw t ⟨g,k,none⟩ fi).run Tryz.prog u= .ok (.value (.pointer (some ⟨g,k+d,none⟩))) u:=by
 rw[Zc h,Addr.add_mid]
theorem range_to{u:World}{g i:Nat}{z:Nv}(h:u.rangeAt g (i*8) (L7 z)):u.rangeAt g (i*8+4) z.1.2.cl:=fun j v hv=>by
 have:=h (4+j) v (by show(z.1.1.cl++z.1.2.cl)[4+j]? =some v;rw[List.getElem?_append_right (by show 4≤4+j;omega)];show z.1.2.cl[4+j-4]? =some v;rw[Nat.add_sub_cancel_left];exact hv)
 rw[←Nat.add_assoc]at this;exact this
theorem flat_to(o:List Nv)(t s:Nv):((o++ [t]).flatMap L7).take (o.length*8+4)++s.1.2.val.cells.toList++((o++ [t]).flatMap L7).drop (o.length*8+4+s.1.2.val.cells.toList.length)=(o++ [((t.1.1,s.1.2),(t.2.1,s.2.2))]).flatMap L7:=by
 have hl:=Pk Lu o
 have hc:s.1.2.val.cells.toList=s.1.2.cl:=rfl
 have h4:s.1.2.cl.length=4:=rfl
 have e1:(o++ [t]).flatMap L7=o.flatMap L7++(t.1.1.cl++t.1.2.cl):=by rw[List.flatMap_append];simp[L7,spC]
 have e2:(o++ [((t.1.1,s.1.2),(t.2.1,s.2.2))]).flatMap L7=o.flatMap L7++(t.1.1.cl++s.1.2.cl):=by rw[List.flatMap_append];simp[L7,spC]
 rw[hc,h4,e1,e2,List.take_append,List.take_of_length_le Zo,hl,Nat.add_sub_cancel_left,List.drop_of_length_le (by rw[List.length_append,hl];show o.length*8+(4+4)≤_;omega),List.append_nil,List.append_assoc]
 rfl
def Y7(M os:List Nv):Prop:=∀o∈os,(∃s∈M,o.1.1=s.1.1∧o.2.1=s.2.1)∧∃s∈M,o.1.2=s.1.2∧o.2.2=s.2.2
section
variable{w u:World}{A:Option Addr}{n c N K B:Nat}{y:Option Addr×Nat}{M os:List Nv}
theorem Y7.num(h:Y7 M os)(hm:∀z∈M,∀x∈Q7 z,Kh x.1 x.2 K u):∀z∈os,∀x∈Q7 z,Kh x.1 x.2 K u:=fun z hz x hx=>by
 obtain⟨⟨s,h1,h2,h3⟩,s2,h4,h5,h6⟩:=h z hz
 simp only[Q7,List.mem_cons,List.mem_nil_iff,or_false]at hx
 rcases hx with rfl|rfl
 ·show Kh z.1.1 z.2.1 K u;rw[h2,h3];exact hm s h1 (s.1.1,s.2.1) (by simp[Q7])
 ·show Kh z.1.2 z.2.2 K u;rw[h5,h6];exact hm s2 h4 (s2.1.2,s2.2.2) (by simp[Q7])
theorem Y7.snoc(h:Y7 M os){s:Nv}(hs:s∈M):Y7 M (os++ [s]):=fun o ho=>by
 rcases List.mem_append.1 ho with h4|h4
 ·exact h o h4
 ·obtain rfl:o=s:=by simpa using h4
  exact⟨⟨o,hs,rfl,rfl⟩,o,hs,rfl,rfl⟩
theorem Y7.ap{A:Option Addr}(h:Y7 M os)(hm:Un Q7 A M):Un Q7 A os:=fun z hz x hx=>by
 obtain⟨⟨s,h1,h2,h3⟩,s2,h4,h5,h6⟩:=h z hz
 simp only[Q7,List.mem_cons,List.mem_nil_iff,or_false]at hx
 rcases hx with rfl|rfl
 ·show∀b∈bl A,b∉Ln z.1.1;rw[h2];exact hm s h1 (s.1.1,s.2.1) (by simp[Q7])
 ·show∀b∈bl A,b∉Ln z.1.2;rw[h5];exact hm s2 h4 (s2.1.2,s2.2.2) (by simp[Q7])
theorem app_sp{z:Option Addr×Nat}{s:Nv}{gb:Nat}(h:K6 u B 254 8 z.1 os.length z.2 (os.flatMap L7))(hy:M7 254 8 L7 Q7 B K y M u)(hz:(∀b∈bl z.1,b∉bl y.1)∧Un Q7 z.1 M)(hB:B≤u.heap.size)(hg:Kv 254 (L7 s).toArray gb u)(hn:os.length≤99999999):
 Nf Tryz.prog u (bl z.1) (fun z':Option Addr×Nat=> .slice z'.1 (os.length+1) z'.2) (fun z' v=>K6 v B 254 8 z'.1 (os.length+1) z'.2 ((os++ [s]).flatMap L7)∧(∀b∈bl z'.1,b∉bl y.1)∧Un Q7 z'.1 M) (Nc 171 171 (.slice z.1 os.length z.2) (Km 1 gb)):=by
 have ha2:=M9 (P:=Tryz.prog) (s:=8) (z:= .agg (L7 (((Oc,Oc),(0,0)):Nv)).toArray) (bytes:=128) (m:=1) (cc:=1) (t:=171) (elem:=254) Zk Zk rfl Zd h hB (M8 (n:=1) hg rfl) (fun v hv=>R0 s v (by simpa using hv)) Zo Zd
 have e2:(os++ [s]).flatMap L7=os.flatMap L7++(L7 s).toArray.toList:=by simp
 rw[e2]
 refine Oy ha2 fun z' hz'=>⟨fun b hb hc=> ?_,fun q hq x hxq b hb hc=> ?_⟩
 ·rcases hz' b hb with h5|h5
  ·exact hz.1 b h5 hc
  ·have:=(hy.own.lt b hc).2;omega
 ·rcases hz' b hb with h5|h5
  ·exact hz.2 q hq x hxq b h5 hc
  ·have:=Nz (hy.num q hq x hxq) b hc;omega
theorem merge_m{Z:List Nv}(hr:Kq w A n 8 L7 Z)(hq:∀z∈Z,Ox z.1.1 z.2.1 K w∧Ox z.1.2 z.2.2 K w)(hn:n≤10000000)(hK:2≤K∧K+K≤68719476736)(hN:N≤w.heap.size):
 Calls Tryz.prog 157 #[.slice A n c] w (K3 w (fun r:(Option Addr×Nat)×{r:List Nv // r.map (·.2)=U5 (Z.map (·.2))∧r.length≤n}=> .slice r.1.1 r.2.1.length r.1.2) fun r u=>M7 254 8 L7 Q7 N K r.1 r.2.1 u∧Un Q7 r.1.1 r.2.1):=by
 refine K0.enter Tryz.func157 rfl ?_
 refine ZR ?_
 refine K0.loop (ι:={q:Nat×(Option Addr×Nat)×List Nv // (q.1≤n∧q.2.2.length≤q.1)∧q.2.2.map (·.2)=((Z.take q.1).map (·.2)).filter J6∧Un Q7 q.2.1.1 q.2.2}) 80 (fun q=>⟨[(3,.v (.slice q.1.2.1.1 q.1.2.2.length q.1.2.1.2)),(10,.v (.slice A n c)),(11,.v (.int .i64 n)),(12,.v (.int .i64 (q.1.1:Int)))],[]⟩) (fun q u=>M7 254 8 L7 Q7 w.heap.size K q.1.2.1 q.1.2.2 u) (fun q=>n-q.1.1) (⟨(0,(none,0),[]),⟨Nat.zero_le _,Nat.zero_le _⟩,rfl,Un.nil_⟩) Zk (fun _=>by kernel_rfl) ⟨Zk,Zk,Zk⟩ (fun _ _=>M7.nil_) ?_
 rintro⟨⟨k,y,rs⟩,⟨hk,hrl⟩,hrs,hap⟩ gg
 have hk:k≤n:=hk
 have hrl:rs.length≤k:=hrl
 have hrs:rs.map (·.2)=((Z.take k).map (·.2)).filter J6:=hrs
 have hap:Un Q7 y.1 rs:=hap
 by_cases hlt:k<n
 ·obtain⟨z,hz⟩:∃z,Z[k]? =some z:=⟨_,List.getElem?_eq_getElem (by rw[hr.1];exact hlt)⟩
  obtain⟨ad,hA,hc⟩:=hr.2 k z hz
  have hqz:=hq z (List.mem_of_getElem? hz)
  have htk:((Z.take (k+1)).map (·.2)).filter J6=((Z.take k).map (·.2)).filter J6++(if J6 z.2 then [z.2]else []):=by
   rw[Lb hz,List.map_append,List.filter_append];simp[List.filter_cons]
  refine ZR ?_
  refine ZJ (decide ((k:Int)<(n:Int))) true (decide_eq_true Zo) ?_
  refine ZA (Kc 171 (.slice A n c) k) (.pointer (some (ad.add (k*8)))) (fun w1 hw h=>by rw[hA];exact Lg (elem:=254) Zk Zk hlt) ?_
  refine ZA (Kd 254 (ad.add (k*8))) (.agg (L7 z).toArray) (fun w1 hw h=>N7 (vs:=L7 z) Zk Zk fun j v hj=>Kt hw (hc j v hj)) ?_
  cases ho:J6 z.2
  ·
   refine ZC (fun w1 hw h=>Lq (hqz.1.below hw) (hqz.2.below hw) ⟨hK.1,hK.1,hK.2⟩) fun c1=> ?_
   refine ZJ (decide (Kk z.2.1 z.2.2<0)) false (by rw[Qx];exact ho) ?_
   refine K0.slot 12 (.int .i64 (IntKind.i64.wrap ((k:Int)+1))) (.int .i64 ((k+1:Nat):Int)) Zk (by rw[K7 hlt Zo]) ?_
   refine K0.next (⟨(k+1,y,rs),⟨hlt,by show rs.length≤k+1;omega⟩,by show rs.map (·.2)=((Z.take (k+1)).map (·.2)).filter J6;rw[htk,ho,hrs];simp,hap⟩) Zk (by show n- (k+1)<n-k;omega) ⟨Zk,Zk,Zk⟩ (fun _ h=>h.1)
  refine ZC (fun w1 hw h=>Lq (hqz.1.below hw) (hqz.2.below hw) ⟨hK.1,hK.1,hK.2⟩) fun c1=> ?_
  refine ZJ (decide (Kk z.2.1 z.2.2<0)) true (by rw[Qx];exact ho) ?_
  refine ZC (fun w1 hw h=>(L8 (hqz.1.below hw) ⟨hK.1,by omega⟩).mono fun e w' k=>K3.apt (R:=fun r=>∀b∈bl y.1,b∉Ln r) k (fun r=>Ln r) (fun r u k=>k.blk) (fun r hr b hb hc=>by have:=(h.1.own.lt b hb).2;have:=hr b hc;omega)) fun r1=> ?_
  refine ZC (fun w1 hw h=>(L8 (hqz.2.below hw) ⟨hK.1,by omega⟩).mono fun e w' k=>K3.apt (R:=fun r=>∀b∈bl y.1,b∉Ln r) k (fun r=>Ln r) (fun r u k=>k.blk) (fun r hr b hb hc=>by have:=(h.1.1.own.lt b hb).2;have:=hr b hc;omega)) fun r2=> ?_
  have hfx:∀{v:World},Kh r1 z.2.1 K v→Kh r2 z.2.2 K v→∀x∈Q7 (((r1,r2),z.2):Nv),Kh x.1 x.2 K v:=fun h1 h2 x hx=>by
   simp only[Q7,List.mem_cons,List.mem_nil_iff,or_false]at hx
   rcases hx with rfl|rfl
   ·exact h1
   ·exact h2
  have hfa:(∀b∈bl y.1,b∉Ln r1)→(∀b∈bl y.1,b∉Ln r2)→∀x∈Q7 (((r1,r2),z.2):Nv),∀b∈bl y.1,b∉Ln x.1:=fun h1 h2 x hx=>by
   simp only[Q7,List.mem_cons,List.mem_nil_iff,or_false]at hx
   rcases hx with rfl|rfl
   ·exact h1
   ·exact h2
  refine K0.make (M5 (171) 1 #[(0,.agg (L7 (((r1,r2),z.2):Nv)).toArray)]) (Km 1) (Kv 254 (L7 (((r1,r2),z.2):Nv)).toArray) Zk (fun w1 hw h=>Ke Zk) (fun gb=> ?_)
  refine ZS 9 ?_
  refine K0.mutAnyB (L:=bl y.1) (val:=fun z':Option Addr×Nat=> .slice z'.1 (rs.length+1) z'.2) (Φ':=fun z' u=>M7 254 8 L7 Q7 w.heap.size K z' (rs++ [((r1,r2),z.2)]) u∧Un Q7 z'.1 (rs++ [((r1,r2),z.2)])) (G:=fun z' v=>K6 v w.heap.size 254 8 z'.1 (rs.length+1) z'.2 ((rs++ [((r1,r2),z.2)]).flatMap L7)∧Un Q7 z'.1 (rs++ [((r1,r2),z.2)])∧∀b∈bl z'.1,b∈bl y.1∨0≤b) (Nc 171 171 (.slice y.1 rs.length y.2) (Km 1 gb)) (fun w1 hw h=>M7.app (z0:= .agg (L7 (((Oc,Oc),(0,0)):Nv)).toArray) (bytes:=128) Zk Zk rfl Zd Zd Lu R0 h.1.1.1.1 hap hw.size (Nat.zero_le _) (hfx h.1.1.2.1 h.1.2.1) (hfa h.1.1.2.2 h.1.2.2) h.2 Zo) (fun u h=>h.1.1.1.1.own.blk) (fun z' wa u e1 e2 h hG=>⟨M7.next h.1.1.1.1 hap (hfx h.1.1.2.1 h.1.2.1) (hfa h.1.1.2.2 h.1.2.2) e1 e2 hG.1,hG.2.1⟩) Zk Zk (fun z'=> ?_)
  refine ZR ?_
  refine K0.pure_ (p:=Un Q7 z'.1 (rs++ [((r1,r2),z.2)])) (fun u hu h=>h.2) Zk (fun hap2=> ?_)
  refine K0.slot 12 (.int .i64 (IntKind.i64.wrap ((k:Int)+1))) (.int .i64 ((k+1:Nat):Int)) Zk (by rw[K7 hlt Zo]) ?_
  refine K0.slot 3 (.slice z'.1 (rs.length+1) z'.2) (.slice z'.1 (rs++ [(((r1,r2),z.2):Nv)]).length z'.2) Zk (by rw[List.length_append];rfl) ?_
  refine K0.next (⟨(k+1,z',rs++ [((r1,r2),z.2)]),⟨hlt,by show(rs++ [(((r1,r2),z.2):Nv)]).length≤k+1;rw[List.length_append];simp;omega⟩,by show(rs++ [(((r1,r2),z.2):Nv)]).map (·.2)=((Z.take (k+1)).map (·.2)).filter J6;rw[htk,ho,List.map_append,hrs];rfl,hap2⟩) Zk (by show n- (k+1)<n-k;omega) ⟨Zk,Zk,Zk⟩ (fun _ h=>h.1)
 obtain rfl:k=n:=by omega
 have hrs2:rs.map (·.2)=(Z.map (·.2)).filter J6:=by rw[hrs,List.take_of_length_le (by rw[hr.1];exact Nat.le_refl _)]
 refine ZR ?_
 refine ZJ (decide ((k:Int)<(k:Int))) false (decide_eq_false Zo) ?_
 refine K0.leave Zk ?_
 refine ZR ?_
 refine K0.mut (L:=bl y.1) (val:=fun _:{M:List Nv // M.Perm rs∧NL (ltOf L5) M}=> .tuple #[]) (G:=fun M u=>K6 u w.heap.size 254 8 y.1 rs.length y.2 (M.1.flatMap L7)) (Φ':=fun M u=>M7 254 8 L7 Q7 w.heap.size K y M.1 u) (fun w1 hw h=>sortQ_sp hw h hap Zo hK) (fun u h=>h.own.blk) (fun M wa u e1 e2 h hG=>M7.perm h hap M.2.1 e1 e2 hG) Zk Zk (fun M=> ?_)
 obtain⟨M,hMp,hMs⟩:=M
 have hml:M.length=rs.length:=hMp.length_eq
 have hapM:Un Q7 y.1 M:=fun z hz=>hap z (hMp.mem_iff.1 hz)
 have hres:(M.map (·.2)).foldl My []=U5 (Z.map (·.2)):=merge_eq (by rw[←hrs2];exact hMp.map _) (by
  unfold NL at hMs ⊢
  rw[List.pairwise_map]
  exact hMs.imp fun{a b} hab=>by rw[←hab];unfold Z7 ltOf L5;exact Qx.symm)
 refine ZT 3 (.slice y.1 rs.length y.2) (.slice y.1 M.length y.2) (by rw[hml]) ?_
 refine K0.loop (ι:={q:Nat×(Option Addr×Nat)×List Nv // (q.1≤M.length∧q.2.2.length≤q.1)∧q.2.2.map (·.2)=((M.take q.1).map (·.2)).foldl My []∧Y7 M q.2.2∧(∀b∈bl q.2.1.1,b∉bl y.1)∧Un Q7 q.2.1.1 M}) 80 (fun q=>⟨[(6,.v (.slice q.1.2.1.1 q.1.2.2.length q.1.2.1.2)),(35,.v (.slice y.1 M.length y.2)),(36,.v (.int .i64 (M.length:Int))),(37,.v (.int .i64 (q.1.1:Int)))],[]⟩) (fun q u=>M7 254 8 L7 Q7 w.heap.size K y M u∧K6 u w.heap.size 254 8 q.1.2.1.1 q.1.2.2.length q.1.2.1.2 (q.1.2.2.flatMap L7)) (fun q=>M.length-q.1.1) (⟨(0,(none,0),[]),⟨Nat.zero_le _,Nat.zero_le _⟩,rfl,(fun o ho=>by cases ho),(fun b hb=>by cases hb),fun z hz x hx b hb=>by cases hb⟩) Zk (fun _=>by kernel_rfl) ⟨Zk,Zk,Zk⟩ (fun u h=>⟨h,K6.nil_⟩) ?_
 rintro⟨⟨k2,z,os⟩,⟨hk2,hol⟩,hos,hfs,hzy,hzm⟩ gg2
 have hk2:k2≤M.length:=hk2
 have hol:os.length≤k2:=hol
 have hos:os.map (·.2)=((M.take k2).map (·.2)).foldl My []:=hos
 have hfs:Y7 M os:=hfs
 have hzy:∀b∈bl z.1,b∉bl y.1:=hzy
 have hzm:Un Q7 z.1 M:=hzm
 by_cases hlt2:k2<M.length
 case neg=>
  obtain rfl:k2=M.length:=by omega
  rw[List.take_of_length_le (Nat.le_refl _),hres]at hos
  refine ZR ?_
  refine ZJ (decide ((M.length:Int)<(M.length:Int))) false (decide_eq_false Zo) ?_
  refine K0.leave Zk ?_
  refine ZR ?_
  refine ZV (.slice z.1 os.length z.2) (fun w1 hw h=>⟨(z,⟨os,hos,by omega⟩),rfl,hw,fun w'' k1 k2=>⟨M7.mono ⟨(h w'' k1 k2).2,hfs.num (h w'' k1 k2).1.num⟩ hN,hfs.ap hzm⟩⟩)
 obtain⟨s,hs⟩:∃s,M[k2]? =some s:=⟨_,List.getElem?_eq_getElem hlt2⟩
 have hsm:=List.mem_of_getElem? hs
 have htk:((M.take (k2+1)).map (·.2)).foldl My []=My (os.map (·.2)) s.2:=by
  rw[Lb hs,List.map_append,List.foldl_append,←hos];rfl
 refine K0.pure_ (p:=∃g,y.1=some ⟨g,0,none⟩) (fun u hu h=>h.1.some (by intro e;rw[e]at hlt2;simp at hlt2)) Zk (fun hyg=> ?_)
 obtain⟨gy,hgy⟩:=hyg
 have nums:∀{v:World},M7 254 8 L7 Q7 w.heap.size K y M v→Kh s.1.1 s.2.1 K v∧Kh s.1.2 s.2.2 K v:=fun h=>⟨h.num s hsm (s.1.1,s.2.1) (by simp[Q7]),h.num s hsm (s.1.2,s.2.2) (by simp[Q7])⟩
 refine ZR ?_
 refine ZJ (decide ((k2:Int)<(M.length:Int))) true (decide_eq_true Zo) ?_
 refine ZA (Kc 171 (.slice y.1 M.length y.2) k2) (.pointer (some ⟨gy,k2*8,none⟩)) (fun w1 hw h=>by rw[hgy];exact K9 (elem:=254) Zk Zk hlt2) ?_
 have elY:∀{v:World},M7 254 8 L7 Q7 w.heap.size K y M v→v.rangeAt gy (k2*8) (L7 s):=fun h=>by
  have h2:=h.own;rw[hgy]at h2;exact Lw Lu h2 Zo hs
 refine K0.ask (Kd 254 ⟨gy,k2*8,none⟩) (.agg (L7 s).toArray) Zk (fun w1 hw h=>Ka (vs:=L7 s) Zk Zk (elY h.1)) ?_
 refine ZS 0 ?_
 have hmap:∀l:List Nv,∀q:Nv,(l++ [q]).map (·.2)=l.map (·.2)++ [q.2]:=fun l q=>by rw[List.map_append];rfl
 refine K0.meet (ι:={x:Nat→AV // My (os.map (·.2)) s.2=os.map (·.2)++ [s.2]}) (fun x c=>Nu [9,41,42,43,44,45,46,47,48,49,50,51,52,53,54,55,56] x.1 (Kw 57 (.slice z.1 os.length z.2) (Kw 6 (.slice z.1 os.length z.2) (Lx Tryz.prog 2 1000 (Ag true (Lx Tryz.prog 1000 1000 (Kw 6 (.slice z.1 0 z.2) c))))))) (fun kk=> ?_) (fun x=> ?_)
 ·rcases List.eq_nil_or_concat os with h0|⟨o,t,h0⟩
  ·subst h0
   refine ZT 6 (.slice z.1 ([]:List Nv).length z.2) (.slice z.1 0 z.2) (rfl) ?_
   refine K0.cond true Zk ?_
   refine ZS 2 ?_
   refine K0.slot 6 (.slice z.1 0 z.2) (.slice z.1 ([]:List Nv).length z.2) Zk (rfl) ?_
   refine K0.slot 57 (.slice z.1 0 z.2) (.slice z.1 ([]:List Nv).length z.2) Zk (rfl) ?_
   exact K0.blur [9,41,42,43,44,45,46,47,48,49,50,51,52,53,54,55,56] fun x=>K0.eq (kk ⟨x,rfl⟩) Zk
  rw[List.concat_eq_append]at h0
  subst h0
  have hlen:(o++ [t]).length=o.length+1:=by rw[List.length_append];rfl
  have numt:∀{v:World},M7 254 8 L7 Q7 w.heap.size K y M v→Kh t.1.2 t.2.2 K v:=fun h=>hfs.num h.num t Zs (t.1.2,t.2.2) (by simp[Q7])
  have hms:My ((o++ [t]).map (·.2)) s.2=if t.2.2<s.2.1 then o.map (·.2)++ [t.2]++ [s.2]else if t.2.2<s.2.2 then o.map (·.2)++ [(t.2.1,s.2.2)]else o.map (·.2)++ [t.2]:=by
   rw[hmap];unfold My;rw[List.getLast?_append,List.getLast?_singleton,Option.some_or];dsimp only;rw[List.dropLast_concat]
  refine K0.pure_ (p:=∃g,z.1=some ⟨g,0,none⟩) (fun u hu h=>(M7.mk h.2 (hfs.num h.1.num):M7 254 8 L7 Q7 w.heap.size K z (o++ [t]) u).some Zs) Zk (fun hzg=> ?_)
  obtain⟨gz,hgz⟩:=hzg
  have elZ:∀{v:World},K6 v w.heap.size 254 8 z.1 (o++ [t]).length z.2 ((o++ [t]).flatMap L7)→v.rangeAt gz (o.length*8+4) t.1.2.cl:=fun h=>by
   rw[hgz]at h;exact range_to (Lw Lu h Zo (by rw[List.getElem?_append_right (Nat.le_refl _)];simp))
  refine ZT 6 (.slice z.1 (o++ [t]).length z.2) (.slice z.1 (o.length+1) z.2) (by rw[hlen]) ?_
  refine K0.slot 48 (.int .i64 (IntKind.i64.wrap (((o.length+1:Nat):Int)-1))) (.int .i64 (o.length:Int)) Zk (by rw[IntWalk.i64_in _ Zo];congr 1;omega) ?_
  refine K0.askAt 6 (Kc 171 (.slice z.1 (o.length+1) z.2) o.length) (.pointer (some ⟨gz,o.length*8,none⟩)) Zk (fun w1 hw h=>by rw[hgz];exact K9 (elem:=254) Zk Zk Zo) ?_
  refine ZS 7 ?_
  refine K0.askAt 7 (Zw 254 ⟨gz,o.length*8,none⟩ 1) (.pointer (some ⟨gz,o.length*8+4,none⟩)) Zk (fun w1 hw h=>R6 (d:=4) Zk) ?_
  refine ZS 7 ?_
  refine ZB 8 (Kd 26 ⟨gz,o.length*8+4,none⟩) (t.1.2.val) (fun w1 hw h=>Ka (vs:=t.1.2.cl) Zk Zk (elZ h.2)) ?_
  refine ZC (fun w1 hw h=>Lq (numt h.1).q (nums h.1).1.q ⟨hK.1,hK.1,hK.2⟩) fun c1=> ?_
  by_cases hts:t.2.2<s.2.1
  ·
   refine K0.condr (decide (Kk t.2.2 s.2.1<0)) true Zk (by rw[Qx,decide_eq_true hts]) ?_
   refine ZS 2 ?_
   refine K0.slot 6 (.slice z.1 (o.length+1) z.2) (.slice z.1 (o++ [t]).length z.2) Zk (by rw[hlen]) ?_
   refine K0.slot 57 (.slice z.1 (o.length+1) z.2) (.slice z.1 (o++ [t]).length z.2) Zk (by rw[hlen]) ?_
   refine K0.weak Zk (fun u h=>h.1) ?_
   exact K0.blur [9,41,42,43,44,45,46,47,48,49,50,51,52,53,54,55,56] fun x=>K0.eq (kk ⟨x,by rw[hms,if_pos hts,hmap]⟩) Zk
  rw[if_neg hts]at hms
  refine ZJ (decide (Kk t.2.2 s.2.1<0)) false (by rw[Qx,decide_eq_false hts]) ?_
  refine K0.slot 63 (.int .i64 (IntKind.i64.wrap (((o.length+1:Nat):Int)-1))) (.int .i64 (o.length:Int)) Zk (by rw[IntWalk.i64_in _ Zo];congr 1;omega) ?_
  refine K0.askAt 3 (Kc 171 (.slice z.1 (o.length+1) z.2) o.length) (.pointer (some ⟨gz,o.length*8,none⟩)) Zk (fun w1 hw h=>by rw[hgz];exact K9 (elem:=254) Zk Zk Zo) ?_
  refine ZS 4 ?_
  refine K0.askAt 4 (Zw 254 ⟨gz,o.length*8,none⟩ 1) (.pointer (some ⟨gz,o.length*8+4,none⟩)) Zk (fun w1 hw h=>R6 (d:=4) Zk) ?_
  refine ZS 4 ?_
  refine ZB 5 (Kd 26 ⟨gz,o.length*8+4,none⟩) (t.1.2.val) (fun w1 hw h=>Ka (vs:=t.1.2.cl) Zk Zk (elZ h.1.2)) ?_
  refine ZC (fun w1 hw h=>Lq (numt h.1.1).q (nums h.1.1).2.q ⟨hK.1,hK.1,hK.2⟩) fun c2=> ?_
  by_cases ht2:t.2.2<s.2.2
  case neg=>
   rw[if_neg ht2]at hms
   refine ZJ (decide (Kk t.2.2 s.2.2<0)) false (by rw[Qx,decide_eq_false ht2]) ?_
   refine K0.slot 6 (.slice z.1 (o.length+1) z.2) (.slice z.1 (o++ [t]).length z.2) Zk (by rw[hlen]) ?_
   refine K0.slot 37 (.int .i64 (IntKind.i64.wrap ((k2:Int)+1))) (.int .i64 ((k2+1:Nat):Int)) Zk (by rw[K7 hlt2 Zo]) ?_
   refine K0.next (⟨(k2+1,z,o++ [t]),⟨hlt2,by show(o++ [t]).length≤k2+1;omega⟩,by show(o++ [t]).map (·.2)=((M.take (k2+1)).map (·.2)).foldl My [];rw[htk,hms,hmap],hfs,hzy,hzm⟩) Zk (by show M.length- (k2+1)<M.length-k2;omega) ⟨Zk,Zk,Zk⟩ (fun _ h=>h.1.1)
  rw[if_pos ht2]at hms
  have hl2:(o++ [(((t.1.1,s.1.2),(t.2.1,s.2.2)):Nv)]).length=o.length+1:=by rw[List.length_append];rfl
  have hfs2:Y7 M (o++ [(((t.1.1,s.1.2),(t.2.1,s.2.2)):Nv)]):=fun q hq=>by
   rcases List.mem_append.1 hq with h4|h4
   ·exact hfs q (by simp[h4])
   ·obtain rfl:q=((t.1.1,s.1.2),(t.2.1,s.2.2)):=by simpa using h4
    exact⟨(hfs t Zs).1,s,hsm,rfl,rfl⟩
  refine K0.condr (decide (Kk t.2.2 s.2.2<0)) true Zk (by rw[Qx,decide_eq_true ht2]) ?_
  refine ZS 5 ?_
  refine K0.slot 73 (.int .i64 (IntKind.i64.wrap (((o.length+1:Nat):Int)-1))) (.int .i64 (o.length:Int)) Zk (by rw[IntWalk.i64_in _ Zo];congr 1;omega) ?_
  refine K0.ask (Kc 171 (.slice z.1 (o.length+1) z.2) o.length) (.pointer (some ⟨gz,o.length*8,none⟩)) Zk (fun w1 hw h=>by rw[hgz];exact K9 (elem:=254) Zk Zk Zo) ?_
  refine ZS 6 ?_
  refine K0.ask (Zw 254 ⟨gz,o.length*8,none⟩ 1) (.pointer (some ⟨gz,o.length*8+4,none⟩)) Zk (fun w1 hw h=>R6 (d:=4) Zk) ?_
  refine ZS 7 ?_
  refine K0.mutSt (L:=bl z.1) (G:=fun u=>K6 u w.heap.size 254 8 z.1 (o.length+1) z.2 ((o++ [((t.1.1,s.1.2),(t.2.1,s.2.2))]).flatMap L7)) (Φ':=fun u=>M7 254 8 L7 Q7 w.heap.size K y M u∧K6 u w.heap.size 254 8 z.1 (o.length+1) z.2 ((o++ [((t.1.1,s.1.2),(t.2.1,s.2.2))]).flatMap L7)) (Rm 26 ⟨gz,o.length*8+4,none⟩ s.1.2.val) (fun w1 hw h=>by
   have h2:K6 w1 w.heap.size 254 8 z.1 (o++ [t]).length z.2 ((o++ [t]).flatMap L7):=h.1.1.2
   rw[hlen,hgz]at h2
   have h3:=h2.storeN (P:=Tryz.prog) (t:=26) (v:=s.1.2.val) (j:=o.length*8+4) Zk (by rw[Pk Lu,hlen];show o.length*8+4+4≤(o.length+1)*8;omega) (fun v hv=>by have hv:v∈s.1.2.cl:=hv;simp[RV.cl]at hv;rcases hv with rfl|rfl|rfl|rfl<;>rfl)
   rw[flat_to o t s]at h3
   rw[hgz];exact h3) (fun u h=>h.1.1.2.blk) (fun wa u e1 e2 h hG=>⟨h.1.1.1.left (fun b hb hc=>hzy b hc hb) (fun q hq x hx b hb hc=>hzm q hq x hx b hc hb) e1 e2,hG⟩) Zk Zk ?_
  refine ZR ?_
  refine K0.slot 6 (.slice z.1 (o.length+1) z.2) (.slice z.1 (o++ [(((t.1.1,s.1.2),(t.2.1,s.2.2)):Nv)]).length z.2) Zk (by rw[hl2]) ?_
  refine K0.slot 37 (.int .i64 (IntKind.i64.wrap ((k2:Int)+1))) (.int .i64 ((k2+1:Nat):Int)) Zk (by rw[K7 hlt2 Zo]) ?_
  refine K0.next (⟨(k2+1,z,o++ [((t.1.1,s.1.2),(t.2.1,s.2.2))]),⟨hlt2,by show(o++ [(((t.1.1,s.1.2),(t.2.1,s.2.2)):Nv)]).length≤k2+1;omega⟩,by show(o++ [(((t.1.1,s.1.2),(t.2.1,s.2.2)):Nv)]).map (·.2)=((M.take (k2+1)).map (·.2)).foldl My [];rw[htk,hms,hmap],hfs2,hzy,hzm⟩) Zk (by show M.length- (k2+1)<M.length-k2;omega) ⟨Zk,Zk,Zk⟩ (fun u h=>⟨h.1,by show K6 u w.heap.size 254 8 z.1 (o++ [(((t.1.1,s.1.2),(t.2.1,s.2.2)):Nv)]).length z.2 ((o++ [(((t.1.1,s.1.2),(t.2.1,s.2.2)):Nv)]).flatMap L7);rw[hl2];exact h.2⟩)
 obtain⟨xj,hms⟩:=x
 refine K0.make (M5 (171) 1 #[(0,.agg (L7 s).toArray)]) (Km 1) (Kv 254 (L7 s).toArray) Zk (fun w1 hw h=>Ke Zk) (fun gb=> ?_)
 refine ZS 3 ?_
 refine K0.mutOp (L:=bl z.1) (val:=fun z':Option Addr×Nat=> .slice z'.1 (os.length+1) z'.2) (Φ':=fun z' u=>M7 254 8 L7 Q7 w.heap.size K y M u∧K6 u w.heap.size 254 8 z'.1 (os.length+1) z'.2 ((os++ [s]).flatMap L7)∧(∀b∈bl z'.1,b∉bl y.1)∧Un Q7 z'.1 M) (G:=fun z' v=>K6 v w.heap.size 254 8 z'.1 (os.length+1) z'.2 ((os++ [s]).flatMap L7)∧(∀b∈bl z'.1,b∉bl y.1)∧Un Q7 z'.1 M) (Nc 171 171 (.slice z.1 os.length z.2) (Km 1 gb)) (fun w1 hw h=>app_sp h.1.2 h.1.1 ⟨hzy,hzm⟩ hw.size h.2 Zo) (fun u h=>h.1.2.blk) (fun z' wa u e1 e2 h hG=>⟨h.1.1.left (fun b hb hc=>hzy b hc hb) (fun q hq x hx b hb hc=>hzm q hq x hx b hc hb) e1 e2,hG⟩) Zk Zk (fun z'=> ?_)
 refine ZR ?_
 refine K0.pure_ (p:=(∀b∈bl z'.1,b∉bl y.1)∧Un Q7 z'.1 M) (fun u hu h=>h.2.2) Zk (fun hz2=> ?_)
 refine K0.slot 6 (.slice z'.1 (os.length+1) z'.2) (.slice z'.1 (os++ [s]).length z'.2) Zk (by rw[List.length_append];rfl) ?_
 refine K0.slot 37 (.int .i64 (IntKind.i64.wrap ((k2:Int)+1))) (.int .i64 ((k2+1:Nat):Int)) Zk (by rw[K7 hlt2 Zo]) ?_
 refine K0.next (⟨(k2+1,z',os++ [s]),⟨hlt2,by show(os++ [s]).length≤k2+1;rw[List.length_append];simp;omega⟩,by show(os++ [s]).map (·.2)=((M.take (k2+1)).map (·.2)).foldl My [];rw[htk,hms,hmap],hfs.snoc hsm,hz2.1,hz2.2⟩) Zk (by show M.length- (k2+1)<M.length-k2;omega) ⟨Zk,Zk,Zk⟩ (fun u h=>⟨h.1,by show K6 u w.heap.size 254 8 z'.1 (os++ [s]).length z'.2 ((os++ [s]).flatMap L7);rw[List.length_append];exact h.2.1⟩)
end
section
variable{w:World}{A:Option Addr}{n c K:Nat}{a b:RV}{p q:Rat}
theorem cmp_ne1{p q:Rat}(h:¬q<p):Kk p q≠1:=fun h2=>by
 unfold Kk at h2
 split at h2
 ·cases h2
 ·split at h2
  ·cases h2
  ·exact h (by grind)
theorem cmp_nem{p q:Rat}(h:¬p<q):Kk p q≠-1:=fun h2=>by
 unfold Kk at h2
 split at h2
 ·exact h (by assumption)
 ·split at h2<;>cases h2
theorem lenB{K n:Nat}(hn:n≤1000)(hK:K≤1000000):2+n*(2*K+2)≤2001000002:=by
 have:=Nat.mul_le_mul hn (show 2*K+2≤2000002 by omega);omega
theorem length_m{Z:List Nv}(hr:Kq w A n 8 L7 Z)(hq:∀z∈Z,Ox z.1.1 z.2.1 K w∧Ox z.1.2 z.2.2 K w)(ha:Ox a p K w)(hb:Ox b q K w)(hn:n≤1000)(hK:2≤K∧K≤1000000):
 Calls Tryz.prog 97 #[.slice A n c,a.val,b.val] w (K3 w RV.val fun v u=>Kh v (Bg (Z.map (·.2)) p q) (2+n*(2*K+2)) u):=by
 refine K0.enter Tryz.func97 rfl ?_
 refine ZR ?_
 refine ZC (fun w1 hw h=>Ki 0 w1 Zd Zd) fun s0=> ?_
 refine ZC (fun w1 hw h=>merge_m (c:=c) (N:=w.heap.size) (hr.below hw) (fun z hz=>⟨(hq z hz).1.below hw,(hq z hz).2.below hw⟩) Zo ⟨hK.1,by omega⟩ hw.size) fun m=> ?_
 obtain⟨y,⟨rs,hrs,hrn⟩⟩:=m
 refine K0.loop (ι:={x:Nat×RV // x.1≤rs.length}) 42 (fun x=>⟨[(4,.p 4 0),(5,.p 5 0),(6,.p 6 0),(7,.p 7 0),(8,.v (.func (.func 156) #[] #[])),(15,.v (.slice y.1 rs.length y.2)),(16,.v (.int .i64 (rs.length:Int))),(17,.v (.int .i64 (x.1.1:Int)))],[(4,a.cl.map .v),(5,b.cl.map .v),(6,Oc.cl.map .v),(7,x.1.2.cl.map .v)]⟩) (fun x u=>M7 254 8 L7 Q7 w.heap.size K y rs u∧Kh x.1.2 (((rs.take x.1.1).map (·.2)).foldl (Aj p q) 0) (2+x.1.1*(2*K+2)) u) (fun x=>rs.length-x.1.1) (⟨(0,s0),Nat.zero_le _⟩) Zk (fun _=>by kernel_rfl) ⟨Zk,Zk,Zk⟩ (fun u h=>⟨h.2.1,by show Kh s0 0 (2+0*(2*K+2)) u;rw[Nat.zero_mul];exact h.1.2⟩) ?_
 rintro⟨⟨k,s⟩,hk⟩ gg
 have hk:k≤rs.length:=hk
 by_cases hlt:k<rs.length
 case neg=>
  obtain rfl:k=rs.length:=by omega
  refine ZR ?_
  refine ZJ (decide ((rs.length:Int)<(rs.length:Int))) false (decide_eq_false Zo) ?_
  refine K0.leave Zk ?_
  refine ZR ?_
  refine ZV (s.val) (fun w1 hw h=>⟨s,rfl,hw,fun w'' k1 k2=>by have h2:Kh s (((rs.take rs.length).map (·.2)).foldl (Aj p q) 0) (2+rs.length*(2*K+2)) w'':=(h w'' k1 k2).2;rw[List.take_of_length_le (Nat.le_refl _),hrs]at h2;exact h2.mono (by have:=Nat.mul_le_mul_right (2*K+2) hrn;omega)⟩)
 obtain⟨e,he⟩:∃e,rs[k]? =some e:=⟨_,List.getElem?_eq_getElem hlt⟩
 have hem:=List.mem_of_getElem? he
 have htk:((rs.take (k+1)).map (·.2)).foldl (Aj p q) 0=Aj p q (((rs.take k).map (·.2)).foldl (Aj p q) 0) e.2:=by
  rw[Lb he,List.map_append,List.foldl_append];rfl
 have nums:∀{v:World},M7 254 8 L7 Q7 w.heap.size K y rs v→Kh e.1.1 e.2.1 K v∧Kh e.1.2 e.2.2 K v:=fun h=>⟨h.num e hem (e.1.1,e.2.1) (by simp[Q7]),h.num e hem (e.1.2,e.2.2) (by simp[Q7])⟩
 have hb1:=lenB (K:=K) (n:=k) Zo hK.2
 have hb2:2+(k+1)*(2*K+2)=2+k*(2*K+2)+(K+K+1)+1:=by rw[Nat.add_mul];omega
 refine K0.pure_ (p:=∃g,y.1=some ⟨g,0,none⟩) (fun u hu h=>h.1.some (by intro e;rw[e]at hlt;simp at hlt)) Zk (fun hyg=> ?_)
 obtain⟨gy,hgy⟩:=hyg
 refine ZR ?_
 refine ZJ (decide ((k:Int)<(rs.length:Int))) true (decide_eq_true Zo) ?_
 refine ZA (Kc 171 (.slice y.1 rs.length y.2) k) (.pointer (some ⟨gy,k*8,none⟩)) (fun w1 hw h=>by rw[hgy];exact K9 (elem:=254) Zk Zk hlt) ?_
 refine ZA (Kd 254 ⟨gy,k*8,none⟩) (.agg (L7 e).toArray) (fun w1 hw h=>Ka (vs:=L7 e) Zk Zk (by have h2:=h.1.own;rw[hgy]at h2;exact Lw Lu h2 Zo he)) ?_
 refine ZC (fun w1 hw h=>inner_m (k:=1) (nums h.1).1.q (ha.below hw) ⟨hK.1,by omega⟩ Zd) fun lo=> ?_
 refine ZC (fun w1 hw h=>inner_m (k:= -1) (nums h.1.1).2.q (hb.below hw) ⟨hK.1,by omega⟩ Zd) fun hi=> ?_
 obtain⟨lo,hlo⟩:=lo
 obtain⟨hi,hhi⟩:=hi
 have qlo:∀{v:World},M7 254 8 L7 Q7 w.heap.size K y rs v→Below w.heap.size w v→Ox lo (Bf e.2 p) K v:=fun h hv=>by
  unfold Bf;rw[hlo]
  by_cases hc:p<e.2.1
  ·rw[if_pos hc,if_pos (Vq hc)];exact(nums h).1.q
  ·rw[if_neg hc,if_neg (cmp_ne1 hc)];exact ha.below hv
 have qhi:∀{v:World},M7 254 8 L7 Q7 w.heap.size K y rs v→Below w.heap.size w v→Ox hi (Tf e.2 q) K v:=fun h hv=>by
  unfold Tf;rw[hhi]
  by_cases hc:e.2.2<q
  ·rw[if_pos hc,if_pos (Vr hc)];exact(nums h).2.q
  ·rw[if_neg hc,if_neg (cmp_nem hc)];exact hb.below hv
 by_cases hc:Bf e.2 p<Tf e.2 q
 ·
  refine ZC (fun w1 hw h=>Lq (qlo h.1.1.1 hw) (qhi h.1.1.1 hw) ⟨hK.1,hK.1,by omega⟩) fun c1=> ?_
  refine ZJ (decide (Kk (Bf e.2 p) (Tf e.2 q)<0)) true (by rw[Qx,decide_eq_true hc]) ?_
  refine ZC (fun w1 hw h=>J0 (qhi h.1.1.1.1 hw) (qlo h.1.1.1.1 hw) ⟨hK.1,hK.1,by omega⟩) fun d=> ?_
  refine ZC (fun w1 hw h=>Sx (show Ox s (((rs.take k).map (·.2)).foldl (Aj p q) 0) (2+k*(2*K+2)) w1 from h.1.1.1.1.2.q) h.2.q ⟨by omega,by omega,by omega⟩) fun t=> ?_
  refine K0.slot 17 (.int .i64 (IntKind.i64.wrap ((k:Int)+1))) (.int .i64 ((k+1:Nat):Int)) Zk (by rw[K7 hlt Zo]) ?_
  refine K0.next (⟨(k+1,t),hlt⟩) Zk (by show rs.length- (k+1)<rs.length-k;omega) ⟨Zk,Zk,Zk⟩ (fun u h=>⟨h.1.1.1.1.1.1,by show Kh t (((rs.take (k+1)).map (·.2)).foldl (Aj p q) 0) (2+(k+1)*(2*K+2)) u;rw[htk,hb2];unfold Aj;rw[if_pos hc];exact h.2⟩)
 ·
  refine ZC (fun w1 hw h=>Lq (qlo h.1.1.1 hw) (qhi h.1.1.1 hw) ⟨hK.1,hK.1,by omega⟩) fun c1=> ?_
  refine ZJ (decide (Kk (Bf e.2 p) (Tf e.2 q)<0)) false (by rw[Qx,decide_eq_false hc]) ?_
  refine K0.slot 17 (.int .i64 (IntKind.i64.wrap ((k:Int)+1))) (.int .i64 ((k+1:Nat):Int)) Zk (by rw[K7 hlt Zo]) ?_
  refine K0.next (⟨(k+1,s),hlt⟩) Zk (by show rs.length- (k+1)<rs.length-k;omega) ⟨Zk,Zk,Zk⟩ (fun u h=>⟨h.1.1.1.1,by show Kh s (((rs.take (k+1)).map (·.2)).foldl (Aj p q) 0) (2+(k+1)*(2*K+2)) u;rw[htk,hb2];have h2:Kh s (((rs.take k).map (·.2)).foldl (Aj p q) 0) (2+k*(2*K+2)) u:=h.1.1.1.2;unfold Aj;rw[if_neg hc];exact h2.mono Zo⟩)
end
section
open Go.MapKept in
def W9(w:World)(g:Nat)(l:List (Int×Int)):Prop:=∃es clock,w.heap[g]? =some (.map es clock)∧es.toList.map (fun e=>(e.key,e.val))=l.map (fun i=>(Value.int .i64 i.1,Value.int .i64 i.2))
def mapS3(t:TypeId):Sem Next:=Instr.makeMap t none >>= fun v=>pure (.value v)
def lkS3(t:TypeId)(m k:Value):Sem Next:=Instr.lookup t m k false >>= fun v=>pure (.value v)
section
variable{P:Program}{w:World}{t kt et:TypeId}{g:Nat}{l:List (Int×Int)}{x z:Int}
theorem Yk{x:Int}:∀{es:List MapEntry} {l:List (Int×Int)} {i:Nat},es.map (fun e=>(e.key,e.val))=l.map (fun i=>(Value.int .i64 i.1,Value.int .i64 i.2))→
 ∃a,Instr.findNow (.int .i64) (.int .i64 x) es i=some a∧((a=none∧l.lookup x=none)∨∃j v,a=some (j,.int .i64 v)∧l.lookup x=some v)
 | [],[],i,h=>⟨none,rfl,.inl ⟨rfl,rfl⟩⟩
 | [],_::_,i,h=>by simp at h
 |_::_,[],i,h=>by simp at h
 | e::es,y::l,i,h=>by
  simp only[List.map_cons,List.cons.injEq,Prod.mk.injEq]at h
  obtain⟨⟨hk,hv⟩,h⟩:=h
  by_cases hxy:x=y.1
  ·subst hxy
   exact⟨some (i,.int .i64 y.2),by simp[Instr.findNow,Instr.sameNow,hk,hv],.inr ⟨i,y.2,rfl,by rw[List.lookup,beq_self_eq_true]⟩⟩
  ·obtain⟨a,ha,hc⟩:=Yk (x:=x) (i:=i+1) h
   have hl:(y::l).lookup x=l.lookup x:=by rw[List.lookup,beq_eq_false_iff_ne.2 hxy]
   exact⟨a,by simp only[Instr.findNow,Instr.sameNow,hk,if_true,beq_eq_false_iff_ne.2 hxy,ha],by rw[hl];exact hc⟩
open Go.MapKept in
theorem H8(ht:P.underlying t=some (.map kt et))(hk:P.underlying kt=some (.int .i64))(hz:(zeroValue et).run P w= .ok (.int .i64 0) w)(h:W9 w g l):
 (lkS3 t (.map (some g)) (.int .i64 x)).run P w= .ok (.value (.int .i64 ((l.lookup x).getD 0))) w:=by
 obtain⟨es,clock,hb,he⟩:=h
 obtain⟨a,ha,hc⟩:=Yk (x:=x) (i:=0) he
 have hck:(Instr.checkKey es.isEmpty 10000 kt (.int .i64 x)).run P w= .ok () w:=by
  exact MapKept.run_checkKey hk (by simp[MapKept.IsKey]) _ _
 have h1:(Instr.lookup t (.map (some g)) (.int .i64 x) false).run P w= .ok (.int .i64 ((l.lookup x).getD 0)) w:=by
  rcases hc with ⟨rfl,hx⟩|⟨j,v,rfl,hx⟩
  ·simp[Instr.lookup,run_underlying ht,MapKept.run_getObj_map hb,hck,run_findKey hk ha,hz,Result.andThen,hx]
  ·simp[Instr.lookup,run_underlying ht,MapKept.run_getObj_map hb,hck,run_findKey hk ha,Result.andThen,hx]
 simp only[lkS3,Sem.run_bind,h1,Result.andThen_ok,Sem.run_pure]
open Go.MapKept in
theorem Gd(ht:P.underlying t=some (.map kt et))(hk:P.underlying kt=some (.int .i64))(h:W9 w g l)(hx:l.lookup x=none):
 ∃w',(muS t (.map (some g)) (.int .i64 x) (.int .i64 z)).run P w= .ok .skip w'∧Ga [g] w w'∧∀w'',w'.heap.size≤w''.heap.size→(∀b∈[g],w''.heap[b]? =w'.heap[b]?)→W9 w'' g (l++ [(x,z)]):=by
 obtain⟨es,clock,hb,he⟩:=h
 obtain⟨a,ha,hc⟩:=Yk (x:=x) (i:=0) he
 rcases hc with ⟨rfl,_⟩|⟨_,_,_,h⟩
 case inr=>rw[hx]at h;cases h
 have hck:(Instr.checkKey false 10000 kt (.int .i64 x)).run P w= .ok () w:=by
  exact MapKept.run_checkKey hk (by simp[MapKept.IsKey]) _ _
 refine⟨{w with heap:=w.heap.setIfInBounds g (.map (es.push ⟨.int .i64 x,.int .i64 z,clock⟩) (clock+1))},by simp only[muS,Instr.mapUpdate,Sem.run_bind,run_underlying ht,MapKept.run_getObj_map hb,hck,run_findKey hk ha,run_setObj_map _ hb,Result.andThen_ok,Sem.run_pure],⟨rfl,rfl,rfl,Nat.le_of_eq Zs,fun k _ h2=>(heap_set hb).2 k (by simpa using h2)⟩,fun w'' _ k2=>⟨es.push ⟨.int .i64 x,.int .i64 z,clock⟩,clock+1,?_,by simp[he]⟩⟩
 rw[k2 g Zs]
 exact(heap_set hb).1
theorem make_ii{N:Nat}(hN:N≤w.heap.size):Lp P w (fun g:Nat=> .map (some g)) (fun g u=>W9 u g []∧N≤g) (mapS3 t):=
 ⟨w.heap.size,w.alloc (.map #[] 0),by simp only[mapS3,Instr.makeMap,Sem.run_bind,run_newObj_alloc,Result.andThen_ok,Sem.run_pure],Om _ _,fun w'' h1 h2=>⟨⟨#[],0,(P6 w _ h1 h2).1,rfl⟩,hN⟩⟩
end
def andW(n m:Int):Int:=IntKind.i64.wrap (((BitVec.ofInt 64 n &&& BitVec.ofInt 64 m).toNat:Nat):Int)
theorem and_1(n:Int):andW n 1=n%2:=by
 unfold andW
 have h:(BitVec.ofInt 64 n &&& BitVec.ofInt 64 1).toNat=(n%2).toNat:=by
  rw[BitVec.toNat_and]
  have e1:(BitVec.ofInt 64 1).toNat=2 ^ 1-1:=by decide
  rw[e1,Nat.and_two_pow_sub_one_eq_mod,BitVec.toNat_ofInt]
  omega
 rw[h,Int.toNat_of_nonneg Zo]
 have h1:0≤n%2∧n%2<2:=by omega
 generalize n%2=m at h1
 obtain h|h:m=0∨m=1:=by omega
 all_goals (subst h;decide)
theorem and_m1{n:Int}(hn: -1000000≤n∧n≤1000000):andW n (-1)=n:=by
 unfold andW
 have e1:BitVec.ofInt 64 (-1)=BitVec.allOnes 64:=by decide
 rw[e1,BitVec.and_allOnes,BitVec.toNat_ofInt,IntKind.wrap_i64]
 omega
section
variable{w:World}{n rule:Int}
theorem fills_m(hr:rule=1∨rule=2)(hn: -1000000≤n∧n≤1000000):Calls Tryz.prog 159 #[.int .i64 n,.int .i64 rule] w (K3 w (fun _:Unit=> .bool (Bq rule n)) fun _ _=>True):=by
 refine K0.enter Tryz.func159 rfl ?_
 refine ZR ?_
 refine K0.make (mapS3 333) ((fun g:Nat=> .map (some g))) ((fun g u=>W9 u g []∧w.heap.size≤g)) Zk (fun w1 hw h=>make_ii hw.size) (fun g=> ?_)
 refine ZR ?_
 refine K0.mutM (g:=g) (G:=fun u=>W9 u g [(1,-1)]) (Φ':=fun u=>W9 u g [(1,-1)]∧w.heap.size≤g) (muS 333 (.map (some g)) (.int .i64 1) (.int .i64 (-1))) (fun w1 hw h=>Gd (P:=Tryz.prog) (kt:=3) (et:=3) (l:=[]) Zk Zk h.2.1 rfl) (fun u h=>⟨h.2.2,by obtain⟨es,c,h1,_⟩:=h.2.1;exact⟨es,c,h1⟩⟩) (fun wa u e1 e2 h hG=>⟨hG,h.2.2⟩) Zk Zk ?_
 refine ZR ?_
 refine K0.mutM (g:=g) (G:=fun u=>W9 u g [(1,-1),(2,1)]) (Φ':=fun u=>W9 u g [(1,-1),(2,1)]) (muS 333 (.map (some g)) (.int .i64 2) (.int .i64 1)) (fun w1 hw h=>Gd (P:=Tryz.prog) (kt:=3) (et:=3) (l:=[(1,-1)]) Zk Zk h.1 rfl) (fun u h=>⟨h.2,by obtain⟨es,c,h1,_⟩:=h.1;exact⟨es,c,h1⟩⟩) (fun wa u e1 e2 h hG=>hG) Zk Zk ?_
 refine ZR ?_
 rcases hr with rfl|rfl
 ·
  refine ZA (lkS3 333 (.map (some g)) (.int .i64 1)) (.int .i64 (-1)) (fun w1 hw h=>H8 (P:=Tryz.prog) (kt:=3) (et:=3) (l:=[(1,-1),(2,1)]) (x:=1) Zk Zk Zk h) ?_
  exact ZX (.bool (andW n (-1) !=0)) (by rw[and_m1 hn];rfl)
 ·
  refine ZA (lkS3 333 (.map (some g)) (.int .i64 2)) (.int .i64 1) (fun w1 hw h=>H8 (P:=Tryz.prog) (kt:=3) (et:=3) (l:=[(1,-1),(2,1)]) (x:=2) Zk Zk Zk h) ?_
  exact ZX (.bool (andW n 1 !=0)) (by rw[and_1];rfl)
end
end
theorem M7.cel{β:Type}{e:TypeId}{s:Nat}{cl:β→List Value}{qs:β→List RQ}{B K:Nat}{y:Option Addr×Nat}{rs:List β}:C4 (M7 e s cl qs B K y rs):=fun wa u h1 h2 h=>⟨K6.cel wa u h1 h2 h.own,fun z hz x hx=>Kh.cel wa u h1 h2 (h.num z hz x hx)⟩
abbrev MSt:=Nat×(Option Addr×Nat)×List Pv
structure MJ(W:World)(yR:RV)(yq:Rat)(gy go gE n K:Nat)(L:List (List Pt))(yE:Option Addr×Nat)(HE:List LP)(s:MSt)(k:Nat)(u:World):Prop where
 kk:s.1=k
 v:s.2.2.map (·.2)=((Kj L).take k).filterMap (N9 yq)
 ap:Un U2 s.2.1.1 s.2.2
 ag:∀z∈s.2.2,∀x∈U2 z,go∉Ln x.1
 cy:Kb u gy 26 yR.cl
 box:Kb u go 255 [.slice s.2.1.1 s.2.2.length s.2.1.2]
 row:M7 258 5 M0 U2 W.heap.size K s.2.1 s.2.2 u
 o:C3 W.heap.size gE yE n HE u
def MLs(go:Nat)(s:MSt):List Nat:=go::bl s.2.1.1
structure MG(W:World)(yq:Rat)(go K:Nat)(L:List (List Pt))(s s':MSt)(u:World):Prop where
 kk:s'.1=s.1+1
 v:s'.2.2.map (·.2)=((Kj L).take (s.1+1)).filterMap (N9 yq)
 ap:Un U2 s'.2.1.1 s'.2.2
 ag:∀z∈s'.2.2,∀x∈U2 z,go∉Ln x.1
 box:Kb u go 255 [.slice s'.2.1.1 s'.2.2.length s'.2.1.2]
 own:K6 u W.heap.size 258 5 s'.2.1.1 s'.2.2.length s'.2.1.2 (s'.2.2.flatMap M0)
 num:∀z∈s'.2.2,z∈s.2.2∨∀x∈U2 z,Kh x.1 x.2 K u
section
variable{w W w0 wa u:World}{yR:RV}{yq:Rat}{gy go gE n c K l k:Nat}{L:List (List Pt)}{yE:Option Addr×Nat}{H HE:List LP}{s s':MSt}{A:Option Addr}
theorem mls_mem{x:Nat}:x∈MLs go s↔x=go∨x∈bl s.2.1.1:=by unfold MLs;simp
theorem MJ.own(hgo:W.heap.size≤go):Uv W (MLs go s) (MJ W yR yq gy go gE n K L yE HE s k):=fun u h x hx=>by
 rcases mls_mem.1 hx with rfl|hx
 ·exact⟨hgo,h.box.own⟩
 ·exact⟨(h.row.own.blk x hx).1,(h.row.own.blk x hx).2⟩
theorem MJ.bx(h:MJ W yR yq gy go gE n K L yE HE s k wa){g:Nat}{t:TypeId}{cs:List Value}(hb:Kb wa g t cs)(h1:t≠255)(h2:t≠258):g∉MLs go s:=fun hc=>by
 rcases mls_mem.1 hc with rfl|hx
 ·exact hb.ne2 h.box h1 rfl
 ·exact hb.ne h.row.own (fun e=>h2 e.symm) _ hx rfl
theorem MJ.rw_(h:MJ W yR yq gy go gE n K L yE HE s k wa){B s2 m cc:Nat}{e:TypeId}{A:Option Addr}{xs:List Value}(hr:K6 wa B e s2 A m cc xs)(h1:e≠255)(h2:e≠258):∀x∈bl A,x∉MLs go s:=fun x hxA hc=>by
 rcases mls_mem.1 hc with rfl|hx
 ·exact h.box.ne hr h1 _ hxA rfl
 ·exact Oq hr h.row.own h2 x hxA hx
theorem MJ.left:Tt (MLs go s) (MJ W yR yq gy go gE n K L yE HE s k) (MG W yq go K L s s') (MJ W yR yq gy go gE n K L yE HE s' (k+1)):=fun wa u e1 e2 h hG=>by
 have hk:=h.kk
 subst hk
 refine⟨hG.kk,hG.v,hG.ap,hG.ag,h.cy.left e2 (h.bx h.cy Zd Zd),hG.box,⟨hG.own,fun z hz x hx=> ?_⟩,h.o.1.left e2 (h.bx h.o.1 Zd Zd),h.o.2.own.left e2 (h.rw_ h.o.2.own Zd Zd),fun x hx=>(h.o.2.ring x hx).left e2 (h.rw_ (h.o.2.ring x hx) Zd Zd)⟩
 rcases hG.num z hz with h4|h4
 ·refine(h.row.num z h4 x hx).leftL e1 e2 fun b hb hc=> ?_
  rcases mls_mem.1 hc with rfl|h3
  ·exact h.ag z h4 x hx hb
  ·exact h.ap z h4 x hx b h3 hb
 ·exact h4 x hx
theorem MJ.cel:C4 (MJ W yR yq gy go gE n K L yE HE s k):=fun wa u h1 h2 h=>
 ⟨h.kk,h.v,h.ap,h.ag,Kb.cel wa u h1 h2 h.cy,Kb.cel wa u h1 h2 h.box,M7.cel wa u h1 h2 h.row,Kb.cel wa u h1 h2 h.o.1,K6.cel wa u h1 h2 h.o.2.own,fun x hx=>K6.cel wa u h1 h2 (h.o.2.ring x hx)⟩
theorem MJ.len(h:MJ W yR yq gy go gE n K L yE HE s k u)(hL:L.flatten.length≤4096):s.2.2.length≤4096:=by
 have h1:s.2.2.length=(((Kj L).take k).filterMap (N9 yq)).length:=by rw[←h.v,List.length_map]
 have h2:=List.length_filterMap_le (N9 yq) ((Kj L).take k)
 have h3:=Qv L
 rw[List.length_take]at h2
 omega
theorem Gg{k:Nat}{e:Pt×Pt}(h:(Kj L)[k]? =some e):((Kj L).take (k+1)).filterMap (N9 yq)=((Kj L).take k).filterMap (N9 yq)++(N9 yq e).toList:=by
 rw[Lb h,List.filterMap_append]
 cases hm:N9 yq e<;>simp[hm]
theorem MJ.skip{w1:World}{e:Pt×Pt}(h:MJ W yR yq gy go gE n K L yE HE s k w1)(he:(Kj L)[k]? =some e)(hm:N9 yq e=none)(k2:∀b,b∈MLs go s→u.heap[b]? =w1.heap[b]?):MG W yq go K L s (s.1+1,s.2) u:=by
 have hk:=h.kk
 subst hk
 exact⟨rfl,by show s.2.2.map (·.2)=_;rw[Gg he,hm,h.v];simp,h.ap,h.ag,h.box.to (k2 go (mls_mem.2 (.inl rfl))),h.row.own.same fun b hb=>k2 b (mls_mem.2 (.inr hb)),fun z hz=> .inl hz⟩
theorem cmp_rng(p q:Rat):Kk p q= -1∨Kk p q=0∨Kk p q=1:=by
 unfold Kk
 split
 ·exact .inl rfl
 ·split
  ·exact .inr (.inl rfl)
  ·exact .inr (.inr rfl)
theorem wrap_cc(p q r s:Rat):IntKind.i64.wrap (Kk p q*Kk r s)=Kk p q*Kk r s:=by
 rcases cmp_rng p q with h|h|h<;>rcases cmp_rng r s with k|k|k<;>rw[h,k]<;>decide
structure MRd(W w0:World)(l:Nat)(rc:Loop)(go K:Nat)(s:MSt)(z:Pv)(y':Option Addr×Nat)(u:World):Prop where
 f:RFL W w0 l (MLs go s) rc u
 q:Kh z.1 z.2.1 K u
 own:K6 u W.heap.size 258 5 y'.1 (s.2.2.length+1) y'.2 ((s.2.2++ [z]).flatMap M0)
 ap:Un U2 y'.1 (s.2.2++ [z])
 bk:∀b∈bl y'.1,b∈bl s.2.1.1∨w0.heap.size≤b
theorem marks_m(hp:Np w A n H)(hn:n≤1000000)(hv:vL 0 (K4 H)=true)(hy:Ox yR yq K w)(hK:2≤K∧K≤900):
 Calls Tryz.prog 158 #[.slice A n c,yR.val] w (K3 w (fun q:(Option Addr×Nat)×{M:List Pv // M.map (·.2)=Rj (K4 H) yq}=> .slice q.1.1 q.2.1.length q.1.2) fun q u=>M7 258 5 M0 U2 w.heap.size (K+10) q.1 q.2.1 u):=by
 have hf:=hv
 rw[Aw (Nat.zero_le _),Bool.and_eq_true,decide_eq_true_eq,List.all_eq_true]at hf
 have hlen2:(K4 H).flatten.length≤4096:=by omega
 have hlen:∀x∈H,x.1.length≤4096:=fun x hx=>by
  have:x.1.length≤(K4 H).flatten.length:=List.Sublist.length_le (List.sublist_flatten_of_mem (List.mem_map_of_mem hx))
  omega
 have hpt:∀x∈H,∀p∈x.1,vP p=true:=fun x hx p hp=>hf.2 p (List.mem_flatten.2 ⟨x.1,List.mem_map_of_mem hx,hp⟩)
 refine K0.enterM Tryz.func158 rfl (Below.refl _ _) ?_
 refine ZS 0 ?_
 refine K0.make (Ad 26 yR.val) (Ku) (fun g u=>Kb u g 26 yR.cl∧w.heap.size≤g∧g∉[]) Zk (fun w1 hw h=>Q3 (v:=yR.val) hw.size Zs) (fun gy=> ?_)
 refine ZS 0 ?_
 refine K0.make (C1 255) (Ku) (fun g u=>Kb u g 255 [.slice none 0 0]∧w.heap.size≤g∧g∉[]) Zk (fun w1 hw h=>Q4 (z:= .slice none 0 0) Zk hw.size Zs) (fun go=> ?_)
 refine ZR ?_
 refine ZC (fun w1 hw h=>edges_m (N:=w.heap.size) (c:=c) hw.size (hp.below hw) hn hv) fun E=> ?_
 obtain⟨⟨gE,yE⟩,HE,hHE⟩:=E
 refine K0.pure_ (p:=w.heap.size≤go) (fun u hu h=>h.1.2.2.1) Zk (fun hgo=> ?_)
 have hHEl:HE.length=n:=by have h1:=congrArg List.length hHE;simp only[K4,List.length_map]at h1;rw[h1];exact hp.row.1
 have hHEm:∀x∈HE,∃z∈H,z.1=x.1:=fun x hx=>by
  have:x.1∈K4 H:=hHE▸List.mem_map_of_mem hx
  exact List.mem_map.1 this
 refine K0.rangeC (α:=Pt×Pt) (gf:=236) (lb:= #[Ku gE]) (ps:= #[14,15]) (encs:=fun e=> #[Ls e.1,Ls e.2]) (xs:=Kj (K4 HE)) (Pre:=Dm gE yE n HE) MSt (fun s k u=>MJ w yR yq gy go gE n (K+10) (K4 H) yE HE s k u) (MLs go) (fun s s' u=>MG w yq go (K+10) (K4 H) s s' u) (0,(none,0),[]) Zk (fun w1 hw h=>F1 hn hHEl (fun x hx=>by obtain⟨z,hz,e⟩:=hHEm x hx;rw[←e];exact hlen z hz) (fun x hx=>by obtain⟨z,hz,e⟩:=hHEm x hx;rw[←e];exact hpt z hz)) (enters_of Tryz.func236 Zk rfl) (fun x=>rfl) (fun s k u h=>h.o.at) (fun s k=>MJ.own hgo) (fun s k s'=>MJ.left) (fun s k=>MJ.cel) (fun u h=>⟨rfl,rfl,Un.nil_,(by intro z hz;cases hz),h.1.1.2.1,h.1.2.1,M7.nil_,h.2.1⟩) (fun l s k' x w0 fn tmps D hw0 hl hlt hlL hrec hx hRF R hR=> ?_) (fun s D hD=> ?_)
 rotate_left
 ·obtain⟨cnt,y,rs⟩:=s
  have hxl:(Kj (K4 HE)).length=(Kj (K4 H)).length:=by rw[hHE]
  rw[hxl]
  refine K0.pure_ (p:=(rs.map (·.2)=(Kj (K4 H)).filterMap (N9 yq)∧rs.length≤4096)∧Un U2 y.1 rs) (fun u hu h=>⟨⟨by have h1:rs.map (·.2)=((Kj (K4 H)).take (Kj (K4 H)).length).filterMap (N9 yq):=h.1.v;rw[List.take_length]at h1;exact h1,h.1.len hlen2⟩,h.1.ap⟩) Zk (fun hz=> ?_)
  obtain⟨⟨hrs,hrl⟩,hap⟩:=hz
  refine ZR ?_
  refine ZA (Kd 255 ⟨go,0,none⟩) (.slice y.1 rs.length y.2) (fun w1 hw h=>h.1.box.load1 Zk) ?_
  refine K0.mut (L:=bl y.1) (val:=fun _:{M:List Pv // M.Perm rs∧NL (ltOf L6) M}=> .tuple #[]) (G:=fun M u=>K6 u w.heap.size 258 5 y.1 rs.length y.2 (M.1.flatMap M0)) (Φ':=fun M u=>(M7 258 5 M0 U2 w.heap.size (K+10) y M.1 u∧Kb u go 255 [.slice y.1 rs.length y.2])∧u.heap[D]? =some (.deferred (some []))) (fun w1 hw h=>sortQ_mk hw h.1.row hap Zo ⟨by omega,by omega⟩) (fun u h=>h.1.row.own.blk) (fun M wa u e1 e2 h hG=>⟨⟨M7.perm h.1.row hap M.2.1 e1 e2 hG,h.1.box.left e2 (fun hb=>h.1.box.ne h.1.row.own Zd _ hb rfl)⟩,(e2 D (fun hc=>by obtain⟨_,_,_,hh⟩:=(h.1.row.own.blk D hc).2;rw[h.2]at hh;cases hh)).symm.trans h.2⟩) Zk Zk (fun M=> ?_)
  obtain⟨M,hMp,hMs⟩:=M
  refine ZR ?_
  refine ZA (Kd 255 ⟨go,0,none⟩) (.slice y.1 rs.length y.2) (fun w1 hw h=>h.1.2.load1 Zk) ?_
  refine K0.retM (v:= .slice y.1 rs.length y.2) (J:=fun u=>M7 258 5 M0 U2 w.heap.size (K+10) y M u∧Kb u go 255 [.slice y.1 rs.length y.2]) (fun wa u h1 h2 h=>⟨M7.cel wa u h1 h2 h.1,Kb.cel wa u h1 h2 h.2⟩) hD Zk (fun w1 hw h=>⟨(y,⟨M,?_⟩),by show Ending.returned (Value.slice y.1 rs.length y.2)=Ending.returned (Value.slice y.1 M.length y.2);rw[hMp.length_eq],hw,fun u k1 k2=>(h u ⟨k1,fun b h1 h2=>k2 b h1 h2⟩).1⟩)
  refine marks_eq (by rw[←hrs];exact hMp.map _) ?_
  unfold NL at hMs ⊢
  rw[List.pairwise_map]
  exact hMs.imp fun{a b} hab=>by rw[←lt_mk];exact hab
 have hJ0:=hRF _ w0 ⟨Nat.le_refl _,fun _ _ _ _=>rfl,hrec⟩
 obtain rfl:s.1=k':=hJ0.kk
 have hx2:(Kj (K4 H))[s.1]? =some x:=by rw[←hHE];exact hx
 have hxv:=F3 hf.2 (List.mem_of_getElem? hx2)
 have hva:=Ni hxv.1
 have hvb:=Ni hxv.2.1
 have hrl:=hJ0.len hlen2
 refine ZR ?_
 refine K0.begin Zk hl ?_
 refine ZR ?_
 refine ZB 3 (Kd 26 ⟨gy,0,none⟩) (yR.val) (fun w1 hw h=>(hRF _ w1 h).cy.loadN Zk Zk) ?_
 refine ZB 8 (Kd 26 ⟨gy,0,none⟩) (yR.val) (fun w1 hw h=>(hRF _ w1 h).cy.loadN Zk Zk) ?_
 refine ZC (fun w1 hw h=>Ki x.1.2 w1 Zo Zo) fun f1=> ?_
 refine ZC (fun w1 hw h=>Lq h.2.q (hy.below hw) ⟨by decide,hK.1,by omega⟩) fun c1=> ?_
 refine ZC (fun w1 hw h=>Ki x.2.2 w1 Zo Zo) fun f2=> ?_
 refine ZC (fun w1 hw h=>Lq h.2.q (hy.below hw) ⟨by decide,hK.1,by omega⟩) fun c2=> ?_
 refine K0.weak (Φ':=RF w w0 l (Yb fn tmps #[14,15] _ _ D .busy)) Zk (fun u h=>h.1.1.1.1) ?_
 cases hm:N9 yq x with
 | none=>
  have hc:decide (IntKind.i64.wrap (Kk (x.1.2:Rat) yq*Kk (x.2.2:Rat) yq)≥0)=true:=by
   rw[wrap_cc];unfold N9 at hm;split at hm
   ·rename_i h;exact decide_eq_true h
   ·cases hm
  refine ZJ (decide (IntKind.i64.wrap (Kk (x.1.2:Rat) yq*Kk (x.2.2:Rat) yq)≥0)) true (hc) ?_
  refine K0.rend ((s.1+1,s.2):MSt) Zk hl hlt hlL hrec hw0 (fun w1 hw1 h=> ?_)
  have h0:=h w1 ⟨Nat.le_refl _,fun _ _ _=>rfl⟩
  exact⟨h0.2.2,h0.1,fun b k1 k2 k3 _=>h0.2.1 b k1 k2 k3,fun u k1 k2=>(hRF _ w1 h0).skip hx2 hm fun b hb=>k2 b (.inl hb)⟩
 | some mk=>
  have hc:decide (IntKind.i64.wrap (Kk (x.1.2:Rat) yq*Kk (x.2.2:Rat) yq)≥0)=false:=by
   rw[wrap_cc];unfold N9 at hm;split at hm
   ·cases hm
   ·rename_i h;exact decide_eq_false h
  have hmk2:Kk (x.2.2:Rat) yq=mk.2:=by
   unfold N9 at hm;split at hm
   ·cases hm
   ·injection hm with hm;rw[←hm]
  obtain⟨m1,m2⟩:=mk
  have hmk2:Kk (x.2.2:Rat) yq=m2:=hmk2
  subst hmk2
  refine ZJ (decide (IntKind.i64.wrap (Kk (x.1.2:Rat) yq*Kk (x.2.2:Rat) yq)≥0)) false (hc) ?_
  refine ZA (Kd 26 ⟨gy,0,none⟩) (yR.val) (fun w1 hw h=>(hRF _ w1 h).cy.loadN Zk Zk) ?_
  refine ZC (fun w1 hw h=>(xAt_m hxv.1 hxv.2.1 (hy.below hw) hm hK).mono fun e w' k=>K3.apt (R:=fun r=>∀b∈Ln r,w0.heap.size≤b) k (fun r=>Ln r) (fun r u k=>k.blk) (fun r hr b hb=>Nat.le_trans h.1 (hr b hb))) fun r=> ?_
  refine ZI true ?_
  refine ZA (Kd 255 ⟨go,0,none⟩) (.slice s.2.1.1 s.2.2.length s.2.1.2) (fun w1 hw h=>(hRF _ w1 h.1).box.load1 Zk) ?_
  refine K0.make (M5 (255) 1 #[(0,.agg (M0 ((r,(m1,Kk (x.2.2:Rat) yq)):Pv)).toArray)]) (Km 1) (Kv 258 (M0 ((r,(m1,Kk (x.2.2:Rat) yq)):Pv)).toArray) Zk (fun w1 hw h=>Ke Zk) (fun gb=> ?_)
  refine ZS 5 ?_
  have hqz:∀{v:World},Kh r m1 (K+10) v→∀q∈U2 ((r,(m1,Kk (x.2.2:Rat) yq)):Pv),Kh q.1 q.2 (K+10) v:=fun h q hq=>by
   simp only[U2,List.mem_singleton]at hq;subst hq;exact h
  have hqa:(∀b∈Ln r,w0.heap.size≤b)→∀q∈U2 ((r,(m1,Kk (x.2.2:Rat) yq)):Pv),∀b∈bl s.2.1.1,b∉Ln q.1:=fun h q hq b hb hc=>by
   simp only[U2,List.mem_singleton]at hq;subst hq
   have h1:=h b hc;have h2:=(hJ0.row.own.lt b hb).2;omega
  refine K0.mutOp (L:=bl s.2.1.1) (val:=fun z':Option Addr×Nat=> .slice z'.1 (s.2.2.length+1) z'.2) (Φ':=fun z' u=>MRd w w0 l (Yb fn tmps #[14,15] _ _ D .busy) go (K+10) s ((r,(m1,Kk (x.2.2:Rat) yq)):Pv) z' u∧Kb u go 255 [.slice s.2.1.1 s.2.2.length s.2.1.2]∧∀b∈Ln r,w0.heap.size≤b) (G:=fun z' v=>K6 v w.heap.size 258 5 z'.1 (s.2.2.length+1) z'.2 ((s.2.2++ [((r,(m1,Kk (x.2.2:Rat) yq)):Pv)]).flatMap M0)∧Un U2 z'.1 (s.2.2++ [((r,(m1,Kk (x.2.2:Rat) yq)):Pv)])∧∀b∈bl z'.1,b∈bl s.2.1.1∨w0.heap.size≤b) (Nc 255 255 (.slice s.2.1.1 s.2.2.length s.2.1.2) (Km 1 gb)) (fun w1 hw h=>M7.app (z0:= .agg (M0 ((Oc,(0,0)):Pv)).toArray) (bytes:=72) Zk Zk rfl Zd Zd Mg Sm (hRF _ w1 h.1.1).row hJ0.ap hw.size h.1.1.1 (hqz h.1.2.1) (hqa h.1.2.2) h.2 Zo) (fun u h=>(hRF _ u h.1.1).row.own.blk) (fun z' wa u e1 e2 h hG=>⟨⟨RFL.left ⟨h.1.1.1,fun b k1 k2 k3 _=>h.1.1.2.1 b k1 k2 k3,h.1.1.2.2⟩ e1 e2 (fun b hb=> .inl (mls_mem.2 (.inr hb))) (fun b hb=>((hRF _ wa h.1.1).row.own.blk b hb).2),h.1.2.1.leftL e1 e2 (fun b hb hc=>by have h1:=h.1.2.2 b hb;have h2:=(hJ0.row.own.lt b hc).2;omega),hG.1,hG.2.1,hG.2.2⟩,(hRF _ wa h.1.1).box.left e2 (fun hb=>(hRF _ wa h.1.1).box.ne (hRF _ wa h.1.1).row.own Zd _ hb rfl),h.1.2.2⟩) Zk Zk (fun z'=> ?_)
  refine ZR ?_
  refine K0.mutSt (L:=[go]) (G:=fun u=>Kb u go 255 [.slice z'.1 (s.2.2.length+1) z'.2]) (Φ':=fun u=>MRd w w0 l (Yb fn tmps #[14,15] _ _ D .busy) go (K+10) s ((r,(m1,Kk (x.2.2:Rat) yq)):Pv) z' u∧Kb u go 255 [.slice z'.1 (s.2.2.length+1) z'.2]∧∀b∈Ln r,w0.heap.size≤b) (Rm 255 ⟨go,0,none⟩ (.slice z'.1 (s.2.2.length+1) z'.2)) (fun w1 hw h=>h.2.1.store Zk rfl (fun v hv=>by have hv:=List.mem_singleton.1 hv;subst hv;rfl)) (fun u h b hb=>by have hb:=List.mem_singleton.1 hb;subst hb;exact⟨hgo,h.2.1.own⟩) (fun wa u e1 e2 h hG=>⟨⟨h.1.f.left e1 e2 (fun b hb=> .inl (mls_mem.2 (.inl (List.mem_singleton.1 hb)))) (fun b hb=>by have hb:=List.mem_singleton.1 hb;subst hb;exact h.2.1.own),h.1.q.leftL e1 e2 (fun b hb hc=>by have hc:=List.mem_singleton.1 hc;subst hc;have h1:=h.2.2 _ hb;have h2:=hJ0.box.lt;omega),h.1.own.left e2 (fun b hb hc=>h.2.1.ne h.1.own Zd b hb (List.mem_singleton.1 hc)),h.1.ap,h.1.bk⟩,hG,h.2.2⟩) Zk Zk ?_
  refine ZR ?_
  refine K0.rend ((s.1+1,z',s.2.2++ [((r,(m1,Kk (x.2.2:Rat) yq)):Pv)]):MSt) Zk hl hlt hlL hrec hw0 (fun w1 hw1 h=> ?_)
  have h0:=h w1 ⟨Nat.le_refl _,fun _ _ _=>rfl⟩
  have hlen3:(s.2.2++ [((r,(m1,Kk (x.2.2:Rat) yq)):Pv)]).length=s.2.2.length+1:=by rw[List.length_append];rfl
  refine⟨h0.1.f.2.2,h0.1.f.1,h0.1.f.2.1,fun u k1 k2=>⟨rfl,?_,h0.1.ap,fun z hz q hq=> ?_,?_,?_,fun z hz=> ?_⟩⟩
  ·show(s.2.2++ [((r,(m1,Kk (x.2.2:Rat) yq)):Pv)]).map (·.2)=_
   rw[Gg hx2,hm,List.map_append,hJ0.v];rfl
  ·rcases List.mem_append.1 hz with h4|h4
   ·exact hJ0.ag z h4 q hq
   ·obtain rfl:z=((r,(m1,Kk (x.2.2:Rat) yq)):Pv):=by simpa using h4
    simp only[U2,List.mem_singleton]at hq;subst hq
    intro hc;have h1:=h0.2.2 _ hc;have h2:=hJ0.box.lt;omega
  ·show Kb u go 255 [.slice z'.1 (s.2.2++ [((r,(m1,Kk (x.2.2:Rat) yq)):Pv)]).length z'.2]
   rw[hlen3];exact h0.2.1.to (k2 go (.inl (mls_mem.2 (.inl rfl))))
  ·show K6 u w.heap.size 258 5 z'.1 (s.2.2++ [((r,(m1,Kk (x.2.2:Rat) yq)):Pv)]).length z'.2 ((s.2.2++ [((r,(m1,Kk (x.2.2:Rat) yq)):Pv)]).flatMap M0)
   rw[hlen3]
   refine h0.1.own.same fun b hb=>k2 b ?_
   rcases h0.1.bk b hb with h4|h4
   ·exact .inl (mls_mem.2 (.inr h4))
   ·exact .inr ⟨h4,(h0.1.own.lt b hb).2⟩
  ·rcases List.mem_append.1 hz with h4|h4
   ·exact .inl h4
   ·obtain rfl:z=((r,(m1,Kk (x.2.2:Rat) yq)):Pv):=by simpa using h4
    refine .inr (hqz (h0.1.q.same k1 fun b hb=>k2 b (.inr ⟨h0.2.2 b hb,Nz h0.1.q b hb⟩)))
end
end Go.Proofs.YtpgkbllcnphmbaaGreatDoor
