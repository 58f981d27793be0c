/-
 Paths as text: the program's Parse.
-/
import Derived.Test.YtoeiphicmcndlaaGreatDoorZA
namespace Go.Proofs.YtoeiphicmcndlaaGreatDoor
set_option maxRecDepth 100000
set_option maxHeartbeats 8000000
set_option linter.unusedVariables false
set_option linter.unusedSimpArgs false
open Go.RowKit
def Qb(x:List UInt8):Int:=if x=[77]then 1 else if x=[76]then 2 else if x=[81]then 3 else if x=[67]then 4 else if x=[90]then 5 else 0
def wnE(x:List UInt8):Int:=if Aj x=0 then 0 else if Aj x=6 then 6 else 3
def Sm(ws:List (List UInt8))(i:Nat):Int:=match ws[i]? with
 |none=>3
 |some x=>wnE x
def Qg(ws:List (List UInt8))(i:Nat):Int:=match ws[i]? with
 |none=>0
 |some x=>Ry x
def Ua(ws:List (List UInt8)):Nat→Nat→Option Nat
 |0,_=>none
 |m+1,i=>if Sm ws i=0 then Ua ws m (i+1)else some i
def Gj(ws:List (List UInt8))(v:Int)(i:Nat):Sg:=
 if v=5 then⟨5,0,0,0,0,0,0⟩else if v=4 then⟨4,Qg ws (i+1),Qg ws (i+2),Qg ws (i+3),Qg ws (i+4),Qg ws (i+5),Qg ws (i+6)⟩
 else if v=3 then⟨3,Qg ws (i+1),Qg ws (i+2),Qg ws (i+3),Qg ws (i+4),0,0⟩else⟨v,Qg ws (i+1),Qg ws (i+2),0,0,0,0⟩
def endP(acc:List Sg):List Sg×Nat×Int:=if (chk acc).1=0 then(acc,0,0)else([],(chk acc).2,(chk acc).1)
def Qy(ws:List (List UInt8)):Nat→Nat→List Sg→List Sg×Nat×Int
 |0,_,acc=>endP acc
 | f+1,i,acc=>match ws[i]? with
  |none=>endP acc
  |some x=>if Qb x=0 then([],i,3)else match Ua ws (2*(Lt (Qb x)).toNat) (i+1)with
   |some j=>([],j,Sm ws j)
   |none=>Qy ws f (i+1+2*(Lt (Qb x)).toNat) (acc++ [Gj ws (Qb x) i])
def Ob(ws:List (List UInt8))(i:Nat)(acc:List Sg):List Sg×Nat×Int:=Qy ws (ws.length-i) i acc
def Mp(s:List UInt8):List Sg×Nat×Int:=if 65536<s.length then([],0,5)else Ob (L9 s) 0 []
theorem Ic(ws:List (List UInt8)):∀(f f' i:Nat) (acc:List Sg),ws.length-i≤f→ws.length-i≤f'→Qy ws f i acc=Qy ws f' i acc
 |0,0,i,acc,_,_=>rfl
 |0,f'+1,i,acc,h,_=>by rw[Qy,Qy,List.getElem?_eq_none Zo]
 |f+1,0,i,acc,_,h=>by rw[Qy,Qy,List.getElem?_eq_none Zo]
 | f+1,f'+1,i,acc,h,h'=>by
  rw[Qy,Qy]
  cases hx:ws[i]? with
  |none=>rfl
  | some x=>
   simp only
   split
   ·rfl
   ·split
    ·rfl
    ·exact Ic ws f f' _ _ Zo Zo
section
variable{ws:List (List UInt8)}{i:Nat}{acc:List Sg}{x:List UInt8}{v:Int}
theorem pw_end(h:ws.length≤i):Ob ws i acc=endP acc:=by
 unfold Ob;rw[show ws.length-i=0 by omega,Qy]
theorem pw_at(h:ws[i]? =some x):Ob ws i acc=if Qb x=0 then([],i,3)else match Ua ws (2*(Lt (Qb x)).toNat) (i+1)with
 |some j=>([],j,Sm ws j)
 |none=>Ob ws (i+1+2*(Lt (Qb x)).toNat) (acc++ [Gj ws (Qb x) i]):=by
 have hlt:=(List.getElem?_eq_some_iff.1 h).1
 have e:Ob ws i acc=Qy ws (ws.length-i-1+1) i acc:=by unfold Ob;rw[show ws.length-i-1+1=ws.length-i by omega]
 rw[e,Qy,h]
 simp only
 split
 ·rfl
 ·split
  ·rfl
  ·exact Ic ws _ _ _ _ Zo (Nat.le_refl _)
theorem pw_verb(h:ws[i]? =some x)(hv:Qb x=0):Ob ws i acc=([],i,3):=by rw[pw_at h,if_pos hv]
theorem pw_fail{j:Nat}(h:ws[i]? =some x)(hv:Qb x=v)(h0:v≠0)(hf:Ua ws (2*(Lt v).toNat) (i+1)=some j):Ob ws i acc=([],j,Sm ws j):=by
 rw[pw_at h,hv,if_neg h0,hf]
theorem pwStep(h:ws[i]? =some x)(hv:Qb x=v)(h0:v≠0)(hf:Ua ws (2*(Lt v).toNat) (i+1)=none):Ob ws i acc=Ob ws (i+1+2*(Lt v).toNat) (acc++ [Gj ws v i]):=by
 rw[pw_at h,hv,if_neg h0,hf]
end
theorem verb_cases(x:List UInt8):(x=[77]∧Qb x=1)∨(x=[76]∧Qb x=2)∨(x=[81]∧Qb x=3)∨(x=[67]∧Qb x=4)∨(x=[90]∧Qb x=5)∨((x≠[77]∧x≠[76]∧x≠[81]∧x≠[67]∧x≠[90])∧Qb x=0):=by
 unfold Qb
 by_cases h1:x=[77]
 ·subst h1;exact .inl ⟨rfl,rfl⟩
 by_cases h2:x=[76]
 ·subst h2;exact .inr (.inl ⟨rfl,rfl⟩)
 by_cases h3:x=[81]
 ·subst h3;exact .inr (.inr (.inl ⟨rfl,rfl⟩))
 by_cases h4:x=[67]
 ·subst h4;exact .inr (.inr (.inr (.inl ⟨rfl,rfl⟩)))
 by_cases h5:x=[90]
 ·subst h5;exact .inr (.inr (.inr (.inr (.inl ⟨rfl,rfl⟩))))
 ·rw[if_neg h1,if_neg h2,if_neg h3,if_neg h4,if_neg h5];exact .inr (.inr (.inr (.inr (.inr ⟨⟨h1,h2,h3,h4,h5⟩,rfl⟩))))
def gv(l:List Sg):List Value:=l.flatMap Sg.cl
theorem gv_get:∀{l:List Sg} {k j:Nat} {s:Sg} {v:Value},l[k]? =some s→s.cl[j]? =some v→(gv l)[k*7+j]? =some v
 | [],k,j,s,v,h,_=>by simp at h
 |a::l,0,j,s,v,h,hv=>by
  obtain rfl:a=s:=by simpa using h
  have hj:j<7:=(List.getElem?_eq_some_iff.1 hv).1
  rw[Nat.zero_mul,Nat.zero_add]
  show(a.cl++gv l)[j]? =_
  rw[List.getElem?_append_left (show j<a.cl.length from hj)];exact hv
 |a::l,k+1,j,s,v,h,hv=>by
  have ih:=gv_get (l:=l) (k:=k) (by simpa using h) hv
  show(a.cl++gv l)[(k+1)*7+j]? =_
  rw[List.getElem?_append_right (show a.cl.length≤(k+1)*7+j from by show 7≤_;omega),show(k+1)*7+j-a.cl.length=k*7+j from by show(k+1)*7+j-7=_;omega];exact ih
section
variable{w:World}{l:List UInt8}{A:Option Addr}{n c:Nat}{ws:List (List UInt8)}
theorem own_segs{B m yc:Nat}{y:Option Addr}{acc:List Sg}(h:K6 w B 150 7 y m yc (gv acc))(hl:acc.length=m):Qt w y m acc:=by
 refine⟨hl,fun k s hk=> ?_⟩
 have hlt:=(List.getElem?_eq_some_iff.1 hk).1
 obtain⟨g,hg,hc⟩:=h.cells Zo
 refine⟨_,hg,fun j v hv=> ?_⟩
 rw[Addr.add_mid,Addr.add_mid,Nat.zero_add]
 exact hc _ _ (gv_get hk hv)
theorem app_seg{B m yc gb:Nat}{y:Option Addr}{acc:List Sg}{s:Sg}(ho:K6 w B 150 7 y m yc (gv acc))(hB:B≤w.heap.size)(hg:L4 150 s.cl.toArray gb w)(hm:m<1000000):
 Ot Tryz.prog w (bl y) (fun z:Option Addr×Nat=> .slice z.1 (m+1) z.2) (fun z v=>K6 v B 150 7 z.1 (m+1) z.2 (gv (acc++ [s]))) (M9 43 43 (.slice y m yc) (Kf 1 gb)):=by
 have ha:=O3 (P:=Tryz.prog) (s:=7) (z:=Sg.val ⟨0,0,0,0,0,0,0⟩) (bytes:=56) (m:=1) (cc:=1) (t:=43) (elem:=150) Zk Zk rfl Zd ho hB (N5 (n:=1) hg rfl) (by intro v hv;simp at hv;rcases hv with rfl|rfl|rfl|rfl|rfl|rfl|rfl<;>rfl) Zo Zd
 have e:gv (acc++ [s])=gv acc++s.cl:=by simp[gv]
 rw[e];exact ha
theorem lit_cell{e:TypeId}{g j:Nat}{cells:Array Value}{v:Value}(h:L4 e cells g w)(hc:cells[j]? =some v):w.cell? ⟨g,j,none⟩=some v:=by
 unfold L4 at h
 simp only[World.cell?,h,Option.isSome_none,Bool.false_eq_true,if_false]
 exact hc
theorem words_len(m:List UInt8):(L9 m).length≤m.length+1:=by
 unfold L9
 split
 ·simp
 ·rw[Vx];have:=List.count_le_length (a:=(32:UInt8)) (l:=m);omega
theorem words_mem(l:List UInt8):∀x∈L9 l,x.length≤l.length:=by
 unfold L9
 split
 ·intro x hx;cases hx
 ·exact Cc 32 l
end
section
variable{w W:World}{l:List UInt8}{A:Option Addr}{n c:Nat}{ws:List (List UInt8)}
theorem D0{b:UInt8}{k:Int}(h:Lib.indexByte [32,77,76,81,67,90] b=k):Zv 132 #[.string ⟨#[32,77,76,81,67,90]⟩,K4 [b]] w (Zi k):=
 (Tryz.strings_Index_one ⟨#[32,77,76,81,67,90]⟩ b w).mono fun e w' he=>by
  obtain⟨h1,rfl⟩:=he
  exact⟨(),by rw[h1];exact congrArg (fun z=>Ending.returned (Value.int .i64 z)) h,Below.refl _ _,fun _ _ _=>trivial⟩
theorem verb_m{v:Int}(hv:Qb l=v):Zv 241 #[K4 l] w (Zi v):=by
 by_cases h1:l.length=1
 case neg=>
  obtain rfl:v=0:=by
   rcases verb_cases l with ⟨rfl,_⟩|⟨rfl,_⟩|⟨rfl,_⟩|⟨rfl,_⟩|⟨rfl,_⟩|⟨_,h⟩
   ·exact absurd rfl h1
   ·exact absurd rfl h1
   ·exact absurd rfl h1
   ·exact absurd rfl h1
   ·exact absurd rfl h1
   ·exact hv.symm.trans h
  exact K0.enter Tryz.func241 rfl <| ZS 3 <| ZT 5 (.bool ((l.length:Int) !=1)) Zt Zp <| ZI true <| ZW (Zi 0)
 obtain⟨b,rfl⟩:∃b,l=[b]:=by
  match l,h1 with
  | [b],_=>exact⟨b,rfl⟩
 refine K0.enter Tryz.func241 rfl <| ZS 5 ?_
 by_cases hb:b=32
 ·subst hb
  obtain rfl:v=0:=hv.symm.trans Zd
  exact ZA (Qf .eql 9 (.tmp 7) (.const (.string ⟨#[32]⟩)) (K4 [32]) (K4 [32])) Zt (fun w1 hw h=>Ks Zs) <| ZI true <| ZW (Zi 0)
 refine ZA (Qf .eql 9 (.tmp 7) (.const (.string ⟨#[32]⟩)) (K4 [b]) (K4 [32])) Zf (fun w1 hw h=>Ks (by simpa using hb)) <| ZI false ?_
 rcases verb_cases [b]with ⟨h,h2⟩|⟨h,h2⟩|⟨h,h2⟩|⟨h,h2⟩|⟨h,h2⟩|⟨h,h2⟩
 ·obtain rfl:b=77:=by simpa using h
  obtain rfl:v=1:=hv.symm.trans h2
  exact ZC (fun w1 hw h=>D0 (b:=77) (k:=1) Zd) fun u=>ZW (Zi 1)
 ·obtain rfl:b=76:=by simpa using h
  obtain rfl:v=2:=hv.symm.trans h2
  exact ZC (fun w1 hw h=>D0 (b:=76) (k:=2) Zd) fun u=>ZW (Zi 2)
 ·obtain rfl:b=81:=by simpa using h
  obtain rfl:v=3:=hv.symm.trans h2
  exact ZC (fun w1 hw h=>D0 (b:=81) (k:=3) Zd) fun u=>ZW (Zi 3)
 ·obtain rfl:b=67:=by simpa using h
  obtain rfl:v=4:=hv.symm.trans h2
  exact ZC (fun w1 hw h=>D0 (b:=67) (k:=4) Zd) fun u=>ZW (Zi 4)
 ·obtain rfl:b=90:=by simpa using h
  obtain rfl:v=5:=hv.symm.trans h2
  exact ZC (fun w1 hw h=>D0 (b:=90) (k:=5) Zd) fun u=>ZW (Zi 5)
 ·obtain rfl:v=0:=hv.symm.trans h2
  have hidx:Lib.indexByte [32,77,76,81,67,90] b= -1:=by
   simp only[ne_eq,List.cons.injEq,and_true]at h
   have e:∀c:UInt8,b≠c→(c==b)=false:=fun c hc=>beq_eq_false_iff_ne.2 (Ne.symm hc)
   have e2:∀c:UInt8,b≠c→(b==c)=false:=fun c hc=>beq_eq_false_iff_ne.2 hc
   simp[Lib.indexByte,List.findIdx?_cons,e 32 hb,e 77 h.1,e 76 h.2.1,e 81 h.2.2.1,e 67 h.2.2.2.1,e 90 h.2.2.2.2,e2 32 hb,e2 77 h.1,e2 76 h.2.1,e2 81 h.2.2.1,e2 67 h.2.2.2.1,e2 90 h.2.2.2.2]
  exact ZC (fun w1 hw h=>D0 (b:=b) hidx) fun u=>ZW (Zi 0)
def But1(W w:World)(g:Nat)(v:Value)(u:World):Prop:=w.heap.size≤u.heap.size∧(∀b,W.heap.size≤b→b<w.heap.size→b≠g→u.heap[b]? =w.heap[b]?)∧K5 u g [v]
theorem Fh{gA gE gX:Nat}{val:Value}{ia ie:Value}{v va ve:Value}{w1:World}(hW:Below W.heap.size W w)(hw:Below W.heap.size W w1)(h:But1 W w gX v w1)(hX:gX=gA∨gX=gE)(hne:gA≠gE)(la:W.heap.size≤gA)(le:W.heap.size≤gE)
 (ha:K5 w gA [ia]) (he:K5 w gE [ie]) (hva:va=if gX=gA then v else ia) (hve:ve=if gX=gE then v else ie):
 Nm w [gA,gE] (fun _:Unit=>val) (fun _ u=>K5 u gA [va]∧K5 u gE [ve]) (.returned val) w1:=by
 obtain⟨h1,h2,h3⟩:=h
 refine⟨(),rfl,⟨hw.os.trans hW.os.symm,hw.tape.trans hW.tape.symm,hw.output.trans hW.output.symm,h1,fun k hk hkl=> ?_⟩,fun w'' k1 k2=>⟨?_,?_⟩⟩
 ·rcases Nat.lt_or_ge k W.heap.size with h4|h4
  ·rw[hw.block k h4,hW.block k h4]
  ·refine h2 k h4 hk fun e=>hkl ?_
   rcases hX with rfl|rfl<;>simp[e]
 ·have e:=k2 gA (.inl Zs)
  subst hva
  split
  ·rename_i e1;subst e1;exact h3.to e
  ·rename_i e1;exact(ha.to (h2 gA la ha.lt (Ne.symm e1))).to e
 ·have e:=k2 gE (.inl Zs)
  subst hve
  split
  ·rename_i e1;subst e1;exact h3.to e
  ·rename_i e1;exact(he.to (h2 gE le he.lt (Ne.symm e1))).to e
theorem next_m{gA gW gE i:Nat}(hW:Below W.heap.size W w)(ha:K5 w gA [Zi i])(hb:K5 w gW [.slice A n c])(he:K5 w gE [Zi 0])(la:W.heap.size≤gA)(lw:W.heap.size≤gW)(le:W.heap.size≤gE)(hne:gA≠gE)
 (hs:L3 w A n ws) (hi:i≤n) (hn:n≤1000000) (hlen:∀y∈ws,y.length≤1000000):
 Calls Tryz.prog 240 #[Zq gA 0,Zq gW 0,Zq gE 0] w (Nm w [gA,gE] (fun _:Unit=>Zi (Qg ws i)) (fun _ u=>K5 u gA [Zi (if Sm ws i=0 then(i+1:Nat)else i:Nat)]∧K5 u gE [Zi (Sm ws i)])):=by
 have hln:=hs.1
 have hstA:∀u:World,(w.heap.size≤u.heap.size∧∀b,W.heap.size≤b→b<w.heap.size→u.heap[b]? =w.heap[b]?)→Yx W [gA] (fun _=>True)→True:=fun _ _ _=>trivial
 have hownA:∀u:World,(w.heap.size≤u.heap.size∧∀b,W.heap.size≤b→b<w.heap.size→u.heap[b]? =w.heap[b]?)→∀b∈[gA],W.heap.size≤b∧∃cs ty own,u.heap[b]? =some (.cells cs ty own):=fun u h b hb=>by
  obtain rfl:b=gA:=by simpa using hb
  exact⟨la,(ha.stay la h.2).own⟩
 have hownE:∀u:World,(w.heap.size≤u.heap.size∧∀b,W.heap.size≤b→b<w.heap.size→u.heap[b]? =w.heap[b]?)→∀b∈[gE],W.heap.size≤b∧∃cs ty own,u.heap[b]? =some (.cells cs ty own):=fun u h b hb=>by
  obtain rfl:b=gE:=by simpa using hb
  exact⟨le,(he.stay le h.2).own⟩
 have hleft:∀(g:Nat) (v:Value) (wa u:World),wa.heap.size=u.heap.size→(∀b,b∉[g]→wa.heap[b]? =u.heap[b]?)→(w.heap.size≤wa.heap.size∧∀b,W.heap.size≤b→b<w.heap.size→wa.heap[b]? =w.heap[b]?)→K5 u g [v]→But1 W w g v u:=fun g v wa u e1 e2 h hG=>⟨by rw[←e1];exact h.1,fun b h1 h2 h3=>(e2 b (by simpa using h3)).symm.trans (h.2 b h1 h2),hG⟩
 refine K0.enterW Tryz.func240 rfl hW <| ZR <| ZA (L5 3 ⟨gA,0,none⟩) (Zi i) (fun w1 hw h=>K8 Zk (ha.stay la h.2).one) <| ZA (L5 66 ⟨gW,0,none⟩) (.slice A n c) (fun w1 hw h=>K8 Zk (hb.stay lw h.2).one) ?_
 by_cases hlt:i<n
 case neg=>
  obtain rfl:i=n:=by omega
  have h0:ws[i]? =none:=List.getElem?_eq_none Zo
  have e1:Sm ws i=3:=by rw[Sm,h0]
  have e2:Qg ws i=0:=by rw[Qg,h0]
  rw[e1,e2]
  refine ZJ (((i:Int)==(i:Int))) true Zs <| K0.mutSt (L:=[gE]) (G:=fun u=>K5 u gE [Zi 3]) (Φ':=But1 W w gE (Zi 3)) (Tc 29 ⟨gE,0,none⟩ (Zi 3)) (fun w1 hw h=>(he.stay le h.2).store Zk rfl (by intro u hu;simp[Value.cells]at hu;subst hu;rfl)) (fun u h=>hownE u h) (fun wa u e1 e2 h hG=>hleft gE _ wa u e1 e2 h hG) Zk Zk <| ZR <| ZV (Zi 0) (fun w1 hw h=>Fh hW hw (h w1 (Nat.le_refl _) fun _ _ _=>rfl) (.inr rfl) hne la le ha he (by simp[hne,Ne.symm hne]) (by simp[hne,Ne.symm hne]))
 obtain⟨x,hx⟩:∃x,ws[i]? =some x:=⟨_,List.getElem?_eq_getElem Zo⟩
 obtain⟨ad,hA,hc⟩:=hs.2 i x hx
 have hxl:=hlen x (List.mem_of_getElem? hx)
 have hv2:Qg ws i=Ry x:=by rw[Qg,hx]
 have he2:Sm ws i=wnE x:=by rw[Sm,hx]
 have hcs:∀u:World,Below W.heap.size W u→(w.heap.size≤u.heap.size∧∀b,W.heap.size≤b→b<w.heap.size→u.heap[b]? =w.heap[b]?)→u.cell? (ad.add i)=some (K4 x):=fun u hu h=>Zw hc (by
  have hblt:=Xg hc
  rcases Nat.lt_or_ge (ad.add i).block W.heap.size with h1|h1
  ·rw[hu.block _ h1,hW.block _ h1]
  ·exact h.2 _ h1 hblt)
 rw[hv2,he2]
 refine ZJ (((i:Int)==(n:Int))) false Zp <| ZA (L5 66 ⟨gW,0,none⟩) (.slice A n c) (fun w1 hw h=>K8 Zk (hb.stay lw h.2).one) <| ZA (L5 3 ⟨gA,0,none⟩) (Zi i) (fun w1 hw h=>K8 Zk (ha.stay la h.2).one) <| ZA (Kj 66 (.slice A n c) i) (.pointer (some (ad.add i))) (fun w1 hw h=>by rw[hA];exact Kn (elem:=9) Zk Zk hlt) <| ZA (L5 9 (ad.add i)) (K4 x) (fun w1 hw h=>K8 Zk (hcs w1 hw h)) ?_
 rcases piE_vals x with hp|hp|hp|hp
 ·have e1:wnE x=0:=by rw[wnE,if_pos hp]
  rw[e1]
  refine ZC (fun w1 hw h=>Pi hp rfl Zo) fun u=>ZI true <| K0.ask (L5 3 ⟨gA,0,none⟩) (Zi i) Zk (fun w1 hw h=>K8 Zk (ha.stay la h.1.2).one) <| ZS 2 <| K0.slot 22 (Zi (IntKind.i64.wrap ((i:Int)+1))) (Zi ((i+1:Nat):Int)) Zk (by rw[Kd hlt Zo]) <| K0.mutSt (L:=[gA]) (G:=fun u=>K5 u gA [Zi ((i+1:Nat):Int)]) (Φ':=But1 W w gA (Zi ((i+1:Nat):Int))) (Tc 3 ⟨gA,0,none⟩ (Zi ((i+1:Nat):Int))) (fun w1 hw h=>(ha.stay la h.1.2).store Zk rfl (by intro u hu;simp[Value.cells]at hu;subst hu;rfl)) (fun u h=>hownA u h.1) (fun wa u e1 e2 h hG=>hleft gA _ wa u e1 e2 h.1 hG) Zk Zk <| ZR <| ZV (Zi (Ry x)) (fun w1 hw h=>Fh hW hw (h w1 (Nat.le_refl _) fun _ _ _=>rfl) (.inl rfl) hne la le ha he (by simp[hne,Ne.symm hne]) (by simp[hne,Ne.symm hne]))
 ·have e1:wnE x=3:=by rw[wnE,hp];rfl
  rw[e1]
  refine ZC (fun w1 hw h=>Pi hp rfl Zo) fun u=>ZI false <| ZI false <| K0.mutSt (L:=[gE]) (G:=fun u=>K5 u gE [Zi 3]) (Φ':=But1 W w gE (Zi 3)) (Tc 29 ⟨gE,0,none⟩ (Zi 3)) (fun w1 hw h=>(he.stay le h.1.2).store Zk rfl (by intro u hu;simp[Value.cells]at hu;subst hu;rfl)) (fun u h=>hownE u h.1) (fun wa u e1 e2 h hG=>hleft gE _ wa u e1 e2 h.1 hG) Zk Zk <| ZR <| ZV (Zi (Ry x)) (fun w1 hw h=>Fh hW hw (h w1 (Nat.le_refl _) fun _ _ _=>rfl) (.inr rfl) hne la le ha he (by simp[hne,Ne.symm hne]) (by simp[hne,Ne.symm hne]))
 ·have e1:wnE x=3:=by rw[wnE,hp];rfl
  rw[e1]
  refine ZC (fun w1 hw h=>Pi hp rfl Zo) fun u=>ZI false <| ZI false <| K0.mutSt (L:=[gE]) (G:=fun u=>K5 u gE [Zi 3]) (Φ':=But1 W w gE (Zi 3)) (Tc 29 ⟨gE,0,none⟩ (Zi 3)) (fun w1 hw h=>(he.stay le h.1.2).store Zk rfl (by intro u hu;simp[Value.cells]at hu;subst hu;rfl)) (fun u h=>hownE u h.1) (fun wa u e1 e2 h hG=>hleft gE _ wa u e1 e2 h.1 hG) Zk Zk <| ZR <| ZV (Zi (Ry x)) (fun w1 hw h=>Fh hW hw (h w1 (Nat.le_refl _) fun _ _ _=>rfl) (.inr rfl) hne la le ha he (by simp[hne,Ne.symm hne]) (by simp[hne,Ne.symm hne]))
 ·have e1:wnE x=6:=by rw[wnE,hp];rfl
  rw[e1]
  refine ZC (fun w1 hw h=>Pi hp rfl Zo) fun u=>ZI false <| ZI true <| K0.mutSt (L:=[gE]) (G:=fun u=>K5 u gE [Zi 6]) (Φ':=But1 W w gE (Zi 6)) (Tc 29 ⟨gE,0,none⟩ (Zi 6)) (fun w1 hw h=>(he.stay le h.1.2).store Zk rfl (by intro u hu;simp[Value.cells]at hu;subst hu;rfl)) (fun u h=>hownE u h.1) (fun wa u e1 e2 h hG=>hleft gE _ wa u e1 e2 h.1 hG) Zk Zk <| ZR <| ZV (Zi (Ry x)) (fun w1 hw h=>Fh hW hw (h w1 (Nat.le_refl _) fun _ _ _=>rfl) (.inr rfl) hne la le ha he (by simp[hne,Ne.symm hne]) (by simp[hne,Ne.symm hne]))
end
theorem Lh.cast{P:Program}{w:World}{X:Type}{val:X→Value}{G G':X→World→Prop}{s:Sem Next}(h:Lh P w val G s)(hG:∀x u,G x u→G' x u):Lh P w val G' s:=by
 obtain⟨x,w',h1,h2,h3⟩:=h
 exact⟨x,w',h1,h2,fun w'' k1 k2=>hG _ _ (h3 w'' k1 k2)⟩
theorem Tf{P:Program}{w:World}{t:TypeId}{z:Value}{N:Nat}{L:List Nat}(hz:Yz P t=some z)(hN:N≤w.heap.size)(hL:∀b∈L,b<w.heap.size):Lh P w Ud (fun g u=>K5 u g z.cells.toList∧N≤g∧g∉L) (Aq t):=
 (Bn (N:=w.heap.size) hz (Nat.le_refl _)).cast fun g u h=>⟨h.1,Nat.le_trans hN h.2.1,fun hm=>by have:=hL g hm;have:=h.2.1;omega⟩
theorem make_litF{P:Program}{w:World}{t elem:TypeId}{len:Nat}{parts:Array (Nat×Value)}{cells:Array Value}{L:List Nat}(h:litOf P t len parts=some (elem,cells))(hL:∀b∈L,b<w.heap.size):
 Lh P w (Kf len) (fun g u=>L4 elem cells g u∧g∉L) (Lq t len parts):=
 ((Kc h).fresh (fun g=>[g]) (fun g u h b hb=>by rw[List.mem_singleton.1 hb];exact⟨_,_,_,h⟩)).cast fun g u h=>⟨h.1,fun hm=>by have:=hL g hm;have:=h.2 g Zs;omega⟩
theorem U2{e:TypeId}{cells:Array Value}{g:Nat}{L:List Nat}{wa u:World}(h:L4 e cells g wa)(e2:∀b,b∉L→wa.heap[b]? =u.heap[b]?)(hg:g∉L):L4 e cells g u:=(e2 g hg).symm.trans h
structure PB(B gW gA gE:Nat)(A:Option Addr)(n c:Nat)(ws:List (List UInt8))(y:Option Addr)(m yc:Nat)(acc:List Sg)(i:Nat)(e:Int)(u:World):Prop where
 bw:K5 u gW [.slice A n c]
 ba:K5 u gA [Zi i]
 be:K5 u gE [Zi e]
 st:L3 u A n ws
 ow:K6 u B 150 7 y m yc (gv acc)
structure DB(W:World)(gW gA gE:Nat)(A y:Option Addr):Prop where
 la:W.heap.size≤gA
 lw:W.heap.size≤gW
 le:W.heap.size≤gE
 ae:gA≠gE
 wa:gW≠gA
 we:gW≠gE
 sa:gA∉bl A
 se:gE∉bl A
 ya:gA∉bl y
 ye:gE∉bl y
 yw:gW∉bl y
 sy:∀b∈bl A,b∉bl y
theorem PB.mutAE{W wa u:World}{B gW gA gE:Nat}{A:Option Addr}{n c:Nat}{ws:List (List UInt8)}{y:Option Addr}{m yc:Nat}{acc:List Sg}{i i':Nat}{e e':Int}(h:PB B gW gA gE A n c ws y m yc acc i e wa)(D:DB W gW gA gE A y)
 (e2:∀b,b∉[gA,gE]→wa.heap[b]? =u.heap[b]?) (hG:K5 u gA [Zi i']∧K5 u gE [Zi e']):PB B gW gA gE A n c ws y m yc acc i' e' u:=by
 refine⟨h.bw.left e2 (by simp[D.wa,D.we]),hG.1,hG.2,h.st.left e2 fun b hb hm=> ?_,h.ow.left e2 fun b hb hm=> ?_⟩
 ·rcases List.mem_cons.1 hm with rfl|hm
  ·exact D.sa hb
  ·obtain rfl:b=gE:=by simpa using hm
   exact D.se hb
 ·rcases List.mem_cons.1 hm with rfl|hm
  ·exact D.ya hb
  ·obtain rfl:b=gE:=by simpa using hm
   exact D.ye hb
theorem PB.mutA{W wa u:World}{B gW gA gE:Nat}{A:Option Addr}{n c:Nat}{ws:List (List UInt8)}{y:Option Addr}{m yc:Nat}{acc:List Sg}{i i':Nat}{e:Int}(h:PB B gW gA gE A n c ws y m yc acc i e wa)(D:DB W gW gA gE A y)
 (e2:∀b,b∉[gA]→wa.heap[b]? =u.heap[b]?) (hG:K5 u gA [Zi i']):PB B gW gA gE A n c ws y m yc acc i' e u:=
 h.mutAE D (fun b hb=>e2 b (by simp at hb ⊢;exact hb.1)) ⟨hG,h.be.left e2 (by simp[Ne.symm D.ae])⟩
theorem PB.mutX{wa u:World}{B gW gA gE gX:Nat}{A:Option Addr}{n c:Nat}{ws:List (List UInt8)}{y:Option Addr}{m yc:Nat}{acc:List Sg}{i:Nat}{e:Int}(h:PB B gW gA gE A n c ws y m yc acc i e wa)
 (hX:gX∉gW::gA::gE::(bl A++bl y)) (e2:∀b,b∉[gX]→wa.heap[b]? =u.heap[b]?):PB B gW gA gE A n c ws y m yc acc i e u:=by
 simp only[List.mem_cons,List.mem_append,not_or]at hX
 obtain⟨h1,h2,h3,h4,h5⟩:=hX
 refine⟨h.bw.left e2 (by simp[Ne.symm h1]),h.ba.left e2 (by simp[Ne.symm h2]),h.be.left e2 (by simp[Ne.symm h3]),h.st.left e2 fun b hb hm=> ?_,h.ow.left e2 fun b hb hm=> ?_⟩
 ·obtain rfl:b=gX:=by simpa using hm
  exact h4 hb
 ·obtain rfl:b=gX:=by simpa using hm
  exact h5 hb
theorem PB.app{W wa u:World}{B gW gA gE:Nat}{A:Option Addr}{n c:Nat}{ws:List (List UInt8)}{y z:Option Addr}{m yc m' zc:Nat}{acc acc':List Sg}{i:Nat}{e:Int}(h:PB B gW gA gE A n c ws y m yc acc i e wa)(D:DB W gW gA gE A y)
 (e2:∀b,b∉bl y→wa.heap[b]? =u.heap[b]?) (hG:K6 u B 150 7 z m' zc (gv acc')):PB B gW gA gE A n c ws z m' zc acc' i e u:=
 ⟨h.bw.left e2 D.yw,h.ba.left e2 D.ya,h.be.left e2 D.ye,h.st.left e2 D.sy,hG⟩
theorem PB.own{W u:World}{B gW gA gE:Nat}{A:Option Addr}{n c:Nat}{ws:List (List UInt8)}{y:Option Addr}{m yc:Nat}{acc:List Sg}{i:Nat}{e:Int}(h:PB B gW gA gE A n c ws y m yc acc i e u)(D:DB W gW gA gE A y):∀b∈[gA,gE],W.heap.size≤b∧∃cs ty own,u.heap[b]? =some (.cells cs ty own):=fun b hb=>by
 rcases List.mem_cons.1 hb with rfl|hm
 ·exact⟨D.la,h.ba.own⟩
 ·obtain rfl:b=gE:=by simpa using hm
  exact⟨D.le,h.be.own⟩
theorem PB.lts{u:World}{B gW gA gE:Nat}{A:Option Addr}{n c:Nat}{ws:List (List UInt8)}{y:Option Addr}{m yc:Nat}{acc:List Sg}{i:Nat}{e:Int}(h:PB B gW gA gE A n c ws y m yc acc i e u)(hA:∀b∈bl A,b<u.heap.size):∀b∈gW::gA::gE::(bl A++bl y),b<u.heap.size:=fun b hb=>by
 simp only[List.mem_cons,List.mem_append]at hb
 rcases hb with rfl|rfl|rfl|hb|hb
 ·exact h.bw.lt
 ·exact h.ba.lt
 ·exact h.be.lt
 ·exact hA b hb
 ·exact(h.ow.lt b hb).2
section
variable{w W:World}{l:List UInt8}{A:Option Addr}{n c:Nat}{ws:List (List UInt8)}
theorem Wd{b0:Nat}(h:L3 w (some ⟨b0,0,none⟩) n ws)(h0:0<n):∃s,w.cell? ⟨b0,0,none⟩=some (K4 s):=by
 obtain⟨s,hs⟩:∃s,ws[0]? =some s:=⟨_,List.getElem?_eq_getElem (by rw[h.1];exact h0)⟩
 obtain⟨ad,h1,h2⟩:=h.2 0 s hs
 obtain rfl:ad=⟨b0,0,none⟩:=by injection h1 with h1;exact h1.symm
 rw[Addr.add_mid]at h2
 exact⟨s,h2⟩
theorem str_neP{b0 g:Nat}{v:Value}{vs:List Value}(h:L3 w (some ⟨b0,0,none⟩) n ws)(h0:0<n)(hb:K5 w g (v::vs))(hv:∀s,v≠K4 s):g∉bl (some (⟨b0,0,none⟩:Addr)):=fun hm=>by
 obtain rfl:g=b0:=by simpa[bl]using hm
 obtain⟨s,hs⟩:=Wd h h0
 rw[hb.cell]at hs
 simp at hs
 exact hv s hs
theorem own_cells{B m yc:Nat}{y:Option Addr}{acc:List Sg}(h:K6 w B 150 7 y m yc (gv acc))(hl:acc.length=m)(h0:m=0→y=none):∀b∈bl y,(∃v,w.cell? ⟨b,0,none⟩=some (Zi v))∧∃v,w.cell? ⟨b,1,none⟩=some v:=fun b hb=>by
 have hm:0<m:=by
  rcases Nat.eq_zero_or_pos m with h1|h1
  ·rw[h0 h1]at hb;simp[bl]at hb
  ·exact h1
 obtain⟨g,hg,hc⟩:=h.cells hm
 obtain⟨s,hs⟩:∃s,acc[0]? =some s:=⟨_,List.getElem?_eq_getElem Zo⟩
 rw[hg]at hb
 obtain rfl:b=g:=by simpa[bl]using hb
 exact⟨⟨s.v,hc 0 _ (gv_get (j:=0) hs rfl)⟩,_,hc 1 _ (gv_get (j:=1) hs rfl)⟩
theorem own_ne1{B m yc g:Nat}{y:Option Addr}{acc:List Sg}{v:Value}(h:K6 w B 150 7 y m yc (gv acc))(hl:acc.length=m)(h0:m=0→y=none)(hb:K5 w g [v]):g∉bl y:=fun hm=>by
 obtain⟨_,v1,h2⟩:=own_cells h hl h0 g hm
 rw[hb.cell]at h2
 simp at h2
theorem own_ne_str{B m yc b0:Nat}{y:Option Addr}{acc:List Sg}(h:K6 w B 150 7 y m yc (gv acc))(hl:acc.length=m)(h0:m=0→y=none)(hs:L3 w (some ⟨b0,0,none⟩) n ws)(hn:0<n):∀b∈bl (some (⟨b0,0,none⟩:Addr)),b∉bl y:=fun b hb hm=>by
 obtain rfl:b=b0:=by simpa[bl]using hb
 obtain⟨⟨v,h1⟩,_⟩:=own_cells h hl h0 b hm
 obtain⟨s,h2⟩:=Wd hs hn
 rw[h2]at h1
 cases h1
theorem next_v{gA gW gE i i':Nat}{e' v':Int}(hW:Below W.heap.size W w){B:Nat}{y:Option Addr}{m yc:Nat}{acc:List Sg}(h:PB B gW gA gE A n c ws y m yc acc i 0 w)(D:DB W gW gA gE A y)
 (hi:i≤n) (hn:n≤1000000) (hlen:∀y∈ws,y.length≤1000000) (h1:(if Sm ws i=0 then i+1 else i)=i') (h2:Sm ws i=e') (h3:Qg ws i=v'):
 Calls Tryz.prog 240 #[Zq gA 0,Zq gW 0,Zq gE 0] w (Nm w [gA,gE] (fun _:Unit=>Zi v') (fun _ u=>K5 u gA [Zi i']∧K5 u gE [Zi e'])):=by
 subst h1 h2 h3
 exact next_m hW h.ba h.bw h.be D.la D.lw D.le D.ae h.st hi hn hlen
theorem parse_nil:Zv 199 #[K4 []] w (.tuple #[.slice none 0 0,Zi 0,Zi 0]):=by
 refine K0.enter Tryz.func199 rfl <| ZR <| K0.condr (decide (((0:Nat):Int)>65536)) false Zk Zs <| ZS 0 <| K0.make (Aq 66) (Ud) (fun g u=>K5 u g [.slice none 0 0]∧w.heap.size≤g∧g∉[]) Zk (fun w1 hw h=>Tf (z:= .slice none 0 0) Zk hw.size Zs) fun gW=>ZS 1 <| K0.pure_ (p:=w.heap.size≤gW) (fun u hu h=>h.2.2.1) Zk fun hgW=>ZA (Qf .neq 9 (.tmp 21) (.const (.string ⟨#[]⟩)) (K4 []) (K4 [])) Zf (fun w1 hw h=>Z7 Zs) <| K0.cond false Zk <| ZS 0 <| K0.make (Aq 3) (Ud) (fun g u=>K5 u g [Zi 0]∧w.heap.size≤g∧g∉[gW]) Zk (fun w1 hw h=>Tf (z:=Zi 0) Zk hw.size (by intro b hb;obtain rfl:b=gW:=by{simpa using hb};exact h.2.1.lt)) fun gA=>ZS 1 <| K0.make (Aq 29) (Ud) (fun g u=>K5 u g [Zi 0]∧w.heap.size≤g∧g∉[gW,gA]) Zk (fun w1 hw h=>Tf (z:=Zi 0) Zk hw.size (by intro b hb;rcases List.mem_cons.1 hb with rfl|hb;exact h.1.2.1.lt;obtain rfl:b=gA:=by{simpa using hb};exact h.2.1.lt)) fun gE=>ZS 2 <| K0.pure_ (p:=(w.heap.size≤gA∧gA∉[gW])∧(w.heap.size≤gE∧gE∉[gW,gA])) (fun u hu h=>⟨h.1.2.2,h.2.2⟩) Zk (fun hp=> ?_)
 obtain⟨⟨la,ha⟩,le,he⟩:=hp
 simp only[List.mem_cons,List.not_mem_nil,or_false,not_or]at ha he
 exact K0.mutSt (L:=[gA]) (G:=fun u=>K5 u gA [Zi 0]) (Φ':=fun u=>K5 u gW [.slice none 0 0]∧K5 u gA [Zi 0]∧K5 u gE [Zi 0]) (Tc 3 ⟨gA,0,none⟩ (Zi 0)) (fun w1 hw h=>h.1.2.1.store Zk rfl (by intro u hu;simp[Value.cells]at hu;subst hu;rfl)) (fun u h b hb=>by obtain rfl:b=gA:=by{simpa using hb};exact⟨la,h.1.2.1.own⟩) (fun wa u e1 e2 h hG=>⟨h.1.1.2.1.left e2 (by simp[Ne.symm ha]),hG,h.2.1.left e2 (by simp[he.2])⟩) Zk Zk <| ZR <| K0.mutSt (L:=[gE]) (G:=fun u=>K5 u gE [Zi 0]) (Φ':=fun u=>K5 u gW [.slice none 0 0]∧K5 u gA [Zi 0]∧K5 u gE [Zi 0]) (Tc 29 ⟨gE,0,none⟩ (Zi 0)) (fun w1 hw h=>h.2.2.store Zk rfl (by intro u hu;simp[Value.cells]at hu;subst hu;rfl)) (fun u h b hb=>by obtain rfl:b=gE:=by{simpa using hb};exact⟨le,h.2.2.own⟩) (fun wa u e1 e2 h hG=>⟨h.1.left e2 (by simp[Ne.symm he.1]),h.2.1.left e2 (by simp[Ne.symm he.2]),hG⟩) Zk Zk <| ZR <| K0.un Zk <| ZR <| ZA (L5 3 ⟨gA,0,none⟩) (Zi 0) (fun w1 hw h=>K8 Zk h.2.1.one) <| ZA (L5 66 ⟨gW,0,none⟩) (.slice none 0 0) (fun w1 hw h=>K8 Zk h.1.one) <| ZI false <| ZC (fun w1 hw h=>check_m (ls:=[]) (A:=none) (n:=0) (c:=0) (e:=0) (i:=0) ⟨rfl,fun k s hk=>by simp at hk⟩ Zd rfl) fun u=>ZI false <| ZW (.tuple #[.slice none 0 0,Zi 0,Zi 0])
def xc(v:Int)(ws:List (List UInt8))(i t:Nat):List Value:=Zi v::(List.range 6).map fun s=>Zi (if s<t then Qg ws (i+1+s)else 0)
theorem xc_set{v:Int}{i t:Nat}(h:t<6):(xc v ws i t).set (1+t) (Zi (Qg ws (i+1+t)))=xc v ws i (t+1):=by
 rcases(by omega:t=0∨t=1∨t=2∨t=3∨t=4∨t=5)with rfl|rfl|rfl|rfl|rfl|rfl<;>rfl
theorem verb_named{x:List UInt8}{v:Int}(hv:Qb x=v)(h0:v≠0)(ws:List (List UInt8))(i:Nat):(v=1∨v=2∨v=3∨v=4∨v=5)∧∃r:Nat,Lt v=r∧r≤3∧xc v ws i (2*r)=(Gj ws v i).cl:=by
 rcases verb_cases x with ⟨_,h⟩|⟨_,h⟩|⟨_,h⟩|⟨_,h⟩|⟨_,h⟩|⟨_,h⟩<;>rw[h]at hv<;>subst hv
 ·exact⟨by omega,1,rfl,by omega,rfl⟩
 ·exact⟨by omega,1,rfl,by omega,rfl⟩
 ·exact⟨by omega,2,rfl,by omega,rfl⟩
 ·exact⟨by omega,3,rfl,by omega,rfl⟩
 ·exact⟨by omega,0,rfl,by omega,rfl⟩
 ·exact absurd rfl h0
theorem Bv:∀{m i:Nat},(∀t,t<m→Sm ws (i+t)=0)→Ua ws m i=none
 |0,i,_=>rfl
 |m+1,i,h=>by
  have h0:=h 0 Zo
  rw[Nat.add_zero]at h0
  rw[Ua,if_pos h0]
  exact Bv fun t ht=>by have:=h (t+1) Zo;rw[show i+(t+1)=i+1+t by omega]at this;exact this
theorem Ij:∀{m i j:Nat},(∀t,t<j→Sm ws (i+t)=0)→j<m→Sm ws (i+j)≠0→Ua ws m i=some (i+j)
 |0,i,j,_,h,_=>absurd h (Nat.not_lt_zero _)
 |m+1,i,0,_,_,h=>by rw[Nat.add_zero]at h;rw[Ua,if_neg h,Nat.add_zero]
 |m+1,i,j+1,h,hj,h2=>by
  have h0:=h 0 Zo
  rw[Nat.add_zero]at h0
  rw[Ua,if_pos h0,Ij (j:=j) (fun t ht=>by have:=h (t+1) Zo;rw[show i+(t+1)=i+1+t by omega]at this;exact this) Zo (by rw[show i+1+j=i+(j+1) by omega];exact h2)]
  congr 1;omega
theorem run_fldP{g k fi d:Nat}{t:TypeId}{u:World}(h:Ss Tryz.prog t fi 0 0=some ⟨.p 0 (0+d),none⟩):(Qz t ⟨g,k,none⟩ fi).run Tryz.prog u= .ok (.value (Zq g (k+d))) u:=by
 rw[Mb h,Addr.add_mid]
theorem parse_w{out:List Sg}{at_:Nat}{e:Int}(hM:ML w)(h0:l≠[])(hl:l.length≤65536)(hR:Ob (L9 l) 0 []=(out,at_,e)):Calls Tryz.prog 199 #[K4 l] w (K7 w (fun y:Option Addr×Nat=> .tuple #[.slice y.1 out.length y.2,Zi at_,Zi e]) fun y u=>Qt u y.1 out.length out):=by
 have hwl:=words_len l
 have hmem:∀x∈L9 l,x.length≤1000000:=fun x hx=>by have:=words_mem l x hx;omega
 have hws0:L9 l=Ki 32 l:=if_neg h0
 have hpos:0<(Ki 32 l).length:=List.length_pos_iff.2 (Z5 32 l)
 rw[hws0]at hR hwl hmem
 refine K0.enter Tryz.func199 rfl <| ZR <| K0.condr (decide ((l.length:Int)>65536)) false Zk Zp <| ZS 0 <| K0.make (Aq 66) (Ud) (fun g u=>K5 u g [.slice none 0 0]∧w.heap.size≤g∧g∉[]) Zk (fun w1 hw h=>Tf (z:= .slice none 0 0) Zk hw.size Zs) fun gW=>ZS 1 <| K0.pure_ (p:=w.heap.size≤gW) (fun u hu h=>h.2.2.1) Zk fun lw=>ZA (Qf .neq 9 (.tmp 21) (.const (.string ⟨#[]⟩)) (K4 l) (K4 [])) Zt (fun w1 hw h=>Z7 (by simpa using h0)) <| ZI true <| ZC (fun w1 hw h=>split_m (l:=l) 32 (hM.below hw) Zo) fun b0=> ?_
 obtain⟨ws,hws⟩:∃ws,ws=Ki 32 l:=⟨_,rfl⟩
 rw[←hws]at hR hwl hmem hpos ⊢
 obtain⟨n,hn⟩:∃n,n=ws.length:=⟨_,rfl⟩
 rw[←hn]at hwl hpos ⊢
 refine K0.mutSt (L:=[gW]) (G:=fun u=>K5 u gW [.slice (some ⟨b0,0,none⟩) n n]) (Φ':=fun u=>K5 u gW [.slice (some ⟨b0,0,none⟩) n n]∧L3 u (some ⟨b0,0,none⟩) n ws) (Tc 66 ⟨gW,0,none⟩ (.slice (some ⟨b0,0,none⟩) n n)) (fun w1 hw h=>h.1.2.1.store Zk rfl (by intro u hu;simp[Value.cells]at hu;subst hu;rfl)) (fun u h b hb=>by obtain rfl:b=gW:=by{simpa using hb};exact⟨lw,h.1.2.1.own⟩) (fun wa u e1 e2 h hG=>⟨hG,h.2.left e2 fun b hb hm=>by obtain rfl:b=gW:=by{simpa using hm};exact str_neP h.2 hpos h.1.2.1 (fun s hs=>by cases hs) hb⟩) Zk Zk <| ZS 0 <| K0.make (Aq 3) (Ud) (fun g u=>K5 u g [Zi 0]∧w.heap.size≤g∧g∉[gW]) Zk (fun w1 hw h=>Tf (z:=Zi 0) Zk hw.size (by intro b hb;obtain rfl:b=gW:=by{simpa using hb};exact h.1.lt)) fun gA=>ZS 1 <| K0.make (Aq 29) (Ud) (fun g u=>K5 u g [Zi 0]∧w.heap.size≤g∧g∉[gW,gA]) Zk (fun w1 hw h=>Tf (z:=Zi 0) Zk hw.size (by intro b hb;rcases List.mem_cons.1 hb with rfl|hb;exact h.1.1.lt;obtain rfl:b=gA:=by{simpa using hb};exact h.2.1.lt)) fun gE=>ZS 2 <| K0.pure_ (p:=(w.heap.size≤gA∧gA∉[gW])∧(w.heap.size≤gE∧gE∉[gW,gA])∧gA∉bl (some (⟨b0,0,none⟩:Addr))∧gE∉bl (some (⟨b0,0,none⟩:Addr))) (fun u hu h=>⟨h.1.2.2,h.2.2,str_neP h.1.1.2 hpos h.1.2.1 (fun s hs=>by cases hs),str_neP h.1.1.2 hpos h.2.1 (fun s hs=>by cases hs)⟩) Zk (fun hp=> ?_)
 obtain⟨⟨la,ha⟩,⟨le,he⟩,sa,se⟩:=hp
 simp only[List.mem_cons,List.not_mem_nil,or_false,not_or]at ha he
 refine K0.mutSt (L:=[gA]) (G:=fun u=>K5 u gA [Zi 0]) (Φ':=fun u=>(K5 u gW [.slice (some ⟨b0,0,none⟩) n n]∧L3 u (some ⟨b0,0,none⟩) n ws)∧K5 u gA [Zi 0]∧K5 u gE [Zi 0]) (Tc 3 ⟨gA,0,none⟩ (Zi 0)) (fun w1 hw h=>h.1.2.1.store Zk rfl (by intro u hu;simp[Value.cells]at hu;subst hu;rfl)) (fun u h b hb=>by obtain rfl:b=gA:=by{simpa using hb};exact⟨la,h.1.2.1.own⟩) (fun wa u e1 e2 h hG=>⟨⟨h.1.1.1.left e2 (by simp[Ne.symm ha]),h.1.1.2.left e2 fun b hb hm=>by obtain rfl:b=gA:=by{simpa using hm};exact sa hb⟩,hG,h.2.1.left e2 (by simp[he.2])⟩) Zk Zk <| ZR <| K0.mutSt (L:=[gE]) (G:=fun u=>K5 u gE [Zi 0]) (Φ':=fun u=>(K5 u gW [.slice (some ⟨b0,0,none⟩) n n]∧L3 u (some ⟨b0,0,none⟩) n ws)∧K5 u gA [Zi 0]∧K5 u gE [Zi 0]) (Tc 29 ⟨gE,0,none⟩ (Zi 0)) (fun w1 hw h=>h.2.2.store Zk rfl (by intro u hu;simp[Value.cells]at hu;subst hu;rfl)) (fun u h b hb=>by obtain rfl:b=gE:=by{simpa using hb};exact⟨le,h.2.2.own⟩) (fun wa u e1 e2 h hG=>⟨⟨h.1.1.left e2 (by simp[Ne.symm he.1]),h.1.2.left e2 fun b hb hm=>by obtain rfl:b=gE:=by{simpa using hm};exact se hb⟩,h.2.1.left e2 (by simp[Ne.symm he.2]),hG⟩) Zk Zk <| ZR ?_
 obtain⟨A,hAd⟩:∃A:Option Addr,A=some ⟨b0,0,none⟩:=⟨_,rfl⟩
 rw[←hAd]
 refine K0.loop (ι:={q:(Nat×Nat×List Sg)×(Option Addr×Nat) // q.1.1≤n∧q.1.2.1≤q.1.1∧q.1.2.2.length=q.1.2.1∧(q.1.2.1=0→q.2.1=none)∧Ob ws q.1.1 q.1.2.2=(out,at_,e)}) 92 (fun q=>⟨[(5,.v (Ud gW)),(6,.v (Ud gA)),(7,.v (Ud gE)),(8,.v (.func (.func 240) #[] #[Ud gA,Ud gW,Ud gE])),(9,.v (.slice q.1.2.1 q.1.1.2.1 q.1.2.2))],[]⟩) (fun q u=>PB w.heap.size gW gA gE A n n ws q.1.2.1 q.1.1.2.1 q.1.2.2 q.1.1.2.2 q.1.1.1 0 u) (fun q=>n-q.1.1.1) (⟨((0,0,[]),(none,0)),Nat.zero_le _,Nat.le_refl _,rfl,fun _=>rfl,hR⟩) Zk (fun _=>by kernel_rfl) ⟨Zk,Zk,Zk⟩ (fun u h=>⟨h.1.1,h.2.1,h.2.2,h.1.2,K6.nil_⟩) ?_
 clear hR
 rintro⟨⟨⟨i,m,acc⟩,y,yc⟩,hk⟩ g
 have hi:i≤n:=hk.1
 have hmi:m≤i:=hk.2.1
 have hacc:acc.length=m:=hk.2.2.1
 have hy0:m=0→y=none:=hk.2.2.2.1
 have hR:Ob ws i acc=(out,at_,e):=hk.2.2.2.2
 refine K0.pure_ (p:=DB w gW gA gE A y) (fun u hu h=>⟨la,lw,le,Ne.symm he.2,Ne.symm ha,Ne.symm he.1,by rw[hAd];exact sa,by rw[hAd];exact se,own_ne1 (PB.ow h) hacc hy0 (PB.ba h),own_ne1 (PB.ow h) hacc hy0 (PB.be h),own_ne1 (PB.ow h) hacc hy0 (PB.bw h),by have h3:=PB.st h;rw[hAd]at h3 ⊢;exact own_ne_str (PB.ow h) hacc hy0 h3 hpos⟩) Zk (fun D=> ?_)
 have hAlt:∀u:World,PB w.heap.size gW gA gE A n n ws y m yc acc i 0 u→∀b∈bl A,b<u.heap.size:=fun u h b hb=>by
  have h3:=h.st
  rw[hAd]at h3 hb
  obtain⟨s,hs⟩:=Wd h3 hpos
  obtain rfl:b=b0:=by simpa[bl]using hb
  exact Xg hs
 refine ZR <| ZA (L5 3 ⟨gA,0,none⟩) (Zi i) (fun w1 hw h=>K8 Zk (PB.ba h).one) <| ZA (L5 66 ⟨gW,0,none⟩) (.slice A n n) (fun w1 hw h=>K8 Zk (PB.bw h).one) ?_
 by_cases hlt:i<n
 case neg=>
  obtain rfl:i=n:=by omega
  rw[pw_end Zo,endP]at hR
  obtain⟨e2,k2,hch⟩:∃e k,chk acc=(e,k):=⟨_,_,rfl⟩
  rw[hch]at hR
  refine ZJ (decide ((i:Int)<(i:Int))) false Zs <| K0.leave Zk <| ZR <| ZC (fun w1 hw h=>check_m (A:=y) (n:=m) (c:=yc) (own_segs (PB.ow h) hacc) Zo hch) fun u=> ?_
  by_cases he2:e2=0
  ·subst he2
   rw[if_pos rfl]at hR
   cases hR
   refine ZJ (((0:Int) !=0)) false (rfl) <| ZV (.tuple #[.slice y m yc,Zi 0,Zi 0]) (fun w1 hw h=>⟨(y,yc),by rw[←hacc];rfl,hw,fun w'' k1 k2=>by rw[hacc];exact own_segs (PB.ow (h w'' k1 k2).1) hacc⟩)
  ·rw[if_neg he2]at hR
   cases hR
   refine ZJ ((e2 !=0)) true (by simpa using he2) <| ZV (.tuple #[.slice none 0 0,Zi k2,Zi e2]) (fun w1 hw h=>⟨(none,0),rfl,hw,fun _ _ _=>⟨rfl,fun k s hk=>by simp at hk⟩⟩)
 obtain⟨x,hx⟩:∃x,ws[i]? =some x:=⟨_,List.getElem?_eq_getElem Zo⟩
 have hxl:=hmem x (List.mem_of_getElem? hx)
 refine ZJ (decide ((i:Int)<(n:Int))) true Zp <| ZA (L5 66 ⟨gW,0,none⟩) (.slice A n n) (fun w1 hw h=>K8 Zk (PB.bw h).one) <| ZA (L5 3 ⟨gA,0,none⟩) (Zi i) (fun w1 hw h=>K8 Zk (PB.ba h).one) <| ZA (Kj 66 (.slice A n n) i) (.pointer (some ((⟨b0,0,none⟩:Addr).add i))) (fun w1 hw h=>by rw[hAd];exact Kn (elem:=9) Zk Zk hlt) <| ZA (L5 9 ((⟨b0,0,none⟩:Addr).add i)) (K4 x) (fun w1 hw h=>K8 Zk (by obtain⟨ad2,h3,h4⟩:=(PB.st h).2 i x hx;rw[hAd]at h3;cases h3;exact h4)) ?_
 obtain⟨v,hv⟩:∃v,Qb x=v:=⟨_,rfl⟩
 refine ZD 6 (fun w1 hw h=>verb_m hv) fun u=>K0.make (Aq 150) (Ud) (fun g u=>K5 u g (xc 0 ws i 0)∧w.heap.size≤g∧g∉gW::gA::gE::(bl A++bl y)) Zk (fun w1 hw h=>Tf (z:=Sg.val ⟨0,0,0,0,0,0,0⟩) Zk hw.size (PB.lts h.1 (hAlt _ h.1))) fun gX=>ZR <| K0.pure_ (p:=w.heap.size≤gX∧gX∉gW::gA::gE::(bl A++bl y)) (fun u hu h=>h.2.2) Zk (fun hp=> ?_)
 obtain⟨lx,hX⟩:=hp
 have hX2:=hX
 simp only[List.mem_cons,List.mem_append,not_or]at hX2
 obtain⟨xw,xa,xe,xs,xy⟩:=hX2
 refine K0.mutSt (L:=[gX]) (G:=fun u=>K5 u gX (xc v ws i 0)) (Φ':=fun u=>PB w.heap.size gW gA gE A n n ws y m yc acc (i) (0) u∧K5 u gX (xc v ws i 0)) (Tc 150 ⟨gX,0,none⟩ (Sg.val ⟨v,0,0,0,0,0,0⟩)) (fun w1 hw h=>h.2.1.store Zk rfl (by intro u hu;simp[Value.cells]at hu;rcases hu with rfl|rfl<;>rfl)) (fun u h b hb=>by obtain rfl:b=gX:=by{simpa using hb};exact⟨lx,h.2.1.own⟩) (fun wa u e1 e2 h hG=>⟨PB.mutX h.1.1 hX e2,hG⟩) Zk Zk <| ZR <| ZA (L5 3 ⟨gX,0,none⟩) (Zi v) (fun w1 hw h=>K8 Zk (h.2.cell)) ?_
 by_cases hv0:v=0
 ·subst hv0
  rw[pw_verb hx hv]at hR
  obtain⟨rfl,rfl,rfl⟩: []=out∧i=at_∧3=e:=by cases hR;exact⟨rfl,rfl,rfl⟩
  refine ZI true <| ZA (L5 3 ⟨gA,0,none⟩) (Zi i) (fun w1 hw h=>K8 Zk (PB.ba h.1).one) <| K0.leave Zk <| ZR <| ZV (.tuple #[.slice none 0 0,Zi i,Zi 3]) (fun w1 hw h=>⟨(none,0),rfl,hw,fun _ _ _=>⟨rfl,fun k s hk=>by simp at hk⟩⟩)
 refine ZJ ((v==0)) false (by simpa using hv0) ?_
 obtain⟨hvv,r,hr,hr3,hS⟩:=verb_named hv hv0 ws i
 refine ZA (L5 3 ⟨gA,0,none⟩) (Zi i) (fun w1 hw h=>K8 Zk (PB.ba h.1).one) <| K0.slot 41 (Zi (IntKind.i64.wrap ((i:Int)+1))) (Zi ((i+1:Nat):Int)) Zk (by rw[Kd hlt Zo]) <| K0.mutSt (L:=[gA]) (G:=fun u=>K5 u gA [Zi ((i+1:Nat):Int)]) (Φ':=fun u=>PB w.heap.size gW gA gE A n n ws y m yc acc (i+1) (0) u∧K5 u gX (xc v ws i 0)) (Tc 3 ⟨gA,0,none⟩ (Zi ((i+1:Nat):Int))) (fun w1 hw h=>(PB.ba h.1).store Zk rfl (by intro u hu;simp[Value.cells]at hu;subst hu;rfl)) (fun u h b hb=>by obtain rfl:b=gA:=by{simpa using hb};exact⟨la,(PB.ba h.1).own⟩) (fun wa u e1 e2 h hG=>⟨PB.mutA h.1 D e2 hG,h.2.left e2 (by simp[xa])⟩) Zk Zk <| ZR <| K0.make (Lq 281 3 #[(0,Zq gX 1),(1,Zq gX 3),(2,Zq gX 5)]) (Kf 3) (fun g u=>L4 280 #[Zq gX 1,Zq gX 3,Zq gX 5] g u∧g∉[gA,gE,gX]) Zk (fun w1 hw h=>make_litF Zk (by intro b hb;simp only[List.mem_cons,List.not_mem_nil,or_false]at hb;rcases hb with rfl|rfl|rfl;exact(PB.ba h.1).lt;exact(PB.be h.1).lt;exact h.2.lt)) fun ga=>ZR <| K0.pure_ (p:=ga∉[gA,gE,gX]) (fun u hu h=>h.2.2) Zk (fun hga=> ?_)
 simp only[List.mem_cons,List.not_mem_nil,or_false,not_or]at hga
 obtain⟨gaA,gaE,gaX⟩:=hga
 refine ZA (L5 3 ⟨gX,0,none⟩) (Zi v) (fun w1 hw h=>K8 Zk (h.1.2.cell)) <| ZD 4 (fun w1 hw h=>points_m (v:=v) (r:=r) hvv hr) fun u=>ZA (slH 281 (.slice (some ⟨ga,0,none⟩) 3 3) (r:Nat)) (.slice (some ⟨ga,0,none⟩) r 3) (fun w1 hw h=>run_slH (e:=280) Zk Zk Zk hr3) <| K0.loop (ι:={j:Nat // j≤r∧i+1+2*j≤n∧∀s,s<2*j→Sm ws (i+1+s)=0}) 92 (fun q=>⟨[(5,.v (Ud gW)),(6,.v (Ud gA)),(7,.v (Ud gE)),(8,.v (.func (.func 240) #[] #[Ud gA,Ud gW,Ud gE])),(9,.v (.slice y m yc)),(10,.v (Ud gX)),(50,.v (.slice (some ⟨ga,0,none⟩) r 3)),(51,.v (Zi r)),(52,.v (Zi q.1))],[]⟩) (fun q u=>PB w.heap.size gW gA gE A n n ws y m yc acc (i+1+2*q.1) 0 u∧K5 u gX (xc v ws i (2*q.1))∧L4 280 #[Zq gX 1,Zq gX 3,Zq gX 5] ga u) (fun q=>r-q.1) (⟨0,Nat.zero_le _,hlt,fun s hs=>absurd hs Zo⟩) Zk (fun _=>by kernel_rfl) ⟨Zk,Zk,Zk⟩ (fun u h=>⟨h.1.1.1,h.1.1.2,h.1.2.1⟩) ?_
 rintro⟨j,hj,hjn,hjs⟩ g2
 by_cases hjr:j<r
 case neg=>
  obtain rfl:j=r:=by omega
  refine ZR <| ZJ (decide ((j:Int)<(j:Int))) false Zs <| K0.leave Zk <| ZR ?_
  rw[pwStep hx hv hv0 (by rw[hr];exact Bv hjs),hr]at hR
  obtain⟨S,hSg⟩:∃S,Gj ws v i=S:=⟨_,rfl⟩
  rw[hSg]at hS hR
  rw[hS]
  refine ZA (L5 150 ⟨gX,0,none⟩) (Sg.val S) (fun w1 hw h=>Mj (vs:=Sg.cl S) Zk Zk (K5.range h.2.1)) <| K0.make (Lq 43 1 #[(0,Sg.val S)]) (Kf 1) (L4 150 (Sg.cl S).toArray) Zk (fun w1 hw h=>Kc Zk) fun gb=>ZS 3 <| K0.mutOp (L:=bl y) (val:=fun(z:Option Addr×Nat)=> .slice z.1 (m+1) z.2) (Φ':=fun(z:Option Addr×Nat) u=>PB w.heap.size gW gA gE A n n ws z.1 (m+1) z.2 (acc++ [S]) (i+1+2*j) 0 u) (G:=fun(z:Option Addr×Nat) vv=>K6 vv w.heap.size 150 7 z.1 (m+1) z.2 (gv (acc++ [S]))) (M9 43 43 (.slice y m yc) (Kf 1 gb)) (fun w1 hw h=>app_seg (PB.ow h.1.1) hw.size h.2 (show m<1000000 from by omega)) (fun w1 h=>fun b hb=>⟨((PB.ow h.1.1).lt b hb).1,((PB.ow h.1.1).blk b hb).2⟩) (fun z wa w1 e1 e2 h hG=>PB.app h.1.1 D e2 hG) Zk Zk fun z=>ZR <| K0.next (⟨((i+1+2*j,m+1,acc++ [S]),z),hjn,by show m+1≤i+1+2*j;omega,by show(acc++_).length=m+1;rw[List.length_append,hacc];rfl,fun h=>absurd (show m+1=0 from h) Zo,hR⟩) Zk (by show n- (i+1+2*j)<n-i;omega) ⟨Zk,Zk,Zk⟩ (fun u h=>h)
 refine ZR <| K0.condr (decide ((j:Int)<(r:Int))) true Zk Zp <| ZS 0 <| ZA (Kj 281 (.slice (some ⟨ga,0,none⟩) r 3) j) (Zq ga (j*1)) (fun w1 hw h=>Kq (elem:=280) Zk Zk hjr) <| K0.ask (L5 280 ⟨ga,j*1,none⟩) (Zq gX (1+2*j)) Zk (fun w1 hw h=>K8 Zk (lit_cell h.2.2 (by rcases(by omega:j=0∨j=1∨j=2)with rfl|rfl|rfl<;>rfl))) <| ZS 0 <| ZS 2 <| K0.askAt 2 (Qz 57 ⟨gX,1+2*j,none⟩ 0) (Zq gX (1+2*j+0)) Zk (fun w1 hw h=>run_fldP (d:=0) Zk) <| ZS 5 <| ZB 5 (Qz 57 ⟨gX,1+2*j,none⟩ 1) (Zq gX (1+2*j+1)) (fun w1 hw h=>run_fldP (d:=1) Zk) <| K0.make (Lq 283 2 #[(0,Zq gX (1+2*j+0)),(1,Zq gX (1+2*j+1))]) (Kf 2) (fun g u=>L4 282 #[Zq gX (1+2*j+0),Zq gX (1+2*j+1)] g u∧g∉[gA,gE,gX]) Zk (fun w1 hw h=>make_litF Zk (by intro b hb;simp only[List.mem_cons,List.not_mem_nil,or_false]at hb;rcases hb with rfl|rfl|rfl;exact(PB.ba h.1).lt;exact(PB.be h.1).lt;exact K5.lt h.2.1)) fun gb=>ZR <| K0.pure_ (p:=gb∉[gA,gE,gX]) (fun u hu h=>h.2.2) Zk (fun hgb=> ?_)
 simp only[List.mem_cons,List.not_mem_nil,or_false,not_or]at hgb
 obtain⟨gbA,gbE,gbX⟩:=hgb
 refine K0.loop (ι:={k:Nat // k≤2∧i+1+(2*j+k)≤n∧∀s,s<2*j+k→Sm ws (i+1+s)=0}) 92 (fun q=>⟨[(5,.v (Ud gW)),(6,.v (Ud gA)),(7,.v (Ud gE)),(8,.v (.func (.func 240) #[] #[Ud gA,Ud gW,Ud gE])),(9,.v (.slice y m yc)),(10,.v (Ud gX)),(50,.v (.slice (some ⟨ga,0,none⟩) r 3)),(51,.v (Zi r)),(52,.v (Zi j)),(62,.v (Kf 2 gb)),(63,.v (Zi 2)),(64,.v (Zi q.1))],[]⟩) (fun q u=>(PB w.heap.size gW gA gE A n n ws y m yc acc (i+1+(2*j+q.1)) 0 u∧K5 u gX (xc v ws i ((2*j+q.1)))∧L4 280 #[Zq gX 1,Zq gX 3,Zq gX 5] ga u)∧L4 282 #[Zq gX (1+2*j+0),Zq gX (1+2*j+1)] gb u) (fun q=>2-q.1) (⟨0,by omega,hjn,hjs⟩) Zk (fun _=>by kernel_rfl) ⟨Zk,Zk,Zk⟩ (fun u h=>⟨h.1,h.2.1⟩) ?_
 rintro⟨k,hk2,hkn,hks⟩ g3
 by_cases hkk:k<2
 case neg=>
  obtain rfl:k=2:=by omega
  refine ZR <| ZI false <| K0.leave Zk <| ZR <| K0.slot 52 (Zi (IntKind.i64.wrap ((j:Int)+1))) (Zi ((j+1:Nat):Int)) Zk (by rw[Kd hjr Zo]) <| K0.next (⟨j+1,hjr,hkn,hks⟩) Zk (by show r- (j+1)<r-j;omega) ⟨Zk,Zk,Zk⟩ (fun u h=>h.1)
 refine ZR <| ZJ (decide ((k:Int)<2)) true Zp <| ZA (Kj 283 (.slice (some ⟨gb,0,none⟩) 2 2) k) (Zq gb (k*1)) (fun w1 hw h=>Kq (elem:=282) Zk Zk hkk) <| ZA (L5 282 ⟨gb,k*1,none⟩) (.pointer (some ⟨gX,1+(2*j+k),none⟩)) (fun w1 hw h=>K8 Zk (lit_cell h.2 (by rcases(by omega:k=0∨k=1)with rfl|rfl<;>rfl))) ?_
 by_cases e0:Sm ws (i+1+(2*j+k))=0
 case neg=>
  have hf:Ua ws (2*(Lt v).toNat) (i+1)=some (i+1+(2*j+k)):=by rw[hr];exact Ij hks (show 2*j+k<2*r by omega) e0
  rw[pw_fail hx hv hv0 hf]at hR
  obtain⟨rfl,rfl,rfl⟩: []=out∧i+1+(2*j+k)=at_∧Sm ws (i+1+(2*j+k))=e:=by cases hR;exact⟨rfl,rfl,rfl⟩
  refine K0.mut (L:=[gA,gE]) (Φ':=fun _ u=>(PB w.heap.size gW gA gE A n n ws y m yc acc (i+1+(2*j+k)) (Sm ws (i+1+(2*j+k))) u∧K5 u gX (xc v ws i (2*j+k))∧L4 280 #[Zq gX 1,Zq gX 3,Zq gX 5] ga u)∧L4 282 #[Zq gX (1+2*j+0),Zq gX (1+2*j+1)] gb u) (fun w1 hw h=>next_v (i':=i+1+(2*j+k)) (e':=Sm ws (i+1+(2*j+k))) hw h.1.1 D hkn Zo hmem (if_neg e0) rfl rfl) (fun u h=>PB.own h.1.1 D) (fun _ wa u e1 e2 h hG=>⟨⟨PB.mutAE h.1.1 D e2 hG,K5.left h.1.2.1 e2 (by simp[xa,xe]),U2 h.1.2.2 e2 (by simp[gaA,gaE])⟩,U2 h.2 e2 (by simp[gbA,gbE])⟩) Zk Zk fun _=>ZR <| K0.mutSt (L:=[gX]) (G:=fun u=>K5 u gX (xc v ws i (2*j+k+1))) (Φ':=fun u=>(PB w.heap.size gW gA gE A n n ws y m yc acc (i+1+(2*j+k)) (Sm ws (i+1+(2*j+k))) u∧K5 u gX (xc v ws i (2*j+k+1))∧L4 280 #[Zq gX 1,Zq gX 3,Zq gX 5] ga u)∧L4 282 #[Zq gX (1+2*j+0),Zq gX (1+2*j+1)] gb u) (Tc 3 ⟨gX,1+(2*j+k),none⟩ (Zi (Qg ws (i+1+(2*j+k))))) (fun w1 hw h=>by rw[←xc_set (v:=v) (ws:=ws) (i:=i) (by omega:2*j+k<6)];exact h.1.2.1.store1 Zk rfl (by show 1+(2*j+k)<7;omega) rfl) (fun u h b hb=>by obtain rfl:b=gX:=by{simpa using hb};exact⟨lx,K5.own h.1.2.1⟩) (fun wa u e1 e2 h hG=>⟨⟨PB.mutX h.1.1 hX e2,hG,U2 h.1.2.2 e2 (by simp[gaX])⟩,U2 h.2 e2 (by simp[gbX])⟩) Zk Zk <| ZR <| ZA (L5 29 ⟨gE,0,none⟩) (Zi (Sm ws (i+1+(2*j+k)))) (fun w1 hw h=>K8 Zk (PB.be h.1.1).one) <| ZJ ((Sm ws (i+1+(2*j+k)) !=0)) true (by simpa using e0) <| ZB 0 (L5 3 ⟨gA,0,none⟩) (Zi ((i+1+(2*j+k):Nat):Int)) (fun w1 hw h=>K8 Zk (PB.ba h.1.1).one) <| ZB 1 (L5 29 ⟨gE,0,none⟩) (Zi (Sm ws (i+1+(2*j+k)))) (fun w1 hw h=>K8 Zk (PB.be h.1.1).one) <| K0.leave Zk <| ZR <| K0.leave Zk <| ZR <| K0.leave Zk <| ZR <| ZV (.tuple #[.slice none 0 0,Zi ((i+1+(2*j+k):Nat):Int),Zi (Sm ws (i+1+(2*j+k)))]) (fun w1 hw h=>⟨(none,0),rfl,hw,fun _ _ _=>⟨rfl,fun k s hk=>by simp at hk⟩⟩)
 have hlt2:i+1+(2*j+k)<n:=by
  rcases Nat.lt_or_ge (i+1+(2*j+k)) n with h1|h1
  ·exact h1
  ·rw[Sm,List.getElem?_eq_none Zo]at e0;exact absurd e0 Zd
 refine K0.mut (L:=[gA,gE]) (Φ':=fun _ u=>(PB w.heap.size gW gA gE A n n ws y m yc acc (i+1+(2*j+k)+1) (0) u∧K5 u gX (xc v ws i (2*j+k))∧L4 280 #[Zq gX 1,Zq gX 3,Zq gX 5] ga u)∧L4 282 #[Zq gX (1+2*j+0),Zq gX (1+2*j+1)] gb u) (fun w1 hw h=>next_v (i':=i+1+(2*j+k)+1) (e':=0) hw h.1.1 D hkn Zo hmem (if_pos e0) e0 rfl) (fun u h=>PB.own h.1.1 D) (fun _ wa u e1 e2 h hG=>⟨⟨PB.mutAE h.1.1 D e2 hG,K5.left h.1.2.1 e2 (by simp[xa,xe]),U2 h.1.2.2 e2 (by simp[gaA,gaE])⟩,U2 h.2 e2 (by simp[gbA,gbE])⟩) Zk Zk fun _=>ZR <| K0.mutSt (L:=[gX]) (G:=fun u=>K5 u gX (xc v ws i (2*j+k+1))) (Φ':=fun u=>(PB w.heap.size gW gA gE A n n ws y m yc acc (i+1+(2*j+k)+1) (0) u∧K5 u gX (xc v ws i (2*j+k+1))∧L4 280 #[Zq gX 1,Zq gX 3,Zq gX 5] ga u)∧L4 282 #[Zq gX (1+2*j+0),Zq gX (1+2*j+1)] gb u) (Tc 3 ⟨gX,1+(2*j+k),none⟩ (Zi (Qg ws (i+1+(2*j+k))))) (fun w1 hw h=>by rw[←xc_set (v:=v) (ws:=ws) (i:=i) (by omega:2*j+k<6)];exact h.1.2.1.store1 Zk rfl (by show 1+(2*j+k)<7;omega) rfl) (fun u h b hb=>by obtain rfl:b=gX:=by{simpa using hb};exact⟨lx,K5.own h.1.2.1⟩) (fun wa u e1 e2 h hG=>⟨⟨PB.mutX h.1.1 hX e2,hG,U2 h.1.2.2 e2 (by simp[gaX])⟩,U2 h.2 e2 (by simp[gbX])⟩) Zk Zk <| ZR <| ZA (L5 29 ⟨gE,0,none⟩) (Zi (0)) (fun w1 hw h=>K8 Zk (PB.be h.1.1).one) <| ZI false <| K0.slot 64 (Zi (IntKind.i64.wrap ((k:Int)+1))) (Zi ((k+1:Nat):Int)) Zk (by rw[Kd hkk Zo]) <| K0.next (⟨k+1,hkk,hlt2,fun s hs=>by rcases Nat.lt_or_ge s (2*j+k)with h1|h1;exact hks s h1;obtain rfl:s=2*j+k:=by{omega};exact e0⟩) Zk (by show 2- (k+1)<2-k;omega) ⟨Zk,Zk,Zk⟩ (fun u h=>h)
end
section
variable{ws:List (List UInt8)}
theorem P9{i:Nat}{z:Int}(h:ws[i]? =some (Kb z))(hz: -1048576≤z∧z≤1048576):Sm ws i=0∧Qg ws i=z:=by
 obtain⟨h1,h2⟩:=pi_fmt (n:=z) Zo
 unfold Sm Qg
 rw[h]
 exact⟨by show wnE (Kb z)=0;rw[wnE,if_pos h1],h2⟩
end
def Iz(s:Sg):List (List UInt8):=(ptsS s).flatMap Zh
theorem segW_eq(s:Sg):Vt s=[Am s.v]::Iz s:=rfl
def Rg(z:Int):Prop:= -1048576≤z∧z≤1048576
theorem good_cases{s:Sg}(h:Xn s):(∃v a b,(v=1∨v=2)∧s=⟨v,a,b,0,0,0,0⟩∧Iz s=[Kb a,Kb b]∧Rg a∧Rg b)∨(∃a b c d,s=⟨3,a,b,c,d,0,0⟩∧Iz s=[Kb a,Kb b,Kb c,Kb d]∧Rg a∧Rg b∧Rg c∧Rg d)
 ∨(∃a b c d e f,s=⟨4,a,b,c,d,e,f⟩∧Iz s=[Kb a,Kb b,Kb c,Kb d,Kb e,Kb f]∧Rg a∧Rg b∧Rg c∧Rg d∧Rg e∧Rg f)∨(s=⟨5,0,0,0,0,0,0⟩∧Iz s=[]):=by
 obtain⟨hv,hf⟩:=h
 obtain⟨ra,rb,rc⟩:=fits_rng hf
 obtain⟨v,a,b,c,d,e,f⟩:=s
 have hv:v=1∨v=2∨v=3∨v=4∨v=5:=hv
 rcases hv with rfl|rfl|rfl|rfl|rfl
 ·simp[Ng,okP,Lt]at hf
  obtain⟨⟨h1,h2,h3,h4⟩,h5⟩:=hf
  obtain⟨h6,h7,h8⟩:=h5
  subst h3 h4 h7 h8
  exact .inl ⟨1,a,b,.inl rfl,rfl,rfl,⟨ra.1,ra.2.1⟩,ra.2.2⟩
 ·simp[Ng,okP,Lt]at hf
  obtain⟨⟨h1,h2,h3,h4⟩,h5⟩:=hf
  obtain⟨h6,h7,h8⟩:=h5
  subst h3 h4 h7 h8
  exact .inl ⟨2,a,b,.inr rfl,rfl,rfl,⟨ra.1,ra.2.1⟩,ra.2.2⟩
 ·simp[Ng,okP,Lt]at hf
  obtain⟨h1,h6,h7,h8⟩:=hf
  subst h7 h8
  exact .inr (.inl ⟨a,b,c,d,rfl,rfl,⟨ra.1,ra.2.1⟩,ra.2.2,⟨rb.1,rb.2.1⟩,rb.2.2⟩)
 ·exact .inr (.inr (.inl ⟨a,b,c,d,e,f,rfl,rfl,⟨ra.1,ra.2.1⟩,ra.2.2,⟨rb.1,rb.2.1⟩,rb.2.2,⟨rc.1,rc.2.1⟩,rc.2.2⟩))
 ·simp[Ng,okP,Lt]at hf
  obtain⟨⟨⟨h1,h2,h3⟩,h4,h5,h6⟩,h7,h8,h9⟩:=hf
  subst h2 h3 h5 h6 h8 h9
  exact .inr (.inr (.inr ⟨rfl,rfl⟩))
theorem letS_verb{v:Int}(hv:v=1∨v=2∨v=3∨v=4∨v=5):Qb [Am v]=v:=by
 rcases hv with rfl|rfl|rfl|rfl|rfl<;>decide
theorem good_nums{s:Sg}(h:Xn s):(Iz s).length=2*(Lt s.v).toNat∧∀x∈Iz s,∃z,x=Kb z∧Rg z:=by
 rcases good_cases h with ⟨v,a,b,hv,rfl,hn,ha,hb⟩|⟨a,b,c,d,rfl,hn,ha,hb,hc,hd⟩|⟨a,b,c,d,e,f,rfl,hn,ha,hb,hc,hd,he,hf⟩|⟨rfl,hn⟩
 ·rw[hn]
  refine⟨by rcases hv with rfl|rfl<;>rfl,fun x hx=> ?_⟩
  simp only[List.mem_cons,List.not_mem_nil,or_false]at hx
  rcases hx with rfl|rfl
  ·exact⟨_,rfl,ha⟩
  ·exact⟨_,rfl,hb⟩
 ·rw[hn]
  refine⟨rfl,fun x hx=> ?_⟩
  simp only[List.mem_cons,List.not_mem_nil,or_false]at hx
  rcases hx with rfl|rfl|rfl|rfl
  ·exact⟨_,rfl,ha⟩
  ·exact⟨_,rfl,hb⟩
  ·exact⟨_,rfl,hc⟩
  ·exact⟨_,rfl,hd⟩
 ·rw[hn]
  refine⟨rfl,fun x hx=> ?_⟩
  simp only[List.mem_cons,List.not_mem_nil,or_false]at hx
  rcases hx with rfl|rfl|rfl|rfl|rfl|rfl
  ·exact⟨_,rfl,ha⟩
  ·exact⟨_,rfl,hb⟩
  ·exact⟨_,rfl,hc⟩
  ·exact⟨_,rfl,hd⟩
  ·exact⟨_,rfl,he⟩
  ·exact⟨_,rfl,hf⟩
 ·rw[hn]
  exact⟨rfl,fun x hx=>by cases hx⟩
theorem good_sg{s:Sg}{ws:List (List UInt8)}{i:Nat}(h:Xn s)(hw:∀t,t<(Iz s).length→ws[i+1+t]? =(Iz s)[t]?):Gj ws s.v i=s:=by
 rcases good_cases h with ⟨v,a,b,hv,rfl,hn,ha,hb⟩|⟨a,b,c,d,rfl,hn,ha,hb,hc,hd⟩|⟨a,b,c,d,e,f,rfl,hn,ha,hb,hc,hd,he,hf⟩|⟨rfl,hn⟩
 ·rw[hn]at hw
  have n1:=(P9 (hw 0 Zs) ha).2
  have n2:=(P9 (hw 1 Zs) hb).2
  show Gj ws v i=_
  unfold Gj
  rw[if_neg Zo,if_neg Zo,if_neg Zo]
  show Sg.mk v (Qg ws (i+1+0)) (Qg ws (i+1+1)) 0 0 0 0=_
  rw[n1,n2]
 ·rw[hn]at hw
  have n1:=(P9 (hw 0 Zs) ha).2
  have n2:=(P9 (hw 1 Zs) hb).2
  have n3:=(P9 (hw 2 Zs) hc).2
  have n4:=(P9 (hw 3 Zs) hd).2
  show Gj ws 3 i=_
  unfold Gj
  rw[if_neg Zd,if_neg Zd,if_pos rfl]
  show Sg.mk 3 (Qg ws (i+1+0)) (Qg ws (i+1+1)) (Qg ws (i+1+2)) (Qg ws (i+1+3)) 0 0=_
  rw[n1,n2,n3,n4]
 ·rw[hn]at hw
  have n1:=(P9 (hw 0 Zs) ha).2
  have n2:=(P9 (hw 1 Zs) hb).2
  have n3:=(P9 (hw 2 Zs) hc).2
  have n4:=(P9 (hw 3 Zs) hd).2
  have n5:=(P9 (hw 4 Zs) he).2
  have n6:=(P9 (hw 5 Zs) hf).2
  show Gj ws 4 i=_
  unfold Gj
  rw[if_neg Zd,if_pos rfl]
  show Sg.mk 4 (Qg ws (i+1+0)) (Qg ws (i+1+1)) (Qg ws (i+1+2)) (Qg ws (i+1+3)) (Qg ws (i+1+4)) (Qg ws (i+1+5))=_
  rw[n1,n2,n3,n4,n5,n6]
 ·rfl
theorem get_mid{α:Type}(p l:List α)(t:Nat):(p++l)[p.length+t]? =l[t]? :=by
 rw[List.getElem?_append_right Zo];congr 1;omega
theorem parse_seg{pre rest:List (List UInt8)}{s:Sg}{acc:List Sg}(h:Xn s):Ob (pre++Vt s++rest) pre.length acc=Ob (pre++Vt s++rest) (pre.length+(Vt s).length) (acc++ [s]):=by
 obtain⟨ws,hws⟩:∃ws,ws=pre++Vt s++rest:=⟨_,rfl⟩
 rw[←hws]
 have hat:∀t,t<(Vt s).length→ws[pre.length+t]? =(Vt s)[t]? :=fun t ht=>by
  rw[hws,List.append_assoc,get_mid,List.getElem?_append_left ht]
 obtain⟨hl,hm⟩:=good_nums h
 have hsl:(Vt s).length=1+(Iz s).length:=by rw[segW_eq,List.length_cons];omega
 have hx:ws[pre.length]? =some [Am s.v]:=by have:=hat 0 Zo;rw[Nat.add_zero]at this;exact this
 have hn:∀t,t<(Iz s).length→ws[pre.length+1+t]? =(Iz s)[t]? :=fun t ht=>by
  have:=hat (t+1) Zo
  rw[show pre.length+(t+1)=pre.length+1+t by omega]at this
  exact this
 have hf:Ua ws (2*(Lt s.v).toNat) (pre.length+1)=none:=Bv fun t ht=>by
  rw[←hl]at ht
  have h1:=hn t ht
  obtain⟨z,hz,hr⟩:=hm _ (List.getElem_mem ht)
  rw[List.getElem?_eq_getElem ht,hz]at h1
  exact(P9 h1 hr).1
 have h0:s.v≠0:=by rcases h.1 with e|e|e|e|e<;>omega
 rw[pwStep hx (letS_verb h.1) h0 hf,good_sg h hn,←hl,hsl]
 congr 1
 omega
theorem parse_segs:∀{ls acc:List Sg} {pre rest:List (List UInt8)},(∀s∈ls,Xn s)→Ob (pre++M8 ls++rest) pre.length acc=Ob (pre++M8 ls++rest) (pre.length+(M8 ls).length) (acc++ls)
 | [],acc,pre,rest,_=>by simp[M8]
 |s::ls,acc,pre,rest,h=>by
  have e:pre++M8 (s::ls)++rest=pre++Vt s++(M8 ls++rest):=by simp[M8]
  have e2:pre++Vt s++(M8 ls++rest)=(pre++Vt s)++M8 ls++rest:=by simp
  rw[e,parse_seg (h s Zs),e2]
  have ih:=parse_segs (ls:=ls) (acc:=acc++ [s]) (pre:=pre++Vt s) (rest:=rest) fun t ht=>h t (by simp[ht])
  rw[List.length_append]at ih
  rw[ih]
  have e3:(M8 (s::ls)).length=(Vt s).length+(M8 ls).length:=by simp[M8]
  rw[e3,List.append_assoc acc]
  congr 1
  omega
theorem parse_words{ls:List Sg}(h:∀s∈ls,Xn s):Ob (M8 ls) 0 []=endP ls:=by
 have h1:=parse_segs (ls:=ls) (acc:=[]) (pre:=[]) (rest:=[]) h
 simp only[List.nil_append,List.append_nil,List.length_nil,Nat.zero_add]at h1
 rw[h1,pw_end (Nat.le_refl _)]
theorem fmtI_blank(z:Int):(32:UInt8)∉Kb z:=by
 unfold Kb
 split
 ·intro h
  rcases List.mem_cons.1 h with h|h
  ·exact absurd h Zd
  ·have:=C0 _ _ h;exact absurd this.1 Zd
 ·intro h;have:=C0 _ _ h;exact absurd this.1 Zd
theorem fmtI_ne(z:Int)(h:Rg z):Kb z≠[]:=fun e=>by
 have h1:=(pi_fmt (n:=z) (by unfold Rg at h;omega)).1
 rw[e]at h1
 exact absurd h1 Zd
theorem wordsP_mem{ls:List Sg}(h:∀s∈ls,Xn s):∀x∈M8 ls,(32:UInt8)∉x∧x≠[]:=fun x hx=>by
 obtain⟨s,hs,hx⟩:=List.mem_flatMap.1 hx
 rw[segW_eq]at hx
 rcases List.mem_cons.1 hx with rfl|hx
 ·refine⟨?_,by simp⟩
  rcases(h s hs).1 with e|e|e|e|e<;>rw[e]<;>decide
 ·obtain⟨z,rfl,hz⟩:=(good_nums (h s hs)).2 x hx
  exact⟨fmtI_blank z,fmtI_ne z hz⟩
theorem joinBy_ne{ws:List (List UInt8)}(h0:ws≠[])(h:∀x∈ws,x≠[]):Nb 32 ws≠[]:=by
 cases ws with
 |nil=>exact absurd rfl h0
 |cons x l=>rw[joinBy_cons];have:=h x Zs;simp[this]
theorem words_joinP{ws:List (List UInt8)}(h:∀x∈ws,(32:UInt8)∉x∧x≠[]):L9 (Nb 32 ws)=ws:=by
 by_cases h0:ws=[]
 ·subst h0;rfl
 ·unfold L9
  rw[if_neg (joinBy_ne h0 fun x hx=>(h x hx).2)]
  exact Z4 h0 fun x hx=>(h x hx).1
theorem words_fmt{ls:List Sg}(h:∀s∈ls,Xn s):L9 (Rq ls)=M8 ls:=words_joinP (wordsP_mem h)
theorem parse_fmtP{ls:List Sg}(h:Pt ls=true):Mp (Rq ls)=(ls,0,0):=by
 obtain⟨hg,hs⟩:=Hg h
 have h1:=fmtP_len hg
 unfold Mp
 rw[if_neg Zo,words_fmt hg,parse_words hg,endP,if_pos (of_decide_eq_true h)]
end Go.Proofs.YtoeiphicmcndlaaGreatDoor
