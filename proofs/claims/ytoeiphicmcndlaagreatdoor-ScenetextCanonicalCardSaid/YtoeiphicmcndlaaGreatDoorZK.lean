/-
 Paths as text: the program's Parse.
-/
import Derived.Test.YtoeiphicmcndlaaGreatDoorZA
namespace Go.Proofs.YtoeiphicmcndlaaGreatDoor
set_option maxRecDepth 100000
set_option maxHeartbeats 8000000
set_option linter.unusedVariables false
set_option linter.unusedSimpArgs false
open Go.RowKit
def Qv(x:List UInt8):Int:=if x=[77]then 1 else if x=[76]then 2 else if x=[81]then 3 else if x=[67]then 4 else if x=[90]then 5 else 0
def wnE(x:List UInt8):Int:=if piE x=0 then 0 else if piE x=6 then 6 else 3
def Ks(ws:List (List UInt8))(i:Nat):Int:=match ws[i]? with
 |none=>3
 |some x=>wnE x
def K9(ws:List (List UInt8))(i:Nat):Int:=match ws[i]? with
 |none=>0
 |some x=>Th x
def Kh(ws:List (List UInt8)):Nat→Nat→Option Nat
 |0,_=>none
 |m+1,i=>if Ks ws i=0 then Kh ws m (i+1)else some i
def sgOf(ws:List (List UInt8))(v:Int)(i:Nat):Sg:=
 if v=5 then⟨5,0,0,0,0,0,0⟩else if v=4 then⟨4,K9 ws (i+1),K9 ws (i+2),K9 ws (i+3),K9 ws (i+4),K9 ws (i+5),K9 ws (i+6)⟩
 else if v=3 then⟨3,K9 ws (i+1),K9 ws (i+2),K9 ws (i+3),K9 ws (i+4),0,0⟩else⟨v,K9 ws (i+1),K9 ws (i+2),0,0,0,0⟩
def endP(acc:List Sg):List Sg×Nat×Int:=if (chk acc).1=0 then(acc,0,0)else([],(chk acc).2,(chk acc).1)
def Qu(ws:List (List UInt8)):Nat→Nat→List Sg→List Sg×Nat×Int
 |0,_,acc=>endP acc
 | f+1,i,acc=>match ws[i]? with
  |none=>endP acc
  |some x=>if Qv x=0 then([],i,3)else match Kh ws (2*(Lf (Qv x)).toNat) (i+1)with
   |some j=>([],j,Ks ws j)
   |none=>Qu ws f (i+1+2*(Lf (Qv x)).toNat) (acc++ [sgOf ws (Qv x) i])
def Pi(ws:List (List UInt8))(i:Nat)(acc:List Sg):List Sg×Nat×Int:=Qu ws (ws.length-i) i acc
def Nj(s:List UInt8):List Sg×Nat×Int:=if 65536<s.length then([],0,5)else Pi (Ld s) 0 []
theorem parseF_mono(ws:List (List UInt8)):∀(f f' i:Nat) (acc:List Sg),ws.length-i≤f→ws.length-i≤f'→Qu ws f i acc=Qu ws f' i acc
 |0,0,i,acc,_,_=>rfl
 |0,f'+1,i,acc,h,_=>by rw[Qu,Qu,List.getElem?_eq_none Zo]
 |f+1,0,i,acc,_,h=>by rw[Qu,Qu,List.getElem?_eq_none Zo]
 | f+1,f'+1,i,acc,h,h'=>by
  rw[Qu,Qu]
  cases hx:ws[i]? with
  |none=>rfl
  | some x=>
   simp only
   split
   ·rfl
   ·split
    ·rfl
    ·exact parseF_mono ws f f' _ _ Zo Zo
section
variable{ws:List (List UInt8)}{i:Nat}{acc:List Sg}{x:List UInt8}{v:Int}
theorem pw_end(h:ws.length≤i):Pi ws i acc=endP acc:=by
 unfold Pi;rw[show ws.length-i=0 by omega,Qu]
theorem pw_at(h:ws[i]? =some x):Pi ws i acc=if Qv x=0 then([],i,3)else match Kh ws (2*(Lf (Qv x)).toNat) (i+1)with
 |some j=>([],j,Ks ws j)
 |none=>Pi ws (i+1+2*(Lf (Qv x)).toNat) (acc++ [sgOf ws (Qv x) i]):=by
 have hlt:=(List.getElem?_eq_some_iff.1 h).1
 have e:Pi ws i acc=Qu ws (ws.length-i-1+1) i acc:=by unfold Pi;rw[show ws.length-i-1+1=ws.length-i by omega]
 rw[e,Qu,h]
 simp only
 split
 ·rfl
 ·split
  ·rfl
  ·exact parseF_mono ws _ _ _ _ Zo (Nat.le_refl _)
theorem pw_verb(h:ws[i]? =some x)(hv:Qv x=0):Pi ws i acc=([],i,3):=by rw[pw_at h,if_pos hv]
theorem Q9{j:Nat}(h:ws[i]? =some x)(hv:Qv x=v)(h0:v≠0)(hf:Kh ws (2*(Lf v).toNat) (i+1)=some j):Pi ws i acc=([],j,Ks ws j):=by
 rw[pw_at h,hv,if_neg h0,hf]
theorem pwStep(h:ws[i]? =some x)(hv:Qv x=v)(h0:v≠0)(hf:Kh ws (2*(Lf v).toNat) (i+1)=none):Pi ws i acc=Pi ws (i+1+2*(Lf v).toNat) (acc++ [sgOf ws v i]):=by
 rw[pw_at h,hv,if_neg h0,hf]
end
theorem verb_cases(x:List UInt8):(x=[77]∧Qv x=1)∨(x=[76]∧Qv x=2)∨(x=[81]∧Qv x=3)∨(x=[67]∧Qv x=4)∨(x=[90]∧Qv x=5)∨((x≠[77]∧x≠[76]∧x≠[81]∧x≠[67]∧x≠[90])∧Qv x=0):=by
 unfold Qv
 by_cases h1:x=[77]
 ·subst h1;exact .inl ⟨rfl,rfl⟩
 by_cases h2:x=[76]
 ·subst h2;exact .inr (.inl ⟨rfl,rfl⟩)
 by_cases h3:x=[81]
 ·subst h3;exact .inr (.inr (.inl ⟨rfl,rfl⟩))
 by_cases h4:x=[67]
 ·subst h4;exact .inr (.inr (.inr (.inl ⟨rfl,rfl⟩)))
 by_cases h5:x=[90]
 ·subst h5;exact .inr (.inr (.inr (.inr (.inl ⟨rfl,rfl⟩))))
 ·rw[if_neg h1,if_neg h2,if_neg h3,if_neg h4,if_neg h5];exact .inr (.inr (.inr (.inr (.inr ⟨⟨h1,h2,h3,h4,h5⟩,rfl⟩))))
def gv(l:List Sg):List Value:=l.flatMap Sg.cl
theorem gv_get:∀{l:List Sg} {k j:Nat} {s:Sg} {v:Value},l[k]? =some s→s.cl[j]? =some v→(gv l)[k*7+j]? =some v
 | [],k,j,s,v,h,_=>by simp at h
 |a::l,0,j,s,v,h,hv=>by
  obtain rfl:a=s:=by simpa using h
  have hj:j<7:=(List.getElem?_eq_some_iff.1 hv).1
  rw[Nat.zero_mul,Nat.zero_add]
  show(a.cl++gv l)[j]? =_
  rw[List.getElem?_append_left (show j<a.cl.length from hj)];exact hv
 |a::l,k+1,j,s,v,h,hv=>by
  have ih:=gv_get (l:=l) (k:=k) (by simpa using h) hv
  show(a.cl++gv l)[(k+1)*7+j]? =_
  rw[List.getElem?_append_right (show a.cl.length≤(k+1)*7+j from by show 7≤_;omega),show(k+1)*7+j-a.cl.length=k*7+j from by show(k+1)*7+j-7=_;omega];exact ih
section
variable{w:World}{l:List UInt8}{A:Option Addr}{n c:Nat}{ws:List (List UInt8)}
theorem own_segs{B m yc:Nat}{y:Option Addr}{acc:List Sg}(h:K7 w B 150 7 y m yc (gv acc))(hl:acc.length=m):Rr w y m acc:=by
 refine⟨hl,fun k s hk=> ?_⟩
 have hlt:=(List.getElem?_eq_some_iff.1 hk).1
 obtain⟨g,hg,hc⟩:=h.cells Zo
 refine⟨_,hg,fun j v hv=> ?_⟩
 rw[Addr.add_mid,Addr.add_mid,Nat.zero_add]
 exact hc _ _ (gv_get hk hv)
theorem app_seg{B m yc gb:Nat}{y:Option Addr}{acc:List Sg}{s:Sg}(ho:K7 w B 150 7 y m yc (gv acc))(hB:B≤w.heap.size)(hg:Kd 150 s.cl.toArray gb w)(hm:m<1000000):
 Ok Tryz.prog w (bl y) (fun z:Option Addr×Nat=> .slice z.1 (m+1) z.2) (fun z v=>K7 v B 150 7 z.1 (m+1) z.2 (gv (acc++ [s]))) (M4 43 43 (.slice y m yc) (Kg 1 gb)):=by
 have ha:=Nr (P:=Tryz.prog) (s:=7) (z:=Sg.val ⟨0,0,0,0,0,0,0⟩) (bytes:=56) (m:=1) (cc:=1) (t:=43) (elem:=150) Zk Zk rfl Zd ho hB (N4 (n:=1) hg rfl) (by intro v hv;simp at hv;rcases hv with rfl|rfl|rfl|rfl|rfl|rfl|rfl<;>rfl) Zo Zd
 have e:gv (acc++ [s])=gv acc++s.cl:=by simp[gv]
 rw[e];exact ha
theorem Mj{e:TypeId}{g j:Nat}{cells:Array Value}{v:Value}(h:Kd e cells g w)(hc:cells[j]? =some v):w.cell? ⟨g,j,none⟩=some v:=by
 unfold Kd at h
 simp only[World.cell?,h,Option.isSome_none,Bool.false_eq_true,if_false]
 exact hc
theorem words_len(m:List UInt8):(Ld m).length≤m.length+1:=by
 unfold Ld
 split
 ·simp
 ·rw[T6];have:=List.count_le_length (a:=(32:UInt8)) (l:=m);omega
theorem words_mem(l:List UInt8):∀x∈Ld l,x.length≤l.length:=by
 unfold Ld
 split
 ·intro x hx;cases hx
 ·exact split_mem 32 l
end
section
variable{w W:World}{l:List UInt8}{A:Option Addr}{n c:Nat}{ws:List (List UInt8)}
theorem index_m{b:UInt8}{k:Int}(h:Lib.indexByte [32,77,76,81,67,90] b=k):Zv 132 #[.string ⟨#[32,77,76,81,67,90]⟩,K4 [b]] w (Zi k):=
 (Tryz.strings_Index_one ⟨#[32,77,76,81,67,90]⟩ b w).mono fun e w' he=>by
  obtain⟨h1,rfl⟩:=he
  exact⟨(),by rw[h1];exact congrArg (fun z=>Ending.returned (Value.int .i64 z)) h,Below.refl _ _,fun _ _ _=>trivial⟩
theorem verb_m{v:Int}(hv:Qv l=v):Zv 241 #[K4 l] w (Zi v):=by
 by_cases h1:l.length=1
 case neg=>
  obtain rfl:v=0:=by
   rcases verb_cases l with ⟨rfl,_⟩|⟨rfl,_⟩|⟨rfl,_⟩|⟨rfl,_⟩|⟨rfl,_⟩|⟨_,h⟩
   ·exact absurd rfl h1
   ·exact absurd rfl h1
   ·exact absurd rfl h1
   ·exact absurd rfl h1
   ·exact absurd rfl h1
   ·exact hv.symm.trans h
  exact K0.enter Tryz.func241 rfl <| ZS 3 <| ZT 5 (.bool ((l.length:Int) !=1)) Zt Zp <| ZI true <| ZW (Zi 0)
 obtain⟨b,rfl⟩:∃b,l=[b]:=by
  match l,h1 with
  | [b],_=>exact⟨b,rfl⟩
 refine K0.enter Tryz.func241 rfl <| ZS 5 ?_
 by_cases hb:b=32
 ·subst hb
  obtain rfl:v=0:=hv.symm.trans Zd
  exact ZA (Pw .eql 9 (.tmp 7) (.const (.string ⟨#[32]⟩)) (K4 [32]) (K4 [32])) Zt (fun w1 hw h=>Kv Zs) <| ZI true <| ZW (Zi 0)
 refine ZA (Pw .eql 9 (.tmp 7) (.const (.string ⟨#[32]⟩)) (K4 [b]) (K4 [32])) Zf (fun w1 hw h=>Kv (by simpa using hb)) <| ZI false ?_
 rcases verb_cases [b]with ⟨h,h2⟩|⟨h,h2⟩|⟨h,h2⟩|⟨h,h2⟩|⟨h,h2⟩|⟨h,h2⟩
 ·obtain rfl:b=77:=by simpa using h
  obtain rfl:v=1:=hv.symm.trans h2
  exact ZC (fun w1 hw h=>index_m (b:=77) (k:=1) Zd) fun u=>ZW (Zi 1)
 ·obtain rfl:b=76:=by simpa using h
  obtain rfl:v=2:=hv.symm.trans h2
  exact ZC (fun w1 hw h=>index_m (b:=76) (k:=2) Zd) fun u=>ZW (Zi 2)
 ·obtain rfl:b=81:=by simpa using h
  obtain rfl:v=3:=hv.symm.trans h2
  exact ZC (fun w1 hw h=>index_m (b:=81) (k:=3) Zd) fun u=>ZW (Zi 3)
 ·obtain rfl:b=67:=by simpa using h
  obtain rfl:v=4:=hv.symm.trans h2
  exact ZC (fun w1 hw h=>index_m (b:=67) (k:=4) Zd) fun u=>ZW (Zi 4)
 ·obtain rfl:b=90:=by simpa using h
  obtain rfl:v=5:=hv.symm.trans h2
  exact ZC (fun w1 hw h=>index_m (b:=90) (k:=5) Zd) fun u=>ZW (Zi 5)
 ·obtain rfl:v=0:=hv.symm.trans h2
  have hidx:Lib.indexByte [32,77,76,81,67,90] b= -1:=by
   simp only[ne_eq,List.cons.injEq,and_true]at h
   have e:∀c:UInt8,b≠c→(c==b)=false:=fun c hc=>beq_eq_false_iff_ne.2 (Ne.symm hc)
   have e2:∀c:UInt8,b≠c→(b==c)=false:=fun c hc=>beq_eq_false_iff_ne.2 hc
   simp[Lib.indexByte,List.findIdx?_cons,e 32 hb,e 77 h.1,e 76 h.2.1,e 81 h.2.2.1,e 67 h.2.2.2.1,e 90 h.2.2.2.2,e2 32 hb,e2 77 h.1,e2 76 h.2.1,e2 81 h.2.2.1,e2 67 h.2.2.2.1,e2 90 h.2.2.2.2]
  exact ZC (fun w1 hw h=>index_m (b:=b) hidx) fun u=>ZW (Zi 0)
def But1(W w:World)(g:Nat)(v:Value)(u:World):Prop:=w.heap.size≤u.heap.size∧(∀b,W.heap.size≤b→b<w.heap.size→b≠g→u.heap[b]? =w.heap[b]?)∧K5 u g [v]
theorem mut_one{gA gE gX:Nat}{val:Value}{ia ie:Value}{v va ve:Value}{w1:World}(hW:Below W.heap.size W w)(hw:Below W.heap.size W w1)(h:But1 W w gX v w1)(hX:gX=gA∨gX=gE)(hne:gA≠gE)(la:W.heap.size≤gA)(le:W.heap.size≤gE)
 (ha:K5 w gA [ia]) (he:K5 w gE [ie]) (hva:va=if gX=gA then v else ia) (hve:ve=if gX=gE then v else ie):
 Ng w [gA,gE] (fun _:Unit=>val) (fun _ u=>K5 u gA [va]∧K5 u gE [ve]) (.returned val) w1:=by
 obtain⟨h1,h2,h3⟩:=h
 refine⟨(),rfl,⟨hw.os.trans hW.os.symm,hw.tape.trans hW.tape.symm,hw.output.trans hW.output.symm,h1,fun k hk hkl=> ?_⟩,fun w'' k1 k2=>⟨?_,?_⟩⟩
 ·rcases Nat.lt_or_ge k W.heap.size with h4|h4
  ·rw[hw.block k h4,hW.block k h4]
  ·refine h2 k h4 hk fun e=>hkl ?_
   rcases hX with rfl|rfl<;>simp[e]
 ·have e:=k2 gA (.inl Zs)
  subst hva
  split
  ·rename_i e1;subst e1;exact h3.to e
  ·rename_i e1;exact(ha.to (h2 gA la ha.lt (Ne.symm e1))).to e
 ·have e:=k2 gE (.inl Zs)
  subst hve
  split
  ·rename_i e1;subst e1;exact h3.to e
  ·rename_i e1;exact(he.to (h2 gE le he.lt (Ne.symm e1))).to e
theorem next_m{gA gW gE i:Nat}(hW:Below W.heap.size W w)(ha:K5 w gA [Zi i])(hb:K5 w gW [.slice A n c])(he:K5 w gE [Zi 0])(la:W.heap.size≤gA)(lw:W.heap.size≤gW)(le:W.heap.size≤gE)(hne:gA≠gE)
 (hs:L5 w A n ws) (hi:i≤n) (hn:n≤1000000) (hlen:∀y∈ws,y.length≤1000000):
 Calls Tryz.prog 240 #[Zq gA 0,Zq gW 0,Zq gE 0] w (Ng w [gA,gE] (fun _:Unit=>Zi (K9 ws i)) (fun _ u=>K5 u gA [Zi (if Ks ws i=0 then(i+1:Nat)else i:Nat)]∧K5 u gE [Zi (Ks ws i)])):=by
 have hln:=hs.1
 have hstA:∀u:World,(w.heap.size≤u.heap.size∧∀b,W.heap.size≤b→b<w.heap.size→u.heap[b]? =w.heap[b]?)→Xq W [gA] (fun _=>True)→True:=fun _ _ _=>trivial
 have hownA:∀u:World,(w.heap.size≤u.heap.size∧∀b,W.heap.size≤b→b<w.heap.size→u.heap[b]? =w.heap[b]?)→∀b∈[gA],W.heap.size≤b∧∃cs ty own,u.heap[b]? =some (.cells cs ty own):=fun u h b hb=>by
  obtain rfl:b=gA:=by simpa using hb
  exact⟨la,(ha.stay la h.2).own⟩
 have hownE:∀u:World,(w.heap.size≤u.heap.size∧∀b,W.heap.size≤b→b<w.heap.size→u.heap[b]? =w.heap[b]?)→∀b∈[gE],W.heap.size≤b∧∃cs ty own,u.heap[b]? =some (.cells cs ty own):=fun u h b hb=>by
  obtain rfl:b=gE:=by simpa using hb
  exact⟨le,(he.stay le h.2).own⟩
 have hleft:∀(g:Nat) (v:Value) (wa u:World),wa.heap.size=u.heap.size→(∀b,b∉[g]→wa.heap[b]? =u.heap[b]?)→(w.heap.size≤wa.heap.size∧∀b,W.heap.size≤b→b<w.heap.size→wa.heap[b]? =w.heap[b]?)→K5 u g [v]→But1 W w g v u:=fun g v wa u e1 e2 h hG=>⟨by rw[←e1];exact h.1,fun b h1 h2 h3=>(e2 b (by simpa using h3)).symm.trans (h.2 b h1 h2),hG⟩
 refine K0.enterW Tryz.func240 rfl hW <| ZR <| ZA (Kt 3 ⟨gA,0,none⟩) (Zi i) (fun w1 hw h=>K6 Zk (ha.stay la h.2).one) <| ZA (Kt 66 ⟨gW,0,none⟩) (.slice A n c) (fun w1 hw h=>K6 Zk (hb.stay lw h.2).one) ?_
 by_cases hlt:i<n
 case neg=>
  obtain rfl:i=n:=by omega
  have h0:ws[i]? =none:=List.getElem?_eq_none Zo
  have e1:Ks ws i=3:=by rw[Ks,h0]
  have e2:K9 ws i=0:=by rw[K9,h0]
  rw[e1,e2]
  refine ZJ (((i:Int)==(i:Int))) true Zs <| K0.mutSt (L:=[gE]) (G:=fun u=>K5 u gE [Zi 3]) (Φ':=But1 W w gE (Zi 3)) (Om 29 ⟨gE,0,none⟩ (Zi 3)) (fun w1 hw h=>(he.stay le h.2).store Zk rfl (by intro u hu;simp[Value.cells]at hu;subst hu;rfl)) (fun u h=>hownE u h) (fun wa u e1 e2 h hG=>hleft gE _ wa u e1 e2 h hG) Zk Zk <| ZR <| ZV (Zi 0) (fun w1 hw h=>mut_one hW hw (h w1 (Nat.le_refl _) fun _ _ _=>rfl) (.inr rfl) hne la le ha he (by simp[hne,Ne.symm hne]) (by simp[hne,Ne.symm hne]))
 obtain⟨x,hx⟩:∃x,ws[i]? =some x:=⟨_,List.getElem?_eq_getElem Zo⟩
 obtain⟨ad,hA,hc⟩:=hs.2 i x hx
 have hxl:=hlen x (List.mem_of_getElem? hx)
 have hv2:K9 ws i=Th x:=by rw[K9,hx]
 have he2:Ks ws i=wnE x:=by rw[Ks,hx]
 have hcs:∀u:World,Below W.heap.size W u→(w.heap.size≤u.heap.size∧∀b,W.heap.size≤b→b<w.heap.size→u.heap[b]? =w.heap[b]?)→u.cell? (ad.add i)=some (K4 x):=fun u hu h=>Ye hc (by
  have hblt:=V9 hc
  rcases Nat.lt_or_ge (ad.add i).block W.heap.size with h1|h1
  ·rw[hu.block _ h1,hW.block _ h1]
  ·exact h.2 _ h1 hblt)
 rw[hv2,he2]
 refine ZJ (((i:Int)==(n:Int))) false Zp <| ZA (Kt 66 ⟨gW,0,none⟩) (.slice A n c) (fun w1 hw h=>K6 Zk (hb.stay lw h.2).one) <| ZA (Kt 3 ⟨gA,0,none⟩) (Zi i) (fun w1 hw h=>K6 Zk (ha.stay la h.2).one) <| ZA (Ku 66 (.slice A n c) i) (.pointer (some (ad.add i))) (fun w1 hw h=>by rw[hA];exact Ky (elem:=9) Zk Zk hlt) <| ZA (Kt 9 (ad.add i)) (K4 x) (fun w1 hw h=>K6 Zk (hcs w1 hw h)) ?_
 rcases piE_vals x with hp|hp|hp|hp
 ·have e1:wnE x=0:=by rw[wnE,if_pos hp]
  rw[e1]
  refine ZC (fun w1 hw h=>Pb hp rfl Zo) fun u=>ZI true <| K0.ask (Kt 3 ⟨gA,0,none⟩) (Zi i) Zk (fun w1 hw h=>K6 Zk (ha.stay la h.1.2).one) <| ZS 2 <| K0.slot 22 (Zi (IntKind.i64.wrap ((i:Int)+1))) (Zi ((i+1:Nat):Int)) Zk (by rw[Ki hlt Zo]) <| K0.mutSt (L:=[gA]) (G:=fun u=>K5 u gA [Zi ((i+1:Nat):Int)]) (Φ':=But1 W w gA (Zi ((i+1:Nat):Int))) (Om 3 ⟨gA,0,none⟩ (Zi ((i+1:Nat):Int))) (fun w1 hw h=>(ha.stay la h.1.2).store Zk rfl (by intro u hu;simp[Value.cells]at hu;subst hu;rfl)) (fun u h=>hownA u h.1) (fun wa u e1 e2 h hG=>hleft gA _ wa u e1 e2 h.1 hG) Zk Zk <| ZR <| ZV (Zi (Th x)) (fun w1 hw h=>mut_one hW hw (h w1 (Nat.le_refl _) fun _ _ _=>rfl) (.inl rfl) hne la le ha he (by simp[hne,Ne.symm hne]) (by simp[hne,Ne.symm hne]))
 ·have e1:wnE x=3:=by rw[wnE,hp];rfl
  rw[e1]
  refine ZC (fun w1 hw h=>Pb hp rfl Zo) fun u=>ZI false <| ZI false <| K0.mutSt (L:=[gE]) (G:=fun u=>K5 u gE [Zi 3]) (Φ':=But1 W w gE (Zi 3)) (Om 29 ⟨gE,0,none⟩ (Zi 3)) (fun w1 hw h=>(he.stay le h.1.2).store Zk rfl (by intro u hu;simp[Value.cells]at hu;subst hu;rfl)) (fun u h=>hownE u h.1) (fun wa u e1 e2 h hG=>hleft gE _ wa u e1 e2 h.1 hG) Zk Zk <| ZR <| ZV (Zi (Th x)) (fun w1 hw h=>mut_one hW hw (h w1 (Nat.le_refl _) fun _ _ _=>rfl) (.inr rfl) hne la le ha he (by simp[hne,Ne.symm hne]) (by simp[hne,Ne.symm hne]))
 ·have e1:wnE x=3:=by rw[wnE,hp];rfl
  rw[e1]
  refine ZC (fun w1 hw h=>Pb hp rfl Zo) fun u=>ZI false <| ZI false <| K0.mutSt (L:=[gE]) (G:=fun u=>K5 u gE [Zi 3]) (Φ':=But1 W w gE (Zi 3)) (Om 29 ⟨gE,0,none⟩ (Zi 3)) (fun w1 hw h=>(he.stay le h.1.2).store Zk rfl (by intro u hu;simp[Value.cells]at hu;subst hu;rfl)) (fun u h=>hownE u h.1) (fun wa u e1 e2 h hG=>hleft gE _ wa u e1 e2 h.1 hG) Zk Zk <| ZR <| ZV (Zi (Th x)) (fun w1 hw h=>mut_one hW hw (h w1 (Nat.le_refl _) fun _ _ _=>rfl) (.inr rfl) hne la le ha he (by simp[hne,Ne.symm hne]) (by simp[hne,Ne.symm hne]))
 ·have e1:wnE x=6:=by rw[wnE,hp];rfl
  rw[e1]
  refine ZC (fun w1 hw h=>Pb hp rfl Zo) fun u=>ZI false <| ZI true <| K0.mutSt (L:=[gE]) (G:=fun u=>K5 u gE [Zi 6]) (Φ':=But1 W w gE (Zi 6)) (Om 29 ⟨gE,0,none⟩ (Zi 6)) (fun w1 hw h=>(he.stay le h.1.2).store Zk rfl (by intro u hu;simp[Value.cells]at hu;subst hu;rfl)) (fun u h=>hownE u h.1) (fun wa u e1 e2 h hG=>hleft gE _ wa u e1 e2 h.1 hG) Zk Zk <| ZR <| ZV (Zi (Th x)) (fun w1 hw h=>mut_one hW hw (h w1 (Nat.le_refl _) fun _ _ _=>rfl) (.inr rfl) hne la le ha he (by simp[hne,Ne.symm hne]) (by simp[hne,Ne.symm hne]))
end
theorem Lj.cast{P:Program}{w:World}{X:Type}{val:X→Value}{G G':X→World→Prop}{s:Sem Next}(h:Lj P w val G s)(hG:∀x u,G x u→G' x u):Lj P w val G' s:=by
 obtain⟨x,w',h1,h2,h3⟩:=h
 exact⟨x,w',h1,h2,fun w'' k1 k2=>hG _ _ (h3 w'' k1 k2)⟩
theorem Oq{P:Program}{w:World}{t:TypeId}{z:Value}{N:Nat}{L:List Nat}(hz:Xr P t=some z)(hN:N≤w.heap.size)(hL:∀b∈L,b<w.heap.size):Lj P w X5 (fun g u=>K5 u g z.cells.toList∧N≤g∧g∉L) (Up t):=
 (Zw (N:=w.heap.size) hz (Nat.le_refl _)).cast fun g u h=>⟨h.1,Nat.le_trans hN h.2.1,fun hm=>by have:=hL g hm;have:=h.2.1;omega⟩
theorem On{P:Program}{w:World}{t elem:TypeId}{len:Nat}{parts:Array (Nat×Value)}{cells:Array Value}{L:List Nat}(h:litOf P t len parts=some (elem,cells))(hL:∀b∈L,b<w.heap.size):
 Lj P w (Kg len) (fun g u=>Kd elem cells g u∧g∉L) (Li t len parts):=
 ((Ke h).fresh (fun g=>[g]) (fun g u h b hb=>by rw[List.mem_singleton.1 hb];exact⟨_,_,_,h⟩)).cast fun g u h=>⟨h.1,fun hm=>by have:=hL g hm;have:=h.2 g Zs;omega⟩
theorem Kb{e:TypeId}{cells:Array Value}{g:Nat}{L:List Nat}{wa u:World}(h:Kd e cells g wa)(e2:∀b,b∉L→wa.heap[b]? =u.heap[b]?)(hg:g∉L):Kd e cells g u:=(e2 g hg).symm.trans h
structure PB(B gW gA gE:Nat)(A:Option Addr)(n c:Nat)(ws:List (List UInt8))(y:Option Addr)(m yc:Nat)(acc:List Sg)(i:Nat)(e:Int)(u:World):Prop where
 bw:K5 u gW [.slice A n c]
 ba:K5 u gA [Zi i]
 be:K5 u gE [Zi e]
 st:L5 u A n ws
 ow:K7 u B 150 7 y m yc (gv acc)
structure DB(W:World)(gW gA gE:Nat)(A y:Option Addr):Prop where
 la:W.heap.size≤gA
 lw:W.heap.size≤gW
 le:W.heap.size≤gE
 ae:gA≠gE
 wa:gW≠gA
 we:gW≠gE
 sa:gA∉bl A
 se:gE∉bl A
 ya:gA∉bl y
 ye:gE∉bl y
 yw:gW∉bl y
 sy:∀b∈bl A,b∉bl y
theorem PB.mutAE{W wa u:World}{B gW gA gE:Nat}{A:Option Addr}{n c:Nat}{ws:List (List UInt8)}{y:Option Addr}{m yc:Nat}{acc:List Sg}{i i':Nat}{e e':Int}(h:PB B gW gA gE A n c ws y m yc acc i e wa)(D:DB W gW gA gE A y)
 (e2:∀b,b∉[gA,gE]→wa.heap[b]? =u.heap[b]?) (hG:K5 u gA [Zi i']∧K5 u gE [Zi e']):PB B gW gA gE A n c ws y m yc acc i' e' u:=by
 refine⟨h.bw.left e2 (by simp[D.wa,D.we]),hG.1,hG.2,h.st.left e2 fun b hb hm=> ?_,h.ow.left e2 fun b hb hm=> ?_⟩
 ·rcases List.mem_cons.1 hm with rfl|hm
  ·exact D.sa hb
  ·obtain rfl:b=gE:=by simpa using hm
   exact D.se hb
 ·rcases List.mem_cons.1 hm with rfl|hm
  ·exact D.ya hb
  ·obtain rfl:b=gE:=by simpa using hm
   exact D.ye hb
theorem PB.mutA{W wa u:World}{B gW gA gE:Nat}{A:Option Addr}{n c:Nat}{ws:List (List UInt8)}{y:Option Addr}{m yc:Nat}{acc:List Sg}{i i':Nat}{e:Int}(h:PB B gW gA gE A n c ws y m yc acc i e wa)(D:DB W gW gA gE A y)
 (e2:∀b,b∉[gA]→wa.heap[b]? =u.heap[b]?) (hG:K5 u gA [Zi i']):PB B gW gA gE A n c ws y m yc acc i' e u:=
 h.mutAE D (fun b hb=>e2 b (by simp at hb ⊢;exact hb.1)) ⟨hG,h.be.left e2 (by simp[Ne.symm D.ae])⟩
theorem PB.mutX{wa u:World}{B gW gA gE gX:Nat}{A:Option Addr}{n c:Nat}{ws:List (List UInt8)}{y:Option Addr}{m yc:Nat}{acc:List Sg}{i:Nat}{e:Int}(h:PB B gW gA gE A n c ws y m yc acc i e wa)
 (hX:gX∉gW::gA::gE::(bl A++bl y)) (e2:∀b,b∉[gX]→wa.heap[b]? =u.heap[b]?):PB B gW gA gE A n c ws y m yc acc i e u:=by
 simp only[List.mem_cons,List.mem_append,not_or]at hX
 obtain⟨h1,h2,h3,h4,h5⟩:=hX
 refine⟨h.bw.left e2 (by simp[Ne.symm h1]),h.ba.left e2 (by simp[Ne.symm h2]),h.be.left e2 (by simp[Ne.symm h3]),h.st.left e2 fun b hb hm=> ?_,h.ow.left e2 fun b hb hm=> ?_⟩
 ·obtain rfl:b=gX:=by simpa using hm
  exact h4 hb
 ·obtain rfl:b=gX:=by simpa using hm
  exact h5 hb
theorem PB.app{W wa u:World}{B gW gA gE:Nat}{A:Option Addr}{n c:Nat}{ws:List (List UInt8)}{y z:Option Addr}{m yc m' zc:Nat}{acc acc':List Sg}{i:Nat}{e:Int}(h:PB B gW gA gE A n c ws y m yc acc i e wa)(D:DB W gW gA gE A y)
 (e2:∀b,b∉bl y→wa.heap[b]? =u.heap[b]?) (hG:K7 u B 150 7 z m' zc (gv acc')):PB B gW gA gE A n c ws z m' zc acc' i e u:=
 ⟨h.bw.left e2 D.yw,h.ba.left e2 D.ya,h.be.left e2 D.ye,h.st.left e2 D.sy,hG⟩
theorem PB.own{W u:World}{B gW gA gE:Nat}{A:Option Addr}{n c:Nat}{ws:List (List UInt8)}{y:Option Addr}{m yc:Nat}{acc:List Sg}{i:Nat}{e:Int}(h:PB B gW gA gE A n c ws y m yc acc i e u)(D:DB W gW gA gE A y):∀b∈[gA,gE],W.heap.size≤b∧∃cs ty own,u.heap[b]? =some (.cells cs ty own):=fun b hb=>by
 rcases List.mem_cons.1 hb with rfl|hm
 ·exact⟨D.la,h.ba.own⟩
 ·obtain rfl:b=gE:=by simpa using hm
  exact⟨D.le,h.be.own⟩
theorem PB.lts{u:World}{B gW gA gE:Nat}{A:Option Addr}{n c:Nat}{ws:List (List UInt8)}{y:Option Addr}{m yc:Nat}{acc:List Sg}{i:Nat}{e:Int}(h:PB B gW gA gE A n c ws y m yc acc i e u)(hA:∀b∈bl A,b<u.heap.size):∀b∈gW::gA::gE::(bl A++bl y),b<u.heap.size:=fun b hb=>by
 simp only[List.mem_cons,List.mem_append]at hb
 rcases hb with rfl|rfl|rfl|hb|hb
 ·exact h.bw.lt
 ·exact h.ba.lt
 ·exact h.be.lt
 ·exact hA b hb
 ·exact(h.ow.lt b hb).2
section
variable{w W:World}{l:List UInt8}{A:Option Addr}{n c:Nat}{ws:List (List UInt8)}
theorem str_cell{b0:Nat}(h:L5 w (some ⟨b0,0,none⟩) n ws)(h0:0<n):∃s,w.cell? ⟨b0,0,none⟩=some (K4 s):=by
 obtain⟨s,hs⟩:∃s,ws[0]? =some s:=⟨_,List.getElem?_eq_getElem (by rw[h.1];exact h0)⟩
 obtain⟨ad,h1,h2⟩:=h.2 0 s hs
 obtain rfl:ad=⟨b0,0,none⟩:=by injection h1 with h1;exact h1.symm
 rw[Addr.add_mid]at h2
 exact⟨s,h2⟩
theorem str_neP{b0 g:Nat}{v:Value}{vs:List Value}(h:L5 w (some ⟨b0,0,none⟩) n ws)(h0:0<n)(hb:K5 w g (v::vs))(hv:∀s,v≠K4 s):g∉bl (some (⟨b0,0,none⟩:Addr)):=fun hm=>by
 obtain rfl:g=b0:=by simpa[bl]using hm
 obtain⟨s,hs⟩:=str_cell h h0
 rw[hb.cell]at hs
 simp at hs
 exact hv s hs
theorem own_cells{B m yc:Nat}{y:Option Addr}{acc:List Sg}(h:K7 w B 150 7 y m yc (gv acc))(hl:acc.length=m)(h0:m=0→y=none):∀b∈bl y,(∃v,w.cell? ⟨b,0,none⟩=some (Zi v))∧∃v,w.cell? ⟨b,1,none⟩=some v:=fun b hb=>by
 have hm:0<m:=by
  rcases Nat.eq_zero_or_pos m with h1|h1
  ·rw[h0 h1]at hb;simp[bl]at hb
  ·exact h1
 obtain⟨g,hg,hc⟩:=h.cells hm
 obtain⟨s,hs⟩:∃s,acc[0]? =some s:=⟨_,List.getElem?_eq_getElem Zo⟩
 rw[hg]at hb
 obtain rfl:b=g:=by simpa[bl]using hb
 exact⟨⟨s.v,hc 0 _ (gv_get (j:=0) hs rfl)⟩,_,hc 1 _ (gv_get (j:=1) hs rfl)⟩
theorem own_ne1{B m yc g:Nat}{y:Option Addr}{acc:List Sg}{v:Value}(h:K7 w B 150 7 y m yc (gv acc))(hl:acc.length=m)(h0:m=0→y=none)(hb:K5 w g [v]):g∉bl y:=fun hm=>by
 obtain⟨_,v1,h2⟩:=own_cells h hl h0 g hm
 rw[hb.cell]at h2
 simp at h2
theorem own_ne_str{B m yc b0:Nat}{y:Option Addr}{acc:List Sg}(h:K7 w B 150 7 y m yc (gv acc))(hl:acc.length=m)(h0:m=0→y=none)(hs:L5 w (some ⟨b0,0,none⟩) n ws)(hn:0<n):∀b∈bl (some (⟨b0,0,none⟩:Addr)),b∉bl y:=fun b hb hm=>by
 obtain rfl:b=b0:=by simpa[bl]using hb
 obtain⟨⟨v,h1⟩,_⟩:=own_cells h hl h0 b hm
 obtain⟨s,h2⟩:=str_cell hs hn
 rw[h2]at h1
 cases h1
theorem N8{gA gW gE i i':Nat}{e' v':Int}(hW:Below W.heap.size W w){B:Nat}{y:Option Addr}{m yc:Nat}{acc:List Sg}(h:PB B gW gA gE A n c ws y m yc acc i 0 w)(D:DB W gW gA gE A y)
 (hi:i≤n) (hn:n≤1000000) (hlen:∀y∈ws,y.length≤1000000) (h1:(if Ks ws i=0 then i+1 else i)=i') (h2:Ks ws i=e') (h3:K9 ws i=v'):
 Calls Tryz.prog 240 #[Zq gA 0,Zq gW 0,Zq gE 0] w (Ng w [gA,gE] (fun _:Unit=>Zi v') (fun _ u=>K5 u gA [Zi i']∧K5 u gE [Zi e'])):=by
 subst h1 h2 h3
 exact next_m hW h.ba h.bw h.be D.la D.lw D.le D.ae h.st hi hn hlen
theorem parse_nil:Zv 199 #[K4 []] w (.tuple #[.slice none 0 0,Zi 0,Zi 0]):=by
 refine K0.enter Tryz.func199 rfl <| ZR <| K0.condr (decide (((0:Nat):Int)>65536)) false Zk Zs <| ZS 0 <| K0.make (Up 66) (X5) (fun g u=>K5 u g [.slice none 0 0]∧w.heap.size≤g∧g∉[]) Zk (fun w1 hw h=>Oq (z:= .slice none 0 0) Zk hw.size Zs) fun gW=>ZS 1 <| K0.pure_ (p:=w.heap.size≤gW) (fun u hu h=>h.2.2.1) Zk fun hgW=>ZA (Pw .neq 9 (.tmp 21) (.const (.string ⟨#[]⟩)) (K4 []) (K4 [])) Zf (fun w1 hw h=>Uw Zs) <| K0.cond false Zk <| ZS 0 <| K0.make (Up 3) (X5) (fun g u=>K5 u g [Zi 0]∧w.heap.size≤g∧g∉[gW]) Zk (fun w1 hw h=>Oq (z:=Zi 0) Zk hw.size (by intro b hb;obtain rfl:b=gW:=by{simpa using hb};exact h.2.1.lt)) fun gA=>ZS 1 <| K0.make (Up 29) (X5) (fun g u=>K5 u g [Zi 0]∧w.heap.size≤g∧g∉[gW,gA]) Zk (fun w1 hw h=>Oq (z:=Zi 0) Zk hw.size (by intro b hb;rcases List.mem_cons.1 hb with rfl|hb;exact h.1.2.1.lt;obtain rfl:b=gA:=by{simpa using hb};exact h.2.1.lt)) fun gE=>ZS 2 <| K0.pure_ (p:=(w.heap.size≤gA∧gA∉[gW])∧(w.heap.size≤gE∧gE∉[gW,gA])) (fun u hu h=>⟨h.1.2.2,h.2.2⟩) Zk (fun hp=> ?_)
 obtain⟨⟨la,ha⟩,le,he⟩:=hp
 simp only[List.mem_cons,List.not_mem_nil,or_false,not_or]at ha he
 exact K0.mutSt (L:=[gA]) (G:=fun u=>K5 u gA [Zi 0]) (Φ':=fun u=>K5 u gW [.slice none 0 0]∧K5 u gA [Zi 0]∧K5 u gE [Zi 0]) (Om 3 ⟨gA,0,none⟩ (Zi 0)) (fun w1 hw h=>h.1.2.1.store Zk rfl (by intro u hu;simp[Value.cells]at hu;subst hu;rfl)) (fun u h b hb=>by obtain rfl:b=gA:=by{simpa using hb};exact⟨la,h.1.2.1.own⟩) (fun wa u e1 e2 h hG=>⟨h.1.1.2.1.left e2 (by simp[Ne.symm ha]),hG,h.2.1.left e2 (by simp[he.2])⟩) Zk Zk <| ZR <| K0.mutSt (L:=[gE]) (G:=fun u=>K5 u gE [Zi 0]) (Φ':=fun u=>K5 u gW [.slice none 0 0]∧K5 u gA [Zi 0]∧K5 u gE [Zi 0]) (Om 29 ⟨gE,0,none⟩ (Zi 0)) (fun w1 hw h=>h.2.2.store Zk rfl (by intro u hu;simp[Value.cells]at hu;subst hu;rfl)) (fun u h b hb=>by obtain rfl:b=gE:=by{simpa using hb};exact⟨le,h.2.2.own⟩) (fun wa u e1 e2 h hG=>⟨h.1.left e2 (by simp[Ne.symm he.1]),h.2.1.left e2 (by simp[Ne.symm he.2]),hG⟩) Zk Zk <| ZR <| K0.un Zk <| ZR <| ZA (Kt 3 ⟨gA,0,none⟩) (Zi 0) (fun w1 hw h=>K6 Zk h.2.1.one) <| ZA (Kt 66 ⟨gW,0,none⟩) (.slice none 0 0) (fun w1 hw h=>K6 Zk h.1.one) <| ZI false <| ZC (fun w1 hw h=>check_m (ls:=[]) (A:=none) (n:=0) (c:=0) (e:=0) (i:=0) ⟨rfl,fun k s hk=>by simp at hk⟩ Zd rfl) fun u=>ZI false <| ZW (.tuple #[.slice none 0 0,Zi 0,Zi 0])
theorem parse_w{out:List Sg}{at_:Nat}{e:Int}(hM:ML w)(h0:l≠[])(hl:l.length≤65536)(hR:Pi (Ld l) 0 []=(out,at_,e)):Calls Tryz.prog 199 #[K4 l] w (K8 w (fun y:Option Addr×Nat=> .tuple #[.slice y.1 out.length y.2,Zi at_,Zi e]) fun y u=>Rr u y.1 out.length out):=by
 have hwl:=words_len l
 have hmem:∀x∈Ld l,x.length≤1000000:=fun x hx=>by have:=words_mem l x hx;omega
 have hws0:Ld l=Km 32 l:=if_neg h0
 have hpos:0<(Km 32 l).length:=List.length_pos_iff.2 (R7 32 l)
 rw[hws0]at hR hwl hmem
 refine K0.enter Tryz.func199 rfl <| ZR <| K0.condr (decide ((l.length:Int)>65536)) false Zk Zp <| ZS 0 <| K0.make (Up 66) (X5) (fun g u=>K5 u g [.slice none 0 0]∧w.heap.size≤g∧g∉[]) Zk (fun w1 hw h=>Oq (z:= .slice none 0 0) Zk hw.size Zs) fun gW=>ZS 1 <| K0.pure_ (p:=w.heap.size≤gW) (fun u hu h=>h.2.2.1) Zk fun lw=>ZA (Pw .neq 9 (.tmp 21) (.const (.string ⟨#[]⟩)) (K4 l) (K4 [])) Zt (fun w1 hw h=>Uw (by simpa using h0)) <| ZI true <| ZC (fun w1 hw h=>split_m (l:=l) 32 (hM.below hw) Zo) fun b0=> ?_
 obtain⟨ws,hws⟩:∃ws,ws=Km 32 l:=⟨_,rfl⟩
 rw[←hws]at hR hwl hmem hpos ⊢
 obtain⟨n,hn⟩:∃n,n=ws.length:=⟨_,rfl⟩
 rw[←hn]at hwl hpos ⊢
 refine K0.mutSt (L:=[gW]) (G:=fun u=>K5 u gW [.slice (some ⟨b0,0,none⟩) n n]) (Φ':=fun u=>K5 u gW [.slice (some ⟨b0,0,none⟩) n n]∧L5 u (some ⟨b0,0,none⟩) n ws) (Om 66 ⟨gW,0,none⟩ (.slice (some ⟨b0,0,none⟩) n n)) (fun w1 hw h=>h.1.2.1.store Zk rfl (by intro u hu;simp[Value.cells]at hu;subst hu;rfl)) (fun u h b hb=>by obtain rfl:b=gW:=by{simpa using hb};exact⟨lw,h.1.2.1.own⟩) (fun wa u e1 e2 h hG=>⟨hG,h.2.left e2 fun b hb hm=>by obtain rfl:b=gW:=by{simpa using hm};exact str_neP h.2 hpos h.1.2.1 (fun s hs=>by cases hs) hb⟩) Zk Zk <| ZS 0 <| K0.make (Up 3) (X5) (fun g u=>K5 u g [Zi 0]∧w.heap.size≤g∧g∉[gW]) Zk (fun w1 hw h=>Oq (z:=Zi 0) Zk hw.size (by intro b hb;obtain rfl:b=gW:=by{simpa using hb};exact h.1.lt)) fun gA=>ZS 1 <| K0.make (Up 29) (X5) (fun g u=>K5 u g [Zi 0]∧w.heap.size≤g∧g∉[gW,gA]) Zk (fun w1 hw h=>Oq (z:=Zi 0) Zk hw.size (by intro b hb;rcases List.mem_cons.1 hb with rfl|hb;exact h.1.1.lt;obtain rfl:b=gA:=by{simpa using hb};exact h.2.1.lt)) fun gE=>ZS 2 <| K0.pure_ (p:=(w.heap.size≤gA∧gA∉[gW])∧(w.heap.size≤gE∧gE∉[gW,gA])∧gA∉bl (some (⟨b0,0,none⟩:Addr))∧gE∉bl (some (⟨b0,0,none⟩:Addr))) (fun u hu h=>⟨h.1.2.2,h.2.2,str_neP h.1.1.2 hpos h.1.2.1 (fun s hs=>by cases hs),str_neP h.1.1.2 hpos h.2.1 (fun s hs=>by cases hs)⟩) Zk (fun hp=> ?_)
 obtain⟨⟨la,ha⟩,⟨le,he⟩,sa,se⟩:=hp
 simp only[List.mem_cons,List.not_mem_nil,or_false,not_or]at ha he
 refine K0.mutSt (L:=[gA]) (G:=fun u=>K5 u gA [Zi 0]) (Φ':=fun u=>(K5 u gW [.slice (some ⟨b0,0,none⟩) n n]∧L5 u (some ⟨b0,0,none⟩) n ws)∧K5 u gA [Zi 0]∧K5 u gE [Zi 0]) (Om 3 ⟨gA,0,none⟩ (Zi 0)) (fun w1 hw h=>h.1.2.1.store Zk rfl (by intro u hu;simp[Value.cells]at hu;subst hu;rfl)) (fun u h b hb=>by obtain rfl:b=gA:=by{simpa using hb};exact⟨la,h.1.2.1.own⟩) (fun wa u e1 e2 h hG=>⟨⟨h.1.1.1.left e2 (by simp[Ne.symm ha]),h.1.1.2.left e2 fun b hb hm=>by obtain rfl:b=gA:=by{simpa using hm};exact sa hb⟩,hG,h.2.1.left e2 (by simp[he.2])⟩) Zk Zk <| ZR <| K0.mutSt (L:=[gE]) (G:=fun u=>K5 u gE [Zi 0]) (Φ':=fun u=>(K5 u gW [.slice (some ⟨b0,0,none⟩) n n]∧L5 u (some ⟨b0,0,none⟩) n ws)∧K5 u gA [Zi 0]∧K5 u gE [Zi 0]) (Om 29 ⟨gE,0,none⟩ (Zi 0)) (fun w1 hw h=>h.2.2.store Zk rfl (by intro u hu;simp[Value.cells]at hu;subst hu;rfl)) (fun u h b hb=>by obtain rfl:b=gE:=by{simpa using hb};exact⟨le,h.2.2.own⟩) (fun wa u e1 e2 h hG=>⟨⟨h.1.1.left e2 (by simp[Ne.symm he.1]),h.1.2.left e2 fun b hb hm=>by obtain rfl:b=gE:=by{simpa using hm};exact se hb⟩,h.2.1.left e2 (by simp[Ne.symm he.2]),hG⟩) Zk Zk <| ZR ?_
 obtain⟨A,hAd⟩:∃A:Option Addr,A=some ⟨b0,0,none⟩:=⟨_,rfl⟩
 rw[←hAd]
 refine K0.loop (ι:={q:(Nat×Nat×List Sg)×(Option Addr×Nat) // q.1.1≤n∧q.1.2.1≤q.1.1∧q.1.2.2.length=q.1.2.1∧(q.1.2.1=0→q.2.1=none)∧Pi ws q.1.1 q.1.2.2=(out,at_,e)}) 92 (fun q=>⟨[(5,.v (X5 gW)),(6,.v (X5 gA)),(7,.v (X5 gE)),(8,.v (.func (.func 240) #[] #[X5 gA,X5 gW,X5 gE])),(9,.v (.slice q.1.2.1 q.1.1.2.1 q.1.2.2))],[]⟩) (fun q u=>PB w.heap.size gW gA gE A n n ws q.1.2.1 q.1.1.2.1 q.1.2.2 q.1.1.2.2 q.1.1.1 0 u) (fun q=>n-q.1.1.1) (⟨((0,0,[]),(none,0)),Nat.zero_le _,Nat.le_refl _,rfl,fun _=>rfl,hR⟩) Zk (fun _=>by kernel_rfl) ⟨Zk,Zk,Zk⟩ (fun u h=>⟨h.1.1,h.2.1,h.2.2,h.1.2,K7.nil_⟩) ?_
 clear hR
 rintro⟨⟨⟨i,m,acc⟩,y,yc⟩,hk⟩ g
 have hi:i≤n:=hk.1
 have hmi:m≤i:=hk.2.1
 have hacc:acc.length=m:=hk.2.2.1
 have hy0:m=0→y=none:=hk.2.2.2.1
 have hR:Pi ws i acc=(out,at_,e):=hk.2.2.2.2
 refine K0.pure_ (p:=DB w gW gA gE A y) (fun u hu h=>⟨la,lw,le,Ne.symm he.2,Ne.symm ha,Ne.symm he.1,by rw[hAd];exact sa,by rw[hAd];exact se,own_ne1 (PB.ow h) hacc hy0 (PB.ba h),own_ne1 (PB.ow h) hacc hy0 (PB.be h),own_ne1 (PB.ow h) hacc hy0 (PB.bw h),by have h3:=PB.st h;rw[hAd]at h3 ⊢;exact own_ne_str (PB.ow h) hacc hy0 h3 hpos⟩) Zk (fun D=> ?_)
 have hAlt:∀u:World,PB w.heap.size gW gA gE A n n ws y m yc acc i 0 u→∀b∈bl A,b<u.heap.size:=fun u h b hb=>by
  have h3:=h.st
  rw[hAd]at h3 hb
  obtain⟨s,hs⟩:=str_cell h3 hpos
  obtain rfl:b=b0:=by simpa[bl]using hb
  exact V9 hs
 refine ZR <| ZA (Kt 3 ⟨gA,0,none⟩) (Zi i) (fun w1 hw h=>K6 Zk (PB.ba h).one) <| ZA (Kt 66 ⟨gW,0,none⟩) (.slice A n n) (fun w1 hw h=>K6 Zk (PB.bw h).one) ?_
 by_cases hlt:i<n
 case neg=>
  obtain rfl:i=n:=by omega
  rw[pw_end Zo,endP]at hR
  obtain⟨e2,k2,hch⟩:∃e k,chk acc=(e,k):=⟨_,_,rfl⟩
  rw[hch]at hR
  refine ZJ (decide ((i:Int)<(i:Int))) false Zs <| K0.leave Zk <| ZR <| ZC (fun w1 hw h=>check_m (A:=y) (n:=m) (c:=yc) (own_segs (PB.ow h) hacc) Zo hch) fun u=> ?_
  by_cases he2:e2=0
  ·subst he2
   rw[if_pos rfl]at hR
   cases hR
   refine ZJ (((0:Int) !=0)) false (rfl) <| ZV (.tuple #[.slice y m yc,Zi 0,Zi 0]) (fun w1 hw h=>⟨(y,yc),by rw[←hacc];rfl,hw,fun w'' k1 k2=>by rw[hacc];exact own_segs (PB.ow (h w'' k1 k2).1) hacc⟩)
  ·rw[if_neg he2]at hR
   cases hR
   refine ZJ ((e2 !=0)) true (by simpa using he2) <| ZV (.tuple #[.slice none 0 0,Zi k2,Zi e2]) (fun w1 hw h=>⟨(none,0),rfl,hw,fun _ _ _=>⟨rfl,fun k s hk=>by simp at hk⟩⟩)
 obtain⟨x,hx⟩:∃x,ws[i]? =some x:=⟨_,List.getElem?_eq_getElem Zo⟩
 have hxl:=hmem x (List.mem_of_getElem? hx)
 refine ZJ (decide ((i:Int)<(n:Int))) true Zp <| ZA (Kt 66 ⟨gW,0,none⟩) (.slice A n n) (fun w1 hw h=>K6 Zk (PB.bw h).one) <| ZA (Kt 3 ⟨gA,0,none⟩) (Zi i) (fun w1 hw h=>K6 Zk (PB.ba h).one) <| ZA (Ku 66 (.slice A n n) i) (.pointer (some ((⟨b0,0,none⟩:Addr).add i))) (fun w1 hw h=>by rw[hAd];exact Ky (elem:=9) Zk Zk hlt) <| ZA (Kt 9 ((⟨b0,0,none⟩:Addr).add i)) (K4 x) (fun w1 hw h=>K6 Zk (by obtain⟨ad2,h3,h4⟩:=(PB.st h).2 i x hx;rw[hAd]at h3;cases h3;exact h4)) ?_
 rcases verb_cases x with ⟨_,hv⟩|⟨_,hv⟩|⟨_,hv⟩|⟨_,hv⟩|⟨_,hv⟩|⟨_,hv⟩
 ·refine ZD 6 (fun w1 hw h=>verb_m hv) fun u=>K0.make (Up 150) (X5) (fun g u=>K5 u g [Zi 0,Zi 0,Zi 0,Zi 0,Zi 0,Zi 0,Zi 0]∧w.heap.size≤g∧g∉gW::gA::gE::(bl A++bl y)) Zk (fun w1 hw h=>Oq (z:=Sg.val ⟨0,0,0,0,0,0,0⟩) Zk hw.size (PB.lts h.1 (hAlt _ h.1))) fun gX=>ZR <| K0.pure_ (p:=w.heap.size≤gX∧gX∉gW::gA::gE::(bl A++bl y)) (fun u hu h=>h.2.2) Zk (fun hp=> ?_)
  obtain⟨lx,hX⟩:=hp
  have hX2:=hX
  simp only[List.mem_cons,List.mem_append,not_or]at hX2
  obtain⟨xw,xa,xe,xs,xy⟩:=hX2
  refine K0.mutSt (L:=[gX]) (G:=fun u=>K5 u gX [Zi 1,Zi 0,Zi 0,Zi 0,Zi 0,Zi 0,Zi 0]) (Φ':=fun u=>PB w.heap.size gW gA gE A n n ws y m yc acc (i) (0) u∧K5 u gX [Zi 1,Zi 0,Zi 0,Zi 0,Zi 0,Zi 0,Zi 0]) (Om 150 ⟨gX,0,none⟩ (Sg.val ⟨1,0,0,0,0,0,0⟩)) (fun w1 hw h=>h.2.1.store Zk rfl (by intro u hu;simp[Value.cells]at hu;rcases hu with rfl|rfl<;>rfl)) (fun u h b hb=>by obtain rfl:b=gX:=by{simpa using hb};exact⟨lx,h.2.1.own⟩) (fun wa u e1 e2 h hG=>⟨PB.mutX h.1.1 hX e2,hG⟩) Zk Zk <| ZR <| ZA (Kt 3 ⟨gX,0,none⟩) (Zi 1) (fun w1 hw h=>K6 Zk (h.2.cell)) <| ZI false <| ZA (Kt 3 ⟨gA,0,none⟩) (Zi i) (fun w1 hw h=>K6 Zk (PB.ba h.1).one) <| K0.slot 41 (Zi (IntKind.i64.wrap ((i:Int)+1))) (Zi ((i+1:Nat):Int)) Zk (by rw[Ki hlt Zo]) <| K0.mutSt (L:=[gA]) (G:=fun u=>K5 u gA [Zi ((i+1:Nat):Int)]) (Φ':=fun u=>PB w.heap.size gW gA gE A n n ws y m yc acc (i+1) (0) u∧K5 u gX [Zi 1,Zi 0,Zi 0,Zi 0,Zi 0,Zi 0,Zi 0]) (Om 3 ⟨gA,0,none⟩ (Zi ((i+1:Nat):Int))) (fun w1 hw h=>(PB.ba h.1).store Zk rfl (by intro u hu;simp[Value.cells]at hu;subst hu;rfl)) (fun u h b hb=>by obtain rfl:b=gA:=by{simpa using hb};exact⟨la,(PB.ba h.1).own⟩) (fun wa u e1 e2 h hG=>⟨PB.mutA h.1 D e2 hG,h.2.left e2 (by simp[xa])⟩) Zk Zk <| ZR <| K0.make (Li 281 3 #[(0,Zq gX 1),(1,Zq gX 3),(2,Zq gX 5)]) (Kg 3) (fun g u=>Kd 280 #[Zq gX 1,Zq gX 3,Zq gX 5] g u∧g∉[gA,gE,gX]) Zk (fun w1 hw h=>On Zk (by intro b hb;simp only[List.mem_cons,List.not_mem_nil,or_false]at hb;rcases hb with rfl|rfl|rfl;exact(PB.ba h.1).lt;exact(PB.be h.1).lt;exact h.2.lt)) fun ga=>ZR <| K0.pure_ (p:=ga∉[gA,gE,gX]) (fun u hu h=>h.2.2) Zk (fun hga=> ?_)
  have hga2:=hga
  simp only[List.mem_cons,List.not_mem_nil,or_false,not_or]at hga2
  obtain⟨gaA,gaE,gaX⟩:=hga2
  refine ZA (Kt 3 ⟨gX,0,none⟩) (Zi 1) (fun w1 hw h=>K6 Zk (h.1.2.cell)) <| ZD 4 (fun w1 hw h=>Ud (v:=1) (r:=1) Zd rfl) fun u=>ZA (slH 281 (.slice (some ⟨ga,0,none⟩) 3 3) (1:Nat)) (.slice (some ⟨ga,0,none⟩) 1 3) (fun w1 hw h=>run_slH (e:=280) Zk Zk Zk Zd) <| K0.un Zk <| ZR <| ZI true <| ZA (Ku 281 (.slice (some ⟨ga,0,none⟩) 1 3) (0:Nat)) (Zq ga (0*1)) (fun w1 hw h=>Kq (elem:=280) Zk Zk Zd) <| ZA (Kt 280 ⟨ga,0*1,none⟩) (Zq gX 1) (fun w1 hw h=>K6 Zk (Mj h.1.2.1 rfl)) <| K0.make (Li 283 2 #[(0,Zq gX 1),(1,Zq gX 2)]) (Kg 2) (fun g u=>Kd 282 #[Zq gX 1,Zq gX 2] g u∧g∉[gA,gE,gX]) Zk (fun w1 hw h=>On Zk (by intro b hb;simp only[List.mem_cons,List.not_mem_nil,or_false]at hb;rcases hb with rfl|rfl|rfl;exact(PB.ba h.1.1.1).lt;exact(PB.be h.1.1.1).lt;exact K5.lt h.1.1.2)) fun gb0=>ZR <| K0.pure_ (p:=gb0∉[gA,gE,gX]) (fun u hu h=>h.2.2) Zk (fun hgb0=> ?_)
  simp only[List.mem_cons,List.not_mem_nil,or_false,not_or]at hgb0
  refine K0.un Zk <| ZR <| ZI true <| ZA (Ku 283 (.slice (some ⟨gb0,0,none⟩) 2 2) (0:Nat)) (Zq gb0 (0*1)) (fun w1 hw h=>Kq (elem:=282) Zk Zk Zd) <| ZA (Kt 282 ⟨gb0,0*1,none⟩) (Zq gX 1) (fun w1 hw h=>K6 Zk (Mj h.2.1 rfl)) ?_
  by_cases e0a:Ks ws (i+1)=0
  case neg=>
   have hf:Kh ws (2*(Lf 1).toNat) (i+1)=some (i+1):=by
    show Kh ws 2 (i+1)=_
    rw[Kh,if_neg e0a]
   rw[Q9 hx hv Zd hf]at hR
   obtain⟨rfl,rfl,rfl⟩: []=out∧i+1=at_∧Ks ws (i+1)=e:=by cases hR;exact⟨rfl,rfl,rfl⟩
   refine K0.mut (L:=[gA,gE]) (Φ':=fun _ u=>PB w.heap.size gW gA gE A n n ws y m yc acc (i+1) (Ks ws (i+1)) u∧K5 u gX [Zi 1,Zi 0,Zi 0,Zi 0,Zi 0,Zi 0,Zi 0]∧Kd 280 #[Zq gX 1,Zq gX 3,Zq gX 5] ga u∧Kd 282 #[Zq gX 1,Zq gX 2] gb0 u) (fun w1 hw h=>N8 (i':=i+1) (e':=Ks ws (i+1)) hw h.1.1.1.1 D (show i+1≤n from by omega) Zo hmem (if_neg e0a) rfl rfl) (fun u h=>PB.own h.1.1.1.1 D) (fun _ wa u e1 e2 h hG=>⟨PB.mutAE h.1.1.1.1 D e2 hG,K5.left h.1.1.1.2 e2 (by simp[xa,xe]),Kb h.1.1.2.1 e2 (by simp[gaA,gaE]),Kb h.2.1 e2 (by simp[hgb0.1,hgb0.2.1])⟩) Zk Zk fun _=>ZR <| K0.mutSt (L:=[gX]) (G:=fun u=>K5 u gX [Zi 1,Zi (K9 ws (i+1)),Zi 0,Zi 0,Zi 0,Zi 0,Zi 0]) (Φ':=fun u=>PB w.heap.size gW gA gE A n n ws y m yc acc (i+1) (Ks ws (i+1)) u∧K5 u gX [Zi 1,Zi (K9 ws (i+1)),Zi 0,Zi 0,Zi 0,Zi 0,Zi 0]∧Kd 280 #[Zq gX 1,Zq gX 3,Zq gX 5] ga u∧Kd 282 #[Zq gX 1,Zq gX 2] gb0 u) (Om 3 ⟨gX,1,none⟩ (Zi (K9 ws (i+1)))) (fun w1 hw h=>h.2.1.store1 Zk rfl Zs rfl) (fun u h b hb=>by obtain rfl:b=gX:=by{simpa using hb};exact⟨lx,h.2.1.own⟩) (fun wa u e1 e2 h hG=>⟨PB.mutX h.1 hX e2,hG,Kb h.2.2.1 e2 (by simp[gaX]),Kb h.2.2.2 e2 (by simp[hgb0.2.2])⟩) Zk Zk <| ZR <| ZA (Kt 29 ⟨gE,0,none⟩) (Zi (Ks ws (i+1))) (fun w1 hw h=>K6 Zk (PB.be h.1).one) <| ZJ ((Ks ws (i+1) !=0)) true (by simpa using e0a) <| ZB 0 (Kt 3 ⟨gA,0,none⟩) (Zi ((i+1:Nat):Int)) (fun w1 hw h=>K6 Zk (PB.ba h.1).one) <| ZB 1 (Kt 29 ⟨gE,0,none⟩) (Zi (Ks ws (i+1))) (fun w1 hw h=>K6 Zk (PB.be h.1).one) <| K0.leave Zk <| ZR <| ZV (.tuple #[.slice none 0 0,Zi ((i+1:Nat):Int),Zi (Ks ws (i+1))]) (fun w1 hw h=>⟨(none,0),rfl,hw,fun _ _ _=>⟨rfl,fun k s hk=>by simp at hk⟩⟩)
  have hlt00:i+1<n:=by
   rcases Nat.lt_or_ge (i+1) n with h1|h1
   ·exact h1
   ·rw[Ks,List.getElem?_eq_none Zo]at e0a;exact absurd e0a Zd
  refine K0.mut (L:=[gA,gE]) (Φ':=fun _ u=>PB w.heap.size gW gA gE A n n ws y m yc acc (i+1+1) (0) u∧K5 u gX [Zi 1,Zi 0,Zi 0,Zi 0,Zi 0,Zi 0,Zi 0]∧Kd 280 #[Zq gX 1,Zq gX 3,Zq gX 5] ga u∧Kd 282 #[Zq gX 1,Zq gX 2] gb0 u) (fun w1 hw h=>N8 (i':=i+1+1) (e':=0) hw h.1.1.1.1 D (show i+1≤n from by omega) Zo hmem (if_pos e0a) e0a rfl) (fun u h=>PB.own h.1.1.1.1 D) (fun _ wa u e1 e2 h hG=>⟨PB.mutAE h.1.1.1.1 D e2 hG,K5.left h.1.1.1.2 e2 (by simp[xa,xe]),Kb h.1.1.2.1 e2 (by simp[gaA,gaE]),Kb h.2.1 e2 (by simp[hgb0.1,hgb0.2.1])⟩) Zk Zk fun _=>ZR <| K0.mutSt (L:=[gX]) (G:=fun u=>K5 u gX [Zi 1,Zi (K9 ws (i+1)),Zi 0,Zi 0,Zi 0,Zi 0,Zi 0]) (Φ':=fun u=>PB w.heap.size gW gA gE A n n ws y m yc acc (i+1+1) (0) u∧K5 u gX [Zi 1,Zi (K9 ws (i+1)),Zi 0,Zi 0,Zi 0,Zi 0,Zi 0]∧Kd 280 #[Zq gX 1,Zq gX 3,Zq gX 5] ga u∧Kd 282 #[Zq gX 1,Zq gX 2] gb0 u) (Om 3 ⟨gX,1,none⟩ (Zi (K9 ws (i+1)))) (fun w1 hw h=>h.2.1.store1 Zk rfl Zs rfl) (fun u h b hb=>by obtain rfl:b=gX:=by{simpa using hb};exact⟨lx,h.2.1.own⟩) (fun wa u e1 e2 h hG=>⟨PB.mutX h.1 hX e2,hG,Kb h.2.2.1 e2 (by simp[gaX]),Kb h.2.2.2 e2 (by simp[hgb0.2.2])⟩) Zk Zk <| ZR <| ZA (Kt 29 ⟨gE,0,none⟩) (Zi (0)) (fun w1 hw h=>K6 Zk (PB.be h.1).one) <| ZI false <| ZI true <| ZA (Ku 283 (.slice (some ⟨gb0,0,none⟩) 2 2) (1:Nat)) (Zq gb0 (1*1)) (fun w1 hw h=>Kq (elem:=282) Zk Zk Zd) <| ZA (Kt 282 ⟨gb0,1*1,none⟩) (Zq gX 2) (fun w1 hw h=>K6 Zk (Mj h.2.2.2 rfl)) ?_
  by_cases e0b:Ks ws (i+1+1)=0
  case neg=>
   have hf:Kh ws (2*(Lf 1).toNat) (i+1)=some (i+1+1):=by
    show Kh ws 2 (i+1)=_
    rw[Kh,if_pos e0a,Kh,if_neg e0b]
   rw[Q9 hx hv Zd hf]at hR
   obtain⟨rfl,rfl,rfl⟩: []=out∧i+1+1=at_∧Ks ws (i+1+1)=e:=by cases hR;exact⟨rfl,rfl,rfl⟩
   refine K0.mut (L:=[gA,gE]) (Φ':=fun _ u=>PB w.heap.size gW gA gE A n n ws y m yc acc (i+1+1) (Ks ws (i+1+1)) u∧K5 u gX [Zi 1,Zi (K9 ws (i+1)),Zi 0,Zi 0,Zi 0,Zi 0,Zi 0]∧Kd 280 #[Zq gX 1,Zq gX 3,Zq gX 5] ga u∧Kd 282 #[Zq gX 1,Zq gX 2] gb0 u) (fun w1 hw h=>N8 (i':=i+1+1) (e':=Ks ws (i+1+1)) hw h.1 D (show i+1+1≤n from by omega) Zo hmem (if_neg e0b) rfl rfl) (fun u h=>PB.own h.1 D) (fun _ wa u e1 e2 h hG=>⟨PB.mutAE h.1 D e2 hG,K5.left h.2.1 e2 (by simp[xa,xe]),Kb h.2.2.1 e2 (by simp[gaA,gaE]),Kb h.2.2.2 e2 (by simp[hgb0.1,hgb0.2.1])⟩) Zk Zk fun _=>ZR <| K0.mutSt (L:=[gX]) (G:=fun u=>K5 u gX [Zi 1,Zi (K9 ws (i+1)),Zi (K9 ws (i+1+1)),Zi 0,Zi 0,Zi 0,Zi 0]) (Φ':=fun u=>PB w.heap.size gW gA gE A n n ws y m yc acc (i+1+1) (Ks ws (i+1+1)) u∧K5 u gX [Zi 1,Zi (K9 ws (i+1)),Zi (K9 ws (i+1+1)),Zi 0,Zi 0,Zi 0,Zi 0]∧Kd 280 #[Zq gX 1,Zq gX 3,Zq gX 5] ga u∧Kd 282 #[Zq gX 1,Zq gX 2] gb0 u) (Om 3 ⟨gX,2,none⟩ (Zi (K9 ws (i+1+1)))) (fun w1 hw h=>h.2.1.store1 Zk rfl Zs rfl) (fun u h b hb=>by obtain rfl:b=gX:=by{simpa using hb};exact⟨lx,h.2.1.own⟩) (fun wa u e1 e2 h hG=>⟨PB.mutX h.1 hX e2,hG,Kb h.2.2.1 e2 (by simp[gaX]),Kb h.2.2.2 e2 (by simp[hgb0.2.2])⟩) Zk Zk <| ZR <| ZA (Kt 29 ⟨gE,0,none⟩) (Zi (Ks ws (i+1+1))) (fun w1 hw h=>K6 Zk (PB.be h.1).one) <| ZJ ((Ks ws (i+1+1) !=0)) true (by simpa using e0b) <| ZB 0 (Kt 3 ⟨gA,0,none⟩) (Zi ((i+1+1:Nat):Int)) (fun w1 hw h=>K6 Zk (PB.ba h.1).one) <| ZB 1 (Kt 29 ⟨gE,0,none⟩) (Zi (Ks ws (i+1+1))) (fun w1 hw h=>K6 Zk (PB.be h.1).one) <| K0.leave Zk <| ZR <| ZV (.tuple #[.slice none 0 0,Zi ((i+1+1:Nat):Int),Zi (Ks ws (i+1+1))]) (fun w1 hw h=>⟨(none,0),rfl,hw,fun _ _ _=>⟨rfl,fun k s hk=>by simp at hk⟩⟩)
  have hlt01:i+1+1<n:=by
   rcases Nat.lt_or_ge (i+1+1) n with h1|h1
   ·exact h1
   ·rw[Ks,List.getElem?_eq_none Zo]at e0b;exact absurd e0b Zd
  refine K0.mut (L:=[gA,gE]) (Φ':=fun _ u=>PB w.heap.size gW gA gE A n n ws y m yc acc (i+1+1+1) (0) u∧K5 u gX [Zi 1,Zi (K9 ws (i+1)),Zi 0,Zi 0,Zi 0,Zi 0,Zi 0]∧Kd 280 #[Zq gX 1,Zq gX 3,Zq gX 5] ga u∧Kd 282 #[Zq gX 1,Zq gX 2] gb0 u) (fun w1 hw h=>N8 (i':=i+1+1+1) (e':=0) hw h.1 D (show i+1+1≤n from by omega) Zo hmem (if_pos e0b) e0b rfl) (fun u h=>PB.own h.1 D) (fun _ wa u e1 e2 h hG=>⟨PB.mutAE h.1 D e2 hG,K5.left h.2.1 e2 (by simp[xa,xe]),Kb h.2.2.1 e2 (by simp[gaA,gaE]),Kb h.2.2.2 e2 (by simp[hgb0.1,hgb0.2.1])⟩) Zk Zk fun _=>ZR <| K0.mutSt (L:=[gX]) (G:=fun u=>K5 u gX [Zi 1,Zi (K9 ws (i+1)),Zi (K9 ws (i+1+1)),Zi 0,Zi 0,Zi 0,Zi 0]) (Φ':=fun u=>PB w.heap.size gW gA gE A n n ws y m yc acc (i+1+1+1) (0) u∧K5 u gX [Zi 1,Zi (K9 ws (i+1)),Zi (K9 ws (i+1+1)),Zi 0,Zi 0,Zi 0,Zi 0]∧Kd 280 #[Zq gX 1,Zq gX 3,Zq gX 5] ga u∧Kd 282 #[Zq gX 1,Zq gX 2] gb0 u) (Om 3 ⟨gX,2,none⟩ (Zi (K9 ws (i+1+1)))) (fun w1 hw h=>h.2.1.store1 Zk rfl Zs rfl) (fun u h b hb=>by obtain rfl:b=gX:=by{simpa using hb};exact⟨lx,h.2.1.own⟩) (fun wa u e1 e2 h hG=>⟨PB.mutX h.1 hX e2,hG,Kb h.2.2.1 e2 (by simp[gaX]),Kb h.2.2.2 e2 (by simp[hgb0.2.2])⟩) Zk Zk <| ZR <| ZA (Kt 29 ⟨gE,0,none⟩) (Zi (0)) (fun w1 hw h=>K6 Zk (PB.be h.1).one) <| ZI false <| ZI false <| ZI false ?_
  have hf:Kh ws (2*(Lf 1).toNat) (i+1)=none:=by
   show Kh ws 2 (i+1)=_
   rw[Kh,if_pos e0a,Kh,if_pos e0b,Kh]
  rw[pwStep hx hv Zd hf]at hR
  refine ZA (Kt 150 ⟨gX,0,none⟩) (Sg.val ⟨1,K9 ws (i+1),K9 ws (i+1+1),0,0,0,0⟩) (fun w1 hw h=>M1 (vs:=Sg.cl ⟨1,K9 ws (i+1),K9 ws (i+1+1),0,0,0,0⟩) Zk Zk (K5.range h.2.1)) <| K0.make (Li 43 1 #[(0,Sg.val ⟨1,K9 ws (i+1),K9 ws (i+1+1),0,0,0,0⟩)]) (Kg 1) (Kd 150 (Sg.cl ⟨1,K9 ws (i+1),K9 ws (i+1+1),0,0,0,0⟩).toArray) Zk (fun w1 hw h=>Ke Zk) fun gb=>ZS 3 <| K0.mutOp (L:=bl y) (val:=fun(z:Option Addr×Nat)=> .slice z.1 (m+1) z.2) (Φ':=fun(z:Option Addr×Nat) u=>PB w.heap.size gW gA gE A n n ws z.1 (m+1) z.2 (acc++ [Sg.mk 1 (K9 ws (i+1)) (K9 ws (i+1+1)) 0 0 0 0]) (i+1+1+1) 0 u) (G:=fun(z:Option Addr×Nat) vv=>K7 vv w.heap.size 150 7 z.1 (m+1) z.2 (gv (acc++ [Sg.mk 1 (K9 ws (i+1)) (K9 ws (i+1+1)) 0 0 0 0]))) (M4 43 43 (.slice y m yc) (Kg 1 gb)) (fun w1 hw h=>app_seg (PB.ow h.1.1) hw.size h.2 (show m<1000000 from by omega)) (fun w1 h=>fun b hb=>⟨((PB.ow h.1.1).lt b hb).1,((PB.ow h.1.1).blk b hb).2⟩) (fun z wa w1 e1 e2 h hG=>PB.app h.1.1 D e2 hG) Zk Zk fun z=>ZR <| K0.next (⟨((i+1+1+1,m+1,acc++ [Sg.mk 1 (K9 ws (i+1)) (K9 ws (i+1+1)) 0 0 0 0]),z),by show i+1+1+1≤n;omega,by show m+1≤i+1+1+1;omega,by show(acc++_).length=m+1;rw[List.length_append,hacc];rfl,fun h=>absurd (show m+1=0 from h) Zo,hR⟩) Zk (by show n- (i+1+1+1)<n-i;omega) ⟨Zk,Zk,Zk⟩ (fun u h=>h)
 ·refine ZD 6 (fun w1 hw h=>verb_m hv) fun u=>K0.make (Up 150) (X5) (fun g u=>K5 u g [Zi 0,Zi 0,Zi 0,Zi 0,Zi 0,Zi 0,Zi 0]∧w.heap.size≤g∧g∉gW::gA::gE::(bl A++bl y)) Zk (fun w1 hw h=>Oq (z:=Sg.val ⟨0,0,0,0,0,0,0⟩) Zk hw.size (PB.lts h.1 (hAlt _ h.1))) fun gX=>ZR <| K0.pure_ (p:=w.heap.size≤gX∧gX∉gW::gA::gE::(bl A++bl y)) (fun u hu h=>h.2.2) Zk (fun hp=> ?_)
  obtain⟨lx,hX⟩:=hp
  have hX2:=hX
  simp only[List.mem_cons,List.mem_append,not_or]at hX2
  obtain⟨xw,xa,xe,xs,xy⟩:=hX2
  refine K0.mutSt (L:=[gX]) (G:=fun u=>K5 u gX [Zi 2,Zi 0,Zi 0,Zi 0,Zi 0,Zi 0,Zi 0]) (Φ':=fun u=>PB w.heap.size gW gA gE A n n ws y m yc acc (i) (0) u∧K5 u gX [Zi 2,Zi 0,Zi 0,Zi 0,Zi 0,Zi 0,Zi 0]) (Om 150 ⟨gX,0,none⟩ (Sg.val ⟨2,0,0,0,0,0,0⟩)) (fun w1 hw h=>h.2.1.store Zk rfl (by intro u hu;simp[Value.cells]at hu;rcases hu with rfl|rfl<;>rfl)) (fun u h b hb=>by obtain rfl:b=gX:=by{simpa using hb};exact⟨lx,h.2.1.own⟩) (fun wa u e1 e2 h hG=>⟨PB.mutX h.1.1 hX e2,hG⟩) Zk Zk <| ZR <| ZA (Kt 3 ⟨gX,0,none⟩) (Zi 2) (fun w1 hw h=>K6 Zk (h.2.cell)) <| ZI false <| ZA (Kt 3 ⟨gA,0,none⟩) (Zi i) (fun w1 hw h=>K6 Zk (PB.ba h.1).one) <| K0.slot 41 (Zi (IntKind.i64.wrap ((i:Int)+1))) (Zi ((i+1:Nat):Int)) Zk (by rw[Ki hlt Zo]) <| K0.mutSt (L:=[gA]) (G:=fun u=>K5 u gA [Zi ((i+1:Nat):Int)]) (Φ':=fun u=>PB w.heap.size gW gA gE A n n ws y m yc acc (i+1) (0) u∧K5 u gX [Zi 2,Zi 0,Zi 0,Zi 0,Zi 0,Zi 0,Zi 0]) (Om 3 ⟨gA,0,none⟩ (Zi ((i+1:Nat):Int))) (fun w1 hw h=>(PB.ba h.1).store Zk rfl (by intro u hu;simp[Value.cells]at hu;subst hu;rfl)) (fun u h b hb=>by obtain rfl:b=gA:=by{simpa using hb};exact⟨la,(PB.ba h.1).own⟩) (fun wa u e1 e2 h hG=>⟨PB.mutA h.1 D e2 hG,h.2.left e2 (by simp[xa])⟩) Zk Zk <| ZR <| K0.make (Li 281 3 #[(0,Zq gX 1),(1,Zq gX 3),(2,Zq gX 5)]) (Kg 3) (fun g u=>Kd 280 #[Zq gX 1,Zq gX 3,Zq gX 5] g u∧g∉[gA,gE,gX]) Zk (fun w1 hw h=>On Zk (by intro b hb;simp only[List.mem_cons,List.not_mem_nil,or_false]at hb;rcases hb with rfl|rfl|rfl;exact(PB.ba h.1).lt;exact(PB.be h.1).lt;exact h.2.lt)) fun ga=>ZR <| K0.pure_ (p:=ga∉[gA,gE,gX]) (fun u hu h=>h.2.2) Zk (fun hga=> ?_)
  have hga2:=hga
  simp only[List.mem_cons,List.not_mem_nil,or_false,not_or]at hga2
  obtain⟨gaA,gaE,gaX⟩:=hga2
  refine ZA (Kt 3 ⟨gX,0,none⟩) (Zi 2) (fun w1 hw h=>K6 Zk (h.1.2.cell)) <| ZD 4 (fun w1 hw h=>Ud (v:=2) (r:=1) Zd rfl) fun u=>ZA (slH 281 (.slice (some ⟨ga,0,none⟩) 3 3) (1:Nat)) (.slice (some ⟨ga,0,none⟩) 1 3) (fun w1 hw h=>run_slH (e:=280) Zk Zk Zk Zd) <| K0.un Zk <| ZR <| ZI true <| ZA (Ku 281 (.slice (some ⟨ga,0,none⟩) 1 3) (0:Nat)) (Zq ga (0*1)) (fun w1 hw h=>Kq (elem:=280) Zk Zk Zd) <| ZA (Kt 280 ⟨ga,0*1,none⟩) (Zq gX 1) (fun w1 hw h=>K6 Zk (Mj h.1.2.1 rfl)) <| K0.make (Li 283 2 #[(0,Zq gX 1),(1,Zq gX 2)]) (Kg 2) (fun g u=>Kd 282 #[Zq gX 1,Zq gX 2] g u∧g∉[gA,gE,gX]) Zk (fun w1 hw h=>On Zk (by intro b hb;simp only[List.mem_cons,List.not_mem_nil,or_false]at hb;rcases hb with rfl|rfl|rfl;exact(PB.ba h.1.1.1).lt;exact(PB.be h.1.1.1).lt;exact K5.lt h.1.1.2)) fun gb0=>ZR <| K0.pure_ (p:=gb0∉[gA,gE,gX]) (fun u hu h=>h.2.2) Zk (fun hgb0=> ?_)
  simp only[List.mem_cons,List.not_mem_nil,or_false,not_or]at hgb0
  refine K0.un Zk <| ZR <| ZI true <| ZA (Ku 283 (.slice (some ⟨gb0,0,none⟩) 2 2) (0:Nat)) (Zq gb0 (0*1)) (fun w1 hw h=>Kq (elem:=282) Zk Zk Zd) <| ZA (Kt 282 ⟨gb0,0*1,none⟩) (Zq gX 1) (fun w1 hw h=>K6 Zk (Mj h.2.1 rfl)) ?_
  by_cases e0a:Ks ws (i+1)=0
  case neg=>
   have hf:Kh ws (2*(Lf 2).toNat) (i+1)=some (i+1):=by
    show Kh ws 2 (i+1)=_
    rw[Kh,if_neg e0a]
   rw[Q9 hx hv Zd hf]at hR
   obtain⟨rfl,rfl,rfl⟩: []=out∧i+1=at_∧Ks ws (i+1)=e:=by cases hR;exact⟨rfl,rfl,rfl⟩
   refine K0.mut (L:=[gA,gE]) (Φ':=fun _ u=>PB w.heap.size gW gA gE A n n ws y m yc acc (i+1) (Ks ws (i+1)) u∧K5 u gX [Zi 2,Zi 0,Zi 0,Zi 0,Zi 0,Zi 0,Zi 0]∧Kd 280 #[Zq gX 1,Zq gX 3,Zq gX 5] ga u∧Kd 282 #[Zq gX 1,Zq gX 2] gb0 u) (fun w1 hw h=>N8 (i':=i+1) (e':=Ks ws (i+1)) hw h.1.1.1.1 D (show i+1≤n from by omega) Zo hmem (if_neg e0a) rfl rfl) (fun u h=>PB.own h.1.1.1.1 D) (fun _ wa u e1 e2 h hG=>⟨PB.mutAE h.1.1.1.1 D e2 hG,K5.left h.1.1.1.2 e2 (by simp[xa,xe]),Kb h.1.1.2.1 e2 (by simp[gaA,gaE]),Kb h.2.1 e2 (by simp[hgb0.1,hgb0.2.1])⟩) Zk Zk fun _=>ZR <| K0.mutSt (L:=[gX]) (G:=fun u=>K5 u gX [Zi 2,Zi (K9 ws (i+1)),Zi 0,Zi 0,Zi 0,Zi 0,Zi 0]) (Φ':=fun u=>PB w.heap.size gW gA gE A n n ws y m yc acc (i+1) (Ks ws (i+1)) u∧K5 u gX [Zi 2,Zi (K9 ws (i+1)),Zi 0,Zi 0,Zi 0,Zi 0,Zi 0]∧Kd 280 #[Zq gX 1,Zq gX 3,Zq gX 5] ga u∧Kd 282 #[Zq gX 1,Zq gX 2] gb0 u) (Om 3 ⟨gX,1,none⟩ (Zi (K9 ws (i+1)))) (fun w1 hw h=>h.2.1.store1 Zk rfl Zs rfl) (fun u h b hb=>by obtain rfl:b=gX:=by{simpa using hb};exact⟨lx,h.2.1.own⟩) (fun wa u e1 e2 h hG=>⟨PB.mutX h.1 hX e2,hG,Kb h.2.2.1 e2 (by simp[gaX]),Kb h.2.2.2 e2 (by simp[hgb0.2.2])⟩) Zk Zk <| ZR <| ZA (Kt 29 ⟨gE,0,none⟩) (Zi (Ks ws (i+1))) (fun w1 hw h=>K6 Zk (PB.be h.1).one) <| ZJ ((Ks ws (i+1) !=0)) true (by simpa using e0a) <| ZB 0 (Kt 3 ⟨gA,0,none⟩) (Zi ((i+1:Nat):Int)) (fun w1 hw h=>K6 Zk (PB.ba h.1).one) <| ZB 1 (Kt 29 ⟨gE,0,none⟩) (Zi (Ks ws (i+1))) (fun w1 hw h=>K6 Zk (PB.be h.1).one) <| K0.leave Zk <| ZR <| ZV (.tuple #[.slice none 0 0,Zi ((i+1:Nat):Int),Zi (Ks ws (i+1))]) (fun w1 hw h=>⟨(none,0),rfl,hw,fun _ _ _=>⟨rfl,fun k s hk=>by simp at hk⟩⟩)
  have hlt00:i+1<n:=by
   rcases Nat.lt_or_ge (i+1) n with h1|h1
   ·exact h1
   ·rw[Ks,List.getElem?_eq_none Zo]at e0a;exact absurd e0a Zd
  refine K0.mut (L:=[gA,gE]) (Φ':=fun _ u=>PB w.heap.size gW gA gE A n n ws y m yc acc (i+1+1) (0) u∧K5 u gX [Zi 2,Zi 0,Zi 0,Zi 0,Zi 0,Zi 0,Zi 0]∧Kd 280 #[Zq gX 1,Zq gX 3,Zq gX 5] ga u∧Kd 282 #[Zq gX 1,Zq gX 2] gb0 u) (fun w1 hw h=>N8 (i':=i+1+1) (e':=0) hw h.1.1.1.1 D (show i+1≤n from by omega) Zo hmem (if_pos e0a) e0a rfl) (fun u h=>PB.own h.1.1.1.1 D) (fun _ wa u e1 e2 h hG=>⟨PB.mutAE h.1.1.1.1 D e2 hG,K5.left h.1.1.1.2 e2 (by simp[xa,xe]),Kb h.1.1.2.1 e2 (by simp[gaA,gaE]),Kb h.2.1 e2 (by simp[hgb0.1,hgb0.2.1])⟩) Zk Zk fun _=>ZR <| K0.mutSt (L:=[gX]) (G:=fun u=>K5 u gX [Zi 2,Zi (K9 ws (i+1)),Zi 0,Zi 0,Zi 0,Zi 0,Zi 0]) (Φ':=fun u=>PB w.heap.size gW gA gE A n n ws y m yc acc (i+1+1) (0) u∧K5 u gX [Zi 2,Zi (K9 ws (i+1)),Zi 0,Zi 0,Zi 0,Zi 0,Zi 0]∧Kd 280 #[Zq gX 1,Zq gX 3,Zq gX 5] ga u∧Kd 282 #[Zq gX 1,Zq gX 2] gb0 u) (Om 3 ⟨gX,1,none⟩ (Zi (K9 ws (i+1)))) (fun w1 hw h=>h.2.1.store1 Zk rfl Zs rfl) (fun u h b hb=>by obtain rfl:b=gX:=by{simpa using hb};exact⟨lx,h.2.1.own⟩) (fun wa u e1 e2 h hG=>⟨PB.mutX h.1 hX e2,hG,Kb h.2.2.1 e2 (by simp[gaX]),Kb h.2.2.2 e2 (by simp[hgb0.2.2])⟩) Zk Zk <| ZR <| ZA (Kt 29 ⟨gE,0,none⟩) (Zi (0)) (fun w1 hw h=>K6 Zk (PB.be h.1).one) <| ZI false <| ZI true <| ZA (Ku 283 (.slice (some ⟨gb0,0,none⟩) 2 2) (1:Nat)) (Zq gb0 (1*1)) (fun w1 hw h=>Kq (elem:=282) Zk Zk Zd) <| ZA (Kt 282 ⟨gb0,1*1,none⟩) (Zq gX 2) (fun w1 hw h=>K6 Zk (Mj h.2.2.2 rfl)) ?_
  by_cases e0b:Ks ws (i+1+1)=0
  case neg=>
   have hf:Kh ws (2*(Lf 2).toNat) (i+1)=some (i+1+1):=by
    show Kh ws 2 (i+1)=_
    rw[Kh,if_pos e0a,Kh,if_neg e0b]
   rw[Q9 hx hv Zd hf]at hR
   obtain⟨rfl,rfl,rfl⟩: []=out∧i+1+1=at_∧Ks ws (i+1+1)=e:=by cases hR;exact⟨rfl,rfl,rfl⟩
   refine K0.mut (L:=[gA,gE]) (Φ':=fun _ u=>PB w.heap.size gW gA gE A n n ws y m yc acc (i+1+1) (Ks ws (i+1+1)) u∧K5 u gX [Zi 2,Zi (K9 ws (i+1)),Zi 0,Zi 0,Zi 0,Zi 0,Zi 0]∧Kd 280 #[Zq gX 1,Zq gX 3,Zq gX 5] ga u∧Kd 282 #[Zq gX 1,Zq gX 2] gb0 u) (fun w1 hw h=>N8 (i':=i+1+1) (e':=Ks ws (i+1+1)) hw h.1 D (show i+1+1≤n from by omega) Zo hmem (if_neg e0b) rfl rfl) (fun u h=>PB.own h.1 D) (fun _ wa u e1 e2 h hG=>⟨PB.mutAE h.1 D e2 hG,K5.left h.2.1 e2 (by simp[xa,xe]),Kb h.2.2.1 e2 (by simp[gaA,gaE]),Kb h.2.2.2 e2 (by simp[hgb0.1,hgb0.2.1])⟩) Zk Zk fun _=>ZR <| K0.mutSt (L:=[gX]) (G:=fun u=>K5 u gX [Zi 2,Zi (K9 ws (i+1)),Zi (K9 ws (i+1+1)),Zi 0,Zi 0,Zi 0,Zi 0]) (Φ':=fun u=>PB w.heap.size gW gA gE A n n ws y m yc acc (i+1+1) (Ks ws (i+1+1)) u∧K5 u gX [Zi 2,Zi (K9 ws (i+1)),Zi (K9 ws (i+1+1)),Zi 0,Zi 0,Zi 0,Zi 0]∧Kd 280 #[Zq gX 1,Zq gX 3,Zq gX 5] ga u∧Kd 282 #[Zq gX 1,Zq gX 2] gb0 u) (Om 3 ⟨gX,2,none⟩ (Zi (K9 ws (i+1+1)))) (fun w1 hw h=>h.2.1.store1 Zk rfl Zs rfl) (fun u h b hb=>by obtain rfl:b=gX:=by{simpa using hb};exact⟨lx,h.2.1.own⟩) (fun wa u e1 e2 h hG=>⟨PB.mutX h.1 hX e2,hG,Kb h.2.2.1 e2 (by simp[gaX]),Kb h.2.2.2 e2 (by simp[hgb0.2.2])⟩) Zk Zk <| ZR <| ZA (Kt 29 ⟨gE,0,none⟩) (Zi (Ks ws (i+1+1))) (fun w1 hw h=>K6 Zk (PB.be h.1).one) <| ZJ ((Ks ws (i+1+1) !=0)) true (by simpa using e0b) <| ZB 0 (Kt 3 ⟨gA,0,none⟩) (Zi ((i+1+1:Nat):Int)) (fun w1 hw h=>K6 Zk (PB.ba h.1).one) <| ZB 1 (Kt 29 ⟨gE,0,none⟩) (Zi (Ks ws (i+1+1))) (fun w1 hw h=>K6 Zk (PB.be h.1).one) <| K0.leave Zk <| ZR <| ZV (.tuple #[.slice none 0 0,Zi ((i+1+1:Nat):Int),Zi (Ks ws (i+1+1))]) (fun w1 hw h=>⟨(none,0),rfl,hw,fun _ _ _=>⟨rfl,fun k s hk=>by simp at hk⟩⟩)
  have hlt01:i+1+1<n:=by
   rcases Nat.lt_or_ge (i+1+1) n with h1|h1
   ·exact h1
   ·rw[Ks,List.getElem?_eq_none Zo]at e0b;exact absurd e0b Zd
  refine K0.mut (L:=[gA,gE]) (Φ':=fun _ u=>PB w.heap.size gW gA gE A n n ws y m yc acc (i+1+1+1) (0) u∧K5 u gX [Zi 2,Zi (K9 ws (i+1)),Zi 0,Zi 0,Zi 0,Zi 0,Zi 0]∧Kd 280 #[Zq gX 1,Zq gX 3,Zq gX 5] ga u∧Kd 282 #[Zq gX 1,Zq gX 2] gb0 u) (fun w1 hw h=>N8 (i':=i+1+1+1) (e':=0) hw h.1 D (show i+1+1≤n from by omega) Zo hmem (if_pos e0b) e0b rfl) (fun u h=>PB.own h.1 D) (fun _ wa u e1 e2 h hG=>⟨PB.mutAE h.1 D e2 hG,K5.left h.2.1 e2 (by simp[xa,xe]),Kb h.2.2.1 e2 (by simp[gaA,gaE]),Kb h.2.2.2 e2 (by simp[hgb0.1,hgb0.2.1])⟩) Zk Zk fun _=>ZR <| K0.mutSt (L:=[gX]) (G:=fun u=>K5 u gX [Zi 2,Zi (K9 ws (i+1)),Zi (K9 ws (i+1+1)),Zi 0,Zi 0,Zi 0,Zi 0]) (Φ':=fun u=>PB w.heap.size gW gA gE A n n ws y m yc acc (i+1+1+1) (0) u∧K5 u gX [Zi 2,Zi (K9 ws (i+1)),Zi (K9 ws (i+1+1)),Zi 0,Zi 0,Zi 0,Zi 0]∧Kd 280 #[Zq gX 1,Zq gX 3,Zq gX 5] ga u∧Kd 282 #[Zq gX 1,Zq gX 2] gb0 u) (Om 3 ⟨gX,2,none⟩ (Zi (K9 ws (i+1+1)))) (fun w1 hw h=>h.2.1.store1 Zk rfl Zs rfl) (fun u h b hb=>by obtain rfl:b=gX:=by{simpa using hb};exact⟨lx,h.2.1.own⟩) (fun wa u e1 e2 h hG=>⟨PB.mutX h.1 hX e2,hG,Kb h.2.2.1 e2 (by simp[gaX]),Kb h.2.2.2 e2 (by simp[hgb0.2.2])⟩) Zk Zk <| ZR <| ZA (Kt 29 ⟨gE,0,none⟩) (Zi (0)) (fun w1 hw h=>K6 Zk (PB.be h.1).one) <| ZI false <| ZI false <| ZI false ?_
  have hf:Kh ws (2*(Lf 2).toNat) (i+1)=none:=by
   show Kh ws 2 (i+1)=_
   rw[Kh,if_pos e0a,Kh,if_pos e0b,Kh]
  rw[pwStep hx hv Zd hf]at hR
  refine ZA (Kt 150 ⟨gX,0,none⟩) (Sg.val ⟨2,K9 ws (i+1),K9 ws (i+1+1),0,0,0,0⟩) (fun w1 hw h=>M1 (vs:=Sg.cl ⟨2,K9 ws (i+1),K9 ws (i+1+1),0,0,0,0⟩) Zk Zk (K5.range h.2.1)) <| K0.make (Li 43 1 #[(0,Sg.val ⟨2,K9 ws (i+1),K9 ws (i+1+1),0,0,0,0⟩)]) (Kg 1) (Kd 150 (Sg.cl ⟨2,K9 ws (i+1),K9 ws (i+1+1),0,0,0,0⟩).toArray) Zk (fun w1 hw h=>Ke Zk) fun gb=>ZS 3 <| K0.mutOp (L:=bl y) (val:=fun(z:Option Addr×Nat)=> .slice z.1 (m+1) z.2) (Φ':=fun(z:Option Addr×Nat) u=>PB w.heap.size gW gA gE A n n ws z.1 (m+1) z.2 (acc++ [Sg.mk 2 (K9 ws (i+1)) (K9 ws (i+1+1)) 0 0 0 0]) (i+1+1+1) 0 u) (G:=fun(z:Option Addr×Nat) vv=>K7 vv w.heap.size 150 7 z.1 (m+1) z.2 (gv (acc++ [Sg.mk 2 (K9 ws (i+1)) (K9 ws (i+1+1)) 0 0 0 0]))) (M4 43 43 (.slice y m yc) (Kg 1 gb)) (fun w1 hw h=>app_seg (PB.ow h.1.1) hw.size h.2 (show m<1000000 from by omega)) (fun w1 h=>fun b hb=>⟨((PB.ow h.1.1).lt b hb).1,((PB.ow h.1.1).blk b hb).2⟩) (fun z wa w1 e1 e2 h hG=>PB.app h.1.1 D e2 hG) Zk Zk fun z=>ZR <| K0.next (⟨((i+1+1+1,m+1,acc++ [Sg.mk 2 (K9 ws (i+1)) (K9 ws (i+1+1)) 0 0 0 0]),z),by show i+1+1+1≤n;omega,by show m+1≤i+1+1+1;omega,by show(acc++_).length=m+1;rw[List.length_append,hacc];rfl,fun h=>absurd (show m+1=0 from h) Zo,hR⟩) Zk (by show n- (i+1+1+1)<n-i;omega) ⟨Zk,Zk,Zk⟩ (fun u h=>h)
 ·refine ZD 6 (fun w1 hw h=>verb_m hv) fun u=>K0.make (Up 150) (X5) (fun g u=>K5 u g [Zi 0,Zi 0,Zi 0,Zi 0,Zi 0,Zi 0,Zi 0]∧w.heap.size≤g∧g∉gW::gA::gE::(bl A++bl y)) Zk (fun w1 hw h=>Oq (z:=Sg.val ⟨0,0,0,0,0,0,0⟩) Zk hw.size (PB.lts h.1 (hAlt _ h.1))) fun gX=>ZR <| K0.pure_ (p:=w.heap.size≤gX∧gX∉gW::gA::gE::(bl A++bl y)) (fun u hu h=>h.2.2) Zk (fun hp=> ?_)
  obtain⟨lx,hX⟩:=hp
  have hX2:=hX
  simp only[List.mem_cons,List.mem_append,not_or]at hX2
  obtain⟨xw,xa,xe,xs,xy⟩:=hX2
  refine K0.mutSt (L:=[gX]) (G:=fun u=>K5 u gX [Zi 3,Zi 0,Zi 0,Zi 0,Zi 0,Zi 0,Zi 0]) (Φ':=fun u=>PB w.heap.size gW gA gE A n n ws y m yc acc (i) (0) u∧K5 u gX [Zi 3,Zi 0,Zi 0,Zi 0,Zi 0,Zi 0,Zi 0]) (Om 150 ⟨gX,0,none⟩ (Sg.val ⟨3,0,0,0,0,0,0⟩)) (fun w1 hw h=>h.2.1.store Zk rfl (by intro u hu;simp[Value.cells]at hu;rcases hu with rfl|rfl<;>rfl)) (fun u h b hb=>by obtain rfl:b=gX:=by{simpa using hb};exact⟨lx,h.2.1.own⟩) (fun wa u e1 e2 h hG=>⟨PB.mutX h.1.1 hX e2,hG⟩) Zk Zk <| ZR <| ZA (Kt 3 ⟨gX,0,none⟩) (Zi 3) (fun w1 hw h=>K6 Zk (h.2.cell)) <| ZI false <| ZA (Kt 3 ⟨gA,0,none⟩) (Zi i) (fun w1 hw h=>K6 Zk (PB.ba h.1).one) <| K0.slot 41 (Zi (IntKind.i64.wrap ((i:Int)+1))) (Zi ((i+1:Nat):Int)) Zk (by rw[Ki hlt Zo]) <| K0.mutSt (L:=[gA]) (G:=fun u=>K5 u gA [Zi ((i+1:Nat):Int)]) (Φ':=fun u=>PB w.heap.size gW gA gE A n n ws y m yc acc (i+1) (0) u∧K5 u gX [Zi 3,Zi 0,Zi 0,Zi 0,Zi 0,Zi 0,Zi 0]) (Om 3 ⟨gA,0,none⟩ (Zi ((i+1:Nat):Int))) (fun w1 hw h=>(PB.ba h.1).store Zk rfl (by intro u hu;simp[Value.cells]at hu;subst hu;rfl)) (fun u h b hb=>by obtain rfl:b=gA:=by{simpa using hb};exact⟨la,(PB.ba h.1).own⟩) (fun wa u e1 e2 h hG=>⟨PB.mutA h.1 D e2 hG,h.2.left e2 (by simp[xa])⟩) Zk Zk <| ZR <| K0.make (Li 281 3 #[(0,Zq gX 1),(1,Zq gX 3),(2,Zq gX 5)]) (Kg 3) (fun g u=>Kd 280 #[Zq gX 1,Zq gX 3,Zq gX 5] g u∧g∉[gA,gE,gX]) Zk (fun w1 hw h=>On Zk (by intro b hb;simp only[List.mem_cons,List.not_mem_nil,or_false]at hb;rcases hb with rfl|rfl|rfl;exact(PB.ba h.1).lt;exact(PB.be h.1).lt;exact h.2.lt)) fun ga=>ZR <| K0.pure_ (p:=ga∉[gA,gE,gX]) (fun u hu h=>h.2.2) Zk (fun hga=> ?_)
  have hga2:=hga
  simp only[List.mem_cons,List.not_mem_nil,or_false,not_or]at hga2
  obtain⟨gaA,gaE,gaX⟩:=hga2
  refine ZA (Kt 3 ⟨gX,0,none⟩) (Zi 3) (fun w1 hw h=>K6 Zk (h.1.2.cell)) <| ZD 4 (fun w1 hw h=>Ud (v:=3) (r:=2) Zd rfl) fun u=>ZA (slH 281 (.slice (some ⟨ga,0,none⟩) 3 3) (2:Nat)) (.slice (some ⟨ga,0,none⟩) 2 3) (fun w1 hw h=>run_slH (e:=280) Zk Zk Zk Zd) <| K0.un Zk <| ZR <| ZI true <| ZA (Ku 281 (.slice (some ⟨ga,0,none⟩) 2 3) (0:Nat)) (Zq ga (0*1)) (fun w1 hw h=>Kq (elem:=280) Zk Zk Zd) <| ZA (Kt 280 ⟨ga,0*1,none⟩) (Zq gX 1) (fun w1 hw h=>K6 Zk (Mj h.1.2.1 rfl)) <| K0.make (Li 283 2 #[(0,Zq gX 1),(1,Zq gX 2)]) (Kg 2) (fun g u=>Kd 282 #[Zq gX 1,Zq gX 2] g u∧g∉[gA,gE,gX]) Zk (fun w1 hw h=>On Zk (by intro b hb;simp only[List.mem_cons,List.not_mem_nil,or_false]at hb;rcases hb with rfl|rfl|rfl;exact(PB.ba h.1.1.1).lt;exact(PB.be h.1.1.1).lt;exact K5.lt h.1.1.2)) fun gb0=>ZR <| K0.pure_ (p:=gb0∉[gA,gE,gX]) (fun u hu h=>h.2.2) Zk (fun hgb0=> ?_)
  simp only[List.mem_cons,List.not_mem_nil,or_false,not_or]at hgb0
  refine K0.un Zk <| ZR <| ZI true <| ZA (Ku 283 (.slice (some ⟨gb0,0,none⟩) 2 2) (0:Nat)) (Zq gb0 (0*1)) (fun w1 hw h=>Kq (elem:=282) Zk Zk Zd) <| ZA (Kt 282 ⟨gb0,0*1,none⟩) (Zq gX 1) (fun w1 hw h=>K6 Zk (Mj h.2.1 rfl)) ?_
  by_cases e0a:Ks ws (i+1)=0
  case neg=>
   have hf:Kh ws (2*(Lf 3).toNat) (i+1)=some (i+1):=by
    show Kh ws 4 (i+1)=_
    rw[Kh,if_neg e0a]
   rw[Q9 hx hv Zd hf]at hR
   obtain⟨rfl,rfl,rfl⟩: []=out∧i+1=at_∧Ks ws (i+1)=e:=by cases hR;exact⟨rfl,rfl,rfl⟩
   refine K0.mut (L:=[gA,gE]) (Φ':=fun _ u=>PB w.heap.size gW gA gE A n n ws y m yc acc (i+1) (Ks ws (i+1)) u∧K5 u gX [Zi 3,Zi 0,Zi 0,Zi 0,Zi 0,Zi 0,Zi 0]∧Kd 280 #[Zq gX 1,Zq gX 3,Zq gX 5] ga u∧Kd 282 #[Zq gX 1,Zq gX 2] gb0 u) (fun w1 hw h=>N8 (i':=i+1) (e':=Ks ws (i+1)) hw h.1.1.1.1 D (show i+1≤n from by omega) Zo hmem (if_neg e0a) rfl rfl) (fun u h=>PB.own h.1.1.1.1 D) (fun _ wa u e1 e2 h hG=>⟨PB.mutAE h.1.1.1.1 D e2 hG,K5.left h.1.1.1.2 e2 (by simp[xa,xe]),Kb h.1.1.2.1 e2 (by simp[gaA,gaE]),Kb h.2.1 e2 (by simp[hgb0.1,hgb0.2.1])⟩) Zk Zk fun _=>ZR <| K0.mutSt (L:=[gX]) (G:=fun u=>K5 u gX [Zi 3,Zi (K9 ws (i+1)),Zi 0,Zi 0,Zi 0,Zi 0,Zi 0]) (Φ':=fun u=>PB w.heap.size gW gA gE A n n ws y m yc acc (i+1) (Ks ws (i+1)) u∧K5 u gX [Zi 3,Zi (K9 ws (i+1)),Zi 0,Zi 0,Zi 0,Zi 0,Zi 0]∧Kd 280 #[Zq gX 1,Zq gX 3,Zq gX 5] ga u∧Kd 282 #[Zq gX 1,Zq gX 2] gb0 u) (Om 3 ⟨gX,1,none⟩ (Zi (K9 ws (i+1)))) (fun w1 hw h=>h.2.1.store1 Zk rfl Zs rfl) (fun u h b hb=>by obtain rfl:b=gX:=by{simpa using hb};exact⟨lx,h.2.1.own⟩) (fun wa u e1 e2 h hG=>⟨PB.mutX h.1 hX e2,hG,Kb h.2.2.1 e2 (by simp[gaX]),Kb h.2.2.2 e2 (by simp[hgb0.2.2])⟩) Zk Zk <| ZR <| ZA (Kt 29 ⟨gE,0,none⟩) (Zi (Ks ws (i+1))) (fun w1 hw h=>K6 Zk (PB.be h.1).one) <| ZJ ((Ks ws (i+1) !=0)) true (by simpa using e0a) <| ZB 0 (Kt 3 ⟨gA,0,none⟩) (Zi ((i+1:Nat):Int)) (fun w1 hw h=>K6 Zk (PB.ba h.1).one) <| ZB 1 (Kt 29 ⟨gE,0,none⟩) (Zi (Ks ws (i+1))) (fun w1 hw h=>K6 Zk (PB.be h.1).one) <| K0.leave Zk <| ZR <| ZV (.tuple #[.slice none 0 0,Zi ((i+1:Nat):Int),Zi (Ks ws (i+1))]) (fun w1 hw h=>⟨(none,0),rfl,hw,fun _ _ _=>⟨rfl,fun k s hk=>by simp at hk⟩⟩)
  have hlt00:i+1<n:=by
   rcases Nat.lt_or_ge (i+1) n with h1|h1
   ·exact h1
   ·rw[Ks,List.getElem?_eq_none Zo]at e0a;exact absurd e0a Zd
  refine K0.mut (L:=[gA,gE]) (Φ':=fun _ u=>PB w.heap.size gW gA gE A n n ws y m yc acc (i+1+1) (0) u∧K5 u gX [Zi 3,Zi 0,Zi 0,Zi 0,Zi 0,Zi 0,Zi 0]∧Kd 280 #[Zq gX 1,Zq gX 3,Zq gX 5] ga u∧Kd 282 #[Zq gX 1,Zq gX 2] gb0 u) (fun w1 hw h=>N8 (i':=i+1+1) (e':=0) hw h.1.1.1.1 D (show i+1≤n from by omega) Zo hmem (if_pos e0a) e0a rfl) (fun u h=>PB.own h.1.1.1.1 D) (fun _ wa u e1 e2 h hG=>⟨PB.mutAE h.1.1.1.1 D e2 hG,K5.left h.1.1.1.2 e2 (by simp[xa,xe]),Kb h.1.1.2.1 e2 (by simp[gaA,gaE]),Kb h.2.1 e2 (by simp[hgb0.1,hgb0.2.1])⟩) Zk Zk fun _=>ZR <| K0.mutSt (L:=[gX]) (G:=fun u=>K5 u gX [Zi 3,Zi (K9 ws (i+1)),Zi 0,Zi 0,Zi 0,Zi 0,Zi 0]) (Φ':=fun u=>PB w.heap.size gW gA gE A n n ws y m yc acc (i+1+1) (0) u∧K5 u gX [Zi 3,Zi (K9 ws (i+1)),Zi 0,Zi 0,Zi 0,Zi 0,Zi 0]∧Kd 280 #[Zq gX 1,Zq gX 3,Zq gX 5] ga u∧Kd 282 #[Zq gX 1,Zq gX 2] gb0 u) (Om 3 ⟨gX,1,none⟩ (Zi (K9 ws (i+1)))) (fun w1 hw h=>h.2.1.store1 Zk rfl Zs rfl) (fun u h b hb=>by obtain rfl:b=gX:=by{simpa using hb};exact⟨lx,h.2.1.own⟩) (fun wa u e1 e2 h hG=>⟨PB.mutX h.1 hX e2,hG,Kb h.2.2.1 e2 (by simp[gaX]),Kb h.2.2.2 e2 (by simp[hgb0.2.2])⟩) Zk Zk <| ZR <| ZA (Kt 29 ⟨gE,0,none⟩) (Zi (0)) (fun w1 hw h=>K6 Zk (PB.be h.1).one) <| ZI false <| ZI true <| ZA (Ku 283 (.slice (some ⟨gb0,0,none⟩) 2 2) (1:Nat)) (Zq gb0 (1*1)) (fun w1 hw h=>Kq (elem:=282) Zk Zk Zd) <| ZA (Kt 282 ⟨gb0,1*1,none⟩) (Zq gX 2) (fun w1 hw h=>K6 Zk (Mj h.2.2.2 rfl)) ?_
  by_cases e0b:Ks ws (i+1+1)=0
  case neg=>
   have hf:Kh ws (2*(Lf 3).toNat) (i+1)=some (i+1+1):=by
    show Kh ws 4 (i+1)=_
    rw[Kh,if_pos e0a,Kh,if_neg e0b]
   rw[Q9 hx hv Zd hf]at hR
   obtain⟨rfl,rfl,rfl⟩: []=out∧i+1+1=at_∧Ks ws (i+1+1)=e:=by cases hR;exact⟨rfl,rfl,rfl⟩
   refine K0.mut (L:=[gA,gE]) (Φ':=fun _ u=>PB w.heap.size gW gA gE A n n ws y m yc acc (i+1+1) (Ks ws (i+1+1)) u∧K5 u gX [Zi 3,Zi (K9 ws (i+1)),Zi 0,Zi 0,Zi 0,Zi 0,Zi 0]∧Kd 280 #[Zq gX 1,Zq gX 3,Zq gX 5] ga u∧Kd 282 #[Zq gX 1,Zq gX 2] gb0 u) (fun w1 hw h=>N8 (i':=i+1+1) (e':=Ks ws (i+1+1)) hw h.1 D (show i+1+1≤n from by omega) Zo hmem (if_neg e0b) rfl rfl) (fun u h=>PB.own h.1 D) (fun _ wa u e1 e2 h hG=>⟨PB.mutAE h.1 D e2 hG,K5.left h.2.1 e2 (by simp[xa,xe]),Kb h.2.2.1 e2 (by simp[gaA,gaE]),Kb h.2.2.2 e2 (by simp[hgb0.1,hgb0.2.1])⟩) Zk Zk fun _=>ZR <| K0.mutSt (L:=[gX]) (G:=fun u=>K5 u gX [Zi 3,Zi (K9 ws (i+1)),Zi (K9 ws (i+1+1)),Zi 0,Zi 0,Zi 0,Zi 0]) (Φ':=fun u=>PB w.heap.size gW gA gE A n n ws y m yc acc (i+1+1) (Ks ws (i+1+1)) u∧K5 u gX [Zi 3,Zi (K9 ws (i+1)),Zi (K9 ws (i+1+1)),Zi 0,Zi 0,Zi 0,Zi 0]∧Kd 280 #[Zq gX 1,Zq gX 3,Zq gX 5] ga u∧Kd 282 #[Zq gX 1,Zq gX 2] gb0 u) (Om 3 ⟨gX,2,none⟩ (Zi (K9 ws (i+1+1)))) (fun w1 hw h=>h.2.1.store1 Zk rfl Zs rfl) (fun u h b hb=>by obtain rfl:b=gX:=by{simpa using hb};exact⟨lx,h.2.1.own⟩) (fun wa u e1 e2 h hG=>⟨PB.mutX h.1 hX e2,hG,Kb h.2.2.1 e2 (by simp[gaX]),Kb h.2.2.2 e2 (by simp[hgb0.2.2])⟩) Zk Zk <| ZR <| ZA (Kt 29 ⟨gE,0,none⟩) (Zi (Ks ws (i+1+1))) (fun w1 hw h=>K6 Zk (PB.be h.1).one) <| ZJ ((Ks ws (i+1+1) !=0)) true (by simpa using e0b) <| ZB 0 (Kt 3 ⟨gA,0,none⟩) (Zi ((i+1+1:Nat):Int)) (fun w1 hw h=>K6 Zk (PB.ba h.1).one) <| ZB 1 (Kt 29 ⟨gE,0,none⟩) (Zi (Ks ws (i+1+1))) (fun w1 hw h=>K6 Zk (PB.be h.1).one) <| K0.leave Zk <| ZR <| ZV (.tuple #[.slice none 0 0,Zi ((i+1+1:Nat):Int),Zi (Ks ws (i+1+1))]) (fun w1 hw h=>⟨(none,0),rfl,hw,fun _ _ _=>⟨rfl,fun k s hk=>by simp at hk⟩⟩)
  have hlt01:i+1+1<n:=by
   rcases Nat.lt_or_ge (i+1+1) n with h1|h1
   ·exact h1
   ·rw[Ks,List.getElem?_eq_none Zo]at e0b;exact absurd e0b Zd
  refine K0.mut (L:=[gA,gE]) (Φ':=fun _ u=>PB w.heap.size gW gA gE A n n ws y m yc acc (i+1+1+1) (0) u∧K5 u gX [Zi 3,Zi (K9 ws (i+1)),Zi 0,Zi 0,Zi 0,Zi 0,Zi 0]∧Kd 280 #[Zq gX 1,Zq gX 3,Zq gX 5] ga u∧Kd 282 #[Zq gX 1,Zq gX 2] gb0 u) (fun w1 hw h=>N8 (i':=i+1+1+1) (e':=0) hw h.1 D (show i+1+1≤n from by omega) Zo hmem (if_pos e0b) e0b rfl) (fun u h=>PB.own h.1 D) (fun _ wa u e1 e2 h hG=>⟨PB.mutAE h.1 D e2 hG,K5.left h.2.1 e2 (by simp[xa,xe]),Kb h.2.2.1 e2 (by simp[gaA,gaE]),Kb h.2.2.2 e2 (by simp[hgb0.1,hgb0.2.1])⟩) Zk Zk fun _=>ZR <| K0.mutSt (L:=[gX]) (G:=fun u=>K5 u gX [Zi 3,Zi (K9 ws (i+1)),Zi (K9 ws (i+1+1)),Zi 0,Zi 0,Zi 0,Zi 0]) (Φ':=fun u=>PB w.heap.size gW gA gE A n n ws y m yc acc (i+1+1+1) (0) u∧K5 u gX [Zi 3,Zi (K9 ws (i+1)),Zi (K9 ws (i+1+1)),Zi 0,Zi 0,Zi 0,Zi 0]∧Kd 280 #[Zq gX 1,Zq gX 3,Zq gX 5] ga u∧Kd 282 #[Zq gX 1,Zq gX 2] gb0 u) (Om 3 ⟨gX,2,none⟩ (Zi (K9 ws (i+1+1)))) (fun w1 hw h=>h.2.1.store1 Zk rfl Zs rfl) (fun u h b hb=>by obtain rfl:b=gX:=by{simpa using hb};exact⟨lx,h.2.1.own⟩) (fun wa u e1 e2 h hG=>⟨PB.mutX h.1 hX e2,hG,Kb h.2.2.1 e2 (by simp[gaX]),Kb h.2.2.2 e2 (by simp[hgb0.2.2])⟩) Zk Zk <| ZR <| ZA (Kt 29 ⟨gE,0,none⟩) (Zi (0)) (fun w1 hw h=>K6 Zk (PB.be h.1).one) <| ZI false <| ZI false <| ZI true <| ZA (Ku 281 (.slice (some ⟨ga,0,none⟩) 2 3) (1:Nat)) (Zq ga (1*1)) (fun w1 hw h=>Kq (elem:=280) Zk Zk Zd) <| ZA (Kt 280 ⟨ga,1*1,none⟩) (Zq gX 3) (fun w1 hw h=>K6 Zk (Mj h.2.2.1 rfl)) <| K0.make (Li 283 2 #[(0,Zq gX 3),(1,Zq gX 4)]) (Kg 2) (fun g u=>Kd 282 #[Zq gX 3,Zq gX 4] g u∧g∉[gA,gE,gX]) Zk (fun w1 hw h=>On Zk (by intro b hb;simp only[List.mem_cons,List.not_mem_nil,or_false]at hb;rcases hb with rfl|rfl|rfl;exact(PB.ba h.1).lt;exact(PB.be h.1).lt;exact K5.lt h.2.1)) fun gb1=>ZR <| K0.pure_ (p:=gb1∉[gA,gE,gX]) (fun u hu h=>h.2.2) Zk (fun hgb1=> ?_)
  simp only[List.mem_cons,List.not_mem_nil,or_false,not_or]at hgb1
  refine K0.un Zk <| ZR <| ZI true <| ZA (Ku 283 (.slice (some ⟨gb1,0,none⟩) 2 2) (0:Nat)) (Zq gb1 (0*1)) (fun w1 hw h=>Kq (elem:=282) Zk Zk Zd) <| ZA (Kt 282 ⟨gb1,0*1,none⟩) (Zq gX 3) (fun w1 hw h=>K6 Zk (Mj h.2.1 rfl)) ?_
  by_cases e1a:Ks ws (i+1+1+1)=0
  case neg=>
   have hf:Kh ws (2*(Lf 3).toNat) (i+1)=some (i+1+1+1):=by
    show Kh ws 4 (i+1)=_
    rw[Kh,if_pos e0a,Kh,if_pos e0b,Kh,if_neg e1a]
   rw[Q9 hx hv Zd hf]at hR
   obtain⟨rfl,rfl,rfl⟩: []=out∧i+1+1+1=at_∧Ks ws (i+1+1+1)=e:=by cases hR;exact⟨rfl,rfl,rfl⟩
   refine K0.mut (L:=[gA,gE]) (Φ':=fun _ u=>PB w.heap.size gW gA gE A n n ws y m yc acc (i+1+1+1) (Ks ws (i+1+1+1)) u∧K5 u gX [Zi 3,Zi (K9 ws (i+1)),Zi (K9 ws (i+1+1)),Zi 0,Zi 0,Zi 0,Zi 0]∧Kd 280 #[Zq gX 1,Zq gX 3,Zq gX 5] ga u∧Kd 282 #[Zq gX 3,Zq gX 4] gb1 u) (fun w1 hw h=>N8 (i':=i+1+1+1) (e':=Ks ws (i+1+1+1)) hw h.1.1 D (show i+1+1+1≤n from by omega) Zo hmem (if_neg e1a) rfl rfl) (fun u h=>PB.own h.1.1 D) (fun _ wa u e1 e2 h hG=>⟨PB.mutAE h.1.1 D e2 hG,K5.left h.1.2.1 e2 (by simp[xa,xe]),Kb h.1.2.2.1 e2 (by simp[gaA,gaE]),Kb h.2.1 e2 (by simp[hgb1.1,hgb1.2.1])⟩) Zk Zk fun _=>ZR <| K0.mutSt (L:=[gX]) (G:=fun u=>K5 u gX [Zi 3,Zi (K9 ws (i+1)),Zi (K9 ws (i+1+1)),Zi (K9 ws (i+1+1+1)),Zi 0,Zi 0,Zi 0]) (Φ':=fun u=>PB w.heap.size gW gA gE A n n ws y m yc acc (i+1+1+1) (Ks ws (i+1+1+1)) u∧K5 u gX [Zi 3,Zi (K9 ws (i+1)),Zi (K9 ws (i+1+1)),Zi (K9 ws (i+1+1+1)),Zi 0,Zi 0,Zi 0]∧Kd 280 #[Zq gX 1,Zq gX 3,Zq gX 5] ga u∧Kd 282 #[Zq gX 3,Zq gX 4] gb1 u) (Om 3 ⟨gX,3,none⟩ (Zi (K9 ws (i+1+1+1)))) (fun w1 hw h=>h.2.1.store1 Zk rfl Zs rfl) (fun u h b hb=>by obtain rfl:b=gX:=by{simpa using hb};exact⟨lx,h.2.1.own⟩) (fun wa u e1 e2 h hG=>⟨PB.mutX h.1 hX e2,hG,Kb h.2.2.1 e2 (by simp[gaX]),Kb h.2.2.2 e2 (by simp[hgb1.2.2])⟩) Zk Zk <| ZR <| ZA (Kt 29 ⟨gE,0,none⟩) (Zi (Ks ws (i+1+1+1))) (fun w1 hw h=>K6 Zk (PB.be h.1).one) <| ZJ ((Ks ws (i+1+1+1) !=0)) true (by simpa using e1a) <| ZB 0 (Kt 3 ⟨gA,0,none⟩) (Zi ((i+1+1+1:Nat):Int)) (fun w1 hw h=>K6 Zk (PB.ba h.1).one) <| ZB 1 (Kt 29 ⟨gE,0,none⟩) (Zi (Ks ws (i+1+1+1))) (fun w1 hw h=>K6 Zk (PB.be h.1).one) <| K0.leave Zk <| ZR <| ZV (.tuple #[.slice none 0 0,Zi ((i+1+1+1:Nat):Int),Zi (Ks ws (i+1+1+1))]) (fun w1 hw h=>⟨(none,0),rfl,hw,fun _ _ _=>⟨rfl,fun k s hk=>by simp at hk⟩⟩)
  have hlt10:i+1+1+1<n:=by
   rcases Nat.lt_or_ge (i+1+1+1) n with h1|h1
   ·exact h1
   ·rw[Ks,List.getElem?_eq_none Zo]at e1a;exact absurd e1a Zd
  refine K0.mut (L:=[gA,gE]) (Φ':=fun _ u=>PB w.heap.size gW gA gE A n n ws y m yc acc (i+1+1+1+1) (0) u∧K5 u gX [Zi 3,Zi (K9 ws (i+1)),Zi (K9 ws (i+1+1)),Zi 0,Zi 0,Zi 0,Zi 0]∧Kd 280 #[Zq gX 1,Zq gX 3,Zq gX 5] ga u∧Kd 282 #[Zq gX 3,Zq gX 4] gb1 u) (fun w1 hw h=>N8 (i':=i+1+1+1+1) (e':=0) hw h.1.1 D (show i+1+1+1≤n from by omega) Zo hmem (if_pos e1a) e1a rfl) (fun u h=>PB.own h.1.1 D) (fun _ wa u e1 e2 h hG=>⟨PB.mutAE h.1.1 D e2 hG,K5.left h.1.2.1 e2 (by simp[xa,xe]),Kb h.1.2.2.1 e2 (by simp[gaA,gaE]),Kb h.2.1 e2 (by simp[hgb1.1,hgb1.2.1])⟩) Zk Zk fun _=>ZR <| K0.mutSt (L:=[gX]) (G:=fun u=>K5 u gX [Zi 3,Zi (K9 ws (i+1)),Zi (K9 ws (i+1+1)),Zi (K9 ws (i+1+1+1)),Zi 0,Zi 0,Zi 0]) (Φ':=fun u=>PB w.heap.size gW gA gE A n n ws y m yc acc (i+1+1+1+1) (0) u∧K5 u gX [Zi 3,Zi (K9 ws (i+1)),Zi (K9 ws (i+1+1)),Zi (K9 ws (i+1+1+1)),Zi 0,Zi 0,Zi 0]∧Kd 280 #[Zq gX 1,Zq gX 3,Zq gX 5] ga u∧Kd 282 #[Zq gX 3,Zq gX 4] gb1 u) (Om 3 ⟨gX,3,none⟩ (Zi (K9 ws (i+1+1+1)))) (fun w1 hw h=>h.2.1.store1 Zk rfl Zs rfl) (fun u h b hb=>by obtain rfl:b=gX:=by{simpa using hb};exact⟨lx,h.2.1.own⟩) (fun wa u e1 e2 h hG=>⟨PB.mutX h.1 hX e2,hG,Kb h.2.2.1 e2 (by simp[gaX]),Kb h.2.2.2 e2 (by simp[hgb1.2.2])⟩) Zk Zk <| ZR <| ZA (Kt 29 ⟨gE,0,none⟩) (Zi (0)) (fun w1 hw h=>K6 Zk (PB.be h.1).one) <| ZI false <| ZI true <| ZA (Ku 283 (.slice (some ⟨gb1,0,none⟩) 2 2) (1:Nat)) (Zq gb1 (1*1)) (fun w1 hw h=>Kq (elem:=282) Zk Zk Zd) <| ZA (Kt 282 ⟨gb1,1*1,none⟩) (Zq gX 4) (fun w1 hw h=>K6 Zk (Mj h.2.2.2 rfl)) ?_
  by_cases e1b:Ks ws (i+1+1+1+1)=0
  case neg=>
   have hf:Kh ws (2*(Lf 3).toNat) (i+1)=some (i+1+1+1+1):=by
    show Kh ws 4 (i+1)=_
    rw[Kh,if_pos e0a,Kh,if_pos e0b,Kh,if_pos e1a,Kh,if_neg e1b]
   rw[Q9 hx hv Zd hf]at hR
   obtain⟨rfl,rfl,rfl⟩: []=out∧i+1+1+1+1=at_∧Ks ws (i+1+1+1+1)=e:=by cases hR;exact⟨rfl,rfl,rfl⟩
   refine K0.mut (L:=[gA,gE]) (Φ':=fun _ u=>PB w.heap.size gW gA gE A n n ws y m yc acc (i+1+1+1+1) (Ks ws (i+1+1+1+1)) u∧K5 u gX [Zi 3,Zi (K9 ws (i+1)),Zi (K9 ws (i+1+1)),Zi (K9 ws (i+1+1+1)),Zi 0,Zi 0,Zi 0]∧Kd 280 #[Zq gX 1,Zq gX 3,Zq gX 5] ga u∧Kd 282 #[Zq gX 3,Zq gX 4] gb1 u) (fun w1 hw h=>N8 (i':=i+1+1+1+1) (e':=Ks ws (i+1+1+1+1)) hw h.1 D (show i+1+1+1+1≤n from by omega) Zo hmem (if_neg e1b) rfl rfl) (fun u h=>PB.own h.1 D) (fun _ wa u e1 e2 h hG=>⟨PB.mutAE h.1 D e2 hG,K5.left h.2.1 e2 (by simp[xa,xe]),Kb h.2.2.1 e2 (by simp[gaA,gaE]),Kb h.2.2.2 e2 (by simp[hgb1.1,hgb1.2.1])⟩) Zk Zk fun _=>ZR <| K0.mutSt (L:=[gX]) (G:=fun u=>K5 u gX [Zi 3,Zi (K9 ws (i+1)),Zi (K9 ws (i+1+1)),Zi (K9 ws (i+1+1+1)),Zi (K9 ws (i+1+1+1+1)),Zi 0,Zi 0]) (Φ':=fun u=>PB w.heap.size gW gA gE A n n ws y m yc acc (i+1+1+1+1) (Ks ws (i+1+1+1+1)) u∧K5 u gX [Zi 3,Zi (K9 ws (i+1)),Zi (K9 ws (i+1+1)),Zi (K9 ws (i+1+1+1)),Zi (K9 ws (i+1+1+1+1)),Zi 0,Zi 0]∧Kd 280 #[Zq gX 1,Zq gX 3,Zq gX 5] ga u∧Kd 282 #[Zq gX 3,Zq gX 4] gb1 u) (Om 3 ⟨gX,4,none⟩ (Zi (K9 ws (i+1+1+1+1)))) (fun w1 hw h=>h.2.1.store1 Zk rfl Zs rfl) (fun u h b hb=>by obtain rfl:b=gX:=by{simpa using hb};exact⟨lx,h.2.1.own⟩) (fun wa u e1 e2 h hG=>⟨PB.mutX h.1 hX e2,hG,Kb h.2.2.1 e2 (by simp[gaX]),Kb h.2.2.2 e2 (by simp[hgb1.2.2])⟩) Zk Zk <| ZR <| ZA (Kt 29 ⟨gE,0,none⟩) (Zi (Ks ws (i+1+1+1+1))) (fun w1 hw h=>K6 Zk (PB.be h.1).one) <| ZJ ((Ks ws (i+1+1+1+1) !=0)) true (by simpa using e1b) <| ZB 0 (Kt 3 ⟨gA,0,none⟩) (Zi ((i+1+1+1+1:Nat):Int)) (fun w1 hw h=>K6 Zk (PB.ba h.1).one) <| ZB 1 (Kt 29 ⟨gE,0,none⟩) (Zi (Ks ws (i+1+1+1+1))) (fun w1 hw h=>K6 Zk (PB.be h.1).one) <| K0.leave Zk <| ZR <| ZV (.tuple #[.slice none 0 0,Zi ((i+1+1+1+1:Nat):Int),Zi (Ks ws (i+1+1+1+1))]) (fun w1 hw h=>⟨(none,0),rfl,hw,fun _ _ _=>⟨rfl,fun k s hk=>by simp at hk⟩⟩)
  have hlt11:i+1+1+1+1<n:=by
   rcases Nat.lt_or_ge (i+1+1+1+1) n with h1|h1
   ·exact h1
   ·rw[Ks,List.getElem?_eq_none Zo]at e1b;exact absurd e1b Zd
  refine K0.mut (L:=[gA,gE]) (Φ':=fun _ u=>PB w.heap.size gW gA gE A n n ws y m yc acc (i+1+1+1+1+1) (0) u∧K5 u gX [Zi 3,Zi (K9 ws (i+1)),Zi (K9 ws (i+1+1)),Zi (K9 ws (i+1+1+1)),Zi 0,Zi 0,Zi 0]∧Kd 280 #[Zq gX 1,Zq gX 3,Zq gX 5] ga u∧Kd 282 #[Zq gX 3,Zq gX 4] gb1 u) (fun w1 hw h=>N8 (i':=i+1+1+1+1+1) (e':=0) hw h.1 D (show i+1+1+1+1≤n from by omega) Zo hmem (if_pos e1b) e1b rfl) (fun u h=>PB.own h.1 D) (fun _ wa u e1 e2 h hG=>⟨PB.mutAE h.1 D e2 hG,K5.left h.2.1 e2 (by simp[xa,xe]),Kb h.2.2.1 e2 (by simp[gaA,gaE]),Kb h.2.2.2 e2 (by simp[hgb1.1,hgb1.2.1])⟩) Zk Zk fun _=>ZR <| K0.mutSt (L:=[gX]) (G:=fun u=>K5 u gX [Zi 3,Zi (K9 ws (i+1)),Zi (K9 ws (i+1+1)),Zi (K9 ws (i+1+1+1)),Zi (K9 ws (i+1+1+1+1)),Zi 0,Zi 0]) (Φ':=fun u=>PB w.heap.size gW gA gE A n n ws y m yc acc (i+1+1+1+1+1) (0) u∧K5 u gX [Zi 3,Zi (K9 ws (i+1)),Zi (K9 ws (i+1+1)),Zi (K9 ws (i+1+1+1)),Zi (K9 ws (i+1+1+1+1)),Zi 0,Zi 0]∧Kd 280 #[Zq gX 1,Zq gX 3,Zq gX 5] ga u∧Kd 282 #[Zq gX 3,Zq gX 4] gb1 u) (Om 3 ⟨gX,4,none⟩ (Zi (K9 ws (i+1+1+1+1)))) (fun w1 hw h=>h.2.1.store1 Zk rfl Zs rfl) (fun u h b hb=>by obtain rfl:b=gX:=by{simpa using hb};exact⟨lx,h.2.1.own⟩) (fun wa u e1 e2 h hG=>⟨PB.mutX h.1 hX e2,hG,Kb h.2.2.1 e2 (by simp[gaX]),Kb h.2.2.2 e2 (by simp[hgb1.2.2])⟩) Zk Zk <| ZR <| ZA (Kt 29 ⟨gE,0,none⟩) (Zi (0)) (fun w1 hw h=>K6 Zk (PB.be h.1).one) <| ZI false <| ZI false <| ZI false ?_
  have hf:Kh ws (2*(Lf 3).toNat) (i+1)=none:=by
   show Kh ws 4 (i+1)=_
   rw[Kh,if_pos e0a,Kh,if_pos e0b,Kh,if_pos e1a,Kh,if_pos e1b,Kh]
  rw[pwStep hx hv Zd hf]at hR
  refine ZA (Kt 150 ⟨gX,0,none⟩) (Sg.val ⟨3,K9 ws (i+1),K9 ws (i+1+1),K9 ws (i+1+1+1),K9 ws (i+1+1+1+1),0,0⟩) (fun w1 hw h=>M1 (vs:=Sg.cl ⟨3,K9 ws (i+1),K9 ws (i+1+1),K9 ws (i+1+1+1),K9 ws (i+1+1+1+1),0,0⟩) Zk Zk (K5.range h.2.1)) <| K0.make (Li 43 1 #[(0,Sg.val ⟨3,K9 ws (i+1),K9 ws (i+1+1),K9 ws (i+1+1+1),K9 ws (i+1+1+1+1),0,0⟩)]) (Kg 1) (Kd 150 (Sg.cl ⟨3,K9 ws (i+1),K9 ws (i+1+1),K9 ws (i+1+1+1),K9 ws (i+1+1+1+1),0,0⟩).toArray) Zk (fun w1 hw h=>Ke Zk) fun gb=>ZS 3 <| K0.mutOp (L:=bl y) (val:=fun(z:Option Addr×Nat)=> .slice z.1 (m+1) z.2) (Φ':=fun(z:Option Addr×Nat) u=>PB w.heap.size gW gA gE A n n ws z.1 (m+1) z.2 (acc++ [Sg.mk 3 (K9 ws (i+1)) (K9 ws (i+1+1)) (K9 ws (i+1+1+1)) (K9 ws (i+1+1+1+1)) 0 0]) (i+1+1+1+1+1) 0 u) (G:=fun(z:Option Addr×Nat) vv=>K7 vv w.heap.size 150 7 z.1 (m+1) z.2 (gv (acc++ [Sg.mk 3 (K9 ws (i+1)) (K9 ws (i+1+1)) (K9 ws (i+1+1+1)) (K9 ws (i+1+1+1+1)) 0 0]))) (M4 43 43 (.slice y m yc) (Kg 1 gb)) (fun w1 hw h=>app_seg (PB.ow h.1.1) hw.size h.2 (show m<1000000 from by omega)) (fun w1 h=>fun b hb=>⟨((PB.ow h.1.1).lt b hb).1,((PB.ow h.1.1).blk b hb).2⟩) (fun z wa w1 e1 e2 h hG=>PB.app h.1.1 D e2 hG) Zk Zk fun z=>ZR <| K0.next (⟨((i+1+1+1+1+1,m+1,acc++ [Sg.mk 3 (K9 ws (i+1)) (K9 ws (i+1+1)) (K9 ws (i+1+1+1)) (K9 ws (i+1+1+1+1)) 0 0]),z),by show i+1+1+1+1+1≤n;omega,by show m+1≤i+1+1+1+1+1;omega,by show(acc++_).length=m+1;rw[List.length_append,hacc];rfl,fun h=>absurd (show m+1=0 from h) Zo,hR⟩) Zk (by show n- (i+1+1+1+1+1)<n-i;omega) ⟨Zk,Zk,Zk⟩ (fun u h=>h)
 ·refine ZD 6 (fun w1 hw h=>verb_m hv) fun u=>K0.make (Up 150) (X5) (fun g u=>K5 u g [Zi 0,Zi 0,Zi 0,Zi 0,Zi 0,Zi 0,Zi 0]∧w.heap.size≤g∧g∉gW::gA::gE::(bl A++bl y)) Zk (fun w1 hw h=>Oq (z:=Sg.val ⟨0,0,0,0,0,0,0⟩) Zk hw.size (PB.lts h.1 (hAlt _ h.1))) fun gX=>ZR <| K0.pure_ (p:=w.heap.size≤gX∧gX∉gW::gA::gE::(bl A++bl y)) (fun u hu h=>h.2.2) Zk (fun hp=> ?_)
  obtain⟨lx,hX⟩:=hp
  have hX2:=hX
  simp only[List.mem_cons,List.mem_append,not_or]at hX2
  obtain⟨xw,xa,xe,xs,xy⟩:=hX2
  refine K0.mutSt (L:=[gX]) (G:=fun u=>K5 u gX [Zi 4,Zi 0,Zi 0,Zi 0,Zi 0,Zi 0,Zi 0]) (Φ':=fun u=>PB w.heap.size gW gA gE A n n ws y m yc acc (i) (0) u∧K5 u gX [Zi 4,Zi 0,Zi 0,Zi 0,Zi 0,Zi 0,Zi 0]) (Om 150 ⟨gX,0,none⟩ (Sg.val ⟨4,0,0,0,0,0,0⟩)) (fun w1 hw h=>h.2.1.store Zk rfl (by intro u hu;simp[Value.cells]at hu;rcases hu with rfl|rfl<;>rfl)) (fun u h b hb=>by obtain rfl:b=gX:=by{simpa using hb};exact⟨lx,h.2.1.own⟩) (fun wa u e1 e2 h hG=>⟨PB.mutX h.1.1 hX e2,hG⟩) Zk Zk <| ZR <| ZA (Kt 3 ⟨gX,0,none⟩) (Zi 4) (fun w1 hw h=>K6 Zk (h.2.cell)) <| ZI false <| ZA (Kt 3 ⟨gA,0,none⟩) (Zi i) (fun w1 hw h=>K6 Zk (PB.ba h.1).one) <| K0.slot 41 (Zi (IntKind.i64.wrap ((i:Int)+1))) (Zi ((i+1:Nat):Int)) Zk (by rw[Ki hlt Zo]) <| K0.mutSt (L:=[gA]) (G:=fun u=>K5 u gA [Zi ((i+1:Nat):Int)]) (Φ':=fun u=>PB w.heap.size gW gA gE A n n ws y m yc acc (i+1) (0) u∧K5 u gX [Zi 4,Zi 0,Zi 0,Zi 0,Zi 0,Zi 0,Zi 0]) (Om 3 ⟨gA,0,none⟩ (Zi ((i+1:Nat):Int))) (fun w1 hw h=>(PB.ba h.1).store Zk rfl (by intro u hu;simp[Value.cells]at hu;subst hu;rfl)) (fun u h b hb=>by obtain rfl:b=gA:=by{simpa using hb};exact⟨la,(PB.ba h.1).own⟩) (fun wa u e1 e2 h hG=>⟨PB.mutA h.1 D e2 hG,h.2.left e2 (by simp[xa])⟩) Zk Zk <| ZR <| K0.make (Li 281 3 #[(0,Zq gX 1),(1,Zq gX 3),(2,Zq gX 5)]) (Kg 3) (fun g u=>Kd 280 #[Zq gX 1,Zq gX 3,Zq gX 5] g u∧g∉[gA,gE,gX]) Zk (fun w1 hw h=>On Zk (by intro b hb;simp only[List.mem_cons,List.not_mem_nil,or_false]at hb;rcases hb with rfl|rfl|rfl;exact(PB.ba h.1).lt;exact(PB.be h.1).lt;exact h.2.lt)) fun ga=>ZR <| K0.pure_ (p:=ga∉[gA,gE,gX]) (fun u hu h=>h.2.2) Zk (fun hga=> ?_)
  have hga2:=hga
  simp only[List.mem_cons,List.not_mem_nil,or_false,not_or]at hga2
  obtain⟨gaA,gaE,gaX⟩:=hga2
  refine ZA (Kt 3 ⟨gX,0,none⟩) (Zi 4) (fun w1 hw h=>K6 Zk (h.1.2.cell)) <| ZD 4 (fun w1 hw h=>Ud (v:=4) (r:=3) Zd rfl) fun u=>ZA (slH 281 (.slice (some ⟨ga,0,none⟩) 3 3) (3:Nat)) (.slice (some ⟨ga,0,none⟩) 3 3) (fun w1 hw h=>run_slH (e:=280) Zk Zk Zk Zd) <| K0.un Zk <| ZR <| ZI true <| ZA (Ku 281 (.slice (some ⟨ga,0,none⟩) 3 3) (0:Nat)) (Zq ga (0*1)) (fun w1 hw h=>Kq (elem:=280) Zk Zk Zd) <| ZA (Kt 280 ⟨ga,0*1,none⟩) (Zq gX 1) (fun w1 hw h=>K6 Zk (Mj h.1.2.1 rfl)) <| K0.make (Li 283 2 #[(0,Zq gX 1),(1,Zq gX 2)]) (Kg 2) (fun g u=>Kd 282 #[Zq gX 1,Zq gX 2] g u∧g∉[gA,gE,gX]) Zk (fun w1 hw h=>On Zk (by intro b hb;simp only[List.mem_cons,List.not_mem_nil,or_false]at hb;rcases hb with rfl|rfl|rfl;exact(PB.ba h.1.1.1).lt;exact(PB.be h.1.1.1).lt;exact K5.lt h.1.1.2)) fun gb0=>ZR <| K0.pure_ (p:=gb0∉[gA,gE,gX]) (fun u hu h=>h.2.2) Zk (fun hgb0=> ?_)
  simp only[List.mem_cons,List.not_mem_nil,or_false,not_or]at hgb0
  refine K0.un Zk <| ZR <| ZI true <| ZA (Ku 283 (.slice (some ⟨gb0,0,none⟩) 2 2) (0:Nat)) (Zq gb0 (0*1)) (fun w1 hw h=>Kq (elem:=282) Zk Zk Zd) <| ZA (Kt 282 ⟨gb0,0*1,none⟩) (Zq gX 1) (fun w1 hw h=>K6 Zk (Mj h.2.1 rfl)) ?_
  by_cases e0a:Ks ws (i+1)=0
  case neg=>
   have hf:Kh ws (2*(Lf 4).toNat) (i+1)=some (i+1):=by
    show Kh ws 6 (i+1)=_
    rw[Kh,if_neg e0a]
   rw[Q9 hx hv Zd hf]at hR
   obtain⟨rfl,rfl,rfl⟩: []=out∧i+1=at_∧Ks ws (i+1)=e:=by cases hR;exact⟨rfl,rfl,rfl⟩
   refine K0.mut (L:=[gA,gE]) (Φ':=fun _ u=>PB w.heap.size gW gA gE A n n ws y m yc acc (i+1) (Ks ws (i+1)) u∧K5 u gX [Zi 4,Zi 0,Zi 0,Zi 0,Zi 0,Zi 0,Zi 0]∧Kd 280 #[Zq gX 1,Zq gX 3,Zq gX 5] ga u∧Kd 282 #[Zq gX 1,Zq gX 2] gb0 u) (fun w1 hw h=>N8 (i':=i+1) (e':=Ks ws (i+1)) hw h.1.1.1.1 D (show i+1≤n from by omega) Zo hmem (if_neg e0a) rfl rfl) (fun u h=>PB.own h.1.1.1.1 D) (fun _ wa u e1 e2 h hG=>⟨PB.mutAE h.1.1.1.1 D e2 hG,K5.left h.1.1.1.2 e2 (by simp[xa,xe]),Kb h.1.1.2.1 e2 (by simp[gaA,gaE]),Kb h.2.1 e2 (by simp[hgb0.1,hgb0.2.1])⟩) Zk Zk fun _=>ZR <| K0.mutSt (L:=[gX]) (G:=fun u=>K5 u gX [Zi 4,Zi (K9 ws (i+1)),Zi 0,Zi 0,Zi 0,Zi 0,Zi 0]) (Φ':=fun u=>PB w.heap.size gW gA gE A n n ws y m yc acc (i+1) (Ks ws (i+1)) u∧K5 u gX [Zi 4,Zi (K9 ws (i+1)),Zi 0,Zi 0,Zi 0,Zi 0,Zi 0]∧Kd 280 #[Zq gX 1,Zq gX 3,Zq gX 5] ga u∧Kd 282 #[Zq gX 1,Zq gX 2] gb0 u) (Om 3 ⟨gX,1,none⟩ (Zi (K9 ws (i+1)))) (fun w1 hw h=>h.2.1.store1 Zk rfl Zs rfl) (fun u h b hb=>by obtain rfl:b=gX:=by{simpa using hb};exact⟨lx,h.2.1.own⟩) (fun wa u e1 e2 h hG=>⟨PB.mutX h.1 hX e2,hG,Kb h.2.2.1 e2 (by simp[gaX]),Kb h.2.2.2 e2 (by simp[hgb0.2.2])⟩) Zk Zk <| ZR <| ZA (Kt 29 ⟨gE,0,none⟩) (Zi (Ks ws (i+1))) (fun w1 hw h=>K6 Zk (PB.be h.1).one) <| ZJ ((Ks ws (i+1) !=0)) true (by simpa using e0a) <| ZB 0 (Kt 3 ⟨gA,0,none⟩) (Zi ((i+1:Nat):Int)) (fun w1 hw h=>K6 Zk (PB.ba h.1).one) <| ZB 1 (Kt 29 ⟨gE,0,none⟩) (Zi (Ks ws (i+1))) (fun w1 hw h=>K6 Zk (PB.be h.1).one) <| K0.leave Zk <| ZR <| ZV (.tuple #[.slice none 0 0,Zi ((i+1:Nat):Int),Zi (Ks ws (i+1))]) (fun w1 hw h=>⟨(none,0),rfl,hw,fun _ _ _=>⟨rfl,fun k s hk=>by simp at hk⟩⟩)
  have hlt00:i+1<n:=by
   rcases Nat.lt_or_ge (i+1) n with h1|h1
   ·exact h1
   ·rw[Ks,List.getElem?_eq_none Zo]at e0a;exact absurd e0a Zd
  refine K0.mut (L:=[gA,gE]) (Φ':=fun _ u=>PB w.heap.size gW gA gE A n n ws y m yc acc (i+1+1) (0) u∧K5 u gX [Zi 4,Zi 0,Zi 0,Zi 0,Zi 0,Zi 0,Zi 0]∧Kd 280 #[Zq gX 1,Zq gX 3,Zq gX 5] ga u∧Kd 282 #[Zq gX 1,Zq gX 2] gb0 u) (fun w1 hw h=>N8 (i':=i+1+1) (e':=0) hw h.1.1.1.1 D (show i+1≤n from by omega) Zo hmem (if_pos e0a) e0a rfl) (fun u h=>PB.own h.1.1.1.1 D) (fun _ wa u e1 e2 h hG=>⟨PB.mutAE h.1.1.1.1 D e2 hG,K5.left h.1.1.1.2 e2 (by simp[xa,xe]),Kb h.1.1.2.1 e2 (by simp[gaA,gaE]),Kb h.2.1 e2 (by simp[hgb0.1,hgb0.2.1])⟩) Zk Zk fun _=>ZR <| K0.mutSt (L:=[gX]) (G:=fun u=>K5 u gX [Zi 4,Zi (K9 ws (i+1)),Zi 0,Zi 0,Zi 0,Zi 0,Zi 0]) (Φ':=fun u=>PB w.heap.size gW gA gE A n n ws y m yc acc (i+1+1) (0) u∧K5 u gX [Zi 4,Zi (K9 ws (i+1)),Zi 0,Zi 0,Zi 0,Zi 0,Zi 0]∧Kd 280 #[Zq gX 1,Zq gX 3,Zq gX 5] ga u∧Kd 282 #[Zq gX 1,Zq gX 2] gb0 u) (Om 3 ⟨gX,1,none⟩ (Zi (K9 ws (i+1)))) (fun w1 hw h=>h.2.1.store1 Zk rfl Zs rfl) (fun u h b hb=>by obtain rfl:b=gX:=by{simpa using hb};exact⟨lx,h.2.1.own⟩) (fun wa u e1 e2 h hG=>⟨PB.mutX h.1 hX e2,hG,Kb h.2.2.1 e2 (by simp[gaX]),Kb h.2.2.2 e2 (by simp[hgb0.2.2])⟩) Zk Zk <| ZR <| ZA (Kt 29 ⟨gE,0,none⟩) (Zi (0)) (fun w1 hw h=>K6 Zk (PB.be h.1).one) <| ZI false <| ZI true <| ZA (Ku 283 (.slice (some ⟨gb0,0,none⟩) 2 2) (1:Nat)) (Zq gb0 (1*1)) (fun w1 hw h=>Kq (elem:=282) Zk Zk Zd) <| ZA (Kt 282 ⟨gb0,1*1,none⟩) (Zq gX 2) (fun w1 hw h=>K6 Zk (Mj h.2.2.2 rfl)) ?_
  by_cases e0b:Ks ws (i+1+1)=0
  case neg=>
   have hf:Kh ws (2*(Lf 4).toNat) (i+1)=some (i+1+1):=by
    show Kh ws 6 (i+1)=_
    rw[Kh,if_pos e0a,Kh,if_neg e0b]
   rw[Q9 hx hv Zd hf]at hR
   obtain⟨rfl,rfl,rfl⟩: []=out∧i+1+1=at_∧Ks ws (i+1+1)=e:=by cases hR;exact⟨rfl,rfl,rfl⟩
   refine K0.mut (L:=[gA,gE]) (Φ':=fun _ u=>PB w.heap.size gW gA gE A n n ws y m yc acc (i+1+1) (Ks ws (i+1+1)) u∧K5 u gX [Zi 4,Zi (K9 ws (i+1)),Zi 0,Zi 0,Zi 0,Zi 0,Zi 0]∧Kd 280 #[Zq gX 1,Zq gX 3,Zq gX 5] ga u∧Kd 282 #[Zq gX 1,Zq gX 2] gb0 u) (fun w1 hw h=>N8 (i':=i+1+1) (e':=Ks ws (i+1+1)) hw h.1 D (show i+1+1≤n from by omega) Zo hmem (if_neg e0b) rfl rfl) (fun u h=>PB.own h.1 D) (fun _ wa u e1 e2 h hG=>⟨PB.mutAE h.1 D e2 hG,K5.left h.2.1 e2 (by simp[xa,xe]),Kb h.2.2.1 e2 (by simp[gaA,gaE]),Kb h.2.2.2 e2 (by simp[hgb0.1,hgb0.2.1])⟩) Zk Zk fun _=>ZR <| K0.mutSt (L:=[gX]) (G:=fun u=>K5 u gX [Zi 4,Zi (K9 ws (i+1)),Zi (K9 ws (i+1+1)),Zi 0,Zi 0,Zi 0,Zi 0]) (Φ':=fun u=>PB w.heap.size gW gA gE A n n ws y m yc acc (i+1+1) (Ks ws (i+1+1)) u∧K5 u gX [Zi 4,Zi (K9 ws (i+1)),Zi (K9 ws (i+1+1)),Zi 0,Zi 0,Zi 0,Zi 0]∧Kd 280 #[Zq gX 1,Zq gX 3,Zq gX 5] ga u∧Kd 282 #[Zq gX 1,Zq gX 2] gb0 u) (Om 3 ⟨gX,2,none⟩ (Zi (K9 ws (i+1+1)))) (fun w1 hw h=>h.2.1.store1 Zk rfl Zs rfl) (fun u h b hb=>by obtain rfl:b=gX:=by{simpa using hb};exact⟨lx,h.2.1.own⟩) (fun wa u e1 e2 h hG=>⟨PB.mutX h.1 hX e2,hG,Kb h.2.2.1 e2 (by simp[gaX]),Kb h.2.2.2 e2 (by simp[hgb0.2.2])⟩) Zk Zk <| ZR <| ZA (Kt 29 ⟨gE,0,none⟩) (Zi (Ks ws (i+1+1))) (fun w1 hw h=>K6 Zk (PB.be h.1).one) <| ZJ ((Ks ws (i+1+1) !=0)) true (by simpa using e0b) <| ZB 0 (Kt 3 ⟨gA,0,none⟩) (Zi ((i+1+1:Nat):Int)) (fun w1 hw h=>K6 Zk (PB.ba h.1).one) <| ZB 1 (Kt 29 ⟨gE,0,none⟩) (Zi (Ks ws (i+1+1))) (fun w1 hw h=>K6 Zk (PB.be h.1).one) <| K0.leave Zk <| ZR <| ZV (.tuple #[.slice none 0 0,Zi ((i+1+1:Nat):Int),Zi (Ks ws (i+1+1))]) (fun w1 hw h=>⟨(none,0),rfl,hw,fun _ _ _=>⟨rfl,fun k s hk=>by simp at hk⟩⟩)
  have hlt01:i+1+1<n:=by
   rcases Nat.lt_or_ge (i+1+1) n with h1|h1
   ·exact h1
   ·rw[Ks,List.getElem?_eq_none Zo]at e0b;exact absurd e0b Zd
  refine K0.mut (L:=[gA,gE]) (Φ':=fun _ u=>PB w.heap.size gW gA gE A n n ws y m yc acc (i+1+1+1) (0) u∧K5 u gX [Zi 4,Zi (K9 ws (i+1)),Zi 0,Zi 0,Zi 0,Zi 0,Zi 0]∧Kd 280 #[Zq gX 1,Zq gX 3,Zq gX 5] ga u∧Kd 282 #[Zq gX 1,Zq gX 2] gb0 u) (fun w1 hw h=>N8 (i':=i+1+1+1) (e':=0) hw h.1 D (show i+1+1≤n from by omega) Zo hmem (if_pos e0b) e0b rfl) (fun u h=>PB.own h.1 D) (fun _ wa u e1 e2 h hG=>⟨PB.mutAE h.1 D e2 hG,K5.left h.2.1 e2 (by simp[xa,xe]),Kb h.2.2.1 e2 (by simp[gaA,gaE]),Kb h.2.2.2 e2 (by simp[hgb0.1,hgb0.2.1])⟩) Zk Zk fun _=>ZR <| K0.mutSt (L:=[gX]) (G:=fun u=>K5 u gX [Zi 4,Zi (K9 ws (i+1)),Zi (K9 ws (i+1+1)),Zi 0,Zi 0,Zi 0,Zi 0]) (Φ':=fun u=>PB w.heap.size gW gA gE A n n ws y m yc acc (i+1+1+1) (0) u∧K5 u gX [Zi 4,Zi (K9 ws (i+1)),Zi (K9 ws (i+1+1)),Zi 0,Zi 0,Zi 0,Zi 0]∧Kd 280 #[Zq gX 1,Zq gX 3,Zq gX 5] ga u∧Kd 282 #[Zq gX 1,Zq gX 2] gb0 u) (Om 3 ⟨gX,2,none⟩ (Zi (K9 ws (i+1+1)))) (fun w1 hw h=>h.2.1.store1 Zk rfl Zs rfl) (fun u h b hb=>by obtain rfl:b=gX:=by{simpa using hb};exact⟨lx,h.2.1.own⟩) (fun wa u e1 e2 h hG=>⟨PB.mutX h.1 hX e2,hG,Kb h.2.2.1 e2 (by simp[gaX]),Kb h.2.2.2 e2 (by simp[hgb0.2.2])⟩) Zk Zk <| ZR <| ZA (Kt 29 ⟨gE,0,none⟩) (Zi (0)) (fun w1 hw h=>K6 Zk (PB.be h.1).one) <| ZI false <| ZI false <| ZI true <| ZA (Ku 281 (.slice (some ⟨ga,0,none⟩) 3 3) (1:Nat)) (Zq ga (1*1)) (fun w1 hw h=>Kq (elem:=280) Zk Zk Zd) <| ZA (Kt 280 ⟨ga,1*1,none⟩) (Zq gX 3) (fun w1 hw h=>K6 Zk (Mj h.2.2.1 rfl)) <| K0.make (Li 283 2 #[(0,Zq gX 3),(1,Zq gX 4)]) (Kg 2) (fun g u=>Kd 282 #[Zq gX 3,Zq gX 4] g u∧g∉[gA,gE,gX]) Zk (fun w1 hw h=>On Zk (by intro b hb;simp only[List.mem_cons,List.not_mem_nil,or_false]at hb;rcases hb with rfl|rfl|rfl;exact(PB.ba h.1).lt;exact(PB.be h.1).lt;exact K5.lt h.2.1)) fun gb1=>ZR <| K0.pure_ (p:=gb1∉[gA,gE,gX]) (fun u hu h=>h.2.2) Zk (fun hgb1=> ?_)
  simp only[List.mem_cons,List.not_mem_nil,or_false,not_or]at hgb1
  refine K0.un Zk <| ZR <| ZI true <| ZA (Ku 283 (.slice (some ⟨gb1,0,none⟩) 2 2) (0:Nat)) (Zq gb1 (0*1)) (fun w1 hw h=>Kq (elem:=282) Zk Zk Zd) <| ZA (Kt 282 ⟨gb1,0*1,none⟩) (Zq gX 3) (fun w1 hw h=>K6 Zk (Mj h.2.1 rfl)) ?_
  by_cases e1a:Ks ws (i+1+1+1)=0
  case neg=>
   have hf:Kh ws (2*(Lf 4).toNat) (i+1)=some (i+1+1+1):=by
    show Kh ws 6 (i+1)=_
    rw[Kh,if_pos e0a,Kh,if_pos e0b,Kh,if_neg e1a]
   rw[Q9 hx hv Zd hf]at hR
   obtain⟨rfl,rfl,rfl⟩: []=out∧i+1+1+1=at_∧Ks ws (i+1+1+1)=e:=by cases hR;exact⟨rfl,rfl,rfl⟩
   refine K0.mut (L:=[gA,gE]) (Φ':=fun _ u=>PB w.heap.size gW gA gE A n n ws y m yc acc (i+1+1+1) (Ks ws (i+1+1+1)) u∧K5 u gX [Zi 4,Zi (K9 ws (i+1)),Zi (K9 ws (i+1+1)),Zi 0,Zi 0,Zi 0,Zi 0]∧Kd 280 #[Zq gX 1,Zq gX 3,Zq gX 5] ga u∧Kd 282 #[Zq gX 3,Zq gX 4] gb1 u) (fun w1 hw h=>N8 (i':=i+1+1+1) (e':=Ks ws (i+1+1+1)) hw h.1.1 D (show i+1+1+1≤n from by omega) Zo hmem (if_neg e1a) rfl rfl) (fun u h=>PB.own h.1.1 D) (fun _ wa u e1 e2 h hG=>⟨PB.mutAE h.1.1 D e2 hG,K5.left h.1.2.1 e2 (by simp[xa,xe]),Kb h.1.2.2.1 e2 (by simp[gaA,gaE]),Kb h.2.1 e2 (by simp[hgb1.1,hgb1.2.1])⟩) Zk Zk fun _=>ZR <| K0.mutSt (L:=[gX]) (G:=fun u=>K5 u gX [Zi 4,Zi (K9 ws (i+1)),Zi (K9 ws (i+1+1)),Zi (K9 ws (i+1+1+1)),Zi 0,Zi 0,Zi 0]) (Φ':=fun u=>PB w.heap.size gW gA gE A n n ws y m yc acc (i+1+1+1) (Ks ws (i+1+1+1)) u∧K5 u gX [Zi 4,Zi (K9 ws (i+1)),Zi (K9 ws (i+1+1)),Zi (K9 ws (i+1+1+1)),Zi 0,Zi 0,Zi 0]∧Kd 280 #[Zq gX 1,Zq gX 3,Zq gX 5] ga u∧Kd 282 #[Zq gX 3,Zq gX 4] gb1 u) (Om 3 ⟨gX,3,none⟩ (Zi (K9 ws (i+1+1+1)))) (fun w1 hw h=>h.2.1.store1 Zk rfl Zs rfl) (fun u h b hb=>by obtain rfl:b=gX:=by{simpa using hb};exact⟨lx,h.2.1.own⟩) (fun wa u e1 e2 h hG=>⟨PB.mutX h.1 hX e2,hG,Kb h.2.2.1 e2 (by simp[gaX]),Kb h.2.2.2 e2 (by simp[hgb1.2.2])⟩) Zk Zk <| ZR <| ZA (Kt 29 ⟨gE,0,none⟩) (Zi (Ks ws (i+1+1+1))) (fun w1 hw h=>K6 Zk (PB.be h.1).one) <| ZJ ((Ks ws (i+1+1+1) !=0)) true (by simpa using e1a) <| ZB 0 (Kt 3 ⟨gA,0,none⟩) (Zi ((i+1+1+1:Nat):Int)) (fun w1 hw h=>K6 Zk (PB.ba h.1).one) <| ZB 1 (Kt 29 ⟨gE,0,none⟩) (Zi (Ks ws (i+1+1+1))) (fun w1 hw h=>K6 Zk (PB.be h.1).one) <| K0.leave Zk <| ZR <| ZV (.tuple #[.slice none 0 0,Zi ((i+1+1+1:Nat):Int),Zi (Ks ws (i+1+1+1))]) (fun w1 hw h=>⟨(none,0),rfl,hw,fun _ _ _=>⟨rfl,fun k s hk=>by simp at hk⟩⟩)
  have hlt10:i+1+1+1<n:=by
   rcases Nat.lt_or_ge (i+1+1+1) n with h1|h1
   ·exact h1
   ·rw[Ks,List.getElem?_eq_none Zo]at e1a;exact absurd e1a Zd
  refine K0.mut (L:=[gA,gE]) (Φ':=fun _ u=>PB w.heap.size gW gA gE A n n ws y m yc acc (i+1+1+1+1) (0) u∧K5 u gX [Zi 4,Zi (K9 ws (i+1)),Zi (K9 ws (i+1+1)),Zi 0,Zi 0,Zi 0,Zi 0]∧Kd 280 #[Zq gX 1,Zq gX 3,Zq gX 5] ga u∧Kd 282 #[Zq gX 3,Zq gX 4] gb1 u) (fun w1 hw h=>N8 (i':=i+1+1+1+1) (e':=0) hw h.1.1 D (show i+1+1+1≤n from by omega) Zo hmem (if_pos e1a) e1a rfl) (fun u h=>PB.own h.1.1 D) (fun _ wa u e1 e2 h hG=>⟨PB.mutAE h.1.1 D e2 hG,K5.left h.1.2.1 e2 (by simp[xa,xe]),Kb h.1.2.2.1 e2 (by simp[gaA,gaE]),Kb h.2.1 e2 (by simp[hgb1.1,hgb1.2.1])⟩) Zk Zk fun _=>ZR <| K0.mutSt (L:=[gX]) (G:=fun u=>K5 u gX [Zi 4,Zi (K9 ws (i+1)),Zi (K9 ws (i+1+1)),Zi (K9 ws (i+1+1+1)),Zi 0,Zi 0,Zi 0]) (Φ':=fun u=>PB w.heap.size gW gA gE A n n ws y m yc acc (i+1+1+1+1) (0) u∧K5 u gX [Zi 4,Zi (K9 ws (i+1)),Zi (K9 ws (i+1+1)),Zi (K9 ws (i+1+1+1)),Zi 0,Zi 0,Zi 0]∧Kd 280 #[Zq gX 1,Zq gX 3,Zq gX 5] ga u∧Kd 282 #[Zq gX 3,Zq gX 4] gb1 u) (Om 3 ⟨gX,3,none⟩ (Zi (K9 ws (i+1+1+1)))) (fun w1 hw h=>h.2.1.store1 Zk rfl Zs rfl) (fun u h b hb=>by obtain rfl:b=gX:=by{simpa using hb};exact⟨lx,h.2.1.own⟩) (fun wa u e1 e2 h hG=>⟨PB.mutX h.1 hX e2,hG,Kb h.2.2.1 e2 (by simp[gaX]),Kb h.2.2.2 e2 (by simp[hgb1.2.2])⟩) Zk Zk <| ZR <| ZA (Kt 29 ⟨gE,0,none⟩) (Zi (0)) (fun w1 hw h=>K6 Zk (PB.be h.1).one) <| ZI false <| ZI true <| ZA (Ku 283 (.slice (some ⟨gb1,0,none⟩) 2 2) (1:Nat)) (Zq gb1 (1*1)) (fun w1 hw h=>Kq (elem:=282) Zk Zk Zd) <| ZA (Kt 282 ⟨gb1,1*1,none⟩) (Zq gX 4) (fun w1 hw h=>K6 Zk (Mj h.2.2.2 rfl)) ?_
  by_cases e1b:Ks ws (i+1+1+1+1)=0
  case neg=>
   have hf:Kh ws (2*(Lf 4).toNat) (i+1)=some (i+1+1+1+1):=by
    show Kh ws 6 (i+1)=_
    rw[Kh,if_pos e0a,Kh,if_pos e0b,Kh,if_pos e1a,Kh,if_neg e1b]
   rw[Q9 hx hv Zd hf]at hR
   obtain⟨rfl,rfl,rfl⟩: []=out∧i+1+1+1+1=at_∧Ks ws (i+1+1+1+1)=e:=by cases hR;exact⟨rfl,rfl,rfl⟩
   refine K0.mut (L:=[gA,gE]) (Φ':=fun _ u=>PB w.heap.size gW gA gE A n n ws y m yc acc (i+1+1+1+1) (Ks ws (i+1+1+1+1)) u∧K5 u gX [Zi 4,Zi (K9 ws (i+1)),Zi (K9 ws (i+1+1)),Zi (K9 ws (i+1+1+1)),Zi 0,Zi 0,Zi 0]∧Kd 280 #[Zq gX 1,Zq gX 3,Zq gX 5] ga u∧Kd 282 #[Zq gX 3,Zq gX 4] gb1 u) (fun w1 hw h=>N8 (i':=i+1+1+1+1) (e':=Ks ws (i+1+1+1+1)) hw h.1 D (show i+1+1+1+1≤n from by omega) Zo hmem (if_neg e1b) rfl rfl) (fun u h=>PB.own h.1 D) (fun _ wa u e1 e2 h hG=>⟨PB.mutAE h.1 D e2 hG,K5.left h.2.1 e2 (by simp[xa,xe]),Kb h.2.2.1 e2 (by simp[gaA,gaE]),Kb h.2.2.2 e2 (by simp[hgb1.1,hgb1.2.1])⟩) Zk Zk fun _=>ZR <| K0.mutSt (L:=[gX]) (G:=fun u=>K5 u gX [Zi 4,Zi (K9 ws (i+1)),Zi (K9 ws (i+1+1)),Zi (K9 ws (i+1+1+1)),Zi (K9 ws (i+1+1+1+1)),Zi 0,Zi 0]) (Φ':=fun u=>PB w.heap.size gW gA gE A n n ws y m yc acc (i+1+1+1+1) (Ks ws (i+1+1+1+1)) u∧K5 u gX [Zi 4,Zi (K9 ws (i+1)),Zi (K9 ws (i+1+1)),Zi (K9 ws (i+1+1+1)),Zi (K9 ws (i+1+1+1+1)),Zi 0,Zi 0]∧Kd 280 #[Zq gX 1,Zq gX 3,Zq gX 5] ga u∧Kd 282 #[Zq gX 3,Zq gX 4] gb1 u) (Om 3 ⟨gX,4,none⟩ (Zi (K9 ws (i+1+1+1+1)))) (fun w1 hw h=>h.2.1.store1 Zk rfl Zs rfl) (fun u h b hb=>by obtain rfl:b=gX:=by{simpa using hb};exact⟨lx,h.2.1.own⟩) (fun wa u e1 e2 h hG=>⟨PB.mutX h.1 hX e2,hG,Kb h.2.2.1 e2 (by simp[gaX]),Kb h.2.2.2 e2 (by simp[hgb1.2.2])⟩) Zk Zk <| ZR <| ZA (Kt 29 ⟨gE,0,none⟩) (Zi (Ks ws (i+1+1+1+1))) (fun w1 hw h=>K6 Zk (PB.be h.1).one) <| ZJ ((Ks ws (i+1+1+1+1) !=0)) true (by simpa using e1b) <| ZB 0 (Kt 3 ⟨gA,0,none⟩) (Zi ((i+1+1+1+1:Nat):Int)) (fun w1 hw h=>K6 Zk (PB.ba h.1).one) <| ZB 1 (Kt 29 ⟨gE,0,none⟩) (Zi (Ks ws (i+1+1+1+1))) (fun w1 hw h=>K6 Zk (PB.be h.1).one) <| K0.leave Zk <| ZR <| ZV (.tuple #[.slice none 0 0,Zi ((i+1+1+1+1:Nat):Int),Zi (Ks ws (i+1+1+1+1))]) (fun w1 hw h=>⟨(none,0),rfl,hw,fun _ _ _=>⟨rfl,fun k s hk=>by simp at hk⟩⟩)
  have hlt11:i+1+1+1+1<n:=by
   rcases Nat.lt_or_ge (i+1+1+1+1) n with h1|h1
   ·exact h1
   ·rw[Ks,List.getElem?_eq_none Zo]at e1b;exact absurd e1b Zd
  refine K0.mut (L:=[gA,gE]) (Φ':=fun _ u=>PB w.heap.size gW gA gE A n n ws y m yc acc (i+1+1+1+1+1) (0) u∧K5 u gX [Zi 4,Zi (K9 ws (i+1)),Zi (K9 ws (i+1+1)),Zi (K9 ws (i+1+1+1)),Zi 0,Zi 0,Zi 0]∧Kd 280 #[Zq gX 1,Zq gX 3,Zq gX 5] ga u∧Kd 282 #[Zq gX 3,Zq gX 4] gb1 u) (fun w1 hw h=>N8 (i':=i+1+1+1+1+1) (e':=0) hw h.1 D (show i+1+1+1+1≤n from by omega) Zo hmem (if_pos e1b) e1b rfl) (fun u h=>PB.own h.1 D) (fun _ wa u e1 e2 h hG=>⟨PB.mutAE h.1 D e2 hG,K5.left h.2.1 e2 (by simp[xa,xe]),Kb h.2.2.1 e2 (by simp[gaA,gaE]),Kb h.2.2.2 e2 (by simp[hgb1.1,hgb1.2.1])⟩) Zk Zk fun _=>ZR <| K0.mutSt (L:=[gX]) (G:=fun u=>K5 u gX [Zi 4,Zi (K9 ws (i+1)),Zi (K9 ws (i+1+1)),Zi (K9 ws (i+1+1+1)),Zi (K9 ws (i+1+1+1+1)),Zi 0,Zi 0]) (Φ':=fun u=>PB w.heap.size gW gA gE A n n ws y m yc acc (i+1+1+1+1+1) (0) u∧K5 u gX [Zi 4,Zi (K9 ws (i+1)),Zi (K9 ws (i+1+1)),Zi (K9 ws (i+1+1+1)),Zi (K9 ws (i+1+1+1+1)),Zi 0,Zi 0]∧Kd 280 #[Zq gX 1,Zq gX 3,Zq gX 5] ga u∧Kd 282 #[Zq gX 3,Zq gX 4] gb1 u) (Om 3 ⟨gX,4,none⟩ (Zi (K9 ws (i+1+1+1+1)))) (fun w1 hw h=>h.2.1.store1 Zk rfl Zs rfl) (fun u h b hb=>by obtain rfl:b=gX:=by{simpa using hb};exact⟨lx,h.2.1.own⟩) (fun wa u e1 e2 h hG=>⟨PB.mutX h.1 hX e2,hG,Kb h.2.2.1 e2 (by simp[gaX]),Kb h.2.2.2 e2 (by simp[hgb1.2.2])⟩) Zk Zk <| ZR <| ZA (Kt 29 ⟨gE,0,none⟩) (Zi (0)) (fun w1 hw h=>K6 Zk (PB.be h.1).one) <| ZI false <| ZI false <| ZI true <| ZA (Ku 281 (.slice (some ⟨ga,0,none⟩) 3 3) (2:Nat)) (Zq ga (2*1)) (fun w1 hw h=>Kq (elem:=280) Zk Zk Zd) <| ZA (Kt 280 ⟨ga,2*1,none⟩) (Zq gX 5) (fun w1 hw h=>K6 Zk (Mj h.2.2.1 rfl)) <| K0.make (Li 283 2 #[(0,Zq gX 5),(1,Zq gX 6)]) (Kg 2) (fun g u=>Kd 282 #[Zq gX 5,Zq gX 6] g u∧g∉[gA,gE,gX]) Zk (fun w1 hw h=>On Zk (by intro b hb;simp only[List.mem_cons,List.not_mem_nil,or_false]at hb;rcases hb with rfl|rfl|rfl;exact(PB.ba h.1).lt;exact(PB.be h.1).lt;exact K5.lt h.2.1)) fun gb2=>ZR <| K0.pure_ (p:=gb2∉[gA,gE,gX]) (fun u hu h=>h.2.2) Zk (fun hgb2=> ?_)
  simp only[List.mem_cons,List.not_mem_nil,or_false,not_or]at hgb2
  refine K0.un Zk <| ZR <| ZI true <| ZA (Ku 283 (.slice (some ⟨gb2,0,none⟩) 2 2) (0:Nat)) (Zq gb2 (0*1)) (fun w1 hw h=>Kq (elem:=282) Zk Zk Zd) <| ZA (Kt 282 ⟨gb2,0*1,none⟩) (Zq gX 5) (fun w1 hw h=>K6 Zk (Mj h.2.1 rfl)) ?_
  by_cases e2a:Ks ws (i+1+1+1+1+1)=0
  case neg=>
   have hf:Kh ws (2*(Lf 4).toNat) (i+1)=some (i+1+1+1+1+1):=by
    show Kh ws 6 (i+1)=_
    rw[Kh,if_pos e0a,Kh,if_pos e0b,Kh,if_pos e1a,Kh,if_pos e1b,Kh,if_neg e2a]
   rw[Q9 hx hv Zd hf]at hR
   obtain⟨rfl,rfl,rfl⟩: []=out∧i+1+1+1+1+1=at_∧Ks ws (i+1+1+1+1+1)=e:=by cases hR;exact⟨rfl,rfl,rfl⟩
   refine K0.mut (L:=[gA,gE]) (Φ':=fun _ u=>PB w.heap.size gW gA gE A n n ws y m yc acc (i+1+1+1+1+1) (Ks ws (i+1+1+1+1+1)) u∧K5 u gX [Zi 4,Zi (K9 ws (i+1)),Zi (K9 ws (i+1+1)),Zi (K9 ws (i+1+1+1)),Zi (K9 ws (i+1+1+1+1)),Zi 0,Zi 0]∧Kd 280 #[Zq gX 1,Zq gX 3,Zq gX 5] ga u∧Kd 282 #[Zq gX 5,Zq gX 6] gb2 u) (fun w1 hw h=>N8 (i':=i+1+1+1+1+1) (e':=Ks ws (i+1+1+1+1+1)) hw h.1.1 D (show i+1+1+1+1+1≤n from by omega) Zo hmem (if_neg e2a) rfl rfl) (fun u h=>PB.own h.1.1 D) (fun _ wa u e1 e2 h hG=>⟨PB.mutAE h.1.1 D e2 hG,K5.left h.1.2.1 e2 (by simp[xa,xe]),Kb h.1.2.2.1 e2 (by simp[gaA,gaE]),Kb h.2.1 e2 (by simp[hgb2.1,hgb2.2.1])⟩) Zk Zk fun _=>ZR <| K0.mutSt (L:=[gX]) (G:=fun u=>K5 u gX [Zi 4,Zi (K9 ws (i+1)),Zi (K9 ws (i+1+1)),Zi (K9 ws (i+1+1+1)),Zi (K9 ws (i+1+1+1+1)),Zi (K9 ws (i+1+1+1+1+1)),Zi 0]) (Φ':=fun u=>PB w.heap.size gW gA gE A n n ws y m yc acc (i+1+1+1+1+1) (Ks ws (i+1+1+1+1+1)) u∧K5 u gX [Zi 4,Zi (K9 ws (i+1)),Zi (K9 ws (i+1+1)),Zi (K9 ws (i+1+1+1)),Zi (K9 ws (i+1+1+1+1)),Zi (K9 ws (i+1+1+1+1+1)),Zi 0]∧Kd 280 #[Zq gX 1,Zq gX 3,Zq gX 5] ga u∧Kd 282 #[Zq gX 5,Zq gX 6] gb2 u) (Om 3 ⟨gX,5,none⟩ (Zi (K9 ws (i+1+1+1+1+1)))) (fun w1 hw h=>h.2.1.store1 Zk rfl Zs rfl) (fun u h b hb=>by obtain rfl:b=gX:=by{simpa using hb};exact⟨lx,h.2.1.own⟩) (fun wa u e1 e2 h hG=>⟨PB.mutX h.1 hX e2,hG,Kb h.2.2.1 e2 (by simp[gaX]),Kb h.2.2.2 e2 (by simp[hgb2.2.2])⟩) Zk Zk <| ZR <| ZA (Kt 29 ⟨gE,0,none⟩) (Zi (Ks ws (i+1+1+1+1+1))) (fun w1 hw h=>K6 Zk (PB.be h.1).one) <| ZJ ((Ks ws (i+1+1+1+1+1) !=0)) true (by simpa using e2a) <| ZB 0 (Kt 3 ⟨gA,0,none⟩) (Zi ((i+1+1+1+1+1:Nat):Int)) (fun w1 hw h=>K6 Zk (PB.ba h.1).one) <| ZB 1 (Kt 29 ⟨gE,0,none⟩) (Zi (Ks ws (i+1+1+1+1+1))) (fun w1 hw h=>K6 Zk (PB.be h.1).one) <| K0.leave Zk <| ZR <| ZV (.tuple #[.slice none 0 0,Zi ((i+1+1+1+1+1:Nat):Int),Zi (Ks ws (i+1+1+1+1+1))]) (fun w1 hw h=>⟨(none,0),rfl,hw,fun _ _ _=>⟨rfl,fun k s hk=>by simp at hk⟩⟩)
  have hlt20:i+1+1+1+1+1<n:=by
   rcases Nat.lt_or_ge (i+1+1+1+1+1) n with h1|h1
   ·exact h1
   ·rw[Ks,List.getElem?_eq_none Zo]at e2a;exact absurd e2a Zd
  refine K0.mut (L:=[gA,gE]) (Φ':=fun _ u=>PB w.heap.size gW gA gE A n n ws y m yc acc (i+1+1+1+1+1+1) (0) u∧K5 u gX [Zi 4,Zi (K9 ws (i+1)),Zi (K9 ws (i+1+1)),Zi (K9 ws (i+1+1+1)),Zi (K9 ws (i+1+1+1+1)),Zi 0,Zi 0]∧Kd 280 #[Zq gX 1,Zq gX 3,Zq gX 5] ga u∧Kd 282 #[Zq gX 5,Zq gX 6] gb2 u) (fun w1 hw h=>N8 (i':=i+1+1+1+1+1+1) (e':=0) hw h.1.1 D (show i+1+1+1+1+1≤n from by omega) Zo hmem (if_pos e2a) e2a rfl) (fun u h=>PB.own h.1.1 D) (fun _ wa u e1 e2 h hG=>⟨PB.mutAE h.1.1 D e2 hG,K5.left h.1.2.1 e2 (by simp[xa,xe]),Kb h.1.2.2.1 e2 (by simp[gaA,gaE]),Kb h.2.1 e2 (by simp[hgb2.1,hgb2.2.1])⟩) Zk Zk fun _=>ZR <| K0.mutSt (L:=[gX]) (G:=fun u=>K5 u gX [Zi 4,Zi (K9 ws (i+1)),Zi (K9 ws (i+1+1)),Zi (K9 ws (i+1+1+1)),Zi (K9 ws (i+1+1+1+1)),Zi (K9 ws (i+1+1+1+1+1)),Zi 0]) (Φ':=fun u=>PB w.heap.size gW gA gE A n n ws y m yc acc (i+1+1+1+1+1+1) (0) u∧K5 u gX [Zi 4,Zi (K9 ws (i+1)),Zi (K9 ws (i+1+1)),Zi (K9 ws (i+1+1+1)),Zi (K9 ws (i+1+1+1+1)),Zi (K9 ws (i+1+1+1+1+1)),Zi 0]∧Kd 280 #[Zq gX 1,Zq gX 3,Zq gX 5] ga u∧Kd 282 #[Zq gX 5,Zq gX 6] gb2 u) (Om 3 ⟨gX,5,none⟩ (Zi (K9 ws (i+1+1+1+1+1)))) (fun w1 hw h=>h.2.1.store1 Zk rfl Zs rfl) (fun u h b hb=>by obtain rfl:b=gX:=by{simpa using hb};exact⟨lx,h.2.1.own⟩) (fun wa u e1 e2 h hG=>⟨PB.mutX h.1 hX e2,hG,Kb h.2.2.1 e2 (by simp[gaX]),Kb h.2.2.2 e2 (by simp[hgb2.2.2])⟩) Zk Zk <| ZR <| ZA (Kt 29 ⟨gE,0,none⟩) (Zi (0)) (fun w1 hw h=>K6 Zk (PB.be h.1).one) <| ZI false <| ZI true <| ZA (Ku 283 (.slice (some ⟨gb2,0,none⟩) 2 2) (1:Nat)) (Zq gb2 (1*1)) (fun w1 hw h=>Kq (elem:=282) Zk Zk Zd) <| ZA (Kt 282 ⟨gb2,1*1,none⟩) (Zq gX 6) (fun w1 hw h=>K6 Zk (Mj h.2.2.2 rfl)) ?_
  by_cases e2b:Ks ws (i+1+1+1+1+1+1)=0
  case neg=>
   have hf:Kh ws (2*(Lf 4).toNat) (i+1)=some (i+1+1+1+1+1+1):=by
    show Kh ws 6 (i+1)=_
    rw[Kh,if_pos e0a,Kh,if_pos e0b,Kh,if_pos e1a,Kh,if_pos e1b,Kh,if_pos e2a,Kh,if_neg e2b]
   rw[Q9 hx hv Zd hf]at hR
   obtain⟨rfl,rfl,rfl⟩: []=out∧i+1+1+1+1+1+1=at_∧Ks ws (i+1+1+1+1+1+1)=e:=by cases hR;exact⟨rfl,rfl,rfl⟩
   refine K0.mut (L:=[gA,gE]) (Φ':=fun _ u=>PB w.heap.size gW gA gE A n n ws y m yc acc (i+1+1+1+1+1+1) (Ks ws (i+1+1+1+1+1+1)) u∧K5 u gX [Zi 4,Zi (K9 ws (i+1)),Zi (K9 ws (i+1+1)),Zi (K9 ws (i+1+1+1)),Zi (K9 ws (i+1+1+1+1)),Zi (K9 ws (i+1+1+1+1+1)),Zi 0]∧Kd 280 #[Zq gX 1,Zq gX 3,Zq gX 5] ga u∧Kd 282 #[Zq gX 5,Zq gX 6] gb2 u) (fun w1 hw h=>N8 (i':=i+1+1+1+1+1+1) (e':=Ks ws (i+1+1+1+1+1+1)) hw h.1 D (show i+1+1+1+1+1+1≤n from by omega) Zo hmem (if_neg e2b) rfl rfl) (fun u h=>PB.own h.1 D) (fun _ wa u e1 e2 h hG=>⟨PB.mutAE h.1 D e2 hG,K5.left h.2.1 e2 (by simp[xa,xe]),Kb h.2.2.1 e2 (by simp[gaA,gaE]),Kb h.2.2.2 e2 (by simp[hgb2.1,hgb2.2.1])⟩) Zk Zk fun _=>ZR <| K0.mutSt (L:=[gX]) (G:=fun u=>K5 u gX [Zi 4,Zi (K9 ws (i+1)),Zi (K9 ws (i+1+1)),Zi (K9 ws (i+1+1+1)),Zi (K9 ws (i+1+1+1+1)),Zi (K9 ws (i+1+1+1+1+1)),Zi (K9 ws (i+1+1+1+1+1+1))]) (Φ':=fun u=>PB w.heap.size gW gA gE A n n ws y m yc acc (i+1+1+1+1+1+1) (Ks ws (i+1+1+1+1+1+1)) u∧K5 u gX [Zi 4,Zi (K9 ws (i+1)),Zi (K9 ws (i+1+1)),Zi (K9 ws (i+1+1+1)),Zi (K9 ws (i+1+1+1+1)),Zi (K9 ws (i+1+1+1+1+1)),Zi (K9 ws (i+1+1+1+1+1+1))]∧Kd 280 #[Zq gX 1,Zq gX 3,Zq gX 5] ga u∧Kd 282 #[Zq gX 5,Zq gX 6] gb2 u) (Om 3 ⟨gX,6,none⟩ (Zi (K9 ws (i+1+1+1+1+1+1)))) (fun w1 hw h=>h.2.1.store1 Zk rfl Zs rfl) (fun u h b hb=>by obtain rfl:b=gX:=by{simpa using hb};exact⟨lx,h.2.1.own⟩) (fun wa u e1 e2 h hG=>⟨PB.mutX h.1 hX e2,hG,Kb h.2.2.1 e2 (by simp[gaX]),Kb h.2.2.2 e2 (by simp[hgb2.2.2])⟩) Zk Zk <| ZR <| ZA (Kt 29 ⟨gE,0,none⟩) (Zi (Ks ws (i+1+1+1+1+1+1))) (fun w1 hw h=>K6 Zk (PB.be h.1).one) <| ZJ ((Ks ws (i+1+1+1+1+1+1) !=0)) true (by simpa using e2b) <| ZB 0 (Kt 3 ⟨gA,0,none⟩) (Zi ((i+1+1+1+1+1+1:Nat):Int)) (fun w1 hw h=>K6 Zk (PB.ba h.1).one) <| ZB 1 (Kt 29 ⟨gE,0,none⟩) (Zi (Ks ws (i+1+1+1+1+1+1))) (fun w1 hw h=>K6 Zk (PB.be h.1).one) <| K0.leave Zk <| ZR <| ZV (.tuple #[.slice none 0 0,Zi ((i+1+1+1+1+1+1:Nat):Int),Zi (Ks ws (i+1+1+1+1+1+1))]) (fun w1 hw h=>⟨(none,0),rfl,hw,fun _ _ _=>⟨rfl,fun k s hk=>by simp at hk⟩⟩)
  have hlt21:i+1+1+1+1+1+1<n:=by
   rcases Nat.lt_or_ge (i+1+1+1+1+1+1) n with h1|h1
   ·exact h1
   ·rw[Ks,List.getElem?_eq_none Zo]at e2b;exact absurd e2b Zd
  refine K0.mut (L:=[gA,gE]) (Φ':=fun _ u=>PB w.heap.size gW gA gE A n n ws y m yc acc (i+1+1+1+1+1+1+1) (0) u∧K5 u gX [Zi 4,Zi (K9 ws (i+1)),Zi (K9 ws (i+1+1)),Zi (K9 ws (i+1+1+1)),Zi (K9 ws (i+1+1+1+1)),Zi (K9 ws (i+1+1+1+1+1)),Zi 0]∧Kd 280 #[Zq gX 1,Zq gX 3,Zq gX 5] ga u∧Kd 282 #[Zq gX 5,Zq gX 6] gb2 u) (fun w1 hw h=>N8 (i':=i+1+1+1+1+1+1+1) (e':=0) hw h.1 D (show i+1+1+1+1+1+1≤n from by omega) Zo hmem (if_pos e2b) e2b rfl) (fun u h=>PB.own h.1 D) (fun _ wa u e1 e2 h hG=>⟨PB.mutAE h.1 D e2 hG,K5.left h.2.1 e2 (by simp[xa,xe]),Kb h.2.2.1 e2 (by simp[gaA,gaE]),Kb h.2.2.2 e2 (by simp[hgb2.1,hgb2.2.1])⟩) Zk Zk fun _=>ZR <| K0.mutSt (L:=[gX]) (G:=fun u=>K5 u gX [Zi 4,Zi (K9 ws (i+1)),Zi (K9 ws (i+1+1)),Zi (K9 ws (i+1+1+1)),Zi (K9 ws (i+1+1+1+1)),Zi (K9 ws (i+1+1+1+1+1)),Zi (K9 ws (i+1+1+1+1+1+1))]) (Φ':=fun u=>PB w.heap.size gW gA gE A n n ws y m yc acc (i+1+1+1+1+1+1+1) (0) u∧K5 u gX [Zi 4,Zi (K9 ws (i+1)),Zi (K9 ws (i+1+1)),Zi (K9 ws (i+1+1+1)),Zi (K9 ws (i+1+1+1+1)),Zi (K9 ws (i+1+1+1+1+1)),Zi (K9 ws (i+1+1+1+1+1+1))]∧Kd 280 #[Zq gX 1,Zq gX 3,Zq gX 5] ga u∧Kd 282 #[Zq gX 5,Zq gX 6] gb2 u) (Om 3 ⟨gX,6,none⟩ (Zi (K9 ws (i+1+1+1+1+1+1)))) (fun w1 hw h=>h.2.1.store1 Zk rfl Zs rfl) (fun u h b hb=>by obtain rfl:b=gX:=by{simpa using hb};exact⟨lx,h.2.1.own⟩) (fun wa u e1 e2 h hG=>⟨PB.mutX h.1 hX e2,hG,Kb h.2.2.1 e2 (by simp[gaX]),Kb h.2.2.2 e2 (by simp[hgb2.2.2])⟩) Zk Zk <| ZR <| ZA (Kt 29 ⟨gE,0,none⟩) (Zi (0)) (fun w1 hw h=>K6 Zk (PB.be h.1).one) <| ZI false <| ZI false <| ZI false ?_
  have hf:Kh ws (2*(Lf 4).toNat) (i+1)=none:=by
   show Kh ws 6 (i+1)=_
   rw[Kh,if_pos e0a,Kh,if_pos e0b,Kh,if_pos e1a,Kh,if_pos e1b,Kh,if_pos e2a,Kh,if_pos e2b,Kh]
  rw[pwStep hx hv Zd hf]at hR
  refine ZA (Kt 150 ⟨gX,0,none⟩) (Sg.val ⟨4,K9 ws (i+1),K9 ws (i+1+1),K9 ws (i+1+1+1),K9 ws (i+1+1+1+1),K9 ws (i+1+1+1+1+1),K9 ws (i+1+1+1+1+1+1)⟩) (fun w1 hw h=>M1 (vs:=Sg.cl ⟨4,K9 ws (i+1),K9 ws (i+1+1),K9 ws (i+1+1+1),K9 ws (i+1+1+1+1),K9 ws (i+1+1+1+1+1),K9 ws (i+1+1+1+1+1+1)⟩) Zk Zk (K5.range h.2.1)) <| K0.make (Li 43 1 #[(0,Sg.val ⟨4,K9 ws (i+1),K9 ws (i+1+1),K9 ws (i+1+1+1),K9 ws (i+1+1+1+1),K9 ws (i+1+1+1+1+1),K9 ws (i+1+1+1+1+1+1)⟩)]) (Kg 1) (Kd 150 (Sg.cl ⟨4,K9 ws (i+1),K9 ws (i+1+1),K9 ws (i+1+1+1),K9 ws (i+1+1+1+1),K9 ws (i+1+1+1+1+1),K9 ws (i+1+1+1+1+1+1)⟩).toArray) Zk (fun w1 hw h=>Ke Zk) fun gb=>ZS 3 <| K0.mutOp (L:=bl y) (val:=fun(z:Option Addr×Nat)=> .slice z.1 (m+1) z.2) (Φ':=fun(z:Option Addr×Nat) u=>PB w.heap.size gW gA gE A n n ws z.1 (m+1) z.2 (acc++ [Sg.mk 4 (K9 ws (i+1)) (K9 ws (i+1+1)) (K9 ws (i+1+1+1)) (K9 ws (i+1+1+1+1)) (K9 ws (i+1+1+1+1+1)) (K9 ws (i+1+1+1+1+1+1))]) (i+1+1+1+1+1+1+1) 0 u) (G:=fun(z:Option Addr×Nat) vv=>K7 vv w.heap.size 150 7 z.1 (m+1) z.2 (gv (acc++ [Sg.mk 4 (K9 ws (i+1)) (K9 ws (i+1+1)) (K9 ws (i+1+1+1)) (K9 ws (i+1+1+1+1)) (K9 ws (i+1+1+1+1+1)) (K9 ws (i+1+1+1+1+1+1))]))) (M4 43 43 (.slice y m yc) (Kg 1 gb)) (fun w1 hw h=>app_seg (PB.ow h.1.1) hw.size h.2 (show m<1000000 from by omega)) (fun w1 h=>fun b hb=>⟨((PB.ow h.1.1).lt b hb).1,((PB.ow h.1.1).blk b hb).2⟩) (fun z wa w1 e1 e2 h hG=>PB.app h.1.1 D e2 hG) Zk Zk fun z=>ZR <| K0.next (⟨((i+1+1+1+1+1+1+1,m+1,acc++ [Sg.mk 4 (K9 ws (i+1)) (K9 ws (i+1+1)) (K9 ws (i+1+1+1)) (K9 ws (i+1+1+1+1)) (K9 ws (i+1+1+1+1+1)) (K9 ws (i+1+1+1+1+1+1))]),z),by show i+1+1+1+1+1+1+1≤n;omega,by show m+1≤i+1+1+1+1+1+1+1;omega,by show(acc++_).length=m+1;rw[List.length_append,hacc];rfl,fun h=>absurd (show m+1=0 from h) Zo,hR⟩) Zk (by show n- (i+1+1+1+1+1+1+1)<n-i;omega) ⟨Zk,Zk,Zk⟩ (fun u h=>h)
 ·refine ZD 6 (fun w1 hw h=>verb_m hv) fun u=>K0.make (Up 150) (X5) (fun g u=>K5 u g [Zi 0,Zi 0,Zi 0,Zi 0,Zi 0,Zi 0,Zi 0]∧w.heap.size≤g∧g∉gW::gA::gE::(bl A++bl y)) Zk (fun w1 hw h=>Oq (z:=Sg.val ⟨0,0,0,0,0,0,0⟩) Zk hw.size (PB.lts h.1 (hAlt _ h.1))) fun gX=>ZR <| K0.pure_ (p:=w.heap.size≤gX∧gX∉gW::gA::gE::(bl A++bl y)) (fun u hu h=>h.2.2) Zk (fun hp=> ?_)
  obtain⟨lx,hX⟩:=hp
  have hX2:=hX
  simp only[List.mem_cons,List.mem_append,not_or]at hX2
  obtain⟨xw,xa,xe,xs,xy⟩:=hX2
  refine K0.mutSt (L:=[gX]) (G:=fun u=>K5 u gX [Zi 5,Zi 0,Zi 0,Zi 0,Zi 0,Zi 0,Zi 0]) (Φ':=fun u=>PB w.heap.size gW gA gE A n n ws y m yc acc (i) (0) u∧K5 u gX [Zi 5,Zi 0,Zi 0,Zi 0,Zi 0,Zi 0,Zi 0]) (Om 150 ⟨gX,0,none⟩ (Sg.val ⟨5,0,0,0,0,0,0⟩)) (fun w1 hw h=>h.2.1.store Zk rfl (by intro u hu;simp[Value.cells]at hu;rcases hu with rfl|rfl<;>rfl)) (fun u h b hb=>by obtain rfl:b=gX:=by{simpa using hb};exact⟨lx,h.2.1.own⟩) (fun wa u e1 e2 h hG=>⟨PB.mutX h.1.1 hX e2,hG⟩) Zk Zk <| ZR <| ZA (Kt 3 ⟨gX,0,none⟩) (Zi 5) (fun w1 hw h=>K6 Zk (h.2.cell)) <| ZI false <| ZA (Kt 3 ⟨gA,0,none⟩) (Zi i) (fun w1 hw h=>K6 Zk (PB.ba h.1).one) <| K0.slot 41 (Zi (IntKind.i64.wrap ((i:Int)+1))) (Zi ((i+1:Nat):Int)) Zk (by rw[Ki hlt Zo]) <| K0.mutSt (L:=[gA]) (G:=fun u=>K5 u gA [Zi ((i+1:Nat):Int)]) (Φ':=fun u=>PB w.heap.size gW gA gE A n n ws y m yc acc (i+1) (0) u∧K5 u gX [Zi 5,Zi 0,Zi 0,Zi 0,Zi 0,Zi 0,Zi 0]) (Om 3 ⟨gA,0,none⟩ (Zi ((i+1:Nat):Int))) (fun w1 hw h=>(PB.ba h.1).store Zk rfl (by intro u hu;simp[Value.cells]at hu;subst hu;rfl)) (fun u h b hb=>by obtain rfl:b=gA:=by{simpa using hb};exact⟨la,(PB.ba h.1).own⟩) (fun wa u e1 e2 h hG=>⟨PB.mutA h.1 D e2 hG,h.2.left e2 (by simp[xa])⟩) Zk Zk <| ZR <| K0.make (Li 281 3 #[(0,Zq gX 1),(1,Zq gX 3),(2,Zq gX 5)]) (Kg 3) (fun g u=>Kd 280 #[Zq gX 1,Zq gX 3,Zq gX 5] g u∧g∉[gA,gE,gX]) Zk (fun w1 hw h=>On Zk (by intro b hb;simp only[List.mem_cons,List.not_mem_nil,or_false]at hb;rcases hb with rfl|rfl|rfl;exact(PB.ba h.1).lt;exact(PB.be h.1).lt;exact h.2.lt)) fun ga=>ZR <| K0.pure_ (p:=ga∉[gA,gE,gX]) (fun u hu h=>h.2.2) Zk (fun hga=> ?_)
  have hga2:=hga
  simp only[List.mem_cons,List.not_mem_nil,or_false,not_or]at hga2
  obtain⟨gaA,gaE,gaX⟩:=hga2
  refine ZA (Kt 3 ⟨gX,0,none⟩) (Zi 5) (fun w1 hw h=>K6 Zk (h.1.2.cell)) <| ZD 4 (fun w1 hw h=>Ud (v:=5) (r:=0) Zd rfl) fun u=>ZA (slH 281 (.slice (some ⟨ga,0,none⟩) 3 3) (0:Nat)) (.slice (some ⟨ga,0,none⟩) 0 3) (fun w1 hw h=>run_slH (e:=280) Zk Zk Zk Zd) <| K0.un Zk <| ZR <| ZI false ?_
  have hf:Kh ws (2*(Lf 5).toNat) (i+1)=none:=by
   show Kh ws 0 (i+1)=_
   rw[Kh]
  rw[pwStep hx hv Zd hf]at hR
  refine ZA (Kt 150 ⟨gX,0,none⟩) (Sg.val ⟨5,0,0,0,0,0,0⟩) (fun w1 hw h=>M1 (vs:=Sg.cl ⟨5,0,0,0,0,0,0⟩) Zk Zk (K5.range h.1.1.2)) <| K0.make (Li 43 1 #[(0,Sg.val ⟨5,0,0,0,0,0,0⟩)]) (Kg 1) (Kd 150 (Sg.cl ⟨5,0,0,0,0,0,0⟩).toArray) Zk (fun w1 hw h=>Ke Zk) fun gb=>ZS 3 <| K0.mutOp (L:=bl y) (val:=fun(z:Option Addr×Nat)=> .slice z.1 (m+1) z.2) (Φ':=fun(z:Option Addr×Nat) u=>PB w.heap.size gW gA gE A n n ws z.1 (m+1) z.2 (acc++ [Sg.mk 5 0 0 0 0 0 0]) (i+1) 0 u) (G:=fun(z:Option Addr×Nat) vv=>K7 vv w.heap.size 150 7 z.1 (m+1) z.2 (gv (acc++ [Sg.mk 5 0 0 0 0 0 0]))) (M4 43 43 (.slice y m yc) (Kg 1 gb)) (fun w1 hw h=>app_seg (PB.ow h.1.1.1.1) hw.size h.2 (show m<1000000 from by omega)) (fun w1 h=>fun b hb=>⟨((PB.ow h.1.1.1.1).lt b hb).1,((PB.ow h.1.1.1.1).blk b hb).2⟩) (fun z wa w1 e1 e2 h hG=>PB.app h.1.1.1.1 D e2 hG) Zk Zk fun z=>ZR <| K0.next (⟨((i+1,m+1,acc++ [Sg.mk 5 0 0 0 0 0 0]),z),by show i+1≤n;omega,by show m+1≤i+1;omega,by show(acc++_).length=m+1;rw[List.length_append,hacc];rfl,fun h=>absurd (show m+1=0 from h) Zo,hR⟩) Zk (by show n- (i+1)<n-i;omega) ⟨Zk,Zk,Zk⟩ (fun u h=>h)
 ·rw[pw_verb hx hv]at hR
  obtain⟨rfl,rfl,rfl⟩: []=out∧i=at_∧3=e:=by cases hR;exact⟨rfl,rfl,rfl⟩
  refine ZD 6 (fun w1 hw h=>verb_m hv) fun u=>K0.make (Up 150) (X5) (fun g u=>K5 u g [Zi 0,Zi 0,Zi 0,Zi 0,Zi 0,Zi 0,Zi 0]∧w.heap.size≤g∧g∉gW::gA::gE::(bl A++bl y)) Zk (fun w1 hw h=>Oq (z:=Sg.val ⟨0,0,0,0,0,0,0⟩) Zk hw.size (PB.lts h.1 (hAlt _ h.1))) fun gX=>ZR <| K0.pure_ (p:=w.heap.size≤gX∧gX∉gW::gA::gE::(bl A++bl y)) (fun u hu h=>h.2.2) Zk (fun hp=> ?_)
  obtain⟨lx,hX⟩:=hp
  have hX2:=hX
  simp only[List.mem_cons,List.mem_append,not_or]at hX2
  obtain⟨xw,xa,xe,xs,xy⟩:=hX2
  refine K0.mutSt (L:=[gX]) (G:=fun u=>K5 u gX [Zi 0,Zi 0,Zi 0,Zi 0,Zi 0,Zi 0,Zi 0]) (Φ':=fun u=>PB w.heap.size gW gA gE A n n ws y m yc acc (i) (0) u∧K5 u gX [Zi 0,Zi 0,Zi 0,Zi 0,Zi 0,Zi 0,Zi 0]) (Om 150 ⟨gX,0,none⟩ (Sg.val ⟨0,0,0,0,0,0,0⟩)) (fun w1 hw h=>h.2.1.store Zk rfl (by intro u hu;simp[Value.cells]at hu;rcases hu with rfl|rfl<;>rfl)) (fun u h b hb=>by obtain rfl:b=gX:=by{simpa using hb};exact⟨lx,h.2.1.own⟩) (fun wa u e1 e2 h hG=>⟨PB.mutX h.1.1 hX e2,hG⟩) Zk Zk <| ZR <| ZA (Kt 3 ⟨gX,0,none⟩) (Zi 0) (fun w1 hw h=>K6 Zk (h.2.cell)) <| ZI true <| ZA (Kt 3 ⟨gA,0,none⟩) (Zi i) (fun w1 hw h=>K6 Zk (PB.ba h.1).one) <| K0.leave Zk <| ZR <| ZV (.tuple #[.slice none 0 0,Zi i,Zi 3]) (fun w1 hw h=>⟨(none,0),rfl,hw,fun _ _ _=>⟨rfl,fun k s hk=>by simp at hk⟩⟩)
end
end Go.Proofs.YtoeiphicmcndlaaGreatDoor
