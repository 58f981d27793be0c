/-
 Functions of the package natural.
-/
import Derived.Test.YtoeiphicmcndlaaGreatDoorAWj
import Derived.Test.YtoeiphicmcndlaaGreatDoorANumC
import Derived.BigRegion
namespace Go.Proofs.YtoeiphicmcndlaaGreatDoor
set_option maxRecDepth 100000
set_option maxHeartbeats 8000000
set_option linter.unusedVariables false
set_option linter.unusedSimpArgs false
open Go.RowKit
def u8s(l:List UInt8):List Value:=l.map fun(b:UInt8)=>Value.int .u8 (b.toNat:Int)
theorem V1(l:List UInt8):(u8s l).length=l.length:=by simp[u8s]
theorem J4{l:List UInt8}{i:Nat}(h:i<l.length):(u8s l)[i]? =some (.int .u8 (l[i].toNat:Int)):=by simp[u8s,h]
theorem W4(a b:List UInt8):u8s (a++b)=u8s a++u8s b:=by simp[u8s]
theorem u8s_set(l:List UInt8)(i:Nat)(b:UInt8):(u8s l).set i (.int .u8 (b.toNat:Int))=u8s (l.set i b):=by
 simp[u8s,List.map_set]
def Yw(w:World)(g t cap:Nat)(xs:List Value):Prop:=
 ∃cur,w.heap[g]? =some (.cells cur t (0,0))∧cur.size=cap∧xs.length≤cap∧cur.toList.take xs.length=xs
section
variable{w w':World}{g t cap:Nat}{xs:List Value}
theorem Yw.cell(h:Yw w g t cap xs){i:Nat}(hi:i<xs.length):w.cell? ⟨g,i,none⟩=xs[i]? :=by
 obtain⟨cur,hg,hs,hl,ht⟩:=h
 have e:(cur.toList.take xs.length)[i]? =xs[i]? :=by rw[ht]
 rw[List.getElem?_take,if_pos hi]at e
 rw[cell_of_row w g i cur t (0,0) hg,←e]
 simp
theorem Yw.frozen(h:Yw w g t cap xs)(i:Nat):w.frozen? ⟨g,i,none⟩=false:=by
 obtain⟨cur,hg,_⟩:=h
 simp[World.frozen?,hg]
theorem Yw.set_(h:Yw w g t cap xs)(i:Nat)(v:Value):Yw (w.setCell ⟨g,i,none⟩ v) g t cap (xs.set i v):=by
 obtain⟨cur,hg,hs,hl,ht⟩:=h
 refine⟨cur.setIfInBounds i v,by simp[World.setCell,Array.getElem?_modify,hg],by simpa using hs,by simpa using hl,?_⟩
 rw[List.length_set,Array.toList_setIfInBounds,List.take_set,ht]
theorem Yw.drew(h:Yw w g t cap xs):Yw w.drew g t cap xs:=h
theorem Yw.take(h:Yw w g t cap xs)(k:Nat):Yw w g t cap (xs.take k):=by
 obtain⟨cur,hg,hs,hl,ht⟩:=h
 refine⟨cur,hg,hs,by rw[List.length_take];omega,?_⟩
 rw[List.length_take,←List.take_take,ht,List.take_eq_take_min]
theorem Yw.of_row{B n:Nat}{v:Value}(h:w.ownsRow B t 1 v n xs)(h0:0<n):∃g c,v= .slice (some ⟨g,0,none⟩) n c∧B≤g∧n≤c∧c≤maxLen∧Yw w g t c xs:=by
 have hl:=h.1
 rcases h.2 with ⟨_,h1⟩|⟨g,c,cur,hv,hg,hh,hn,hc,hs,ht⟩
 ·omega
 ·exact⟨g,c,hv,hg,hn,hc,cur,hh,by omega,by omega,by rw[show xs.length=n*1 from hl];exact ht⟩
end
def G6(l r:List UInt8)(i:Nat):Prop:=r.length=l.length∧∀t,t<l.length→r[t]? =if t<i∨l.length≤t+i then l[l.length-1-t]? else l[t]?
theorem G6.zero(l:List UInt8):G6 l l 0:=⟨rfl,fun t ht=>by rw[if_neg Zo]⟩
theorem G6.done{l r:List UInt8}{i:Nat}(h:G6 l r i)(hi:l.length≤2*i+1):r=l.reverse:=by
 apply List.ext_getElem?
 intro t
 by_cases ht:t<l.length
 ·rw[h.2 t ht,List.getElem?_reverse ht]
  split
  ·rfl
  ·congr 1;omega
 ·rw[List.getElem?_eq_none (by rw[h.1];omega),List.getElem?_eq_none (by rw[List.length_reverse];omega)]
theorem G6.step{l r:List UInt8}{i:Nat}(h:G6 l r i)(hi:2*i+1<l.length){a b:UInt8}(ha:r[i]? =some a)(hb:r[l.length-1-i]? =some b):
 G6 l ((r.set i b).set (l.length-1-i) a) (i+1):=by
 have ha':=h.2 i Zo
 rw[if_neg Zo,ha]at ha'
 have hb':=h.2 (l.length-1-i) Zo
 rw[if_neg Zo,hb]at hb'
 refine⟨by rw[List.length_set,List.length_set];exact h.1,fun t ht=> ?_⟩
 rw[List.getElem?_set,List.getElem?_set]
 by_cases h1:l.length-1-i=t
 ·subst h1
  rw[if_pos rfl,if_pos (by rw[List.length_set,h.1];omega),if_pos Zo,ha']
  congr 1;omega
 ·rw[if_neg h1]
  by_cases h2:i=t
  ·subst h2
   rw[if_pos rfl,if_pos (by rw[h.1];omega),if_pos Zo,hb']
  ·rw[if_neg h2,h.2 t ht]
   by_cases h3:t<i∨l.length≤t+i
   ·rw[if_pos h3,if_pos Zo]
   ·rw[if_neg h3,if_neg Zo]
theorem reverse_c(w:World)(g cap:Nat)(l:List UInt8)(h:Yw w g 5 cap (u8s l))(hl:l.length≤4611686018427387904):
 Calls Tryz.prog 111 #[.slice (some ⟨g,0,none⟩) l.length cap] w fun e w'=>e= .returned (.tuple #[])∧Yw w' g 5 cap (u8s l.reverse)∧w.grownBy w' (some g):=by
 go_enter Tryz.func111,Tryz.ntmps111
 go_wp2_with fail
 go_loopw [2,3] (fun si sj wx=>∃(i:Nat) (j:Int) (r:List UInt8),si=Zi i∧sj=Zi j∧j+i+1=l.length∧Hid (G6 l r i)∧Yw wx g 5 cap (u8s r)∧w.grownBy wx (some g)) (fun _ sj _=>(intOf sj+1).toNat)
 case atStart=>exact⟨0,(l.length:Int)-1,l,rfl,rfl,by omega,G6.zero l,h,World.grownBy.refl _ _⟩
 case round=>
  obtain⟨i,j,r,rfl,rfl,hj,hR,hrow,hbx⟩:=hrel
  by_cases hlt:(i:Int)<j
  ·obtain⟨t,rfl⟩:=Int.eq_ofNat_of_zero_le (show 0≤j by omega)
   have hrl:=(K3 hR).1
   have hci:=hrow.cell (i:=i) (by rw[V1,hrl];omega)
   rw[J4 (by rw[hrl];omega)]at hci
   have hcj:=hrow.cell (i:=t) (by rw[V1,hrl];omega)
   rw[J4 (by rw[hrl];omega)]at hcj
   obtain⟨a,ha⟩:∃a,r[i]'(by rw[hrl];omega)=a:=⟨_,rfl⟩
   obtain⟨b,hb⟩:∃b,r[t]'(by rw[hrl];omega)=b:=⟨_,rfl⟩
   rw[ha]at hci
   rw[hb]at hcj
   have hfi:=hrow.frozen i
   have hfj:=hrow.frozen t
   have ha2:r[i]? =some a:=by rw[←ha];exact List.getElem?_eq_getElem _
   have hb2:r[t]? =some b:=by rw[←hb];exact List.getElem?_eq_getElem _
   have hst:=(hrow.set_ i (.int .u8 (b.toNat:Int))).set_ t (.int .u8 (a.toNat:Int))
   rw[u8s_set,u8s_set]at hst
   have htl:t=l.length-1-i:=by omega
   have hbnd:(i:Int)<(l.length:Int)∧(t:Int)<(l.length:Int):=by omega
   have F:=Km (And.intro hrl (And.intro ha2 (And.intro hb2 (And.intro htl hj))))
   clear hrl ha hb ha2 hb2 htl hj
   have hne:¬i=t:=by omega
   go_wp2_with fail
   go_region
   all_goals
    go_wp2_with fail
    go_roundw
    case rel=>
     obtain⟨hrl,ha2,hb2,htl,hj⟩:=K3 F
     refine⟨i+1,(t:Int)-1,_,by go_num,rfl,by omega,?_,hst.drew,only_drewN (Sk (Sk hbx (Or.inl rfl) _) (Or.inl rfl) _) 1⟩
     subst htl
     exact(K3 hR).step Zo ha2 hb2
    case measure=>simp[intOf]
  ·go_wp2_with fail
   go_end0
   have:r=l.reverse:=(K3 hR).done Zo
   subst this
   exact⟨rfl,hrow,hbx⟩
theorem Tryz.info_u8:(Tryz.prog.info? 5).map (fun i=>(i.zero,i.size,i.bytes))=some (some (.int .u8 0),1,1):=by kernel_rfl
def K4(l:List UInt8):Value:= .string ⟨l.toArray⟩
theorem only_of_below{a w:World}(h:Below a.heap.size a w)(row:Option Nat):a.grownBy w row:=⟨h.os,h.tape,h.output,h.size,fun i hi _=>h.block i hi⟩
theorem Py.mid{w w':World}{B:Nat}{A:Option Addr}{n c:Nat}{l:List Nat}(h:Py w B A n c l)(hs:w.heap.size≤w'.heap.size)(hk:∀k,B≤k→k<w.heap.size→w'.heap[k]? =w.heap[k]?):Py w' B A n c l:=by
 have key:0<c→∃g cur t,A=some ⟨g,0,none⟩∧B≤g∧w'.heap[g]? =some (.cells cur t (0,0))∧c≤cur.size∧w'.heap[g]? =w.heap[g]? :=by
  intro h0
  obtain⟨g,cur,t,hA,hg,hh,hc⟩:=h.own h0
  have e:=hk g hg (Array.getElem?_eq_some_iff.1 hh).1
  exact⟨g,cur,t,hA,hg,e.trans hh,hc,e⟩
 refine⟨⟨h.dig,h.len,h.le,h.cap,⟨h.rd.1,fun hn=> ?_⟩⟩,fun h0=> ?_⟩
 ·obtain⟨ad,hA,hb,hc⟩:=h.rd.2 hn
  obtain⟨g,cur,t,hA2,_,_,_,e⟩:=key (Nat.lt_of_lt_of_le hn h.le)
  refine⟨ad,hA,Nat.lt_of_lt_of_le hb hs,fun j u hu=> ?_⟩
  rw[hA]at hA2
  injection hA2 with hA2
  subst hA2
  have:=hc j u hu
  rw[add_off]at this ⊢
  rw[World.cell?_of_block (w:=w) e]
  exact this
 ·obtain⟨g,cur,t,hA,hg,hh,hc,_⟩:=key h0
  exact⟨g,cur,t,hA,hg,hh,hc⟩
def sliceLen:Value→Nat| .slice _ n _=>n|_=>0
theorem format_c{A:Option Addr}{n c:Nat}{a:List Nat}(w:World)(ha:In w A n c a)(hn:n≤1073741824):
 Calls Tryz.prog 61 #[.slice A n c] w fun e w'=>e= .returned (K4 (Pw (val a)))∧Below w.heap.size w w':=by
 have Ta:=ha.trim
 have na:=Kw ha.dig
 have va:Hid (val (trim a)=val a):=Kh a
 have hta:=Nw a n
 obtain⟨p,hp⟩:∃p,p=tlen a n:=⟨_,rfl⟩
 rw[←hp]at Ta hta
 have HP:=Km hp
 have Ha:=Km ha
 by_cases h0:p=0
 ·have hv0:Hid (val a=0):=by
   show _=_
   rw[←K3 va,List.length_eq_zero_iff.1 (Ta.len.trans h0)];rfl
  subst h0
  clear ha
  have HP2:Hid (tlen a n=0):=hp.symm
  clear hp
  go_enter Tryz.func61,Tryz.ntmps61
  go_wp2_with fail
  refine(Lu w (K3 Ha)).mono ?_
  rintro e w' ⟨rfl,rfl⟩
  rw[K3 HP2]
  go_wp2_with fail
  go_ret
  refine⟨?_,Below.refl _ _⟩
  rw[K3 hv0]
  rfl
 ·have hav:val a<2 ^ (32*n):=by rw[←Sj];exact Mi ha.dig (Nat.le_of_eq ha.len)
  have hav0:val a≠0:=by
   intro h
   rw[←K3 va]at h
   have h1:=na.zero h
   have h2:=Ta.len
   rw[h1]at h2
   simp only[List.length_nil]at h2
   omega
  have HV:=Km (And.intro hav hav0)
  have l0:((p:Int)==0)=false:=by simp;omega
  clear ha hp h0 hav hav0
  obtain⟨i0,hi0,hz0,hz1,hz2⟩:=info_parts Tryz.info_u8
  go_enter Tryz.func61,Tryz.ntmps61
  go_wp2_with fail
  refine(Lu w (K3 Ha)).mono ?_
  rintro e w' ⟨rfl,rfl⟩
  rw[←K3 HP]
  go_wp2_with fail
  go_loopg [0,3] (val a) (fun gk sa sb wx=>∃(X:Option Addr) (q r:Nat) (x:List Nat) (bs:List UInt8),sa= .slice X q r∧In wx X q r x∧q≤n∧Mx x∧Hid (val x=gk∧R9 bs+10 ^ bs.length*val x=val a∧Dc bs)∧wx.ownsRow w.heap.size 5 1 sb bs.length (u8s bs)∧Below w.heap.size w wx∧bs.length≤32*n+9)
  case atStart=>
   exact⟨A,p,p,trim a,[],rfl,Ta,hta,na,⟨K3 va,by rw[K3 va];simp[R9],Dc.nil⟩,World.ownsRow_nil _ _ _ _,Below.refl _ _,by simp⟩
  case round=>
   obtain⟨X,q,r,x,bs,rfl,hxi,hq,nx,hI,hown,hbx,hbsl⟩:=hrel
   have hqi:=hxi.lenI
   by_cases hq0:q=0
   ·have hd:R9 bs=val a:=by
     have h1:=(K3 hI).2.1
     rw[List.length_eq_zero_iff.1 (hxi.len.trans hq0),Ts]at h1
     omega
    have hbs:0<bs.length:=by
     rcases Nat.eq_zero_or_pos bs.length with h|h
     ·rw[List.length_eq_zero_iff.1 h]at hd
      have:=(K3 HV).2
      exact absurd hd.symm this
     ·exact h
    obtain⟨g,cap,hv,hgB,hgn,hgm,hrow⟩:=Yw.of_row hown hbs
    have hsml:bs.length≤cap:=hgn
    have HD:=Km (And.intro hd (K3 hI).2.2)
    subst hq0
    clear hd hown hI hbs
    subst hv
    have hcm:cap≤9223372036854775807:=by unfold maxLen at hgm;omega
    go_wp2_with fail
    go_loopw [3] (fun sb wx=>∃(l:List UInt8),sb= .slice (some ⟨g,0,none⟩) l.length cap∧l.length≤32*n+9∧l.length≤cap∧Yw wx g 5 cap (u8s l)∧Hid (R9 l=val a∧Dc l)∧Below w.heap.size w wx) (fun sb _=>sliceLen sb)
    case atStart=>exact⟨bs,rfl,hbsl,hgn,hrow,HD,hbx⟩
    case round=>
     obtain⟨l,rfl,hl32,hlc,hrow,hL,hbx⟩:=hrel
     have hne:l≠[]:=by
      intro e
      have:=(K3 hL).1
      rw[e]at this
      exact(K3 HV).2 this.symm
     obtain⟨l',b,hl'⟩:∃l' b,l=l'++ [b]:=⟨l.dropLast,l.getLast hne,(List.dropLast_concat_getLast hne).symm⟩
     have hll:l.length=l'.length+1:=by rw[hl'];simp
     obtain⟨k,hk⟩:∃k,k=l'.length:=⟨_,rfl⟩
     have hcell:=hrow.cell (i:=k) (by rw[V1];omega)
     rw[J4 Zo,show l[k]'Zo=b by subst hl';subst hk;simp]at hcell
     have hfz:=hrow.frozen k
     have hrow2:=hrow.take k
     rw[show(u8s l).take k=u8s l' by rw[hl',W4,hk,←V1 l',List.take_left]]at hrow2
     obtain⟨ln,hln⟩:∃ln,ln=l.length:=⟨_,rfl⟩
     rw[←hln]
     have l1:(ln:Int)-1=(k:Int):=by omega
     have l2:k<ln:=by omega
     have l3:k≤cap∧ln≤cap:=by omega
     have HL:=Km (And.intro hl' (And.intro hk hln))
     clear hl' hk hln hll hne hlc
     by_cases hb:b=48
     ·have t1:((b.toNat:Int)==48)=true:=by subst hb;rfl
      have HB:=Km hb
      clear hb
      go_wp2_with fail
      go_roundw
      case rel=>
       obtain⟨h1,h2,h3⟩:=K3 HL
       refine⟨l',by rw[h2],by omega,by omega,hrow2,⟨?_,?_⟩,hbx⟩
       ·rw[←(K3 hL).1,h1,K3 HB,dval_drop0]
       ·exact fun c hc=>(K3 hL).2 c (by rw[h1];simp[hc])
      case measure=>simp[sliceLen];omega
     ·have t1:((b.toNat:Int)==48)=false:=by
       simp
       intro h
       exact hb (UInt8.toNat_inj.1 (by simpa using(by omega:b.toNat=48)))
      have HB:=Km hb
      clear hb
      go_wp2_with fail
      rw[(K3 HL).2.2]
      refine(reverse_c _ g cap l hrow Zo).mono ?_
      rintro e w3 ⟨rfl,hrow3,hg3⟩
      have hconv:=run_convert_bytes_back (P:=Tryz.prog) w3 86 9 5 ⟨g,0,none⟩ cap l.reverse Tryz.underlying86 Tryz.underlying5 Tryz.underlying9 (fun j hj=>by
       rw[add_off,Nat.zero_add,hrow3.cell (by rw[V1];exact hj),J4 hj])
      rw[List.length_reverse]at hconv
      go_wp2_with fail
      go_ret
      refine⟨?_,?_⟩
      ·obtain⟨h1,h2,h3⟩:=K3 HL
       have h4:Pw (val a)=l.reverse:=by
        rw[Pw,if_neg (K3 HV).2,←(K3 hL).1,dec_unique (K3 hL).2 (by rw[h1];simp;exact K3 HB)]
       rw[h4]
       rfl
      ·exact hbx.grown hg3 hbx.size (fun k hk=>by injection hk with hk;omega)
   ·have hqp:0<q:=by omega
    have hx1:1≤val x:=by
     rcases Nat.eq_zero_or_pos (val x)with h|h
     ·have h1:=nx.zero h
      have h2:=hxi.len
      rw[h1]at h2
      simp only[List.length_nil]at h2
      omega
     ·exact h
    have hbl:bs.length<32*n:=dec_bound (K3 hI).2.1 hx1 (K3 HV).1
    have HX:=Km hx1
    clear hq0 hx1
    go_wp2_with fail
    refine(one_c 1000000000 wr hxi Zo Zo Zo).mono ?_
    rintro e w1 ⟨A1,n1,c1,l1,rfl,hN1,hv1,ho1,hw1⟩
    go_wp2_with fail
    have hownk:=hown.kept (row:=none) (only_of_below hw1 none) (by cases u3.ownBlock<;>simp)
    obtain⟨wo,rfl⟩:∃wo:World,wo=wr:=⟨_,rfl⟩
    have hrowb:Hid (∀k,u3.ownBlock=some k→k<wo.heap.size∨w1.heap.size≤k):=fun k hk=>Or.inl (hown.lt k hk).2
    have hb1:=hbx.trans (hw1.mono hbx.size)
    go_loopw [3,5,20] (fun sb sr sj wx=>∃(j rj:Nat) (bs':List UInt8),j≤9∧sj=Zi j∧sr= .int .u32 rj∧rj<4294967296∧Hid (bs'.length=bs.length+j)∧Hid (R9 bs'+10 ^ bs'.length*(rj+10 ^ (9-j)*val l1)=val a∧Dc bs'∧rj<10 ^ (9-j))∧
     wx.ownsRow w.heap.size 5 1 sb bs'.length (u8s bs')∧Below w.heap.size w wx∧w1.heap.size≤wx.heap.size∧Hid (∀k,wo.heap.size≤k→k<w1.heap.size→wx.heap[k]? =w1.heap[k]?)∧Hid (∀k,sb.ownBlock=some k→k<wo.heap.size∨w1.heap.size≤k)) (fun _ _ sj _=>9- (intOf sj).toNat)
    case atStart=>
     have hm:=Nat.mod_lt (val x) (show 0<1000000000 by omega)
     refine⟨0,val x%1000000000,bs,by omega,rfl,rfl,by omega,rfl,⟨?_,(K3 hI).2.2,by simpa using hm⟩,hownk,hb1,Nat.le_refl _,fun _ _ _=>rfl,hrowb⟩
     have e:=Nat.div_add_mod (val x) 1000000000
     rw[hv1,←(K3 hI).2.1]
     rw[show val x%1000000000+10 ^ (9-0)*(val x/1000000000)=val x by omega]
    case round=>
     obtain⟨j,rj,bs',hj,rfl,rfl,hrj,hbl',hJ,hownr,hbr,hsz1,hmid,hrb⟩:=hrel
     have hsz:w.heap.size≤wr.heap.size:=hbr.size
     by_cases hlt:j<9
     ·have hlen:bs'.length<32*n+9:=by have:=K3 hbl';omega
      go_wp2_with (first
       |(at_builtin;refine wpList_append_own_at _ rfl (.tmp 22) (.tmp 27) 86 rfl w.heap.size 5 i0 (.int .u8 0) 1 1 Tryz.underlying86 hi0 hz0 hz1 hz2 rfl Zd _ _ _ (by rfl) (hownr.alloc _) ⟨wr.heap.size,0,none⟩ 1 1 [.int .u8 (48+(rj:Int)%10)] rfl rfl (cell_one_new _ _ _) (by intro u hu;simp at hu;subst hu;rfl) (by simp only[maxLen];omega) Zo Zp ?_;intro v' w2 hown2 hg2 _ hat2))
      have hcd:=Uy (show rj%10<10 by omega)
      rw[show(48:Int)+(rj:Int)%10=((chr (rj%10)).toNat:Int) by rw[hcd];omega]at hown2
      have hown3:w2.ownsRow w.heap.size 5 1 v' (bs'++ [chr (rj%10)]).length (u8s (bs'++ [chr (rj%10)])):=by
       rw[W4,List.length_append];exact hown2
      have hb2:Below w.heap.size w w2:=(hbr.alloc hsz _).grown hg2 Zp (fun k hk=>(hownr.lt k hk).1)
      have hsz2:wr.heap.size+1≤w2.heap.size:=by have:=hg2.size;simpa using this
      have hmid2:Hid (∀k,wo.heap.size≤k→k<w1.heap.size→w2.heap[k]? =w1.heap[k]?):=by
       intro k h1 h2
       rw[hg2.block k Zp (fun e=>by have:=K3 hrb k e.symm;omega),Below.heap_alloc _ _ _ Zo]
       exact K3 hmid k h1 h2
      have hrb2:Hid (∀k,v'.ownBlock=some k→k<wo.heap.size∨w1.heap.size≤k):=by
       intro k hk
       rcases hat2 with e|e
       ·rw[e]at hk;exact K3 hrb k hk
       ·rw[e]at hk
        have:(wr.alloc (.cells #[.int .u8 (48+(rj:Int)%10)] 5)).heap.size=k:=by injection hk
        simp at this
        right;omega
      clear hown2 hg2 hat2 hownr hcd
      go_wp2_with fail
      go_roundw
      case rel=>
       obtain⟨hJ1,hJ2,hJ3⟩:=K3 hJ
       refine⟨j+1,rj/10,_,by omega,by go_num,by go_num,by omega,?_,⟨?_,hJ2.append (Dc.chr Zo),?_⟩,hown3,hb2,by omega,hmid2,hrb2⟩
       ·show _=_
        rw[List.length_append,K3 hbl'];simp;omega
       ·rw[show 9-j=(9- (j+1))+1 by omega]at hJ1
        exact dec_step hJ1
       ·rw[show 9-j=(9- (j+1))+1 by omega,Nat.pow_succ]at hJ3
        omega
      case measure=>simp[intOf];omega
     ·obtain rfl:j=9:=by omega
      have hin:=(ho1.mid hsz1 (K3 hmid)).toIn
      go_wp2_with fail
      obtain⟨hJ1,hJ2,hJ3⟩:=K3 hJ
      have hr0:rj=0:=by simpa using hJ3
      have hlt1:val l1<val x:=by have:=K3 HX;omega
      go_roundg (val l1)
      case measure=>have:=(K3 hI).1;omega
      case rel=>
       have hn1:n1≤n:=by
        have h1:=hN1.length_le (Nat.lt_trans hlt1 (Gd hxi.dig))
        have:=ho1.len;have:=hxi.len
        omega
       refine⟨A1,n1,c1,l1,bs',rfl,hin,hn1,hN1,⟨rfl,?_,hJ2⟩,hownr,hbr,by have:=K3 hbl';omega⟩
       rw[hr0]at hJ1
       simpa using hJ1
end Go.Proofs.YtoeiphicmcndlaaGreatDoor
