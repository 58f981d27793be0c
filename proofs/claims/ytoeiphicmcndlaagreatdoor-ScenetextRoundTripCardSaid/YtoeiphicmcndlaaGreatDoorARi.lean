/-
 Quotients and common divisors.
-/
import Derived.Test.YtoeiphicmcndlaaGreatDoorARh
import Derived.Test.YtoeiphicmcndlaaGreatDoorAWj
import Derived.Test.YtoeiphicmcndlaaGreatDoorARdd
namespace Go.Proofs.YtoeiphicmcndlaaGreatDoor
set_option maxRecDepth 100000
set_option maxHeartbeats 8000000
set_option linter.unusedVariables false
set_option linter.unusedSimpArgs false
open Go.RowKit
theorem cons_own{w:World}{B k x:Nat}{v:Value}{d:Nat}{l:List Nat}{X:Int}(h:w.ownsRow B 175 1 v (k+1+1) (Of (d::l)++ [.int .u32 X]))(hX:X=(x:Int)):w.ownsRow B 175 1 v (k+1+1) (Of (d::(l++ [x]))):=by
 rw[←List.cons_append];exact R0 h hX
theorem I8{A B:Option Addr}{n c m d:Nat}{a b:List Nat}(w:World)(ha:In w A n c a)(hb:In w B m d b)(hn:n≤17179869184)(hm:m≤17179869184):
 Calls Tryz.prog 273 #[.slice A n c,.slice B m d] w (Dd w (val a) (val b)):=by
 have hla:=Mi ha.dig (Nat.le_of_eq ha.len)
 go_enter Tryz.func273,Tryz.ntmps273
 go_wp2_with fail
 refine(Ls w hb Zo).mono ?_
 rintro e w1 ⟨At,nt,ct,rfl,ot,hw⟩
 have Nt:=Kw hb.dig
 have vt:=Kh b
 have hl:=ot.toIn.len
 have ht:(trim b).length≤m:=by have:=Og b;have:=hb.len;omega
 obtain⟨l,hlt⟩:∃l,l=trim b:=⟨_,rfl⟩
 rw[←hlt]at ot Nt vt hl ht
 have hnt:nt≤m:=by omega
 have it:=ot.toIn
 have ia1:=ha.below hw
 have hb1:=hw
 clear hlt ht ot hw ha hb
 by_cases h0:nt=0
 ·subst h0
  have hv:val b=0:=by rw[←vt,List.length_eq_zero_iff.1 hl];rfl
  have HV:=Km hv
  clear hl hv vt
  go_wp2_with fail
  go_ret3
  have hv:=K3 HV
  exact⟨none,0,0,[],none,0,0,[],by rw[hv];rfl,Mx.nil,by rw[hv,Nat.div_zero];rfl,Mx.nil,by rw[hv];rfl,Py.nil_,Py.nil_,hb1⟩
 ·obtain⟨p,rfl⟩:∃p,nt=p+1:=⟨nt-1,by omega⟩
  have hd0:dg l p≠0:=by
   rcases Nt.2 with e|e
   ·rw[e]at hl;simp at hl
   ·rw[hl]at e;exact e
  have htb:=W7 Nt.dig hl hd0
  have hns:=norm_shift Nt.dig hl hd0
  have hl32:=Xi (Nt.dig p)
  obtain⟨s,hs⟩:∃s,s=32-Lib.bitLen (dg l p):=⟨_,rfl⟩
  rw[←hs]at hns
  have hsi:32*((p:Int)+1)- (bitsN (val l):Int)=(s:Int):=by omega
  have hs32:s≤32:=by omega
  have t0:((p:Int)+1==0)=false:=by simp;omega
  have hvb:0<val b:=by
   have h1:=Xu (l.length-1)
   have h2:=Nt.pos (by rintro rfl;simp at hl)
   omega
  rw[vt]at hns hsi
  have F:=Km (And.intro hns (And.intro vt hvb))
  clear hl hd0 htb hns hs h0 vt hvb
  go_wp2_with fail
  refine(I9 _ it Zo).mono ?_
  rintro e w2 ⟨rfl,hw⟩
  rw[(K3 F).2.1]
  replace ia1:=ia1.below hw
  replace it:=it.below hw
  replace hb1:=hb1.trans (hw.mono hb1.size)
  clear hw
  go_wp2_with fail
  refine(E4 s _ ia1 Zo Zo Zo).mono ?_
  rintro e w3 ⟨Au,nu,cu,u,rfl,Nu,vu,ou,hw⟩
  replace it:=it.below hw
  replace hb1:=hb1.trans (hw.mono hb1.size)
  have iu:=ou.toIn
  clear hw ia1 ou
  go_wp2_with fail
  refine(E4 s _ it Zo Zo Zo).mono ?_
  rintro e w4 ⟨Av,nv,cv,v,rfl,Nv,vv,ov,hw⟩
  replace iu:=iu.below hw
  replace hb1:=hb1.trans (hw.mono hb1.size)
  have iv:=ov.toIn
  have hvu:val u=val a*2 ^ s:=by
   rw[vu,B5,if_pos Zo];congr 2;omega
  have hvv:val v=val b*2 ^ s:=by
   rw[vv,B5,if_pos Zo,(K3 F).2.1];congr 2;omega
  have hnv:nv=p+1:=by
   obtain⟨⟨h1,h2⟩,_⟩:=K3 F
   have h3:=Nv.length_le (k:=p+1) (by rw[hvv];exact h2)
   have h4:=len_ge (k:=p) Nv.dig (by rw[hvv];have:=Xu p;omega)
   rw[iv.len]at h3 h4
   omega
  have hnu:nu≤n+2:=by
   have h3:=Nu.length_le (k:=n+2) (by
    rw[hvu]
    have h4:2 ^ s≤2 ^ 32:=Nat.pow_le_pow_right Zo hs32
    have h5:val a*2 ^ s<pw n*4294967296:=Nat.mul_lt_mul_of_lt_of_le hla h4 Zo
    rw[←M3]at h5
    exact Nat.lt_of_lt_of_le h5 (Aa Zo))
   rw[iu.len]at h3
   exact h3
  subst hnv
  have htop:0<dg v p:=by
   have:=top_digit Nv.dig iv.len (by rw[hvv];exact(K3 F).1.1)
   omega
  have G:=Km (And.intro hvu (And.intro hvv (And.intro iu.len (K3 F).2.2)))
  have hvpos:0<val v:=by rw[hvv];exact Nat.mul_pos (K3 F).2.2 (Rc s)
  have HVP:=Km hvpos
  clear hvu hvv vu vv hw ov it F hvpos hla
  have hmk:=fun W=>Nk W (nu:Int) nu rfl Zo
  obtain⟨i0,hi0,hz0,hz1,hz2⟩:=info_parts Tryz.info_u32
  go_wp2_with fail
  go_loopw [12,13] (fun sr si wx=>∃(k X2 X3:Nat) (z:Int) (o x:List Nat) (X:Option Addr),k≤nu∧z+1=k∧si=Zi z∧sr= .slice X X2 X3∧Hid (o.length=nu∧N8 o∧val (o.drop k)*val v+val x=val (u.drop k)∧val x<val v)∧X2≤p+1∧Mx x∧Py wx (w4.heap.size+1) X X2 X3 x∧Mk wx w4.heap.size 175 o∧Below w4.heap.size w4 wx) (fun _ si _=>(intOf si+1).toNat)
  case atStart=>
   refine⟨nu,0,0,(nu:Int)-1,_,[],_,Nat.le_refl _,by omega,rfl,rfl,⟨by simp,N8.replicate nu,?_,?_⟩,Nat.zero_le _,Mx.nil,?_,(Mk.zero w4 nu).alloc _,((Below.refl _ _).alloc (Nat.le_refl _) _).alloc Zs _⟩
   ·rw[Sa (l:=u) (by rw[(K3 G).2.2.1];exact Nat.le_refl _),Sa Zs,Nat.zero_mul];rfl
   ·exact K3 HVP
   ·have:=own_empty (w4.alloc (.cells (zs nu) 175))
    simpa using this
  case round=>
   obtain⟨k,X2,X3,z,o,x,X,hk,hz,rfl,rfl,hI,hX2,Nx,ox,hmo,hbx⟩:=hrel
   obtain⟨wo,rfl⟩:∃wo:World,wo=wr:=⟨_,rfl⟩
   have hszo:=hbx.size
   have hlo:=hmo.lt
   by_cases hk0:k=0
   ·subst hk0
    obtain rfl:z= -1:=by omega
    clear hz
    obtain⟨h1,h2,h3,h4⟩:=K3 hI
    have ho:=hmo.own h2 (Nat.le_refl _) (by rw[h1];unfold maxLen;omega)
    rw[h1]at ho
    obtain⟨g1,g2,g3,g4⟩:=K3 G
    have ix:=ox.toIn
    have hq:=Ef h3 h4
    simp only[List.drop_zero]at hq
    rw[g1,g2,Nat.mul_div_mul_right _ _ (Rc s),Nat.mul_mod_mul_right]at hq
    have HQ:=Km (And.intro hq g4)
    clear h1 h3 h4 g1 g2 g3 hq g4
    go_wp2_with fail
    refine(Ls _ ho.toIn Zo).mono ?_
    rintro e w5 ⟨A5,n5,c5,rfl,o5,hw5⟩
    go_wp2_with fail
    refine(E4 (-(s:Int)) _ (ix.below hw5) Zo Zo Zo).mono ?_
    rintro e w6 ⟨A6,n6,c6,l6,rfl,N6,v6,o6,hw6⟩
    go_wp2_with fail
    go_ret3
    obtain⟨⟨q1,q2⟩,g4⟩:=K3 HQ
    have hb4:=hb1.trans (hbx.mono hb1.size)
    have hb5:=hb4.trans (hw5.mono hb4.size)
    refine⟨A5,n5,c5,trim o,A6,n6,c6,l6,by rw[Bz Zo];rfl,Kw h2,by rw[Kh];exact q1,N6,?_,(o5.below hw6).base hb4.size,o6.base hb5.size,hb5.trans (hw6.mono hb5.size)⟩
    rw[v6,Wj,Vf Zo,q2,Nat.mul_div_cancel _ (Rc s)]
   ·obtain⟨j,rfl⟩:∃j,k=j+1:=⟨k-1,by omega⟩
    obtain rfl:z=(j:Int):=by omega
    clear hz hk0
    obtain⟨ad,hA,hca⟩:=(iu.below hbx).at_ (k:=j) Zo
    have hx:=iu.dig j
    subst hA
    have hjn:(j:Int)<(nu:Int):=by omega
    have hcn:nu≤cu:=iu.le
    go_wp2_with fail
    have own1:(wo.alloc (.cells #[.int .u32 (dg u j:Int)] 175)).ownsRow wo.heap.size 175 1 (.slice (some ⟨wo.heap.size,0,none⟩) 1 1) 1 (Of (dg u j::x.take 0)):=World.ownsRow_lit _ _ _ (Nat.le_refl _) (by unfold maxLen;omega) rfl
    have hX3:=ox.le
    have hX3':=ox.cap
    unfold maxLen at hX3'
    have ix:=ox.toIn
    go_loopw [14,15] (fun so si wx=>∃i:Nat,i≤X2∧si=Zi i∧wx.ownsRow wo.heap.size 175 1 so (i+1) (Of (dg u j::x.take i))∧Below wo.heap.size wo wx) (fun _ si _=>X2- (intOf si).toNat)
    case atStart=>exact⟨0,Nat.zero_le _,rfl,own1,S8 _ _⟩
    case round=>
     obtain⟨i,hi,rfl,hownr,hbi⟩:=hrel
     have hszi:=hbi.size
     by_cases hlt:i<X2
     ·obtain⟨ax,hAx,hcx⟩:=(ix.below hbi).at_ (k:=i) hlt
      have hix:(i:Int)<(X2:Int):=by omega
      subst hAx
      clear own1
      go_wp2_with (first
       |(at_builtin;refine wpList_append_own_at _ rfl (.tmp 57) (.tmp 62) 36 rfl wo.heap.size 175 i0 (.int .u32 0) 1 4 Tryz.underlying36 hi0 hz0 hz1 hz2 rfl Zd _ _ _ (by rfl) (hownr.alloc _) ⟨wr.heap.size,0,none⟩ 1 1 [.int .u32 _] rfl rfl (cell_one_new _ _ _) (by intro u hu;simp at hu;subst hu;rfl) (by simp only[maxLen];omega) Zo Zp ?_;intro v' w2 hown2 hg2 _ hat2))
      have hown3:=cons_own (x:=dg x i) hown2 rfl
      have hb2:Below wo.heap.size wo w2:=(hbi.alloc hbi.size _).grown hg2 (by have:=hbi.size;simp;omega) (fun k hk=>(hownr.lt k hk).1)
      clear hown2 hg2 hat2 hownr
      go_wp2_with fail
      go_roundw
      case rel=>
       refine⟨i+1,by omega,by go_num,?_,hb2⟩
       rw[List.take_succ_eq_append_getElem (by rw[ix.len];omega),←dg_in]
       exact hown3
      case measure=>simp[intOf];omega
     ·obtain rfl:i=X2:=by omega
      have hix:¬(i:Int)<(i:Int):=by omega
      rw[List.take_of_length_le (Nat.le_of_eq ix.len)]at hownr
      obtain⟨A5,c5,rfl,o5⟩:=Py.of_row hownr (N8.cons hx Nx.dig) (by rw[List.length_cons,ix.len])
      clear own1 hownr
      go_wp2_with fail
      refine(Ls _ o5.toIn Zo).mono ?_
      rintro e w5 ⟨A6,n6,c6,rfl,o6,hw6⟩
      have N6:=Kw o5.dig
      have v6:val (trim (dg u j::x))=dg u j+4294967296*val x:=by rw[Kh,Tz]
      have hn6:n6≤p+2:=by
       have h1:=Og (dg u j::x)
       rw[o6.len,List.length_cons,ix.len]at h1
       omega
      obtain⟨l6,hl6⟩:∃l6,l6=trim (dg u j::x):=⟨_,rfl⟩
      rw[←hl6]at N6 v6 o6
      have hb5:Below wo.heap.size wo w5:=hbi.trans (hw6.mono hszi)
      have hb5':Below w4.heap.size w4 w5:=hbx.trans (hb5.mono hszo)
      have hlt6:val l6<4294967296*val v:=by
       have:=(K3 hI).2.2.2
       omega
      have V6:=Km v6
      clear hl6 v6 o5 hw6
      go_wp2_with fail
      refine(refOften_c _ o6.toIn (iv.below hb5') hn6 Zo htop hlt6).mono ?_
      rintro e w6 ⟨A7,n7,c7,l7,rfl,N7,v7,o7,hw7⟩
      obtain⟨dd,hdd⟩:∃dd,dd=val l6/val v:=⟨_,rfl⟩
      rw[←hdd]
      have hb6:Below wo.heap.size wo w6:=hb5.trans (hw7.mono hb5.size)
      have hdd32:dd<4294967296:=by
       rw[hdd]
       exact(Nat.div_lt_iff_lt_mul (K3 HVP)).2 hlt6
      have DD:=Km (And.intro hdd v7)
      clear hdd v7 hlt6
      have hmo6:=hmo.below hb6 hlo
      obtain⟨h1,h2,h3,h4⟩:=K3 hI
      have hcq:=hmo6.cell (i:=j) (by rw[h1];omega)
      have hfq:=hmo6.frozen j
      have H1:=Km (And.intro h1 (And.intro h3 h4))
      clear h1 h3 h4
      go_wp2_with fail
      have hst:=hmo6.set_ j dd
      go_roundw
      case rel=>
       obtain⟨h1,h3,h4⟩:=K3 H1
       obtain⟨hdd,v7⟩:=K3 DD
       refine⟨j,n7,c7,(j:Int)-1,_,l7,A7,by omega,by omega,rfl,rfl,⟨by rw[List.length_set];exact h1,h2.set _ hdd32,?_,?_⟩,?_,N7,?_,hst,(hbx.trans (hb6.mono hszo)).setCell (Nat.le_refl _) _⟩
       ·refine div_step (r:=val x) (d:=val v) (by rw[(K3 G).2.2.1];omega) (by rw[h1];omega) h3 ?_ ?_
        ·rw[hdd,K3 V6,Nat.add_comm,Nat.mul_comm]
        ·rw[v7,K3 V6,Nat.add_comm,Nat.mul_comm]
       ·rw[v7];exact Nat.mod_lt _ (K3 HVP)
       ·have h5:=N7.length_le (k:=p+1) (by
         rw[v7]
         exact Nat.lt_trans (Nat.mod_lt _ (K3 HVP)) (Mi iv.dig (Nat.le_of_eq iv.len)))
        rw[o7.len]at h5
        exact h5
       ·refine(o7.base (B':=w4.heap.size+1) (by have:=hb5.size;omega)).mid (by simp[World.setCell]) (fun k hk1 hk2=>Below.heap_setCell _ _ _ _ Zp)
      case measure=>simp[intOf]
theorem refGcd_c{A B:Option Addr}{n c m d:Nat}{a b:List Nat}(w:World)(ha:In w A n c a)(hb:In w B m d b)(hn:n≤17179869184)(hm:m≤17179869184):
 Calls Tryz.prog 244 #[.slice A n c,.slice B m d] w (Tq w (Nat.gcd (val a) (val b))):=by
 have hla:=Og a
 have hlb:=Og b
 rw[ha.len]at hla
 rw[hb.len]at hlb
 have na:=Kw ha.dig
 have nb:=Kw hb.dig
 have va:Hid (val (trim a)=val a):=Kh a
 have vb:Hid (val (trim b)=val b):=Kh b
 go_enter Tryz.func244,Tryz.ntmps244
 go_wp2_with fail
 refine(Ls w ha Zo).mono ?_
 rintro e w1 ⟨A1,n1,c1,rfl,ho1,hw1⟩
 go_wp2_with fail
 refine(Ls w1 (hb.below hw1) Zo).mono ?_
 rintro e w2 ⟨A2,n2,c2,rfl,ho2,hw2⟩
 go_wp2_with fail
 have hn1:=ho1.len
 have hn2:=ho2.len
 go_loopg [5,6] (val b) (fun gk sa sb wx=>∃(X Y:Option Addr) (p r q s:Nat) (x y:List Nat),sa= .slice X p r∧sb= .slice Y q s∧Hid (val y=gk)∧Py wx w.heap.size X p r x∧Py wx w.heap.size Y q s y∧Mx x∧Mx y∧p≤17179869184∧q≤17179869184∧
  Hid (Nat.gcd (val x) (val y)=Nat.gcd (val a) (val b))∧Below w.heap.size w wx)
 case atStart=>
  exact⟨A1,A2,n1,c1,n2,c2,trim a,trim b,rfl,rfl,Kh b,ho1.below hw2,ho2.base hw1.size,na,nb,by omega,by omega,(by show _=_;rw[Kh,Kh]),hw1.trans (hw2.mono hw1.size)⟩
 case round=>
  obtain⟨X,Y,p,r,q,s,x,y,rfl,rfl,hk,hox,hoy,nx,ny,hp,hq,hg,hbx⟩:=hrel
  have hqi:=hoy.toIn.lenI
  by_cases h0:q=0
  ·have hy0:y=[]:=List.length_eq_zero_iff.1 (by rw[hoy.len];exact h0)
   have hg':Hid (val x=Nat.gcd (val a) (val b)):=by
    have:=K3 hg
    rw[hy0,Ts,Nat.gcd_zero_right]at this
    exact this
   subst h0
   clear hy0
   go_wp2_with fail
   go_ret
   exact⟨X,p,r,x,rfl,nx,K3 hg',hox,hbx⟩
  ·have hy0:val y≠0:=by
    intro h
    have h1:=ny.zero h
    have h2:=hoy.len
    rw[h1]at h2
    simp only[List.length_nil]at h2
    omega
   have hqp:0<q:=by omega
   clear h0
   go_wp2_with fail
   refine(I8 wr hox.toIn hoy.toIn hp hq).mono ?_
   rintro e w3 ⟨A3,n3,c3,l3,A4,n4,c4,l4,rfl,hN3,hv3,hN4,hv4,ho3,ho4,hw3⟩
   rw[Vf hy0]at hv4
   have hlt4:val l4<val y:=by rw[hv4];exact Nat.mod_lt _ Zo
   have hn4:n4≤17179869184:=by
    have h1:=hN4.length_le (Nat.lt_trans hlt4 (Gd hoy.dig))
    have:=ho4.len;have:=hoy.len
    omega
   have F:=Km (And.intro hv3 (And.intro hv4 (And.intro hlt4 hy0)))
   clear hv3 hv4 hlt4 hy0
   go_wp2_with fail
   go_roundg (val l4)
   case measure=>have:=K3 hk;have:=(K3 F).2.2.1;omega
   case rel=>
    refine⟨Y,A4,q,s,n4,c4,y,l4,rfl,rfl,rfl,hoy.below hw3,ho4.base hbx.size,ny,hN4,hq,hn4,?_,hbx.trans (hw3.mono hbx.size)⟩
    show _=_
    rw[(K3 F).2.1,←K3 hg,Nat.gcd_comm (val x),Nat.gcd_rec (val y) (val x),Nat.gcd_comm]
end Go.Proofs.YtoeiphicmcndlaaGreatDoor
