/-
 Scenes as arguments; which are small.
-/
import Derived.Test.YtoeiphicmcndlaaGreatDoorPG
import Derived.Test.YtoeiphicmcndlaaGreatDoorFJ
import Derived.Test.YtoeiphicmcndlaaGreatDoorFN
namespace Go.Proofs.YtoeiphicmcndlaaGreatDoor
set_option maxRecDepth 100000
set_option maxHeartbeats 8000000
set_option linter.unusedVariables false
set_option linter.unusedSimpArgs false
open Go.RowKit
section
open Go.RowKit
--ATNAMES
def shSgm:Sh:= .cons 1 (.int .i64) (.cons 2 shPnt (.cons 2 shPnt (.cons 2 shPnt .nil)))
def shDash:Sh:= .int .i64
def shSty:Sh:= .cons 1 (.int .i64) (.cons 1 (.int .i64) (.cons 1 (.int .i64) (.cons 1 (.int .i64) (.cons 1 (.sl 1 shDash) (.cons 1 (.int .i64) .nil)))))
def shNode:Sh:= .cons 1 (.int .i64) (.cons 1 (.int .i64) (.cons 1 (.int .i64) (.cons 24 shAff (.cons 1 (.sl 7 shSgm) (.cons 1 (.int .i64) (.cons 1 (.int .u8) (.cons 1 (.int .i64) (.cons 1 .bool (.cons 1 .bool (.cons 1 (.sl 7 shSgm) (.cons 1 (.int .i64) (.cons 1 (.sl 40 J9) (.cons 6 shSty (.cons 1 (.sl 40 J9) (.cons 3 shImg (.cons 1 (.int .i64) .nil))))))))))))))))
def shScene:Sh:= .cons 1 (.int .i64) (.cons 1 (.int .i64) (.cons 4 shCol (.cons 1 (.sl 47 shNode) .nil)))
structure PRaw(P:Pn)(q:PM)(w:World):Prop where
 st:Ma w q.sA P.stops.length 5 Ri P.stops
 px:Ma w q.xA P.im.px.length 4 Oa P.im.px
 tr:InT q.t w
structure It(w:World)(A:Option Addr)(l:List (Pn×PM))(Ps:List Pn):Prop where
 eq:l.map (·.1)=Ps
 row:Ma w A Ps.length 40 pC2 l
 rd:∀x∈l,PRaw x.1 x.2 w
structure NRaw(N:Nd)(q:ND)(w:World):Prop where
 tr:InT q.t w
 cl:Qt w q.clA N.clip.length N.clip
 pa:Qt w q.paA N.path.length N.path
 fi:It w q.fiA q.fl N.fill
 da:Ma w q.daA N.sty.d.length 1 daC N.sty.d
 st:It w q.stA q.sl N.stroke
 px:Ma w q.pxA N.im.px.length 4 Oa N.im.px
structure NsRaw(w:World)(A:Option Addr)(l:List (Nd×ND))(Ns:List Nd):Prop where
 eq:l.map (·.1)=Ns
 row:Ma w A Ns.length 47 (fun x=>X9 x.1 x.2) l
 rd:∀x∈l,NRaw x.1 x.2 w
section
variable{w w1:World}{cs:List Value}{A:Option Addr}{n c m:Nat}{l:List (Pn×PM)}{Ps:List Pn}{N:Nd}{q:ND}{P:Pn}{p:PM}{nl:List (Nd×ND)}{Ns:List Nd}
theorem InT.below{t:TV}(h:InT t w)(hw:Below w.heap.size w w1):InT t w1:=⟨⟨h.a.1.below hw,h.a.2.below hw⟩,⟨h.b.1.below hw,h.b.2.below hw⟩,⟨h.c.1.below hw,h.c.2.below hw⟩,⟨h.d.1.below hw,h.d.2.below hw⟩,⟨h.e.1.below hw,h.e.2.below hw⟩,⟨h.f.1.below hw,h.f.2.below hw⟩⟩
theorem PRaw.below(h:PRaw P p w)(hw:Below w.heap.size w w1):PRaw P p w1:=⟨h.st.below hw,h.px.below hw,h.tr.below hw⟩
theorem It.below(h:It w A l Ps)(hw:Below w.heap.size w w1):It w1 A l Ps:=⟨h.eq,h.row.below hw,fun x hx=>(h.rd x hx).below hw⟩
theorem NRaw.below(h:NRaw N q w)(hw:Below w.heap.size w w1):NRaw N q w1:=⟨h.tr.below hw,h.cl.below hw,h.pa.below hw,h.fi.below hw,h.da.below hw,h.st.below hw,h.px.below hw⟩
theorem NsRaw.below(h:NsRaw w A nl Ns)(hw:Below w.heap.size w w1):NsRaw w1 A nl Ns:=⟨h.eq,h.row.below hw,fun x hx=>(h.rd x hx).below hw⟩
theorem rd_seg(h:Rd w shSgm cs):∃s:Sg,cs=s.cl:=by
 obtain⟨_,_,rfl,_,h1,h⟩:=Kk h
 obtain⟨_,_,rfl,_,h2,h⟩:=Kk h
 obtain⟨_,_,rfl,_,h3,h⟩:=Kk h
 obtain⟨_,_,rfl,_,h4,h⟩:=Kk h
 obtain rfl:=h
 obtain⟨v,rfl,_⟩:=h1
 obtain⟨ax,ay,rfl⟩:=Ww h2
 obtain⟨bx,by_,rfl⟩:=Ww h3
 obtain⟨cx,cy,rfl⟩:=Ww h4
 exact⟨⟨v,ax,ay,bx,by_,cx,cy⟩,rfl⟩
theorem rd_dash(h:Rd w shDash cs):∃z:Int,cs=daC z:=by
 obtain⟨z,rfl,_⟩:=h
 exact⟨z,rfl⟩
theorem rd_rowB{α:Type}{n:Nat}{e:Sh}{cl:α→List Value}{R:α→Prop}(he:∀xs,Rd w e xs→∃x,xs=cl x∧R x)(h:Rd w (.sl n e) cs):∃(A:Option Addr) (cap:Nat) (l:List α),cs=[.slice A l.length cap]∧Ma w A l.length n cl l∧∀x∈l,R x:=by
 obtain⟨A,c,l,h1,h2⟩:=Z9 (cl:=fun x:{x:α // R x}=>cl x.1) (fun xs hx=>by obtain⟨x,h1,h2⟩:=he xs hx;exact⟨⟨x,h2⟩,h1⟩) h
 refine⟨A,c,l.map (·.1),by rw[List.length_map];exact h1,⟨rfl,fun k x hk=> ?_⟩,fun x hx=> ?_⟩
 ·rw[List.getElem?_map]at hk
  obtain⟨y,hy,rfl⟩:=Option.map_eq_some_iff.1 hk
  exact h2.2 k y hy
 ·obtain⟨y,_,rfl⟩:=List.mem_map.1 hx
  exact y.2
theorem psraw_of{l:List (Pn×PM)}(h:Ma w A l.length 40 pC2 l)(h2:∀x∈l,PRaw x.1 x.2 w):It w A l (l.map (·.1)):=⟨rfl,by rw[List.length_map];exact h,h2⟩
theorem rd_paints(h:Rd w (.sl 40 J9) cs):∃(A:Option Addr) (cap:Nat) (l:List (Pn×PM)),cs=[.slice A (l.map (·.1)).length cap]∧It w A l (l.map (·.1)):=by
 obtain⟨A,cap,l,h1,h2,h3⟩:=rd_rowB (cl:=pC2) (R:=fun x=>PRaw x.1 x.2 w) (fun xs hx=>by obtain⟨P,q,e,k1,k2,k3⟩:=rd_paint hx;exact⟨(P,q),e,k1,k2,k3⟩) h
 exact⟨A,cap,l,by rw[List.length_map];exact h1,psraw_of h2 h3⟩
theorem rd_node(h:Rd w shNode cs):∃(N:Nd) (q:ND),cs=X9 N q∧NRaw N q w:=by
 obtain⟨_,_,rfl,_,h1,h⟩:=Kk h
 obtain⟨_,_,rfl,_,h2,h⟩:=Kk h
 obtain⟨_,_,rfl,_,h3,h⟩:=Kk h
 obtain⟨_,_,rfl,_,h4,h⟩:=Kk h
 obtain⟨_,_,rfl,_,h5,h⟩:=Kk h
 obtain⟨_,_,rfl,_,h6,h⟩:=Kk h
 obtain⟨_,_,rfl,_,h7,h⟩:=Kk h
 obtain⟨_,_,rfl,_,h8,h⟩:=Kk h
 obtain⟨_,_,rfl,_,h9,h⟩:=Kk h
 obtain⟨_,_,rfl,_,h10,h⟩:=Kk h
 obtain⟨_,_,rfl,_,h11,h⟩:=Kk h
 obtain⟨_,_,rfl,_,h12,h⟩:=Kk h
 obtain⟨_,_,rfl,_,h13,h⟩:=Kk h
 obtain⟨_,_,rfl,_,h14,h⟩:=Kk h
 obtain⟨_,_,rfl,_,h15,h⟩:=Kk h
 obtain⟨_,_,rfl,_,h16,h⟩:=Kk h
 obtain⟨_,_,rfl,_,h17,h⟩:=Kk h
 obtain rfl:=h
 obtain⟨id,rfl,_⟩:=h1
 obtain⟨kd,rfl,_⟩:=h2
 obtain⟨dp,rfl,_⟩:=h3
 obtain⟨t,rfl,ht⟩:=rd_aff h4
 obtain⟨clA,clc,cl,rfl,hcl⟩:=Z9 (fun xs=>rd_seg) h5
 obtain⟨cr,rfl,_⟩:=h6
 obtain⟨op,rfl⟩:=rd_u8 h7
 obtain⟨bl,rfl,_⟩:=h8
 obtain⟨iso,rfl⟩:=h9
 obtain⟨ko,rfl⟩:=h10
 obtain⟨paA,pac,pa,rfl,hpa⟩:=Z9 (fun xs=>rd_seg) h11
 obtain⟨fr,rfl,_⟩:=h12
 obtain⟨fiA,fic,fl,rfl,hfi⟩:=rd_paints h13
 obtain⟨_,_,rfl,_,s1,h⟩:=Kk h14
 obtain⟨_,_,rfl,_,s2,h⟩:=Kk h
 obtain⟨_,_,rfl,_,s3,h⟩:=Kk h
 obtain⟨_,_,rfl,_,s4,h⟩:=Kk h
 obtain⟨_,_,rfl,_,s5,h⟩:=Kk h
 obtain⟨_,_,rfl,_,s6,h⟩:=Kk h
 obtain rfl:=h
 obtain⟨sw,rfl,_⟩:=s1
 obtain⟨sj,rfl,_⟩:=s2
 obtain⟨sc,rfl,_⟩:=s3
 obtain⟨sm,rfl,_⟩:=s4
 obtain⟨daA,dac,da,rfl,hda⟩:=Z9 (fun xs=>rd_dash) s5
 obtain⟨sp,rfl,_⟩:=s6
 obtain⟨stA,stc,sl,rfl,hst⟩:=rd_paints h15
 obtain⟨_,_,rfl,_,i1,h⟩:=Kk h16
 obtain⟨_,_,rfl,_,i2,h⟩:=Kk h
 obtain⟨_,_,rfl,_,i3,h⟩:=Kk h
 obtain rfl:=h
 obtain⟨iw,rfl,_⟩:=i1
 obtain⟨ih,rfl,_⟩:=i2
 obtain⟨pxA,pxc,px,rfl,hpx⟩:=Z9 (fun xs=>Wx) i3
 obtain⟨sa,rfl,_⟩:=h17
 exact⟨⟨id,kd,dp,Px,cl,cr,op,bl,iso,ko,pa,fr,fl.map (·.1),⟨sw,sj,sc,sm,da,sp⟩,sl.map (·.1),⟨iw,ih,px⟩,sa⟩,⟨t,clA,clc,paA,pac,fiA,fic,fl,daA,dac,stA,stc,sl,pxA,pxc⟩,rfl,ht,hcl,hpa,hfi,hda,hst,hpx⟩
theorem rd_cap{n c:Nat}{e:Sh}(h:Rd w (.sl n e) [.slice A m c]):m≤c∧c≤maxLen:=by
 obtain⟨A',n',c',e,h1,h2,_⟩:=h
 simp only[List.cons.injEq,Value.slice.injEq,and_true]at e
 obtain⟨rfl,rfl,rfl⟩:=e
 exact⟨h1,h2⟩
theorem rd_scene(h:Rd w shScene cs):∃(S:Sc) (y:Option Addr×Nat) (nl:List (Nd×ND)),cs=soC S y∧NsRaw w y.1 nl S.nds∧S.nds.length≤y.2∧y.2≤maxLen:=by
 obtain⟨_,_,rfl,_,h1,h⟩:=Kk h
 obtain⟨_,_,rfl,_,h2,h⟩:=Kk h
 obtain⟨_,_,rfl,_,h3,h⟩:=Kk h
 obtain⟨_,_,rfl,_,h4,h⟩:=Kk h
 obtain rfl:=h
 obtain⟨x,rfl,_⟩:=h1
 obtain⟨y,rfl,_⟩:=h2
 obtain⟨c,rfl⟩:=Wx h3
 obtain⟨A,cap,l,rfl,h5,h6⟩:=rd_rowB (cl:=fun x:Nd×ND=>X9 x.1 x.2) (R:=fun x=>NRaw x.1 x.2 w) (fun xs hx=>by obtain⟨N,q,e,k⟩:=rd_node hx;exact⟨(N,q),e,k⟩) h4
 exact⟨⟨x,y,c,l.map (·.1)⟩,(A,cap),l,by simp[soC,Oa],⟨rfl,by rw[List.length_map];exact h5,h6⟩,by rw[List.length_map];exact rd_cap h4⟩
def V2(N:Nd)(q:ND):Bool:=Ni q.t&&(decide (N.clip.length≤300)&&(decide (N.path.length≤300)&&(decide (N.fill.length≤2)&&(decide (N.stroke.length≤2)&&(decide (N.im.px.length≤1000)&&(decide (N.sty.d.length≤40)&&(q.fl.all (fun x=>Xr x.1 x.2)&&q.sl.all fun x=>Xr x.1 x.2)))))))
def Dz(nl:List (Nd×ND)):Bool:=nl.all (fun x=>V2 x.1 x.2)&&decide (nl.length≤12)
theorem praw_of(h:PRaw P p w)(hs:Xr P p=true):∃T,Db {P with T:=T} p 12 w∧P.stops.length≤40∧P.im.px.length≤1000:=by
 unfold Xr at hs
 simp only[Bool.and_eq_true,decide_eq_true_eq]at hs
 obtain⟨T,hT⟩:=short_isA hs.1 h.tr
 exact⟨T,⟨h.st,h.px,hT⟩,hs.2.1,hs.2.2⟩
theorem row_again{α:Type}{s:Nat}{cl:α→List Value}{R:α→α→Prop}{l:List α}(h:Ma w A l.length s cl l)(hx:∀x∈l,∃y,cl y=cl x∧R x y):
 ∃l':List α,l'.length=l.length∧Ma w A l'.length s cl l'∧∀y∈l',∃x∈l,R x y:=by
 have key:∀l:List α,(∀x∈l,∃y,cl y=cl x∧R x y)→∃l':List α,l'.map cl=l.map cl∧∀y∈l',∃x∈l,R x y:=by
  intro l
  induction l with
  |nil=>exact fun _=>⟨[],rfl,fun y hy=>by cases hy⟩
  | cons a r ih=>
   intro hx
   obtain⟨y,h1,h2⟩:=hx a Zs
   obtain⟨r',h3,h4⟩:=ih fun x hm=>hx x (List.mem_cons_of_mem _ hm)
   refine⟨y::r',by simp[h1,h3],fun z hz=> ?_⟩
   rcases List.mem_cons.1 hz with rfl|hz
   ·exact⟨a,by simp,h2⟩
   ·obtain⟨x,h5,h6⟩:=h4 z hz
    exact⟨x,List.mem_cons_of_mem _ h5,h6⟩
 obtain⟨l',h1,h2⟩:=key l hx
 have hl:l'.length=l.length:=by simpa using congrArg List.length h1
 refine⟨l',hl,⟨rfl,fun k y hk=> ?_⟩,h2⟩
 have h3:(l'.map cl)[k]? =some (cl y):=by rw[List.getElem?_map,hk];rfl
 rw[h1,List.getElem?_map]at h3
 obtain⟨x,hx,e⟩:=Option.map_eq_some_iff.1 h3
 obtain⟨ad,h4,h5⟩:=h.2 k x hx
 exact⟨ad,h4,by rw[←e];exact h5⟩
theorem psraw_rd(h:It w A l Ps)(hs:l.all (fun x=>Xr x.1 x.2)=true):∃l':List (Pn×PM),(l'.map (·.1)).length=Ps.length∧Vw w A l' 12 (l'.map (·.1))∧∀P∈l'.map (·.1),P.stops.length≤40∧P.im.px.length≤1000:=by
 have hl:l.length=Ps.length:=by rw[←h.eq,List.length_map]
 obtain⟨l',h1,h2,h3⟩:=row_again (cl:=pC2) (R:=fun x y=>Db y.1 y.2 12 w∧y.1.stops.length≤40∧y.1.im.px.length≤1000) (show Ma w A l.length 40 pC2 l by rw[hl];exact h.row) fun x hx=>by
  obtain⟨T,k1,k2,k3⟩:=praw_of (h.rd x hx) (List.all_eq_true.1 hs x hx)
  exact⟨({x.1 with T:=T},x.2),rfl,k1,k2,k3⟩
 refine⟨l',by rw[List.length_map,h1,hl],⟨rfl,by rw[List.length_map];exact h2,fun y hy=> ?_⟩,fun P hP=> ?_⟩
 ·obtain⟨x,_,k⟩:=h3 y hy;exact k.1
 ·obtain⟨y,hy,rfl⟩:=List.mem_map.1 hP
  obtain⟨x,_,k⟩:=h3 y hy;exact k.2
theorem nraw_rd(h:NRaw N q w)(hs:V2 N q=true):∃(N':Nd) (q':ND),X9 N' q'=X9 N q∧Jv N' q' 12 w∧Hx N'∧NSm N'∧N'.fill.length≤2∧N'.stroke.length≤2:=by
 unfold V2 at hs
 simp only[Bool.and_eq_true,decide_eq_true_eq]at hs
 obtain⟨s1,s2,s3,s4,s5,s6,s7,s8,s9⟩:=hs
 obtain⟨T,hT⟩:=short_isA s1 h.tr
 obtain⟨fl,f1,f2,f3⟩:=psraw_rd h.fi s8
 obtain⟨sl,t1,t2,t3⟩:=psraw_rd h.st s9
 refine⟨{N with T:=T,fill:=fl.map (·.1),stroke:=sl.map (·.1)},{q with fl:=fl,sl:=sl},by simp only[X9,f1,t1],⟨hT,h.cl,h.pa,f2,h.da,t2,h.px⟩,⟨by show N.clip.length≤_;omega,by show N.path.length≤_;omega,by show N.sty.d.length≤_;omega,by show N.im.px.length≤_;omega,fun P hP=>by have:=f3 P hP;omega,fun P hP=>by have:=t3 P hP;omega,by show(fl.map (·.1)).length≤_;omega,by show(sl.map (·.1)).length≤_;omega⟩,⟨s6,fun P hP=>(f3 P hP).2,fun P hP=>(t3 P hP).2⟩,by show(fl.map (·.1)).length≤_;omega,by show(sl.map (·.1)).length≤_;omega⟩
theorem nsraw_rd{S:Sc}{y:Option Addr×Nat}(h:NsRaw w y.1 nl S.nds)(hs:Dz nl=true):∃(S':Sc) (nl':List (Nd×ND)),soC S' y=soC S y∧Ut w y.1 nl' 12 S'.nds∧(∀N∈S'.nds,Hx N∧NSm N)∧S'.nds.length≤12:=by
 unfold Dz at hs
 simp only[Bool.and_eq_true,decide_eq_true_eq]at hs
 have hl:nl.length=S.nds.length:=by rw[←h.eq,List.length_map]
 obtain⟨l',h1,h2,h3⟩:=row_again (cl:=fun x:Nd×ND=>X9 x.1 x.2) (R:=fun x y=>Jv y.1 y.2 12 w∧Hx y.1∧NSm y.1) (show Ma w y.1 nl.length 47 _ nl by rw[hl];exact h.row) fun x hx=>by
  obtain⟨N',q',e,k1,k2,k3,_⟩:=nraw_rd (h.rd x hx) (List.all_eq_true.1 hs.1 x hx)
  exact⟨(N',q'),e,k1,k2,k3⟩
 have hm:(l'.map (·.1)).length=S.nds.length:=by rw[List.length_map,h1,hl]
 refine⟨{S with nds:=l'.map (·.1)},l',by simp only[soC,hm],⟨rfl,by show Ma w y.1 (l'.map (·.1)).length 47 _ l';rw[List.length_map];exact h2,fun z hz=> ?_⟩,fun N hN=> ?_,by show(l'.map (·.1)).length≤12;omega⟩
 ·obtain⟨x,_,k⟩:=h3 z hz;exact k.1
 ·obtain⟨z,hz,rfl⟩:=List.mem_map.1 hN
  obtain⟨x,_,k⟩:=h3 z hz;exact k.2
end
end
section
open Go.RowKit
--ATNAMES
section
variable{w:World}{N:Nd}{q:ND}{K n c:Nat}{S:Sc}{y:Option Addr×Nat}{nl:List (Nd×ND)}{B:Bool}
def smX(N:Nd)(q:ND):Bool:=((((((!Ni q.t||decide ((N.clip.length:Int)>300))||decide ((N.path.length:Int)>300))||decide ((N.fill.length:Int)>2))||decide ((N.stroke.length:Int)>2))||decide ((N.im.px.length:Int)>1000))||decide ((N.sty.d.length:Int)>40))
def smQ(x:Pn×PM):Bool:=Xr x.1 x.2
def smM(x:Nd×ND):Bool:=V2 x.1 x.2
theorem gt_le{n k:Nat}:decide ((n:Int)>(k:Int))= !decide (n≤k):=by
 by_cases h:n≤k
 ·rw[decide_eq_true h,decide_eq_false Zo];rfl
 ·rw[decide_eq_false h,decide_eq_true Zo];rfl
theorem smX_raw:V2 N q=(!smX N q&&(q.fl.all smQ&&q.sl.all smQ)):=by
 unfold V2 smX
 rw[show decide ((N.clip.length:Int)>300)=_ from gt_le (k:=300),show decide ((N.path.length:Int)>300)=_ from gt_le (k:=300),show decide ((N.fill.length:Int)>2)=_ from gt_le (k:=2),show decide ((N.stroke.length:Int)>2)=_ from gt_le (k:=2),show decide ((N.im.px.length:Int)>1000)=_ from gt_le (k:=1000),show decide ((N.sty.d.length:Int)>40)=_ from gt_le (k:=40)]
 simp only[Bool.not_or,Bool.not_not,Bool.and_assoc]
 rfl
theorem small_v(hp:NsRaw w y.1 nl S.nds)(hn:S.nds.length≤9223372036854775807)(hB:Dz nl=B):Zv 5 #[soV S y] w (.bool B):=by
 have hln:nl.length=S.nds.length:=by rw[←hp.eq,List.length_map]
 have bad:∀{k:Nat} {x:Nd×ND},nl[k]? =some x→smM x=false→false=B:=fun hx hb=>by
  rw[←hB];unfold Dz;rw[show nl.all (fun x=>V2 x.1 x.2)=false from Zx hx hb];rfl
 refine K0.enter Tryz.func5 rfl <| ZR <| K0.loop (ι:={k:Nat // k≤S.nds.length∧(nl.take k).all smM=true}) 89 (fun k=>⟨[(1,.p 1 0),(10,.v (Zi S.nds.length)),(11,.v (Zi k.1))],[(1,(soC S y).map .v)]⟩) (fun k u=>True) (fun k=>S.nds.length-k.1) (⟨0,Nat.zero_le _,rfl⟩) Zk (fun _=>by kernel_rfl) ⟨Zk,Zk,Zk⟩ (fun u h=>trivial) ?_
 rintro⟨k,hk,hall⟩ gg
 have hk:k≤S.nds.length:=hk
 have hall:(nl.take k).all smM=true:=hall
 by_cases hlt:k<S.nds.length
 case neg=>
  obtain rfl:k=S.nds.length:=by omega
  rw[List.take_of_length_le Zo]at hall
  exact ZR <| ZJ (decide ((S.nds.length:Int)<(S.nds.length:Int))) false Zs <| K0.leave Zk <| ZR <| ZX (.bool (decide ((S.nds.length:Int)≤12))) (by rw[←hB];unfold Dz;rw[show nl.all (fun x=>V2 x.1 x.2)=true from hall,Bool.true_and,hln];congr 2;exact decide_eq_decide.2 Zo)
 obtain⟨⟨N,q⟩,hx⟩:∃x,nl[k]? =some x:=⟨_,List.getElem?_eq_getElem Zo⟩
 obtain⟨ad,hA,hc⟩:=hp.row.2 k _ hx
 have hr:=hp.rd _ (List.mem_of_getElem? hx)
 have hraw:=smX_raw (N:=N) (q:=q)
 have hfl:q.fl.length=N.fill.length:=by rw[←hr.fi.eq,List.length_map]
 have hsl:q.sl.length=N.stroke.length:=by rw[←hr.st.eq,List.length_map]
 refine ZR <| ZJ (decide ((k:Int)<(S.nds.length:Int))) true Zp <| ZA (Kj 24 (.slice y.1 S.nds.length y.2) k) (.pointer (some (ad.add (k*47)))) (fun w1 hw h=>N9 hA hlt) <| ZA (L5 52 (ad.add (k*47))) (Gv N q) (fun w1 hw h=>Yb fun j v hj=>Lc hw (hc j v hj)) <| ZD 5 (fun w1 hw h=>short_v (t:=q.t) rfl) fun u=>K0.joinB Zk 1000 6 23 [24,25,26,27,28] 29 true (decide ((N.clip.length:Int)>300)) ((!Ni q.t)||(decide ((N.clip.length:Int)>300))) Zk Zk Zk (fun _=>by kernel_rfl) On fun xj1=>K0.joinB Zk 1000 6 29 [30,31,32,33,34] 35 true (decide ((N.path.length:Int)>300)) ((!Ni q.t||decide ((N.clip.length:Int)>300))||(decide ((N.path.length:Int)>300))) Zk Zk Zk (fun _=>by kernel_rfl) On fun xj2=>K0.joinB Zk 1000 6 35 [36,37,38,39,40] 41 true (decide ((N.fill.length:Int)>2)) (((!Ni q.t||decide ((N.clip.length:Int)>300))||decide ((N.path.length:Int)>300))||(decide ((N.fill.length:Int)>2))) Zk Zk Zk (fun _=>by kernel_rfl) On fun xj3=>K0.joinB Zk 1000 6 41 [42,43,44,45,46] 47 true (decide ((N.stroke.length:Int)>2)) ((((!Ni q.t||decide ((N.clip.length:Int)>300))||decide ((N.path.length:Int)>300))||decide ((N.fill.length:Int)>2))||(decide ((N.stroke.length:Int)>2))) Zk Zk Zk (fun _=>by kernel_rfl) On fun xj4=>K0.joinB Zk 1000 7 47 [48,49,50,51,52,53] 54 true (decide ((N.im.px.length:Int)>1000)) (((((!Ni q.t||decide ((N.clip.length:Int)>300))||decide ((N.path.length:Int)>300))||decide ((N.fill.length:Int)>2))||decide ((N.stroke.length:Int)>2))||(decide ((N.im.px.length:Int)>1000))) Zk Zk Zk (fun _=>by kernel_rfl) On fun xj5=>K0.joinB Zk 1000 6 54 [55,56,57,58,59] 60 true (decide ((N.sty.d.length:Int)>40)) ((((((!Ni q.t||decide ((N.clip.length:Int)>300))||decide ((N.path.length:Int)>300))||decide ((N.fill.length:Int)>2))||decide ((N.stroke.length:Int)>2))||decide ((N.im.px.length:Int)>1000))||(decide ((N.sty.d.length:Int)>40))) Zk Zk Zk (fun _=>by kernel_rfl) On fun xj6=>ZR ?_
 cases hX:smX N q
 case true=>
  rw[hX,Bool.not_true,Bool.false_and]at hraw
  exact ZJ (smX N q) true (hX) <| K0.leave Zk <| ZR <| ZX (.bool false) (by rw[bad hx hraw])
 rw[hX,Bool.not_false,Bool.true_and]at hraw
 have h2:N.fill.length≤2∧N.stroke.length≤2:=by
  unfold smX at hX
  simp only[Bool.or_eq_false_iff,decide_eq_false_iff_not]at hX
  omega
 refine ZJ (smX N q) false (hX) <| K0.make (Lq 54 2 #[(0,.slice q.fiA N.fill.length q.fic),(1,.slice q.stA N.stroke.length q.stc)]) (Kf 2) (L4 44 #[.slice q.fiA N.fill.length q.fic,.slice q.stA N.stroke.length q.stc]) Zk (fun w1 hw h=>Kc Zk) fun g=>ZR ?_
 have hgc:∀{u:World} {i:Nat} {v:Value},L4 44 #[.slice q.fiA N.fill.length q.fic,.slice q.stA N.stroke.length q.stc] g u→[Value.slice q.fiA N.fill.length q.fic,.slice q.stA N.stroke.length q.stc][i]? =some v→u.cell? ((⟨g,0,none⟩:Addr).add i)=some v:=fun{u i v} hg hv=>by
  have hb:K5 u g [Value.slice q.fiA N.fill.length q.fic,.slice q.stA N.stroke.length q.stc]:=⟨_,hg⟩
  rw[Addr.add_mid,Nat.zero_add]
  simpa using hb.range i v hv
 refine K0.un Zk <| ZR <| ZI true <| ZA (Kj 54 (Kf 2 g) (0:Nat)) (.pointer (some ((⟨g,0,none⟩:Addr).add 0))) (fun w1 hw h=>Kn (k:=0) (elem:=44) Zk Zk Zd) <| ZA (L5 44 ((⟨g,0,none⟩:Addr).add 0)) (.slice q.fiA N.fill.length q.fic) (fun w1 hw h=>K8 Zk (hgc h.2 rfl)) <| K0.loop (ι:={j:Nat // j≤N.fill.length∧(q.fl.take j).all smQ=true}) 89 (fun j=>⟨[(1,.p 1 0),(6,.v (.slice q.fiA N.fill.length q.fic)),(10,.v (Zi S.nds.length)),(11,.v (Zi k)),(65,.v (Kf 2 g)),(66,.v (Zi 2)),(67,.v (Zi 0)),(72,.v (Zi N.fill.length)),(73,.v (Zi j.1))],[(1,(soC S y).map .v)]⟩) (fun j u=>L4 44 #[.slice q.fiA N.fill.length q.fic,.slice q.stA N.stroke.length q.stc] g u) (fun j=>N.fill.length-j.1) (⟨0,Nat.zero_le _,rfl⟩) Zk (fun _=>by kernel_rfl) ⟨Zk,Zk,Zk⟩ (fun u h=>h.2) ?_
 rintro⟨j0,hj0,hal0⟩ gg0
 have hj0:j0≤N.fill.length:=hj0
 have hal0:(q.fl.take j0).all smQ=true:=hal0
 by_cases hlt0:j0<N.fill.length
 case pos=>
  obtain⟨⟨P,p⟩,hx2⟩:∃x,q.fl[j0]? =some x:=⟨_,List.getElem?_eq_getElem Zo⟩
  obtain⟨ad2,hA2,hc2⟩:=hr.fi.row.2 j0 _ hx2
  refine ZR <| ZJ (decide ((j0:Int)<(N.fill.length:Int))) true Zp <| ZA (Kj 44 (.slice q.fiA N.fill.length q.fic) j0) (.pointer (some (ad2.add (j0*40)))) (fun w1 hw h=>U1 hA2 hlt0) <| ZA (L5 60 (ad2.add (j0*40))) (.agg (pC2 (P,p)).toArray) (fun w1 hw h=>Vy fun i v hi=>Lc hw (hc2 i v hi)) ?_
  cases hb:Xr P p
  ·exact K0.callv (fun w1 hw h=>Uh hb) Zk fun u=>ZR <| ZI true <| K0.leave Zk <| ZR <| K0.leave Zk <| ZR <| ZX (.bool false) (by rw[bad hx (show smM (N,q)=false by rw[show smM (N,q)=V2 N q from rfl,hraw];have t:=Zx hx2 (show smQ (P,p)=false from hb);simp[t])])
  ·refine K0.callv (fun w1 hw h=>Uh hb) Zk fun u=>ZR <| ZI false <| K0.slot 73 (Zi (IntKind.i64.wrap ((j0:Int)+1))) (Zi ((j0+1:Nat):Int)) Zk (by rw[Kd hlt0 Zo]) <| K0.next (⟨j0+1,by show j0+1≤N.fill.length;omega,by rw[U5 hx2 hal0];exact hb⟩) Zk (by show N.fill.length- (j0+1)<N.fill.length-j0;omega) ⟨Zk,Zk,Zk⟩ (fun u h=>h.1)
 obtain rfl:j0=N.fill.length:=by omega
 rw[List.take_of_length_le Zo]at hal0
 refine ZR <| ZJ (decide ((N.fill.length:Int)<(N.fill.length:Int))) false Zs <| K0.leave Zk <| ZR <| ZI true <| ZA (Kj 54 (Kf 2 g) (1:Nat)) (.pointer (some ((⟨g,0,none⟩:Addr).add 1))) (fun w1 hw h=>Kn (k:=1) (elem:=44) Zk Zk Zd) <| ZA (L5 44 ((⟨g,0,none⟩:Addr).add 1)) (.slice q.stA N.stroke.length q.stc) (fun w1 hw h=>K8 Zk (hgc h rfl)) <| K0.loop (ι:={j:Nat // j≤N.stroke.length∧(q.sl.take j).all smQ=true}) 89 (fun j=>⟨[(1,.p 1 0),(6,.v (.slice q.stA N.stroke.length q.stc)),(10,.v (Zi S.nds.length)),(11,.v (Zi k)),(65,.v (Kf 2 g)),(66,.v (Zi 2)),(67,.v (Zi 1)),(72,.v (Zi N.stroke.length)),(73,.v (Zi j.1))],[(1,(soC S y).map .v)]⟩) (fun j u=>L4 44 #[.slice q.fiA N.fill.length q.fic,.slice q.stA N.stroke.length q.stc] g u) (fun j=>N.stroke.length-j.1) (⟨0,Nat.zero_le _,rfl⟩) Zk (fun _=>by kernel_rfl) ⟨Zk,Zk,Zk⟩ (fun u h=>h) ?_
 rintro⟨j1,hj1,hal1⟩ gg1
 have hj1:j1≤N.stroke.length:=hj1
 have hal1:(q.sl.take j1).all smQ=true:=hal1
 by_cases hlt1:j1<N.stroke.length
 case pos=>
  obtain⟨⟨P,p⟩,hx2⟩:∃x,q.sl[j1]? =some x:=⟨_,List.getElem?_eq_getElem Zo⟩
  obtain⟨ad2,hA2,hc2⟩:=hr.st.row.2 j1 _ hx2
  refine ZR <| ZJ (decide ((j1:Int)<(N.stroke.length:Int))) true Zp <| ZA (Kj 44 (.slice q.stA N.stroke.length q.stc) j1) (.pointer (some (ad2.add (j1*40)))) (fun w1 hw h=>U1 hA2 hlt1) <| ZA (L5 60 (ad2.add (j1*40))) (.agg (pC2 (P,p)).toArray) (fun w1 hw h=>Vy fun i v hi=>Lc hw (hc2 i v hi)) ?_
  cases hb:Xr P p
  ·exact K0.callv (fun w1 hw h=>Uh hb) Zk fun u=>ZR <| ZI true <| K0.leave Zk <| ZR <| K0.leave Zk <| ZR <| ZX (.bool false) (by rw[bad hx (show smM (N,q)=false by rw[show smM (N,q)=V2 N q from rfl,hraw];have t:=Zx hx2 (show smQ (P,p)=false from hb);simp[t])])
  ·refine K0.callv (fun w1 hw h=>Uh hb) Zk fun u=>ZR <| ZI false <| K0.slot 73 (Zi (IntKind.i64.wrap ((j1:Int)+1))) (Zi ((j1+1:Nat):Int)) Zk (by rw[Kd hlt1 Zo]) <| K0.next (⟨j1+1,by show j1+1≤N.stroke.length;omega,by rw[U5 hx2 hal1];exact hb⟩) Zk (by show N.stroke.length- (j1+1)<N.stroke.length-j1;omega) ⟨Zk,Zk,Zk⟩ (fun u h=>h.1)
 obtain rfl:j1=N.stroke.length:=by omega
 rw[List.take_of_length_le Zo]at hal1
 refine ZR <| ZJ (decide ((N.stroke.length:Int)<(N.stroke.length:Int))) false Zs <| K0.leave Zk <| ZR <| ZI false <| K0.slot 11 (Zi (IntKind.i64.wrap ((k:Int)+1))) (Zi ((k+1:Nat):Int)) Zk (by rw[Kd hlt Zo]) <| K0.next (⟨k+1,by show k+1≤S.nds.length;omega,by rw[U5 hx hall];show V2 N q=true;rw[hraw,hal0,hal1];rfl⟩) Zk (by show S.nds.length- (k+1)<S.nds.length-k;omega) ⟨Zk,Zk,Zk⟩ (fun u h=>trivial)
end
end
end Go.Proofs.YtoeiphicmcndlaaGreatDoor
