/-
 Functions of the package natural.
-/
import Derived.Test.YtoeiphicmcndlaaGreatDoorProg
import Derived.Test.YtoeiphicmcndlaaGreatDoorARd
namespace Go.Proofs.YtoeiphicmcndlaaGreatDoor
set_option maxRecDepth 100000
set_option maxHeartbeats 8000000
set_option linter.unusedVariables false
set_option linter.unusedSimpArgs false
open Go.RowKit
theorem Tryz.info_u32:(Tryz.prog.info? 175).map (fun i=>(i.zero,i.size,i.bytes))=some (some (.int .u32 0),1,4):=by kernel_rfl
theorem In.capI{w:World}{A:Option Addr}{n c:Nat}{l:List Nat}(h:In w A n c l):c≤9223372036854775807:=by
 have:=h.cap;unfold maxLen at this;omega
theorem In.lenI{w:World}{A:Option Addr}{n c:Nat}{l:List Nat}(h:In w A n c l):n≤9223372036854775807:=by
 have:=h.capI;have:=h.le;omega
theorem D6{A:Option Addr}{n c:Nat}{l:List Nat}(i:Int)(w:World)(h:In w A n c l)(h0:0≤i):
 Calls Tryz.prog 281 #[.slice A n c,Zi i] w fun e w'=>e= .returned (.int .u64 (dg l i.toNat:Nat))∧w=w':=by
 obtain⟨k,rfl⟩:=Int.eq_ofNat_of_zero_le h0
 have hn:=h.lenI
 have hd:=h.dig k
 by_cases hk:k<n
 ·obtain⟨ad,rfl,hc⟩:=h.at_ hk
  have hl:=Km h.len
  clear h h0
  go_enter Tryz.func281,Tryz.ntmps281
  go_wp2
  go_ret
  exact⟨rfl,rfl⟩
 ·have hl:=Km h.len
  have e:Hid (dg l k=0):=Ub (by rw[h.len];omega)
  clear h h0
  go_enter Tryz.func281,Tryz.ntmps281
  go_wp2
  go_ret
  refine⟨?_,rfl⟩
  rw[Int.toNat_natCast,K3 e];rfl
theorem Lu{A:Option Addr}{n c:Nat}{l:List Nat}(w:World)(h:In w A n c l):
 Calls Tryz.prog 109 #[.slice A n c] w fun e w'=>e= .returned (.slice A (tlen l n) (tlen l n))∧w=w':=by
 have hn:=h.lenI
 have hc:=h.capI
 have hnc:=h.le
 have H:=Km h
 clear h
 go_enter Tryz.func109,Tryz.ntmps109
 go_wp2
 go_loop [3] (fun i=>∃k:Nat,k≤n∧i=Zi k∧tlen l k=tlen l n) (fun i=>(intOf i).toNat)
 case atStart=>exact⟨n,Nat.le_refl _,rfl,rfl⟩
 case round=>
  obtain⟨k,hk,rfl,ht⟩:=hrel
  have HT:=Km ht
  clear ht
  by_cases hk0:k=0
  ·subst hk0
   go_wp2
   go_ret
   have e:=K3 HT
   rw[show tlen l 0=0 from rfl]at e
   refine⟨?_,rfl⟩
   rw[←e]
   rfl
  ·obtain⟨j,rfl⟩:∃j,k=j+1:=⟨k-1,by omega⟩
   obtain⟨ad,rfl,hcell⟩:=(K3 H).at_ (k:=j) Zo
   go_wp2
   ·have h0:(((dg l j:Nat):Int)==0)=true:=by assumption
    go_round
    case rel=>exact⟨j,by omega,rfl,by rw[←K3 HT,tlen_step];simpa using h0⟩
    case measure=>simp[intOf]
   ·have h0:(((dg l j:Nat):Int)==0)=false:=by assumption
    go_ret
    have e:=K3 HT
    rw[tlen_stop (by simpa using h0)]at e
    refine⟨?_,rfl⟩
    rw[←e]
    rfl
def RetL(w:World)(l:List Nat)(e:Ending)(w':World):Prop:=
 ∃A n c,e= .returned (.slice A n c)∧Py w' w.heap.size A n c l∧Below w.heap.size w w'
theorem clone_c{A:Option Addr}{n c:Nat}{l:List Nat}(w:World)(h:In w A n c l)(hb:n≤1099511627776):
 Calls Tryz.prog 173 #[.slice A n c] w (RetL w l):=by
 have hn:=h.lenI
 have hc:=h.capI
 have hnc:=h.le
 have hr:=Km h.rd
 have hd:=h.dig
 have hl:=Km h.len
 clear h
 obtain⟨i0,hi0,hz0,hz1,hz2⟩:=info_parts Tryz.info_u32
 have hnil:=fun W=>Lib.run_eql_slice_nil (P:=Tryz.prog) W 36 175 A n c 0 0 Tryz.underlying36
 by_cases hA:A=none
 ·have h0:n=0:=by
   rcases Nat.eq_zero_or_pos n with e|e
   ·exact e
   ·obtain⟨ad,h,_⟩:=(K3 hr).2 e
    rw[hA]at h;cases h
  subst hA
  subst h0
  go_enter Tryz.func173,Tryz.ntmps173
  go_wp2
  go_ret
  have:l=[]:=List.length_eq_zero_iff.1 (K3 hl)
  subst this
  exact⟨none,0,0,rfl,Py.nil_,Below.refl _ _⟩
 ·obtain⟨ad,rfl⟩:∃ad,A=some ad:=by
   cases A with
   |none=>exact absurd rfl hA
   |some ad=>exact⟨ad,rfl⟩
  clear hA
  go_enter Tryz.func173,Tryz.ntmps173
  go_wp2_with (first
   |(at_builtin;refine Er _ rfl (.tmp 5) (.tmp 6) 36 rfl w.heap.size 175 i0 _ 1 4 Tryz.underlying36 hi0 hz0 hz1 hz2 rfl Zo (.slice (some ⟨w.heap.size,0,none⟩) 0 0) 0 [] rfl (World.ownsRow_lit _ _ _ (Nat.le_refl _) (by unfold maxLen;omega) rfl) w.heap.size (some ad) n c (Of l) rfl ((K3 hr).alloc (Nat.le_refl _) _) u32s_one (by simp only[maxLen];omega) Zo Zs ?_;intro v1 w1 hown1 hg1 hat1))
  go_ret
  simp only[Nat.zero_add,List.nil_append]at hown1
  obtain⟨A1,c1,rfl,ho⟩:=Py.of_row hown1 hd (K3 hl)
  exact⟨A1,n,c1,rfl,ho,((Below.refl _ _).alloc (Nat.le_refl _) _).grown hg1 Zs (fun k hk=>by simp[Value.ownBlock]at hk;omega)⟩
theorem X8{A:Option Addr}{n c:Nat}{l:List Nat}(w:World)(h:In w A n c l)(hb:n≤1099511627776):
 Calls Tryz.prog 112 #[.slice A n c] w (RetL w (trim l)):=by
 have ht:=Nw l n
 go_enter Tryz.func112,Tryz.ntmps112
 go_wp2_with fail
 refine(Lu w h).mono ?_
 rintro e w' ⟨rfl,rfl⟩
 go_wp2_with fail
 refine(clone_c w h.trim Zo).mono ?_
 rintro e w' ⟨A1,n1,c1,rfl,ho,hw⟩
 go_wp2_with fail
 go_ret
 exact⟨A1,n1,c1,rfl,ho,hw⟩
theorem W5(k:Nat)(hk:(k:Int)≤18446744073709551615):N8 [k%4294967296,k/4294967296]∧val [k%4294967296,k/4294967296]=k:=by
 refine⟨N8.cons Zo (N8.one Zo),?_⟩
 simp only[val];omega
theorem Up(k:Nat)(hk:(k:Int)≤18446744073709551615)(w:World):
 Calls Tryz.prog 63 #[.int .u64 k] w (Tq w k):=by
 go_enter Tryz.func63,Tryz.ntmps63
 go_wp2_with fail
 have hmk:Mk (w.alloc (.cells #[.int .u32 ((k:Int)%4294967296),.int .u32 ((k:Int)/4294967296)] 175)) w.heap.size 175 [k%4294967296,k/4294967296]:=Ah.new w 175 _
 have h2:=W5 k hk
 have ho:=hmk.own (B:=w.heap.size) h2.1 (Nat.le_refl _) (by simp[maxLen])
 refine(X8 _ ho.toIn Zs).mono ?_
 rintro e w' ⟨A1,n1,c1,rfl,ho1,hw⟩
 clear hmk ho
 go_wp2_with fail
 go_ret
 exact⟨A1,n1,c1,_,rfl,Kw h2.1,by rw[Kh,h2.2],ho1.base Zs,((Below.refl _ _).alloc (Nat.le_refl _) _).trans (hw.mono Zs)⟩
def zs(n:Nat):Array Value:=(Of (List.replicate n 0)).toArray
theorem Nk(W:World)(k:Int)(N:Nat)(hk:k=N)(hN:N≤17592186044416):
 (Instr.makeSlice 36 (Zi k) (Zi k)).run Tryz.prog W= .ok (.slice (some ⟨W.heap.size,0,none⟩) N N) (W.alloc (.cells (zs N) 175)):=by
 subst hk
 obtain⟨i0,hi0,hz0,hz1,hz2⟩:=info_parts Tryz.info_u32
 rw[run_make W 36 175 i0 _ Tryz.underlying36 hi0 hz0 .i64 .i64 N N Zo Zo (by rw[hz2];omega) Zo,hz1,Int.toNat_natCast,Nat.mul_one]
 congr 3
 apply Array.ext
 ·simp[zs,size_madeCells,Of]
 ·intro i h1 h2
  simp[madeCells,zs,Of,Value.cells,Nat.mod_one]
theorem Mk.zero(W:World)(N:Nat):Mk (W.alloc (.cells (zs N) 175)) W.heap.size 175 (List.replicate N 0):=Ah.new W 175 _
theorem add_c{A B:Option Addr}{n c m d:Nat}{a b:List Nat}(w:World)(ha:In w A n c a)(hb:In w B m d b)(hn:n≤1099511627776)(hm:m≤1099511627776):
 Calls Tryz.prog 262 #[.slice A n c,.slice B m d] w (Tq w (val a+val b)):=by
 have Ha:=Km ha
 have Hb:=Km hb
 clear ha hb
 obtain⟨N,h1,h2,hN,h3⟩:∃N,n≤N∧m≤N∧N≤1099511627776∧((n<m→N=m)∧(¬n<m→N=n)):=⟨max n m,by omega,by omega,by omega,by omega,by omega⟩
 have H3:=Km h3
 clear h3
 have hmk:=fun W=>Nk W (N+1) (N+1) rfl Zo
 go_enter Tryz.func262,Tryz.ntmps262
 go_wp2_with fail
 all_goals
  first
   |(have e:=(K3 H3).1 (by assumption);subst e)
   |(have e:=(K3 H3).2 (by assumption);subst e)
  clear H3
  go_simp
  go_wp2
  have hM:=Mk.zero w (N+1)
  go_loopw [6,17] (fun cy i wr=>∃(k y:Nat) (o:List Nat),k≤N+1∧i=Zi k∧cy= .int .u64 y∧o.length=N+1∧N8 o∧y≤1∧lo o k+y*pw k=lo a k+lo b k∧Mk wr w.heap.size 175 o∧Below w.heap.size w wr) (fun _ i _=>N+1- (intOf i).toNat)
  case atStart=>exact⟨0,0,_,Nat.zero_le _,rfl,rfl,by simp,N8.replicate _,by omega,by simp[N4],hM,(Below.refl _ _).alloc (Nat.le_refl _) _⟩
  case round=>
   obtain⟨k,y,o,hk,rfl,rfl,hol,hod,hy,hsum,hmk,hbw⟩:=hrel
   clear hM
   have Hol:=Km hol
   have Hsum:=Km hsum
   clear hol hsum
   by_cases hlt:k<N+1
   ·have hda:=(K3 Ha).dig k
    have hdb:=(K3 Hb).dig k
    have hcell:=hmk.cell (i:=k) (by rw[K3 Hol];exact hlt)
    have hfz:=hmk.frozen k
    go_wp2_with fail
    refine(D6 _ _ ((K3 Ha).below hbw) Zo).mono ?_
    rintro e w' ⟨rfl,rfl⟩
    go_wp2_with fail
    refine(D6 _ _ ((K3 Hb).below hbw) Zo).mono ?_
    rintro e w' ⟨rfl,rfl⟩
    go_wp2
    have hst:=hmk.set_ k ((y+(dg a k+dg b k))%4294967296)
    rw[show(((y+(dg a k+dg b k))%4294967296:Nat):Int)=((y:Int)+(dg a k+dg b k))%4294967296 by omega]at hst
    go_roundw
    case rel=>exact⟨k+1,(y+(dg a k+dg b k))/4294967296,_,by omega,by go_num,by go_num,by rw[List.length_set];exact K3 Hol,hod.set _ Zo,by omega,add_step (by rw[K3 Hol];exact hlt) (K3 Hsum),hst,hbw.setCell (Nat.le_refl _) _⟩
    case measure=>simp[intOf];omega
   ·have hk':k=N+1:=by omega
    subst hk'
    have ho:=hmk.own hod (Nat.le_refl _) (by rw[K3 Hol];unfold maxLen;omega)
    rw[K3 Hol]at ho
    go_wp2_with fail
    refine(Lu _ ho.toIn).mono ?_
    rintro e w' ⟨rfl,rfl⟩
    go_wp2_with fail
    go_ret
    have ha:=K3 Ha
    have hb:=K3 Hb
    exact⟨_,_,_,trim o,rfl,Kw hod,by rw[Kh];exact add_end (K3 Hol) ha.dig hb.dig (by rw[ha.len];omega) (by rw[hb.len];omega) (K3 Hsum),ho.trim,hbw⟩
end Go.Proofs.YtoeiphicmcndlaaGreatDoor
