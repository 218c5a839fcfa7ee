import Derived.Test.YtedomogjmhommaaH01
import Derived.Test.YtedomogjmhommaaH02
import Derived.Test.YtedomogjmhommaaH03
set_option linter.all false
set_option maxRecDepth 100000
set_option maxHeartbeats 8000000
namespace Go.Proofs.Ytedomogjmhommaa
open Go.RowKit
theorem zdY {a b:Int} (ha:0≤a∧a≤5000) (hb:0≤b∧b≤1000):wrap64 (a-wrap64 ((wrap64 (a * b)).tdiv 1000))=zcr a b:=by
 have h1:0≤a * b:=Int.mul_nonneg ha.1 hb.1
 have h2:a * b≤5000 * 1000:=Int.mul_le_mul ha.2 hb.2 hb.1 (by omega)
 have h3:=zkx ha.1 hb
 unfold zcr at *
 rw [zcW (n:=a * b) (by omega),Int.tdiv_eq_ediv_of_nonneg h1]
 rw [Int.tdiv_eq_ediv_of_nonneg h1] at h3
 rw [zcW (n:=a * b / 1000) (by omega),zcW (by omega)]
theorem zqF {t:Array Value} {W:World} {b:Nat} {x y z:Value} {fz:Nat×Nat} (hp:t[8]?=some (.pointer (some ⟨b,0,none⟩))) (h:W.heap[b]?=some (.cells #[x,y,z] 24 fz)):(results Try.f61 t).run Try.prog W=.ok (.agg #[x,y,z]) W:=by
 have h0:=zaa (i:=0) h rfl
 have h1:=zaa (i:=1) h rfl
 have h2:=zaa (i:=2) h rfl
 simp [results,Try.results61,go_sem,hp,h0,h1,h2]
theorem zf9 (d:Dry) (B:Nat) (s:St) (k:Nat) (hs:Int×Int) (damp:Int) (w:World) (hd:StoveAt w B d) (hO:d.Ok) (hk:d.heats[k]?=some hs) (hS:s.Ok d.heats.length) (hp:0≤damp∧damp≤3) :
  CallsIn FW 0 Try.prog 61 #[.pointer (some ⟨B,0,none⟩),s.val,num k,num damp] w fun e w'=>e=.returned (za9 d hs s k damp).val∧Nx w w':=by
 obtain⟨v,c0,hsl⟩:=hd.heats
 obtain⟨a,cap,rfl⟩:=hsl.cases
 rw [List.length_map] at c0
 have hkl:k<d.heats.length:=(List.getElem?_eq_some_iff.1 hk).1
 obtain⟨b,off,rfl,hbl,hcl⟩:=hsl.get (by simp;omega)
 have e0:w.cell? ⟨b,off+k * 2,none⟩=some (num hs.1):=Sl.at hcl (Nx.refl w) hbl hk 0 (v:=num hs.1) rfl
 have e1:w.cell? ⟨b,off+k * 2+1,none⟩=some (num hs.2):=Sl.at hcl (Nx.refl w) hbl hk 1 (v:=num hs.2) rfl
 have hB:=hd.lt
 have c1:=hd.soak
 have c2:=hd.brittle
 clear hcl hsl
 have hmx:=zki (hO.hs hs (List.mem_of_getElem? hk)).1 hp.1 hO.soak.1
 have hhs:=hO.hs hs (List.mem_of_getElem? hk)
 have hX:wrap64 (s.w-wrap64 ((wrap64 (s.w * if 0<wrap64 (hs.1-wrap64 (damp * d.soak)) then wrap64 (hs.1-wrap64 (damp * d.soak)) else 0)).tdiv 1000))=zcr s.w (max 0 (hs.1-damp * d.soak)):=by
  have h1:0≤damp * d.soak:=Int.mul_nonneg hp.1 hO.soak.1
  have h2:damp * d.soak≤3 * 1000:=Int.mul_le_mul hp.2 hO.soak.2 hO.soak.1 (by omega)
  rw [zcW (n:=damp * d.soak) (by omega),zcW (n:=hs.1-damp * d.soak) (by omega),show (if 0<hs.1-damp * d.soak then hs.1-damp * d.soak else 0)=max 0 (hs.1-damp * d.soak) by omega]
  exact zdY hS.w hmx
 have HY:=Lib.hid (zdY (a:=s.c) (b:=hs.2) (by have:=hS.c;omega) hhs.2)
 rw [show za9 d hs s k damp=⟨zcr s.w (max 0 (hs.1-damp * d.soak)),if zcr s.w (max 0 (hs.1-damp * d.soak))<d.brittle then zcr s.c hs.2 else s.c,k⟩ from rfl]
 clear hmx
 generalize zcr s.w (max 0 (hs.1-damp * d.soak))=v0 at *
 obtain⟨c9,hc9⟩:∃ c9,(if v0<d.brittle then zcr s.c hs.2 else s.c)=c9:=⟨_,rfl⟩
 rw [hc9]
 have HX:=Lib.hid hX
 have HC:=Lib.hid hc9
 clear hX hc9 hhs
 gi_enter Try.func61,Try.ntmps61
 gi_upto_region 2 with fail
 generalize hW:((w.alloc _).alloc _).alloc _=W
 obtain⟨nW,sW,g0,g1,g2⟩:=al3 hW
 have f0:=zaa (i:=0) g0 rfl
 have f1:=zaa (i:=1) g0 rfl
 have f2:=zaa (i:=2) g0 rfl
 have h0:=zaa (i:=0) g2 rfl
 have h1:=zaa (i:=1) g2 rfl
 have z0:W.frozen? ⟨w.heap.size,0,none⟩=false:=zac g0
 have a1:=(nW.cell (p:=⟨B,1,none⟩) (by exact hB)).trans c1
 have a2:=(nW.cell (p:=⟨B,2,none⟩) (by exact hB)).trans c2
 clear hW c0 c1 e0 e1
 refine zaX 18 rfl (by kernel_rfl) (by kernel_rfl) ?_
 simp only [List.take_succ_cons,List.take_zero,List.drop_succ_cons,List.drop_zero]
 repeat (gi_big_quiet_step (fail))
 refine wpQuietIn_nil ?_
 rintro w' ⟨nq,rfl⟩
 gi_upto_region 3 with fail
 rw [HX.out]
 have q0:=zaA (w:=W.drewN nq) (i:=0) (v:=num v0) (show (W.drewN nq).heap[w.heap.size]?=_ from g0)
 have ho:∀ b,b≠w.heap.size→((W.drewN nq).setCell ⟨w.heap.size,0,none⟩ (num v0)).heap[b]?=W.heap[b]?:=fun b hb=>zae hb
 have nV:Nx w ((W.drewN nq).setCell ⟨w.heap.size,0,none⟩ (num v0)):=(nW.drewN nq).set (Nat.le_refl _)
 generalize (W.drewN nq).setCell ⟨w.heap.size,0,none⟩ (num v0)=V at q0 ho nV ⊢
 have b1:=(ho _ (by omega)).trans g1
 have b2:=(ho _ (by omega)).trans g2
 have r0:V.cell? ⟨w.heap.size,0,none⟩=some (num v0):=zaa q0 rfl
 have r1:V.cell? ⟨w.heap.size,1,none⟩=some (num s.c):=zaa q0 rfl
 have r2:V.cell? ⟨w.heap.size,2,none⟩=some (num s.h):=zaa q0 rfl
 have t1:V.frozen? ⟨w.heap.size,1,none⟩=false:=zac q0
 have t2:V.frozen? ⟨w.heap.size,2,none⟩=false:=zac q0
 have k1:V.cell? ⟨w.heap.size+1+1,1,none⟩=some (num hs.2):=zaa b2 rfl
 have a2:=(nV.cell (p:=⟨B,2,none⟩) (by exact hB)).trans c2
 have m0:=zaa (i:=0) b1 rfl
 have m1:=zaa (i:=1) b1 rfl
 have m2:=zaa (i:=2) b1 rfl
 have z0:=zac (i:=0) b1
 have z1:=zac (i:=1) b1
 have z2:=zac (i:=2) b1
 clear g0 g1 g2 ho f0 f1 f2 h0 h1 a1 HX q0
 gi_big_quiet_th (fail)
 have hc:=HC.out
 by_cases hbr:v0<d.brittle
 ·rw [if_pos hbr] at hc
  subst hc
  gi_wp2
  all_goals
   refine bodyPost_ret (zqF (b:=w.heap.size+1) rfl (set3 (x0:=num 0) (x1:=num 0) (x2:=num 0) (by first | exact (zae (by omega)).trans ((zae (by omega)).trans b1) | exact (zae (by omega)).trans b1))) rfl ⟨by first | rfl | rw [HY.out],?_⟩
   repeat (refine Nx.set ?_ (by omega))
   exact nV.drewN _
 ·rw [if_neg hbr] at hc
  subst hc
  gi_wp2
  all_goals
   refine bodyPost_ret (zqF (b:=w.heap.size+1) rfl (set3 (x0:=num 0) (x1:=num 0) (x2:=num 0) (by first | exact (zae (by omega)).trans ((zae (by omega)).trans b1) | exact (zae (by omega)).trans b1))) rfl ⟨by first | rfl | rw [HY.out],?_⟩
   repeat (refine Nx.set ?_ (by omega))
   exact nV.drewN _
end Go.Proofs.Ytedomogjmhommaa
namespace Go.Proofs.Ytedomogjmhommaa
open Go.RowKit
theorem zqD {t:Array Value} {W:World} {b:Nat} {x y z:Value} {fz:Nat×Nat} (hp:t[8]?=some (.pointer (some ⟨b,0,none⟩))) (h:W.heap[b]?=some (.cells #[x,y,z] 24 fz)):(results Try.f36 t).run Try.prog W=.ok (.agg #[x,y,z]) W:=by
 have h0:=zaa (i:=0) h rfl
 have h1:=zaa (i:=1) h rfl
 have h2:=zaa (i:=2) h rfl
 simp [results,Try.results36,go_sem,hp,h0,h1,h2]
theorem zl8 (d:Dry) (r:R2) (s:St) (k:Nat) (hs:Int×Int) (damp:Int) (w:World) (hd:DrySl w d r) (hO:d.Ok) (hk:d.heats[k]?=some hs) (hS:s.Ok d.heats.length) (hp:0≤damp∧damp≤3) :
  CallsIn FW 0 Try.prog 36 #[d.val r,s.val,num k,num damp] w fun e w'=>e=.returned (za9 d hs s k damp).val∧Nx w w':=by
 obtain⟨rh,rs⟩:=r
 obtain⟨ha,hcap,rfl⟩:=hd.heats.cases
 obtain⟨sa,scap,rfl⟩:=hd.steps.cases
 have hkl:k<d.heats.length:=(List.getElem?_eq_some_iff.1 hk).1
 obtain⟨b,off,rfl,hbl,hcl⟩:=hd.heats.get (by simp;omega)
 rw [List.length_map,List.length_map] at *
 have e0:w.cell? ⟨b,off+k * 2,none⟩=some (num hs.1):=Sl.at hcl (Nx.refl w) hbl hk 0 (v:=num hs.1) rfl
 have e1:w.cell? ⟨b,off+k * 2+1,none⟩=some (num hs.2):=Sl.at hcl (Nx.refl w) hbl hk 1 (v:=num hs.2) rfl
 clear hcl hd
 have hmx:=zki (hO.hs hs (List.mem_of_getElem? hk)).1 hp.1 hO.soak.1
 have hhs:=hO.hs hs (List.mem_of_getElem? hk)
 have hX:wrap64 (s.w-wrap64 ((wrap64 (s.w * if 0<wrap64 (hs.1-wrap64 (damp * d.soak)) then wrap64 (hs.1-wrap64 (damp * d.soak)) else 0)).tdiv 1000))=zcr s.w (max 0 (hs.1-damp * d.soak)):=by
  have h1:0≤damp * d.soak:=Int.mul_nonneg hp.1 hO.soak.1
  have h2:damp * d.soak≤3 * 1000:=Int.mul_le_mul hp.2 hO.soak.2 hO.soak.1 (by omega)
  rw [zcW (n:=damp * d.soak) (by omega),zcW (n:=hs.1-damp * d.soak) (by omega),show (if 0<hs.1-damp * d.soak then hs.1-damp * d.soak else 0)=max 0 (hs.1-damp * d.soak) by omega]
  exact zdY hS.w hmx
 have HY:=Lib.hid (zdY (a:=s.c) (b:=hs.2) (by have:=hS.c;omega) hhs.2)
 rw [show za9 d hs s k damp=⟨zcr s.w (max 0 (hs.1-damp * d.soak)),if zcr s.w (max 0 (hs.1-damp * d.soak))<d.brittle then zcr s.c hs.2 else s.c,k⟩ from rfl]
 clear hmx
 generalize zcr s.w (max 0 (hs.1-damp * d.soak))=v0 at *
 obtain⟨c9,hc9⟩:∃ c9,(if v0<d.brittle then zcr s.c hs.2 else s.c)=c9:=⟨_,rfl⟩
 rw [hc9]
 have HX:=Lib.hid hX
 have HC:=Lib.hid hc9
 clear hX hc9 hhs hk
 gi_enter Try.func36,Try.ntmps36
 gi_upto_region 1 with fail
 generalize hW:((w.alloc _).alloc _).alloc _=W
 obtain⟨nW,sW,g0,g1,g2⟩:=al3 hW
 have e0:=(nW.cell (p:=⟨b,off+k * 2,none⟩) (by exact hbl)).trans e0
 have e1:=(nW.cell (p:=⟨b,off+k * 2+1,none⟩) (by exact hbl)).trans e1
 have c0:=zaa (i:=0) g0 rfl
 clear hW
 gi_upto_region 2 with fail
 generalize hV:W.alloc _=V
 obtain⟨nV,sV,g3⟩:=al1 hV
 rw [sW] at g3 sV
 have g0:=(nV.block _ (by omega)).trans g0
 have g1:=(nV.block _ (by omega)).trans g1
 have g2:=(nV.block _ (by omega)).trans g2
 have nV:=nW.trans nV
 clear hV e0 e1 c0
 have c1:=zaa (i:=1) g0 rfl
 have d0:=zaa (i:=0) g1 rfl
 have d1:=zaa (i:=1) g1 rfl
 have h0:=zaa (i:=0) g3 rfl
 gi_upto_region 3 with fail
 rw [HX.out]
 generalize hU:V.alloc _=U
 obtain⟨nU,sU,g4⟩:=al1 hU
 rw [sV] at g4 sU
 have g0:=(nU.block _ (by omega)).trans g0
 have g1:=(nU.block _ (by omega)).trans g1
 have g2:=(nU.block _ (by omega)).trans g2
 have g3:=(nU.block _ (by omega)).trans g3
 have nU:=nV.trans nU
 clear hU c1 d0 d1 h0
 have c2:=zaa (i:=2) g0 rfl
 have d1:=zaa (i:=1) g1 rfl
 have h1:=zaa (i:=1) g3 rfl
 have o0:=zaa (i:=0) g4 rfl
 have o1:=zaa (i:=1) g4 rfl
 have z1:=zac (i:=1) g4
 clear HX
 generalize (if 0<wrap64 (hs.1-wrap64 (damp * d.soak)) then wrap64 (hs.1-wrap64 (damp * d.soak)) else 0)=mx
 have hc:=HC.out
 by_cases hbr:v0<d.brittle
 ·rw [if_pos hbr] at hc
  subst hc
  have db:=decide_eq_true hbr
  clear hbr
  gi_upto_region 5 with fail
  rw [HY.out]
  have q4:=zaA (i:=1) (v:=num (zcr s.c hs.2)) g4
  have q2:=(zae (w:=U) (b:=w.heap.size+3+1) (i:=1) (v:=num (zcr s.c hs.2)) (show w.heap.size+1+1≠w.heap.size+3+1 by omega)).trans g2
  have nX:=nU.set (b:=w.heap.size+3+1) (i:=1) (v:=num (zcr s.c hs.2)) (by omega)
  generalize U.setCell ⟨w.heap.size+3+1,1,none⟩ (num (zcr s.c hs.2))=X at q4 q2 nX ⊢
  have o0:=zaa (i:=0) q4 rfl
  have o1:=zaa (i:=1) q4 rfl
  have o2:=zaa (i:=2) q4 rfl
  have m0:=zaa (i:=0) q2 rfl
  have m1:=zaa (i:=1) q2 rfl
  have m2:=zaa (i:=2) q2 rfl
  have z0:=zac (i:=0) q2
  have z1:=zac (i:=1) q2
  have z2:=zac (i:=2) q2
  clear c2 d1 h1
  gi_wp2
  refine bodyPost_ret (zqD (b:=w.heap.size+1+1) rfl (set3 (x0:=num 0) (x1:=num 0) (x2:=num 0) q2)) rfl ⟨rfl,?_⟩
  repeat (refine Nx.set ?_ (by omega))
  exact nX
 ·rw [if_neg hbr] at hc
  subst hc
  have db:=decide_eq_false hbr
  clear hbr
  gi_upto_region 5 with fail
  have o2:=zaa (i:=2) g4 rfl
  have m0:=zaa (i:=0) g2 rfl
  have m1:=zaa (i:=1) g2 rfl
  have m2:=zaa (i:=2) g2 rfl
  have z0:=zac (i:=0) g2
  have z1:=zac (i:=1) g2
  have z2:=zac (i:=2) g2
  clear c2 d1 h1
  gi_wp2
  refine bodyPost_ret (zqD (b:=w.heap.size+1+1) rfl (set3 (x0:=num 0) (x1:=num 0) (x2:=num 0) g2)) rfl ⟨rfl,?_⟩
  repeat (refine Nx.set ?_ (by omega))
  exact nU
end Go.Proofs.Ytedomogjmhommaa
namespace Go.Proofs.Ytedomogjmhommaa
open Go.RowKit
abbrev Stg (d:Dry) (k:Nat):List (List Value):=(d.steps.take k).map (zd5 d.heats.length)
abbrev zfr (d:Dry) (r:R2) (v:Value):Array Value:=#[r.h,num d.soak,num d.brittle,num d.start.w,num d.start.c,num d.start.h,r.s,v]
def Same (bl:List Nat) (Y x:World):Prop:=∀ b∈bl,x.heap[b]?=Y.heap[b]?
theorem Same.cell {bl:List Nat} {Y x:World} (h:Same bl Y x) {b i:Nat} (hb:b∈bl) {v:Value} (hc:Y.cell? ⟨b,i,none⟩=some v):x.cell? ⟨b,i,none⟩=some v:=by
 have:=h b hb
 unfold World.cell? at hc ⊢
 dsimp only at hc ⊢
 rw [this]
 exact hc
theorem T102:ElemT 96 102 (.agg #[num 0,num 0,.bool false,num 0,num 0,num 0,num 0]) 7 56:=.mk' Try.underlying96 (by kernel_rfl) (by kernel_rfl) (by decide)
theorem zlo (d:Dry) (r:R2) (w:World) (hd:DrySl w d r):CallsIn FW 0 Try.prog 54 #[d.val r] w fun e w'=>Nx w w' ∧
  (dryF d≠0→e=.returned (.tuple #[.pointer none,num (dryF d)])) ∧
  (dryF d=0→∃ B v,e=.returned (.tuple #[.pointer (some ⟨B,0,none⟩),num 0])∧w.heap.size≤B∧w'.heap[B]?=some (.cells (zfr d r v) 98 (0,0))∧w'.ownsRow (B+1) 102 7 v d.steps.length (Stg d d.steps.length).flatten):=by
 obtain⟨rh,rs⟩:=r
 obtain⟨ha,hcap,rfl⟩:=hd.heats.cases
 obtain⟨sa,scap,rfl⟩:=hd.steps.cases
 have HD:=Lib.hid hd
 rw [List.length_map,List.length_map] at *
 have k47:=fun (w1:World) (n:Nx w w1)=>zkf d ⟨_,_⟩ w1 (hd.nx n)
 clear hd
 by_cases h0:dryF d=0
 case neg =>
  have b0:(dryF d == 0)=false:=beq_false_of_ne h0
  generalize dryF d=f at *
  gi_enter Try.func54,Try.ntmps54
  gi_wp2_with (first | (gi_at_call 47;refine CallsIn.mono (k47 _ (zaj (Nx.refl _) _)) ?_;rintro e w3 ⟨rfl,n3⟩) | gi_in)
  go_ret2
  exact⟨Nx.trans (zaj (Nx.refl _) _) n3,fun _=>rfl,fun h=>absurd h h0⟩
 case pos =>
 rw [h0] at k47 ⊢
 have HO:=Lib.hid (zdc h0)
 clear h0
 gi_enter Try.func54,Try.ntmps54
 gi_upto_region 1 with fail
 generalize hW:w.alloc _=W
 obtain⟨nW,sW,g0⟩:=al1 hW
 have hB:=(DBox.of (d:=d) (r:=⟨_,_⟩) hW).2
 clear hW
 have c0:=hB.at' 0 _ rfl
 have c1:=hB.at' 1 _ rfl
 have c2:=hB.at' 2 _ rfl
 have c3:=hB.at' 3 _ rfl
 have c4:=hB.at' 4 _ rfl
 have c5:=hB.at' 5 _ rfl
 have c6:=hB.at' 6 _ rfl
 gi_upto_region 4 with (first | (gi_at_call 47;refine CallsIn.mono (k47 _ nW) ?_;rintro e w3 ⟨rfl,n3⟩) | gi_in)
 have g0:=(n3.block _ (by omega)).trans g0
 have hB:=hB.nx n3
 have nw3:=nW.trans n3
 have hD3:=hB.lt
 clear c0 c1 c2 c3 c4 c5 c6 k47
 generalize hDn:w.heap.size=D at *
 have c0:=hB.at' 0 _ rfl
 have c1:=hB.at' 1 _ rfl
 have c2:=hB.at' 2 _ rfl
 have c3:=hB.at' 3 _ rfl
 have c4:=hB.at' 4 _ rfl
 have c5:=hB.at' 5 _ rfl
 have c6:=hB.at' 6 _ rfl
 gi_upto_region 5 with fail
 generalize hV:w3.alloc _=V
 obtain⟨nV,sV,gV⟩:=al1 hV
 clear hV c0 c1 c2 c3 c4 c5 c6
 have g0:=(nV.block _ hD3).trans g0
 have hBV:=hB.nx nV
 have nwV:=nw3.trans nV
 have hBb:D<w3.heap.size:=hD3
 generalize w3.heap.size=B at *
 have c6:=hBV.at' 6 _ rfl
 have hBs:B<V.heap.size:=by omega
 have gD:V.heap[D]?=some (.cells (d.cellsA ⟨.slice ha d.heats.length hcap,.slice sa d.steps.length scap⟩) 27 (0,0)):=g0
 have HS:=Lib.hid (HD.out.steps.nx (nwV))
 have hs5:=HO.out.s5
 gi_wp2
 gi_loopw [19] (fun i wr=>∃ (k:Nat) (v:Value),k≤d.steps.length∧i=num k∧Nx w wr∧(∀ b,b<V.heap.size→b≠B→wr.heap[b]?=V.heap[b]?)∧V.heap.size≤wr.heap.size∧wr.heap[B]?=some (.cells (zfr d ⟨.slice ha d.heats.length hcap,.slice sa d.steps.length scap⟩ v) 98 (0,0))∧wr.ownsRow (B+1) 102 7 v k (Stg d k).flatten) (fun i _=>d.steps.length-(intOf i).toNat)
 case atStart=>exact⟨0,.slice none 0 0,Nat.zero_le _,rfl,nwV,fun _ _ _=>rfl,Nat.le_refl _,gV,World.ownsRow_nil ..⟩
 case round =>
  obtain⟨k,v,hk,rfl,n2,hoth,hsz,gB,hown⟩:=hrel
  obtain⟨va,vc,rfl⟩:=zaB hown
  by_cases hlt:k<d.steps.length
  ·have hx:d.steps[k]?=some d.steps[k]:=List.getElem?_eq_getElem hlt
   generalize d.steps[k]=x at hx
   obtain⟨b,off,ha,hbl2,hcl⟩:=HD.out.steps.get (by simp;omega)
   subst ha
   obtain⟨x0,x1,x2,x3,x4,x5⟩:=x
   have e0:wr.cell? ⟨b,off+k * 6,none⟩=some (num x0):=Sl.at hcl n2 hbl2 hx 0 (v:=num x0) rfl
   have e1:wr.cell? ⟨b,off+k * 6+1,none⟩=some (num x1):=Sl.at hcl n2 hbl2 hx 1 (v:=num x1) rfl
   have e2:wr.cell? ⟨b,off+k * 6+2,none⟩=some (.bool x2):=Sl.at hcl n2 hbl2 hx 2 (v:=.bool x2) rfl
   have e3:wr.cell? ⟨b,off+k * 6+3,none⟩=some (num x3):=Sl.at hcl n2 hbl2 hx 3 (v:=num x3) rfl
   have e4:wr.cell? ⟨b,off+k * 6+4,none⟩=some (num x4):=Sl.at hcl n2 hbl2 hx 4 (v:=num x4) rfl
   have e5:wr.cell? ⟨b,off+k * 6+5,none⟩=some (num x5):=Sl.at hcl n2 hbl2 hx 5 (v:=num x5) rfl
   clear hcl HS
   gi_upto_region 8 with fail
   generalize hU:wr.alloc _=U
   obtain⟨nU,sU,gX⟩:=al1 hU
   clear hU e0 e1 e2 e3 e4 e5
   have gB:=(nU.block _ (by omega)).trans gB
   have gD:=(nU.block _ (by omega)).trans ((hoth D (by omega) (by omega)).trans gD)
   have hownU:=zck hown nU
   have nwU:=n2.trans nU
   have hsU:=nU.size
   generalize hXn:wr.heap.size=X at *
   have q0:U.cell? ⟨X,0,none⟩=some (num x0):=zaa gX rfl
   have q1:U.cell? ⟨X,1,none⟩=some (num x1):=zaa gX rfl
   have q2:U.cell? ⟨X,2,none⟩=some (.bool x2):=zaa gX rfl
   have q3:U.cell? ⟨X,3,none⟩=some (num x3):=zaa gX rfl
   have q4:U.cell? ⟨X,4,none⟩=some (num x4):=zaa gX rfl
   have q5:U.cell? ⟨X,5,none⟩=some (num x5):=zaa gX rfl
   have p0:U.cell? ⟨D,0,none⟩=some (.slice ha d.heats.length hcap):=zaa gD rfl
   have p7:U.cell? ⟨B,7,none⟩=some (.slice va k vc):=zaa gB rfl
   refine zat (Same [B,D,X] U) 15 (by kernel_rfl) ?_
   obtain⟨Z,G,hN,hG,hG'⟩:=zaC (C:=Same [B,D,X] U) (x:=U) (fun _ _=>rfl)
   have r0:=fun z=>(hG' z).cell (by simp) q0
   have r1:=fun z=>(hG' z).cell (by simp) q1
   have r2:=fun z=>(hG' z).cell (by simp) q2
   have r3:=fun z=>(hG' z).cell (by simp) q3
   have r4:=fun z=>(hG' z).cell (by simp) q4
   have r5:=fun z=>(hG' z).cell (by simp) q5
   have s0:=fun z=>(hG' z).cell (by simp) p0
   have s7:=fun z=>(hG' z).cell (by simp) p7
   clear q0 q1 q2 q3 q4 q5 p0 p7
   change Go.wpAnyZ _ _ _ _ _ _ _ _ 16 #[false,false,false,false,false,false,false,false,false,false,false,false,false,false,false,false] _ _
   obtain⟨n1,s1⟩:Nx U U.drew∧U.drew.heap.size=U.heap.size:=⟨Nx.drew (Nx.refl U),rfl⟩
   generalize U.drew=U1 at n1 s1 ⊢
   refine Go.zqE 0 hG (by kernel_rfl) (fun _ _ _ h=>by cases h.1) rfl ?_;intro o ho K hK;simp at ho;subst ho;gi_big_quiet_op;go_big_quiet_on
   refine Go.zqE 1 hG (by kernel_rfl) (fun _ _ _ h=>by cases h.1) rfl ?_;intro o ho K hK;simp at ho;subst ho;gi_big_quiet_op;go_big_quiet_on
   refine Go.ztE 2 (by kernel_rfl) (fun _ _ _ h=>by cases h.1) ?_;intro o ho;simp at ho;subst ho;refine⟨_,Go.yC_nil rfl,?_⟩;simp only [Go.Act.put,List.setIfInBounds_toArray,List.set_cons_succ,List.set_cons_zero]
   refine Go.zqE 3 hG (by kernel_rfl) (fun _ _ _ h=>by cases h.1) rfl ?_;intro o ho K hK;simp at ho;subst ho;gi_big_quiet_op;go_big_quiet_on
   refine Go.zqE 4 hG (by kernel_rfl) (fun _ _ _ h=>by cases h.1) rfl ?_;intro o ho K hK;simp at ho;subst ho;gi_big_quiet_op;go_big_quiet_on
   refine Go.zqE 5 hG (by kernel_rfl) (fun _ _ _ h=>by cases h.1) rfl ?_;intro o ho K hK;simp at ho;subst ho;gi_big_quiet_op;go_big_quiet_on
   refine Go.zqE 6 hG (by kernel_rfl) (fun _ _ _ h=>by cases h.1) rfl ?_;intro o ho K hK;simp at ho;subst ho;gi_big_quiet_op;go_big_quiet_on
   refine Go.zqE 7 hG (by kernel_rfl) (fun _ _ _ h=>by cases h.1) rfl ?_;intro o ho K hK;simp at ho;subst ho;gi_big_quiet_op;go_big_quiet_on
   refine Go.zqE 8 hG (by kernel_rfl) (fun _ _ _ h=>by cases h.1) rfl ?_;intro o ho K hK;simp at ho;subst ho;gi_big_quiet_op;go_big_quiet_on
   refine Go.ztE 9 (by kernel_rfl) (fun _ _ _ h=>by cases h.1) ?_;intro o ho;simp at ho;subst ho;refine⟨_,Go.yC_len rfl (fun _=>by simp [go_sem]),?_⟩;simp only [Go.Act.put,List.setIfInBounds_toArray,List.set_cons_succ,List.set_cons_zero]
   refine Go.zqE 10 hG (by kernel_rfl) (fun _ _ _ h=>by cases h.1) rfl ?_;intro o ho K hK;simp at ho;subst ho;gi_big_quiet_op;go_big_quiet_on
   have hC0:Same [B,D,X] U U1:=fun b hb=>n1.block b (by simp at hb;omega)
   refine Go.zoE 11 (by kernel_rfl) rfl ?_ ?_;rotate_left;intro o ho K hK;simp at ho;subst ho
   gi_wp2_with fail
   generalize hYn:U1.alloc _=Y
   obtain⟨nY,sY,gY⟩:=al1 hYn
   have nY:Nx U Y:=n1.trans nY
   rw [s1,sU] at gY sY
   clear hYn
   have gY:Y.heap[X+1]?=some (.cells #[num x0,num x1,.bool x2,num x3,num x4,num x5,num d.heats.length] 102):=gY
   have hlen:(Stg d k).length=k:=by simp [Stg];omega
   obtain⟨v',w',r1,r2,r3,r4⟩:=zg2 T102 (B+1) Y (.slice va k vc) (Stg d k) (by rw [hlen];exact zck hownU nY) (X+1) [num x0,num x1,.bool x2,num x3,num x4,num x5,num d.heats.length] rfl gY (by simp [Value.oneCell']) (by rw [hlen];omega) (by omega) (by omega)
   have hC1:Same [B,D,X] U Y:=fun b hb=>nY.block b (by simp at hb;omega)
   refine Go.zoE 12 (by kernel_rfl) rfl ?_ ?_;rotate_left;intro o ho K hK;simp at ho;subst ho
   refine ziS (w1:=w') (v:=v') rfl rfl (zmP _ (v:=.slice va k vc) (u:=.slice (some ⟨X+1,0,none⟩) 1 1) rfl rfl r1) ?_
   simp only [Act.put,List.setIfInBounds_toArray,List.set_cons_succ,List.set_cons_zero]
   refine hK _ _ ?_
   have hst:Stg d k++[[num x0,num x1,.bool x2,num x3,num x4,num x5,num d.heats.length]]=Stg d (k+1):=by
    rw [Stg,Stg,List.take_add_one,hx]
    simp
   have hlen2:(Stg d (k+1)).length=k+1:=by simp [Stg];omega
   rw [hst,hlen2] at r2
   obtain⟨ua,uc,rfl⟩:=zaB r2
   have hC2:Same [B,D,X] U w':=fun b hb=>(r3.block b (by simp at hb;omega) (fun e=>by
    have h1:=(hown.lt b e.symm).1
    have h2:=(hown.lt b e.symm).2
    simp at hb
    omega)).trans (hC1 b hb)
   have gB2:=(hC2 B (by simp)).trans gB
   have p7:w'.cell? ⟨B,7,none⟩=some (.slice va k vc):=zaa gB2 rfl
   have z7:w'.frozen? ⟨B,7,none⟩=false:=zac gB2
   refine Go.zoE 13 (by kernel_rfl) rfl ?_ ?_;rotate_left;intro o ho K hK;simp at ho;subst ho
   gi_wp2_with fail
   refine Go.zoE 14 (by kernel_rfl) rfl ?_ ?_;rotate_left;intro o ho K hK;simp at ho;subst ho
   gi_wp2_with fail
   refine Go.zoE 15 (by kernel_rfl) rfl ?_ ?_;rotate_left;intro o ho K hK;simp at ho;subst ho
   gi_wp2_with fail
   refine zar (by kernel_rfl) (fun h=>absurd h (by decide)) ⟨rfl,?_⟩
   have gB3:=zaA (i:=7) (v:=.slice ua (k+1) uc) gB2
   have oth3:∀ b,b≠B→(w'.setCell ⟨B,7,none⟩ (.slice ua (k+1) uc)).heap[b]?=w'.heap[b]?:=fun b hb=>zae hb
   have s3:(w'.setCell ⟨B,7,none⟩ (.slice ua (k+1) uc)).heap.size=w'.heap.size:=zay
   have nw4:Nx w w':=Below.grown (nwU.trans nY) r3 (by omega) (fun g hg=>by have:=(hownU.lt g hg).1;omega)
   have n4:Nx w (w'.setCell ⟨B,7,none⟩ (.slice ua (k+1) uc)):=nw4.set (by omega)
   generalize w'.setCell ⟨B,7,none⟩ (.slice ua (k+1) uc)=V3 at gB3 oth3 s3 n4 ⊢
   have r2':=zbn (w':=V3) r2 (fun g hg=>oth3 g (by have:=(r2.lt g hg).1;omega))
   have ho4:∀ b,b<V.heap.size→b≠B→V3.heap[b]?=V.heap[b]?:=fun b h1 h2=>(oth3 b h2).trans ((r3.block b (by omega) (fun e=>by
    have h1:=(hown.lt b e.symm).1
    omega)).trans ((nY.block b (by omega)).trans ((nU.block b (by omega)).trans (hoth b h1 h2))))
   have sz4:=r3.size
   clear r1 r3 hC0 hC1 hC2 oth3
   gi_wp2
   exact⟨⟨k+1,_,hlt,by simp,n4,ho4,by omega,gB3,r2'⟩,by simp [intOf];omega⟩
   all_goals exact fun _=>by assumption
  ·obtain rfl:k=d.steps.length:=by omega
   gi_wp2
   go_ret2
   exact⟨n2,fun h=>absurd rfl h,fun _=>⟨B,_,rfl,by omega,gB,hown⟩⟩
end Go.Proofs.Ytedomogjmhommaa
namespace Go.Proofs.Ytedomogjmhommaa
open Go.RowKit Go.Shelf
attribute [local go_sem] Oper.semAt_some
theorem anyN {n m:Nat} {f:Nat} {args:Array Value} {w:World} {R:Ending→World→Prop} (h:CallsIn FW n Try.prog f args w R):CallsIn FW m Try.prog f args w R :=
 ⟨h.1,fun cs _=>h.2 cs (fun d hd=>by cases hd)⟩
abbrev Dm:={ x:Int // 0≤x∧x≤3 }
def zbj (a:Int) (n:Nat):List Int:=(List.range n).map fun i:Nat=>a+(i:Int)
theorem zcC (a:Int) (n:Nat):zbj a (n+1)=zbj a n++[a+n]:=by simp [zbj,List.range_succ]
theorem zcz (a:Int) (n:Nat):(zbj a n).length=n:=by simp [zbj]
def Stp.damps (x:Stp):List Int:=zbj x.lo (x.hi+1-x.lo).toNat
def KpB (b:Nat) (A B:World):Prop:=A.heap.size≤B.heap.size∧B.heap[b]?=A.heap[b]?
theorem zl3 {b:Nat} {A B C:World} (h:KpB b A B) (k:KpB b B C):KpB b A C:=⟨Nat.le_trans h.1 k.1,k.2.trans h.2⟩
theorem zoP {b:Nat} {w:World} (hb:b<w.heap.size) (W:World) (l:Nat) (o o' : Obj) (hl:w.heap.size≤l) (_:W.heap[l]?=some o) (_:o.isCells=false) (_:o.isWalk=false):KpB b W (W.putObj l o') :=
 ⟨by simp,World.putObj_heap_other (by omega)⟩
theorem KpB.cell {b i:Nat} {A B:World} {v:Value} (h:KpB b A B) (hc:A.cell? ⟨b,i,none⟩=some v):B.cell? ⟨b,i,none⟩=some v:=by
 unfold World.cell? at hc ⊢
 dsimp only at hc ⊢
 rw [h.2]
 exact hc
theorem KpB.nx {b:Nat} {A B:World} (h:Nx A B) (hb:b<A.heap.size):KpB b A B:=⟨h.size,h.block b hb⟩
theorem zej (n:Nat) (hn:1≤n) (Bw:Nat) (lo hi:Int) (w:World) (h1:w.cell? ⟨Bw,0,none⟩=some (num lo)) (h2:w.cell? ⟨Bw,1,none⟩=some (num hi)) (hB:Bw<w.heap.size) (hl:0≤lo∧lo≤hi∧hi≤3) :
  SeqStopsK FW n Try.prog 93 #[.pointer (some ⟨Bw,0,none⟩)] (fun x:Dm=>#[num x.1]) (KpB Bw)
   (fun xs=>xs.map (·.1)=zbj lo (hi+1-lo).toNat) (fun pre=>∃ k,k≤(hi+1-lo).toNat∧pre.map (·.1)=zbj lo k) (hi+1-lo).toNat w:=by
 intro l J Jx W hW hJ hJx hY h0
 have hWB:KpB Bw w W:=⟨hW.size,hW.block Bw hB⟩
 gi_enter Try.func93,Try.ntmps93
 have e1:=hWB.cell h1
 gi_wp2
 clear e1
 gi_loopw [3] (fun h wr=>∃ pre:List Dm,h=num (lo+pre.length)∧pre.length≤(hi+1-lo).toNat∧pre.map (·.1)=zbj lo pre.length∧KpB Bw w wr∧J pre wr) (fun h _=>(hi+1-intOf h).toNat)
 case atStart=>exact⟨[],by simp,by simp,rfl,hWB,h0⟩
 case round =>
  obtain⟨pre,rfl,hlen,hpre,hK,hJs⟩:=hrel
  have f1:=hK.cell h1
  have f2:=hK.cell h2
  by_cases hlt:pre.length<(hi+1-lo).toNat
  ·obtain⟨fn,tmps,assign,body,hy,hR⟩:=hY pre ⟨lo+pre.length,by omega⟩ wr hJs hlt
   dsimp only at hy
   have hle:lo+(pre.length:Int)≤hi:=by omega
   gi_wp2
   refine hR.mono ?_
   rintro e W3 (⟨rfl,hJ3,hk3⟩ | ⟨rfl,hJx3⟩)
   ·gi_wp2
    go_roundw
    case rel=>exact⟨pre++[⟨lo+pre.length,by omega⟩],by simp;omega,by simp;omega,by simp [hpre,zcC],zl3 hK hk3,hJ3⟩
    case measure=>simp [intOf];omega
   ·gi_wp2
    refine bodyPost_ret (results_none rfl _ _ _) rfl ?_
    exact⟨⟨_,rfl⟩,.inr ⟨_,⟨pre.length+1,by omega,by simp [hpre,zcC]⟩,hJx3⟩⟩
  ·have hle:¬ lo+(pre.length:Int)≤hi:=by omega
   gi_wp2
   go_end0
   exact⟨⟨_,rfl⟩,.inl ⟨pre,hpre.trans (by congr 1;omega),hJs⟩⟩
theorem zeH (x:Stp) (w:World):CallsIn FW 0 Try.prog 60 #[x.val] w fun e w'=>e=.returned (.func (.func 93) #[] #[.pointer (some ⟨w.heap.size,0,none⟩)])∧w'=w.alloc (.cells x.cells.toArray 100):=by
 gi_enter Try.func60,Try.ntmps60
 gi_wp2
 go_ret
 exact⟨by simp,rfl⟩
end Go.Proofs.Ytedomogjmhommaa
namespace Go.Proofs.Ytedomogjmhommaa
open Go.RowKit Go.Shelf
def zaM (d:Dry) (h:Nat):Int×Int:=d.heats[h]?.getD (0,0)
def zeG (d:Dry) (next:St→Int) (x:Stp) (s:St) (h:Nat) (a:Int):Bool:=za5 x (za9 d (zaM d h) s h a) && decide (0≤next (za9 d (zaM d h) s h a))
def goodS (d:Dry) (next:St→Int) (x:Stp) (s:St) (h:Nat):Bool:=mayB d.heats.length x s.h h && x.damps.all (zeG d next x s h)
def zcM (p:Nat→Bool) (n:Nat):Int:=match (List.range n).find? p with | some h=>h | none=>-1
def chooseS (d:Dry):List Stp→St→Int
 | [],_=>0
 | x :: xs,s=>zcM (goodS d (chooseS d xs) x s) d.heats.length
theorem zcN {p:Nat→Bool} {n k:Nat} (h:∀ j,j<k→p j=false) (hk:k<n) (hp:p k=true):zcM p n=k:=by
 unfold zcM
 have:(List.range n).find? p=some k:=by
  rw [List.find?_range_eq_some]
  exact⟨hp,by simpa using hk,fun j hj=>by simp [h j hj]⟩
 rw [this]
theorem zdg {p:Nat→Bool} {n:Nat} (h:∀ j,j<n→p j=false):zcM p n=-1:=by
 unfold zcM
 have:(List.range n).find? p=none:=by
  rw [List.find?_range_eq_none]
  exact fun j hj=>by simp [h j hj]
 rw [this]
theorem zlT {lo a:Int} {k n:Nat} (hk:k≤n) (h:a∈zbj lo k):a∈zbj lo n:=by
 unfold zbj at *
 obtain⟨i,hi,rfl⟩:=List.mem_map.1 h
 exact List.mem_map.2 ⟨i,List.mem_range.2 (Nat.lt_of_lt_of_le (List.mem_range.1 hi) hk),rfl⟩
def calls:Nat→Nat
 | 0=>0
 | j+1=>1+16 * calls j
theorem St.Ok.i {n:Nat} {s:St} (h:s.Ok n) (hn:n≤4):StI s:=by
 have:=h.w;have:=h.c;have:=h.h
 exact⟨by unfold I64;omega,by unfold I64;omega,by unfold I64;omega⟩
def Memo (w:World) (M:Nat) (d:Dry) (n:Nat):Prop:=∃ D:DataW Unit,w.ownsMap Try.prog 94 (plainElem Try.prog 3) M n D ∧
 ∀ (k:Nat) (s:St) (l:Lit),k<d.steps.length→s.Ok d.heats.length→keyOf Try.prog 94 (plV k s)=some l→Maps.has D l=true→D.atKey l (.lit (.int .i64 0))=.lit (.int .i64 (chooseS d (d.steps.drop k) s))
theorem Memo.kept {w w' : World} {M:Nat} {d:Dry} {n:Nat} {row:Option Nat} (h:Memo w M d n) (hg:w.grownBy w' row) (hne:some M≠row):Memo w' M d n:=by
 obtain⟨D,h1,h2⟩:=h
 exact⟨D,h1.kept hg hne,h2⟩
theorem Memo.nx {w w' : World} {M:Nat} {d:Dry} {n:Nat} (h:Memo w M d n) (n1:Nx w w'):Memo w' M d n :=
 h.kept (row:=none) ⟨n1.os,n1.tape,n1.output,n1.size,fun i hi _=>n1.block i hi⟩ (by simp)
theorem Memo.lt {w:World} {M:Nat} {d:Dry} {n:Nat} (h:Memo w M d n):M<w.heap.size:=by
 obtain⟨D,h1,_⟩:=h
 exact h1.lt
theorem zlk {w' : World} {M:Nat} {d:Dry} {n:Nat} {D:DataW Unit} (hm:Maps.IsMap D) (h:∀ (k:Nat) (s:St) (l:Lit),k<d.steps.length→s.Ok d.heats.length→keyOf Try.prog 94 (plV k s)=some l→Maps.has D l=true→D.atKey l (.lit (.int .i64 0))=.lit (.int .i64 (chooseS d (d.steps.drop k) s)))
  {k:Nat} {s:St} {l:Lit} (hl:keyOf Try.prog 94 (plV k s)=some l) (hw:w'.ownsMap Try.prog 94 (plainElem Try.prog 3) M n (D.put l (.lit (.int .i64 (chooseS d (d.steps.drop k) s))))):Memo w' M d n:=by
 refine⟨_,hw,fun k' s' l' hk' hs' hl' hh=>?_⟩
 by_cases e:l'=l
 ·subst e
  have:=K94.inj hl hl'
  simp only [Value.agg.injEq,Array.mk.injEq,List.cons.injEq,Value.int.injEq,true_and,and_true] at this
  obtain⟨h1,h2,h3,h4⟩:=this
  rw [Maps.atKey_put_same hm (K94.key hl)]
  have e1:k'=k:=by omega
  have e2:s'=s:=by cases s;cases s';simp_all
  rw [e1,e2]
 ·rw [Maps.has_put_other e] at hh
  rw [Maps.atKey_put_other e]
  exact h k' s' l' hk' hs' hl' hh
end Go.Proofs.Ytedomogjmhommaa
