import Derived.Test.YtedomogjmhommaaA47
import Derived.Test.YtedomogjmhommaaA49
import Derived.Test.YtedomogjmhommaaChecked
import Derived.Test.YtedomogjmhommaaRows
import Derived.ProofKit
import Derived.LaidMore
import Derived.OpenShut
import Derived.Stop.Joined
import Derived.Conc.LeavingOf
import Derived.Conc.Holds
import Derived.Carry
set_option linter.all false
set_option maxRecDepth 100000
set_option maxHeartbeats 8000000
namespace Go.Proofs.Ytedomogjmhommaa
open Go.RowKit
theorem keeps37_any (d:Dry) (r:R2) (k:Nat) (x:Stp) (s:St) (w:World) (hd:DrySl w d r) (hk:d.steps[k]?=some x) :
 CallsIn FW 0 Try.prog 37 #[d.val r,num k,s.val] w fun e w'=>e=.returned (.bool (keepsB x s))∧Nx w w':=by
 obtain⟨rh,rs⟩:=r
 obtain⟨ha,hcap,rfl⟩:=hd.heats.cases
 obtain⟨sa,scap,rfl⟩:=hd.steps.cases
 have hkl:k<d.steps.length:=(List.getElem?_eq_some_iff.1 hk).1
 have hs:=hd.sl
 obtain⟨b,off,rfl,hbl,hcl⟩:=hd.steps.get (by simp;omega)
 rw [List.length_map,List.length_map] at *
 have E0:∀ i v,(Stp.cells x)[i]?=some v→w.cell? ⟨b,off+k * 6+i,none⟩=some v:=fun i v h=>Sl.at hcl (Nx.refl w) hbl hk i h
 have j1:=fun (w1:World)=>in58_any s.w x.wlo x.whi w1
 clear hd hcl
 obtain⟨kb,hkb⟩:∃ kb,keepsB x s=kb:=⟨_,rfl⟩
 rw [hkb]
 have HKB:=Lib.hid hkb
 clear hkb hk
 gi_enter Try.func37,Try.ntmps37
 gi_upto_region 1 with fail
 generalize hW:(w.alloc _).alloc _=W
 obtain⟨nW,sW,g0,g1⟩:=al2 hW
 have kW:∀ i v,(Stp.cells x)[i]?=some v→W.cell? ⟨b,off+k * 6+i,none⟩=some v:=fun i v h=>(nW.cell (p:=⟨b,_,none⟩) (by exact hbl)).trans (E0 i v h)
 have e0:W.cell? ⟨b,off+k * 6,none⟩=some (num x.lo):=kW 0 _ rfl
 have e1:=kW 1 (num x.hi) rfl
 have e2:=kW 2 (.bool x.tended) rfl
 have e3:=kW 3 (num x.wlo) rfl
 have e4:=kW 4 (num x.whi) rfl
 have e5:=kW 5 (num x.col) rfl
 have c6:W.cell? ⟨w.heap.size,6,none⟩=some (.slice (some ⟨b,off,none⟩) d.steps.length scap):=row_cell g0 rfl
 have s0:W.cell? ⟨w.heap.size+1,0,none⟩=some (num s.w):=row_cell g1 rfl
 have s1:W.cell? ⟨w.heap.size+1,1,none⟩=some (num s.c):=row_cell g1 rfl
 clear hW kW E0
 gi_upto_region 2 with fail
 generalize hV:W.alloc _=V
 obtain⟨nV,sV,g2⟩:=al1 hV
 rw [sW] at g2
 have s0:=(nV.cell (p:=⟨w.heap.size+1,0,none⟩) (by show _<_;simp only;omega)).trans s0
 have s1:=(nV.cell (p:=⟨w.heap.size+1,1,none⟩) (by show _<_;simp only;omega)).trans s1
 have t3:V.cell? ⟨w.heap.size+2,3,none⟩=some (num x.wlo):=row_cell g2 rfl
 have t4:V.cell? ⟨w.heap.size+2,4,none⟩=some (num x.whi):=row_cell g2 rfl
 have t5:V.cell? ⟨w.heap.size+2,5,none⟩=some (num x.col):=row_cell g2 rfl
 have nV:=nW.trans nV
 clear hV e0 e1 e2 e3 e4 e5 c6 g0 g1 g2
 by_cases h:x.wlo≤s.w∧s.w≤x.whi
 ·have b1:=decide_eq_true h
  have HK:Hid (kb=decide (s.c≥x.col)):=by show _=_;rw [← HKB.out];unfold keepsB;rw [b1];rfl
  clear h
  gi_wp2_with (first | ((gi_at_call 58;refine CallsIn.mono (by (with_reducible exact j1 _)) ?_;rintro e w1 ⟨rfl,hw1⟩;replace hw1:=hw1.symm;subst hw1)) | gi_in)
  all_goals (go_ret;exact⟨by rw [HK.out]<;>rfl,nV⟩)
 ·have b1:=decide_eq_false h
  have HK:Hid (kb=false):=by show _=_;rw [← HKB.out];unfold keepsB;rw [b1];rfl
  clear h
  gi_wp2_with (first | ((gi_at_call 58;refine CallsIn.mono (by (with_reducible exact j1 _)) ?_;rintro e w1 ⟨rfl,hw1⟩;replace hw1:=hw1.symm;subst hw1)) | gi_in)
  all_goals (go_ret;exact⟨by rw [HK.out]<;>rfl,nV⟩)
end Go.Proofs.Ytedomogjmhommaa
namespace Go.Proofs.Ytedomogjmhommaa
open Go.RowKit Go.Shelf
theorem plainB_inv {v:Value} {b:Bool} {ps:List MemPlace} (h:plainElem (H:=Unit) Try.prog 4 v=some (.lit (.bool b),ps)):v=.bool b:=by
 unfold plainElem at h
 rw [Try.underlying4] at h
 cases v<;>simp only [Option.some.injEq,Prod.mk.injEq,DataW.lit.injEq,Lit.bool.injEq,reduceCtorEq] at h
 rw [h.1]
theorem SetM.look {w:World} {M n:Nat} {f:St→Bool} (h:SetM w M n (fun t=>f t=true)) {s:St} (hs:StI s):(Instr.lookup 104 (.map (some M)) s.val false).run Try.prog w=.ok (.bool (f s)) w:=by
 obtain⟨D,hown,h1,h2,h3,h4⟩:=h
 obtain⟨l,hl⟩:=key24 hs
 obtain⟨v,ps,hrun,hv⟩:=hown.lookup K24 Try.underlying104 (z:=.bool false) (by kernel_rfl) (plainElem_bool Try.underlying4 false) hl
 rw [hrun]
 have hv2:v=.bool (f s):=by
  cases hf:f s with
  | true =>
   rw [h4 s l _ hl hf] at hv
   exact plainB_inv hv
  | false =>
   have hn:Maps.has D l=false:=by
    cases hh:Maps.has D l with
    | false=>rfl
    | true =>
     have h5:f s=true:=(h2 s l hl).1 hh
     exact absurd (hf.symm.trans h5) (by decide)
   rw [Maps.atKey_of_not_has hn] at hv
   exact plainB_inv hv
 rw [hv2]
end Go.Proofs.Ytedomogjmhommaa
namespace Go.Proofs.Ytedomogjmhommaa
open Go.RowKit Go.Shelf
attribute [local go_sem] Oper.semAt_some
theorem nx_below {B:Nat} {w W w' : World} (h:Nx w W) (hb:Below B W w') (hB:w.heap.size≤B):Nx w w' :=
 ⟨hb.os.trans h.os,hb.tape.trans h.tape,hb.output.trans h.output,Nat.le_trans h.size hb.size,fun i hi=>(hb.block i (by omega)).trans (h.block i hi)⟩
def leadOk (d:Dry) (x:Stp) (s:St) (f:St→Bool) (h:Nat) (a:Int):Bool:=keepsB x (nextS d (heatAt d h) s h a) && f (nextS d (heatAt d h) s h a)
def leadS (d:Dry) (x:Stp) (s:St) (f:St→Bool) (h:Nat):Bool:=mayB d.heats.length x s.h h && x.damps.all (leadOk d x s f h)
def leadsB (d:Dry) (x:Stp) (s:St) (f:St→Bool):Bool:=(List.range d.heats.length).any (leadS d x s f)
theorem leads_true {d:Dry} {x:Stp} {s:St} {f:St→Bool} {h:Nat} (hh:h<d.heats.length) (hl:leadS d x s f h=true):leadsB d x s f=true :=
 List.any_eq_true.2 ⟨h,List.mem_range.2 hh,hl⟩
theorem leads_false {d:Dry} {x:Stp} {s:St} {f:St→Bool} (hl:∀ h,h<d.heats.length→leadS d x s f h=false):leadsB d x s f=false :=
 List.any_eq_false.2 fun h hh=>by rw [hl h (List.mem_range.1 hh)];decide
theorem leads87_any (d:Dry) (hO:d.Ok) (B M n k:Nat) (x:Stp) (hx:d.steps[k]?=some x) (s:St) (hs:s.Ok d.heats.length) (f:St→Bool) (w:World) (hst0:StoveAt w B d) (hM:SetM w M n (fun t=>f t=true)) :
  CallsIn FW 0 Try.prog 87 #[ptr B,num k,s.val,.map (some M)] w fun e w'=>e=.returned (.bool (leadsB d x s f))∧Nx w w':=by
 have hkl:k<d.steps.length:=(List.getElem?_eq_some_iff.1 hx).1
 have hs5:=hO.s5
 have hst:=hO.st x (List.mem_of_getElem? hx)
 have hh4:=hO.h4
 obtain⟨v,c7,hsl⟩:=hst0.stages
 obtain⟨a,cap,rfl⟩:=hsl.cases
 rw [List.length_map] at c7 hsl
 obtain⟨b,off,rfl,hbl,hcl⟩:=hsl.get (by simp;omega)
 have e0:w.cell? ⟨b,off+k * 7,none⟩=some (num x.lo):=Sl.at hcl (Nx.refl w) hbl hx 0 (v:=num x.lo) rfl
 have e1:w.cell? ⟨b,off+k * 7+1,none⟩=some (num x.hi):=Sl.at hcl (Nx.refl w) hbl hx 1 (v:=num x.hi) rfl
 have e2:w.cell? ⟨b,off+k * 7+2,none⟩=some (.bool x.tended):=Sl.at hcl (Nx.refl w) hbl hx 2 (v:=.bool x.tended) rfl
 have e3:w.cell? ⟨b,off+k * 7+3,none⟩=some (num x.wlo):=Sl.at hcl (Nx.refl w) hbl hx 3 (v:=num x.wlo) rfl
 have e4:w.cell? ⟨b,off+k * 7+4,none⟩=some (num x.whi):=Sl.at hcl (Nx.refl w) hbl hx 4 (v:=num x.whi) rfl
 have e5:w.cell? ⟨b,off+k * 7+5,none⟩=some (num x.col):=Sl.at hcl (Nx.refl w) hbl hx 5 (v:=num x.col) rfl
 have e6:w.cell? ⟨b,off+k * 7+6,none⟩=some (num d.heats.length):=Sl.at hcl (Nx.refl w) hbl hx 6 (v:=num d.heats.length) rfl
 clear hcl
 obtain⟨hv0,ch,hsh⟩:=hst0.heats
 obtain⟨ha',hcap',rfl⟩:=hsh.cases
 rw [List.length_map] at ch
 have hbB:=hst0.lt
 apply anyN (n:=4)
 refine callsIn_of_wp_marks Try.func87 rfl trivial ?_ rfl
 simp only [Try.ntmps87,List.size_toArray,List.length_cons,List.length_nil,Nat.reduceAdd,Nat.reduceSub,Array.replicate_succ,Array.replicate_zero,List.push_toArray,List.append_toArray,List.nil_append,List.cons_append]
 gi_upto_region 1 with fail
 refine wpIn_scope (fun _ _ _ h=>h) ?_
 gi_upto_region 1 with fail
 generalize hW:((w.alloc _).alloc _).alloc _=W
 obtain⟨nW,sW,g4,g6,g7⟩:=al3 hW
 clear hW
 generalize hA:w.heap.size=A at *
 have kW:=Kc.nx nW
 have c7:=kW.cell c7
 have ch:=kW.cell ch
 have e0:=kW.cell e0
 have e1:=kW.cell e1
 have e2:=kW.cell e2
 have e3:=kW.cell e3
 have e4:=kW.cell e4
 have e5:=kW.cell e5
 have e6:=kW.cell e6
 have q4:W.cell? ⟨A,0,none⟩=some (ptr B):=row_cell g4 rfl
 have y1:=(al1 (w:=W) (o1:=.cells #[num 0,num 0,.bool false,num 0,num 0,num 0,num 0] 102 (0,0)) rfl).2.2
 have r0:=row_cell (i:=0) y1 rfl
 have zr0:=row_frozen (i:=0) y1
 have r1:=row_cell (i:=1) y1 rfl
 have zr1:=row_frozen (i:=1) y1
 have r2:=row_cell (i:=2) y1 rfl
 have zr2:=row_frozen (i:=2) y1
 have r3:=row_cell (i:=3) y1 rfl
 have zr3:=row_frozen (i:=3) y1
 have r4:=row_cell (i:=4) y1 rfl
 have zr4:=row_frozen (i:=4) y1
 have r5:=row_cell (i:=5) y1 rfl
 have zr5:=row_frozen (i:=5) y1
 have r6:=row_cell (i:=6) y1 rfl
 have zr6:=row_frozen (i:=6) y1
 gi_upto_region 2 with fail
 generalize hT:W.alloc _=T
 obtain⟨nT,sT,gX⟩:=al1 hT
 clear hT y1 e0 e1 e2 e3 e4 e5 e6
 clear r0 zr0 r1 zr1 r2 zr2 r3 zr3 r4 zr4 r5 zr5 r6 zr6
 rw [show W.heap.size=A+3 by omega] at gX
 have nwT:=nW.trans nT
 have kT:=Kc.nx nT
 have g6:=(nT.block _ (by omega)).trans g6
 have g7:=(nT.block _ (by omega)).trans g7
 have ch:=kT.cell ch
 have q4:=kT.cell q4
 have p1:T.cell? ⟨A+1,0,none⟩=some (num s.w):=row_cell g6 rfl
 have p2:T.cell? ⟨A+1,1,none⟩=some (num s.c):=row_cell g6 rfl
 have p3:T.cell? ⟨A+1,2,none⟩=some (num s.h):=row_cell g6 rfl
 have qm:T.cell? ⟨A+1+1,0,none⟩=some (.map (some M)):=row_cell g7 rfl
 have x0:T.cell? ⟨A+3,0,none⟩=some (num x.lo):=row_cell gX rfl
 have x1:T.cell? ⟨A+3,1,none⟩=some (num x.hi):=row_cell gX rfl
 have x2:T.cell? ⟨A+3,2,none⟩=some (.bool x.tended):=row_cell gX rfl
 have x3:T.cell? ⟨A+3,3,none⟩=some (num x.wlo):=row_cell gX rfl
 have x4:T.cell? ⟨A+3,4,none⟩=some (num x.whi):=row_cell gX rfl
 have x5:T.cell? ⟨A+3,5,none⟩=some (num x.col):=row_cell gX rfl
 have x6:T.cell? ⟨A+3,6,none⟩=some (num d.heats.length):=row_cell gX rfl
 have hstT:=hst0.kc (Kc.nx nwT)
 have hMT:=hM.blk (w':=T) (nwT.block M (hM.lt))
 clear c7 g4 g6 g7 gX nW sW nT sT kW kT
 refine wpIn_label ?_
 gi_wp2
 refine wpIn_loop (fun a' w'=>∃ ds u8 u10 u11 u12 u26 u27 u28 u29 u30 u31 u32 u33 u34 u35 u36 u37 u39 u40 u41 u42 u43 u44 u45 u46 u47 u48 u49 u50 u51 u52 u53 u54 u55,(∃ h,h≤d.heats.length∧u26=num ↑h∧Nx T w'∧Marks T.heap.size ds w'∧∀ (h' : Nat),h' < h→leadS d x s f h'=false)∧a'={ tmps:=(List.toArray ((ptr B) :: (num ↑k) :: s.val :: (Value.map (some M)) :: (Value.pointer (some { block:=A,off:=0 })) :: undef :: (Value.pointer (some { block:=A+1,off:=0 })) :: (Value.pointer (some { block:=A+1+1,off:=0 })) :: u8 :: (Value.pointer (some { block:=A+3,off:=0 })) :: u10 :: u11 :: u12 :: (ptr B) :: (Value.pointer (some { block:=B,off:=0 })) :: (Value.pointer (some { block:=B,off:=7 })) :: (Value.slice (some { block:=b,off:=off }) d.steps.length cap) :: (num ↑k) :: (Value.pointer (some { block:=b,off:=off+k * 7 })) :: (Value.agg #[num x.lo,num x.hi,Value.bool x.tended,num x.wlo,num x.whi,num x.col,num ↑d.heats.length]) :: (ptr B) :: (Value.pointer (some { block:=B,off:=0 })) :: (Value.pointer (some { block:=B,off:=0 })) :: (Value.pointer (some { block:=B,off:=0 })) :: (Value.slice ha' d.heats.length hcap') :: (Value.int IntKind.i64 ↑d.heats.length) :: u26 :: u27 :: u28 :: u29 :: u30 :: u31 :: u32 :: u33 :: u34 :: u35 :: u36 :: u37 :: undef :: u39 :: u40 :: u41 :: u42 :: u43 :: u44 :: u45 :: u46 :: u47 :: u48 :: u49 :: u50 :: u51 :: u52 :: u53 :: u54 :: u55 :: [])),defers:=ds }) (fun a' w'=>d.heats.length-(intOf (a'.tmps.getD 26 undef)).toNat) ?atStart ?round
 case atStart=>(repeat apply Exists.intro);refine⟨?_,rfl⟩;exact⟨0,Nat.zero_le _,rfl,Nx.refl T,Marks.nil _ _,fun h' hh=>absurd hh (Nat.not_lt_zero _)⟩
 case round =>
  rintro _ wr ⟨ds,u8,u10,u11,u12,u26,u27,u28,u29,u30,u31,u32,u33,u34,u35,u36,u37,u39,u40,u41,u42,u43,u44,u45,u46,u47,u48,u49,u50,u51,u52,u53,u54,u55,hrel,rfl⟩;try dsimp only
  obtain⟨h,hhl,rfl,nr,hmk,hbad⟩:=hrel
  have HB:=Lib.hid hbad
  clear hbad
  by_cases hlt:h<d.heats.length
  ·have hhs:d.heats[h]?=some d.heats[h]:=List.getElem?_eq_getElem hlt
   have hat1:heatAt d h=d.heats[h]:=by unfold heatAt;rw [hhs];rfl
   generalize d.heats[h]=hv at hhs hat1
   gi_upto_region 5 with fail
   generalize hYn:wr.alloc _=Y
   obtain⟨nY,sY,gY⟩:=al1 hYn
   have hH:Y.cell? ⟨wr.heap.size,0,none⟩=some (num h):=row_cell gY rfl
   clear hYn gY
   have nTY:=nr.trans nY
   have hmY:=hmk.nx nY
   have ky:=Kc.nx nTY
   have r1:=ky.cell p1
   have r2:=ky.cell p2
   have r3:=ky.cell p3
   have z0:=ky.cell x0
   have z1:=ky.cell x1
   have z2:=ky.cell x2
   have z3:=ky.cell x3
   have z4:=ky.cell x4
   have z5:=ky.cell x5
   have z6:=ky.cell x6
   have k91:=fun (w1:World)=>may_any d.heats.length x s.h h w1 (by omega) (by have:=hs.h;omega)
   cases hmay:mayB d.heats.length x s.h h with
   | false =>
    have HG:Hid (leadS d x s f h=false):=by show _=_;unfold leadS;rw [hmay];rfl
    rw [hmay] at k91
    gi_wp2_with (first | (gi_at_call 91;refine CallsIn.mono (anyN (k91 _)) ?_;rintro e w2 ⟨rfl,n2⟩) | gi_in)
    refine⟨?_,?measure⟩
    repeat apply Exists.intro
    refine⟨?rel,rfl⟩
    case rel =>
     refine⟨h+1,?_⟩
     exact⟨by omega,by simp,nTY.trans n2,hmY.nx n2,fun h' hh=>by
      rcases Nat.lt_succ_iff_lt_or_eq.1 hh with hh | rfl
      ·exact HB.out h' hh
      ·exact HG.out⟩
    case measure=>simp [intOf];omega
   | true =>
    rw [hmay] at k91
    gi_upto_region 6 with (first | (gi_at_call 91;refine CallsIn.mono (anyN (k91 _)) ?_;rintro e w2 ⟨rfl,n2⟩) | gi_in)
    have nT2:=nTY.trans n2
    have hm2:=hmY.nx n2
    have hH:=(Kc.nx n2).cell hH
    clear z0 z1 z2 z3 z4 z5 z6 r1 r2 r3 k91 hmY
    have k2:=Kc.nx nT2
    have z0:=k2.cell x0
    have z1:=k2.cell x1
    have z2:=k2.cell x2
    have z3:=k2.cell x3
    have z4:=k2.cell x4
    have z5:=k2.cell x5
    have k60:=fun (w1:World)=>damps_any x w1
    gi_wp2_with (first | (gi_at_call 60;refine CallsIn.mono (anyN (k60 _)) ?_;rintro e w4 ⟨rfl,hw4⟩;replace hw4:=hw4.symm;subst hw4) | gi_in)
    generalize hXn:w2.alloc _=X
    obtain⟨nX,sX,gX⟩:=al1 hXn
    have b0:X.cell? ⟨w2.heap.size,0,none⟩=some (num x.lo):=row_cell gX rfl
    have b1:X.cell? ⟨w2.heap.size,1,none⟩=some (num x.hi):=row_cell gX rfl
    clear hXn gX z0 z1 z2 z3 z4 z5
    have nTX:=nT2.trans nX
    have hmX:=hm2.nx nX
    have hHX:=(Kc.nx nX).cell hH
    have hlX:w2.heap.size<X.heap.size:=by omega
    generalize w2.heap.size=Bw at *
    clear hm2 hmk
    refine Go.wpIn_rangeFunc_ownG rfl (by omega) rfl trivial (enters_of Try.func93 (by kernel_rfl) rfl) (damps_stops 3 (by omega) Bw x.lo x.hi X b0 b1 hlX hst.1) kpB_t (kpB_b hlX) (Go.RowKit.Below.refl _ _) (fun _=>rfl) (fun pre W=>Nx X W∧∀ a∈pre,leadOk d x s f h a.1=true) (fun c pre W=>c=.exit 1∧Nx X W∧∃ a∈pre,leadOk d x s f h a.1=false) ?hI ?hIx ?h0 (fun x_1=>{ tmps:=(List.toArray ((ptr B) :: (num ↑k) :: s.val :: (Value.map (some M)) :: (Value.pointer (some { block:=A,off:=0 })) :: undef :: (Value.pointer (some { block:=A+1,off:=0 })) :: (Value.pointer (some { block:=A+1+1,off:=0 })) :: u8 :: (Value.pointer (some { block:=A+3,off:=0 })) :: (Value.pointer (some { block:=wr.heap.size,off:=0 })) :: (num x_1.val) :: u12 :: (ptr B) :: (Value.pointer (some { block:=B,off:=0 })) :: (Value.pointer (some { block:=B,off:=7 })) :: (Value.slice (some { block:=b,off:=off }) d.steps.length cap) :: (num ↑k) :: (Value.pointer (some { block:=b,off:=off+k * 7 })) :: (Value.agg #[num x.lo,num x.hi,Value.bool x.tended,num x.wlo,num x.whi,num x.col,num ↑d.heats.length]) :: (ptr B) :: (Value.pointer (some { block:=B,off:=0 })) :: (Value.pointer (some { block:=B,off:=0 })) :: (Value.pointer (some { block:=B,off:=0 })) :: (Value.slice ha' d.heats.length hcap') :: (Value.int IntKind.i64 ↑d.heats.length) :: (num ↑h) :: (Value.bool true) :: (num ↑h) :: (Value.agg #[num x.lo,num x.hi,Value.bool x.tended,num x.wlo,num x.whi,num x.col,num ↑d.heats.length]) :: (Value.pointer (some { block:=A+1,off:=2 })) :: (num s.h) :: (num ↑h) :: (Value.bool true) :: (Value.bool false) :: (Value.pointer (some { block:=A+3,off:=0 })) :: (Value.agg #[num x.lo,num x.hi,Value.bool x.tended,num x.wlo,num x.whi,num x.col]) :: (Value.func (Fn.func 93) #[] #[Value.pointer (some { block:=Bw,off:=0 })]) :: (num x_1.val) :: u39 :: u40 :: u41 :: u42 :: u43 :: u44 :: u45 :: u46 :: u47 :: u48 :: u49 :: u50 :: u51 :: u52 :: u53 :: u54 :: u55 :: [])),defers:=[] }) ?assign ?body ?done ?stop
    case hI =>
     rintro pre A A' row ⟨h1,h4⟩ hg hr
     exact⟨Below.grown h1 hg h1.size fun r e=>(hr r e).1,h4⟩
    case hIx =>
     rintro c' pre A A' row ⟨h0,h1,h4⟩ hg hr
     exact⟨h0,Below.grown h1 hg h1.size fun r e=>(hr r e).1,h4⟩
    case h0=>exact⟨Nx.refl X,fun a ha=>absurd ha (List.not_mem_nil)⟩
    case assign =>
     intro l x W K hK
     gi_wp2
     exact hK
    case body =>
     rintro l pre a W ⟨hg1,hall⟩ hlen
     have nTW:=nTX.trans hg1
     have kW:=Kc.nx nTW
     have hHW:=(Kc.nx hg1).cell hHX
     have r1:=kW.cell p1
     have r2:=kW.cell p2
     have r3:=kW.cell p3
     have r4:=kW.cell q4
     have hs':=next_ok hO (List.mem_of_getElem? hhs) hs (heat:=h) (damp:=a.1) (n:=d.heats.length) (by omega) a.2.1
     have k61:=next_any d B s h hv a.1 W (hstT.kc kW) hO hhs hs a.2
     have hall':=Lib.hid hall
     clear hall
     have hdk:Hid (leadOk d x s f h a.1=(keepsB x (nextS d hv s h a.1) && f (nextS d hv s h a.1))):=by show _=_;unfold leadOk;rw [hat1]
     generalize nextS d hv s h a.1=s' at *
     gi_upto_region 9 with (first | (gi_at_call 61;refine CallsIn.mono (CallsIn.inRound l (anyN k61)) ?_;rintro e w5 ⟨rfl,n5⟩) | gi_in)
     generalize hYn:w5.alloc _=Y5
     obtain⟨nY5,sY5,gY5⟩:=al1 hYn
     have n6:=n5.trans nY5
     have t0:Y5.cell? ⟨w5.heap.size,0,none⟩=some (num s'.w):=row_cell gY5 rfl
     have t1:Y5.cell? ⟨w5.heap.size,1,none⟩=some (num s'.c):=row_cell gY5 rfl
     have t2:Y5.cell? ⟨w5.heap.size,2,none⟩=some (num s'.h):=row_cell gY5 rfl
     clear hYn gY5 r1 r2 r3 r4 k61
     have k6:=kW.trans (Kc.nx n6)
     have z0:=k6.cell x0
     have z1:=k6.cell x1
     have z2:=k6.cell x2
     have z3:=k6.cell x3
     have z4:=k6.cell x4
     have z5:=k6.cell x5
     have k73:=fun (w1:World)=>keeps_any x s' w1
     cases hkp:keepsB x s' with
     | false =>
      rw [hkp] at k73
      have hF:Hid (leadOk d x s f h a.1=false):=by show _=_;rw [hdk.out,hkp];rfl
      gi_wp2_with (first | (gi_at_call 73;refine CallsIn.mono (CallsIn.inRound l (anyN (k73 _))) ?_;rintro e w7 ⟨rfl,n7⟩) | gi_in)
      have n8:=n6.trans n7
      exact⟨KeepsFrom.of_grownBy (n8.grown none) (by simp),rfl,hg1.trans n8,a,by simp,hF.out⟩
     | true =>
      rw [hkp] at k73
      have hsI:StI s':=hs'.i hh4.2
      have klk:=fun (w7:World) (n7:Nx Y5 w7)=>(hMT.blk (w':=w7) ((nTW.trans (n6.trans n7)).block M hMT.lt)).look hsI
      have zm:=k6.cell qm
      cases hf:f s' with
      | false =>
       have hF:Hid (leadOk d x s f h a.1=false):=by show _=_;rw [hdk.out,hkp,hf];rfl
       rw [hf] at klk
       gi_wp2_with (first | (gi_at_call 73;refine CallsIn.mono (CallsIn.inRound l (anyN (k73 _))) ?_;rintro e w7 ⟨rfl,n7⟩;have klk:=klk _ n7;have zm:=(Kc.nx n7).cell zm;have t0:=(Kc.nx n7).cell t0;have t1:=(Kc.nx n7).cell t1;have t2:=(Kc.nx n7).cell t2) | gi_in)
       have n8:=n6.trans n7
       exact⟨KeepsFrom.of_grownBy (n8.grown none) (by simp),rfl,hg1.trans n8,a,by simp,hF.out⟩
      | true =>
       have hF:Hid (leadOk d x s f h a.1=true):=by show _=_;rw [hdk.out,hkp,hf];rfl
       rw [hf] at klk
       gi_wp2_with (first | (gi_at_call 73;refine CallsIn.mono (CallsIn.inRound l (anyN (k73 _))) ?_;rintro e w7 ⟨rfl,n7⟩;have klk:=klk _ n7;have zm:=(Kc.nx n7).cell zm;have t0:=(Kc.nx n7).cell t0;have t1:=(Kc.nx n7).cell t1;have t2:=(Kc.nx n7).cell t2) | gi_in)
       have n8:=n6.trans n7
       exact⟨KeepsFrom.of_grownBy (n8.grown none) (by simp),⟨n8.size,n8.block Bw (Nat.lt_of_lt_of_le hlX hg1.size)⟩,hg1.trans n8,fun y hy=>by
        rcases List.mem_append.1 hy with hy | hy
        ·exact hall'.out y hy
        ·rw [List.mem_singleton.1 hy];exact hF.out⟩
    case done =>
     rintro D' ys W hD hS ⟨hg1,hall⟩ hK
     have hG:leadS d x s f h=true:=by
      unfold leadS
      rw [hmay,Bool.true_and,List.all_eq_true,Stp.damps,← hS]
      intro y hy
      obtain⟨z,hz,rfl⟩:=List.mem_map.1 hy
      exact hall z hz
     have HV:=Lib.hid (leads_true hlt hG)
     clear hG hall hS
     have hmW:=Marks.cons hmX (hmX.nx hg1) hD nTX.size hK
     gi_wp2
     have nTW:=nTX.trans hg1
     refine leaves_marks (B:=T.heap.size) hmW (fun w' hb=>⟨_,results_tmp rfl _ _ _,?_⟩) nTW.size
     exact⟨by rw [HV.out]<;>rfl,nx_below (nwT.trans nTW) hb nwT.size⟩
    case stop =>
     rintro D' c' pre W hD hS ⟨rfl,hg1,y,hy,hbad⟩ hK
     have hmW:=Marks.cons hmX (hmX.nx hg1) hD nTX.size hK
     gi_wp2
     obtain⟨k',hk',hpre⟩:=hS
     have hG:Hid (leadS d x s f h=false):=by
      show _=_
      unfold leadS
      rw [hmay,Bool.true_and,List.all_eq_false]
      refine⟨y.1,dampsL_sub hk' (by rw [← hpre];exact List.mem_map.2 ⟨y,hy,rfl⟩),by rw [hbad];decide⟩
     refine⟨?_,?measure⟩
     repeat apply Exists.intro
     refine⟨?rel,rfl⟩
     case rel =>
      refine⟨h+1,?_⟩
      exact⟨by omega,by simp,nTX.trans hg1,hmW,fun h' hh=>by
       rcases Nat.lt_succ_iff_lt_or_eq.1 hh with hh | rfl
       ·exact HB.out h' hh
       ·exact hG.out⟩
     case measure=>simp [intOf];omega
  ·obtain rfl:h=d.heats.length:=by omega
   have HV:=Lib.hid (leads_false HB.out)
   gi_wp2
   refine leaves_marks (B:=T.heap.size) hmk (fun w' hb=>⟨_,results_tmp rfl _ _ _,?_⟩) nr.size
   exact⟨by rw [HV.out]<;>rfl,nx_below (nwT.trans nr) hb nwT.size⟩
end Go.Proofs.Ytedomogjmhommaa
namespace Go.Con
open Go Go.Conc
section
variable [Lone] {P:Program} {E D:Nat→Prop}
variable {maps:Bool} {Fz Arg:Nat→Prop} {W0:World} {ρ:Rn} {own A:Nat→Prop} {fr:Frame} {cs:List Frame} {W W' : World}
end
theorem Rch.not {W:World} {n:Nat} {roots X:Nat→Prop} {b:Nat} (hn:n≤b) (hr:¬ roots b) (hx:¬ X b):¬ Rch W n roots X b:=by
 intro h
 cases h with
 | glob h=>omega
 | root h=>exact hr h
 | cell _ _ _ _ h=>exact hx h
 | entry _ _ _ _ _ h=>exact hx h
end Go.Con
namespace Go.Proofs.Ytedomogjmhommaa
open Go.RowKit Go.Con Go.Conc
noncomputable def b3:Code:=match Try.f3.body with | some c=>c | none=>.skip
end Go.Proofs.Ytedomogjmhommaa
namespace Go.Proofs.Ytedomogjmhommaa
open Go.RowKit Go.Con Go.Conc
noncomputable def b9:Code:=match Try.f9.body with | some c=>c | none=>.skip
end Go.Proofs.Ytedomogjmhommaa
namespace Go.Proofs.Ytedomogjmhommaa
open Go.RowKit Go.Con Go.Conc
local instance dryI85:Lone:=dryL
theorem nx_tape {w w' : World} {τ:Tape} (n:Nx { w with tape:=τ } w'):OldC w w':=.heap n.size fun b hb=>n.block b hb
theorem EW.tape {w:World} {p1:Nat} {r:R2} {τ:Tape} (h:EW w p1 r):EW { w with tape:=τ } p1 r:=h.oc (OldC.same rfl)
theorem dries_go (E Fz Arg:Nat→Prop) (W0:World) (Q:(Nat→Prop)→(Nat→Prop)→Goroutine→World→Prop) (φ:Ph) (c0:Frame) (cs:List Frame) (W:World) (t:Array Value) (hs:t.size=146)
  (hcont:∀ (φ1:Ph) (W1:World) (Fz1:Nat→Prop),OldC W W1→GoM Try.prog true E Fz1 Arg W0 Q φ1 [] (c0.finish (.bool true)) cs W1) :
  GoM Try.prog true E Fz Arg W0 Q φ [] (Fr 17 t [.code b17]) (c0 :: cs) W:=by
 rw [b17_eq]
 refine Gm.seq ?_
 refine Gm.lone (F:=FW) (fun t1 W1=>t1.size=146∧W1.heap=W.heap) rfl rfl trivial FW_ok (by kernel_rfl) (by kernel_rfl) (fun τ=>?_) ?_
 ·refine wpIn_mono (dr0 t hs { W with tape:=τ }) ?_
  rintro e a w' ⟨k1,k2,k3,rfl⟩
  exact⟨k1,k2,k3,rfl⟩
 rintro t0 Wa ⟨s0,hWa⟩
 have oa:OldC W Wa:=OldC.same hWa
 clear hs hWa
 refine Gm.seq ?_
 refine Gm.lone (F:=FW) (fun t1 W1=>(∃ p1 r,(t1.size=146∧t1[1]?=some (ptr p1))∧EW W1 p1 r)∧OldC Wa W1) rfl rfl trivial FW_ok (by kernel_rfl) (by kernel_rfl) (fun τ=>?_) ?_
 ·refine wpIn_mono (dr1 t0 s0 { Wa with tape:=τ }) ?_
  rintro e a w' ⟨k1,k2,p1,r,k3,k4,k5⟩
  exact⟨k1,k2,⟨p1,r,k3,k4⟩,nx_tape k5⟩
 rintro t1 W1 ⟨⟨p1,r,⟨s1,m1⟩,hE⟩,o1⟩
 have o1:=oa.trans o1
 clear oa s0
 refine Gm.seq ?_
 refine Gm.lone (F:=FW) (fun t2 W2=>(t2.size=146∧t2[1]?=some (ptr p1)∧t2[2]?=some (num 2)∧t2[3]?=some (.bool true)∧t2[4]?=some (num 0))∧OldC W1 W2) rfl rfl trivial FW_ok (by kernel_rfl) (by kernel_rfl) (fun τ=>?_) ?_
 ·refine wpIn_mono (dr2 p1 r t1 s1 m1 { W1 with tape:=τ } hE.tape) ?_
  rintro e a w' ⟨k1,k2,k3,k4⟩
  exact⟨k1,k2,k3,nx_tape k4⟩
 rintro t2 W2 ⟨⟨s2,n1,n2,n3,n4⟩,o2⟩
 have hE2:=hE.oc o2
 have o2:=o1.trans o2
 clear o1 hE s1 m1
 refine Gm.seq ?_
 refine Gm.lone (F:=FW) (fun t3 W3=>∃ v5,(t3.size=146∧t3[1]?=some (ptr p1)∧t3[2]?=some (num 2)∧t3[3]?=some (.bool true)∧t3[4]?=some (num 0)∧t3[5]?=some v5∧t3[6]?=some (.bool true)∧t3[7]?=some (num 0))∧OldC W2 W3∧SetsSl W3 v5 (safeF exD).1) rfl rfl trivial FW_ok (by kernel_rfl) (by kernel_rfl) (fun τ=>?_) ?_
 ·refine wpIn_mono (dr3 p1 r t2 s2 n1 n2 n3 n4 { W2 with tape:=τ } hE2.tape) ?_
  rintro e a w' ⟨k1,k2,v5,k3,k4,k5⟩
  exact⟨k1,k2,v5,k3,nx_tape k4,k5⟩
 rintro t3 W3 ⟨v5,⟨s3,m1,m2,m3,m4,m5,m6,m7⟩,o3,hv5⟩
 have hE3:=hE2.oc o3
 have o3:=o2.trans o3
 clear o2 hE2 s2 n1 n2 n3 n4
 refine Gm.seq ?_
 rw [x17_4_eq]
 refine Gm.region ?_
 rw [show List.range ops17_4.size=[0,1,2,3,4,5,6,7,8] by kernel_rfl]
 refine Gm.op (o:=⟨some 35,.load 27 (.tmp 1),_,_,_,none⟩) (exD.val r) W3 rfl rfl (by kernel_rfl) rfl (load27_run _ (eval_tmp m1) hE3.box) id ?_
 refine Gm.enter (o:=⟨some 36,.call { callee:=.value (.func 23),args:=#[.tmp 35],argTypes:=#[27] },_,_,_,none⟩) (c:={ callee:=.value (.func 23),args:=#[.tmp 35],argTypes:=#[27] }) (g:=23) (fn:=Try.f23) (body:=b23) rfl rfl rfl rfl (by kernel_rfl) Try.func23 body23_of (by kernel_rfl) ?_
 obtain⟨ha,hcap,q1⟩:=hE3.sl.heats.cases
 obtain⟨sa,scap,q2⟩:=hE3.sl.steps.cases
 rw [List.length_map] at q1 q2
 obtain⟨rh,rs⟩:=r
 dsimp only at q1 q2
 subst q1 q2
 have e35:(Fr 17 (putD t3 (some 35) (exD.val ⟨.slice ha exD.heats.length hcap,.slice sa exD.steps.length scap⟩)) []).eval (.tmp 35)=exD.val ⟨.slice ha exD.heats.length hcap,.slice sa exD.steps.length scap⟩:=eval_tmp (by simp [putD,s3])
 refine blind_go E Fz Arg W0 Q φ _ (c0 :: cs) W3 exD ha sa hcap scap hE3.sl _ ?_ ?_ fun φ1 W4 Fz1 v8 o4 hv8=>?_
 ·simp [Try.ntmps23]
 ·simp [e35]
 rw [blind_ex] at hv8 ⊢
 rw [Fr_finish rfl]
 dsimp only
 change GoM Try.prog true E Fz1 Arg W0 Q φ1 [] (Fr 17 (putD (putD t3 (some 35) _) (some 36) (.tuple #[v8,.bool true,num 0])) _) (c0 :: cs) W4
 have hE4:=hE3.oc o4
 have hv5:=hv5.oc o4
 have o4:=o3.trans o4
 clear o3 hE3 e35
 refine Gm.op (o:=⟨some 34,.move (.tmp 36),_,_,_,none⟩) (.tuple #[v8,.bool true,num 0]) W4 rfl rfl (by kernel_rfl) rfl (mv_run _ (eval_tmp (by simp [putD,s3]))) id ?_
 refine Gm.op (o:=⟨some 37,.extract (.tmp 34) 0,_,_,_,none⟩) v8 W4 rfl rfl (by kernel_rfl) rfl (ext0_run (v:=.bool true) (z:=num 0) _ (eval_tmp (by simp [putD,s3]))) id ?_
 refine Gm.op (o:=⟨some 38,.extract (.tmp 34) 1,_,_,_,none⟩) (.bool true) W4 rfl rfl (by kernel_rfl) rfl (ext1_run (u:=v8) (z:=num 0) _ (eval_tmp (by simp [putD,s3]))) id ?_
 refine Gm.op (o:=⟨some 39,.extract (.tmp 34) 2,_,_,_,none⟩) (num 0) W4 rfl rfl (by kernel_rfl) rfl (ext2_run (u:=v8) (v:=.bool true) _ (eval_tmp (by simp [putD,s3]))) id ?_
 refine Gm.op (o:=⟨some 8,.assign (.tmp 37),_,_,_,none⟩) v8 W4 rfl rfl (by kernel_rfl) rfl (as_run _ (eval_tmp (by simp [putD,s3]))) id ?_
 refine Gm.op (o:=⟨some 9,.assign (.tmp 38),_,_,_,none⟩) (.bool true) W4 rfl rfl (by kernel_rfl) rfl (as_run _ (eval_tmp (by simp [putD,s3]))) id ?_
 refine Gm.op (o:=⟨some 10,.assign (.tmp 39),_,_,_,none⟩) (num 0) W4 rfl rfl (by kernel_rfl) rfl (as_run _ (eval_tmp (by simp [putD,s3]))) id ?_
 refine Gm.regionEnd ?_
 generalize ht4:putD _ (some 10) (num 0)=t4
 have s4:t4.size=146:=by rw [← ht4];simp [putD,s3]
 have n1:t4[1]?=some (ptr p1):=by rw [← ht4];simp [putD,m1]
 have n2:t4[2]?=some (num 2):=by rw [← ht4];simp [putD,m2]
 have n3:t4[3]?=some (.bool true):=by rw [← ht4];simp [putD,m3]
 have n4:t4[4]?=some (num 0):=by rw [← ht4];simp [putD,m4]
 have n5:t4[5]?=some v5:=by rw [← ht4];simp [putD,m5]
 have n6:t4[6]?=some (.bool true):=by rw [← ht4];simp [putD,m6]
 have n7:t4[7]?=some (num 0):=by rw [← ht4];simp [putD,m7]
 have n8:t4[8]?=some v8:=by rw [← ht4];simp [putD,s3]
 have n9:t4[9]?=some (.bool true):=by rw [← ht4];simp [putD,s3]
 have n10:t4[10]?=some (num 0):=by rw [← ht4];simp [putD,s3]
 clear ht4 s3 m1 m2 m3 m4 m5 m6 m7
 generalize (⟨.slice ha exD.heats.length hcap,.slice sa exD.steps.length scap⟩:R2)=r at hE4
 refine Gm.seq ?_
 refine Gm.lone (F:=FW) (fun t5 W5=>∃ v11,(t5.size=146∧t5[1]?=some (ptr p1)∧t5[2]?=some (num 2)∧t5[3]?=some (.bool true)∧t5[4]?=some (num 0)∧t5[5]?=some v5∧t5[6]?=some (.bool true)∧t5[7]?=some (num 0)∧t5[8]?=some v8∧t5[9]?=some (.bool true)∧t5[10]?=some (num 0)∧t5[11]?=some v11∧t5[12]?=some (num 1)∧t5[13]?=some (.bool true)∧t5[14]?=some (num 0))∧OldC W4 W5∧Sl W5 v11 1 (([0,0,0]:List Int).map one)) rfl rfl trivial FW_ok (by kernel_rfl) (by kernel_rfl) (fun τ=>?_) ?_
 ·refine wpIn_mono (dr5 p1 v5 v8 r t4 s4 n1 n2 n3 n4 n5 n6 n7 n8 n9 n10 { W4 with tape:=τ } hE4.tape) ?_
  rintro e a w' ⟨k1,k2,v11,k3,k4,k5⟩
  exact⟨k1,k2,v11,k3,nx_tape k4,k5⟩
 rintro t5 W5 ⟨v11,⟨s5,m1,m2,m3,m4,m5,m6,m7,m8,m9,m10,m11,m12,m13,m14⟩,o5,hv11⟩
 have hE5:=hE4.oc o5
 have hv5:=hv5.oc o5
 have hv8:=hv8.oc o5
 have o5:=o4.trans o5
 clear o4 hE4 s4 n1 n2 n3 n4 n5 n6 n7 n8 n9 n10
 refine Gm.seq ?_
 refine Gm.lone (F:=FW) (fun t6 W6=>∃ pa pb,(t6.size=146∧t6[1]?=some (ptr p1)∧t6[2]?=some (num 2)∧t6[3]?=some (.bool true)∧t6[4]?=some (num 0)∧t6[5]?=some v5∧t6[6]?=some (.bool true)∧t6[7]?=some (num 0)∧t6[8]?=some v8∧t6[9]?=some (.bool true)∧t6[10]?=some (num 0)∧t6[11]?=some v11∧t6[12]?=some (num 1)∧t6[13]?=some (.bool true)∧t6[14]?=some (num 0)∧t6[15]?=some (ptr pa)∧t6[16]?=some (ptr pb)∧t6[17]?=some (num 0))∧OldC W5 W6∧W6.heap[pa]?=some (.cells #[num 720,num 825] 45 (0,0))∧W6.heap[pb]?=some (.cells #[num 20,num 20] 45 (0,0))) rfl rfl trivial FW_ok (by kernel_rfl) (by kernel_rfl) (fun τ=>?_) ?_
 ·refine wpIn_mono (dr6 p1 v5 v8 v11 r t5 s5 m1 m2 m3 m4 m5 m6 m7 m8 m9 m10 m11 m12 m13 m14 { W5 with tape:=τ } hE5.tape) ?_
  rintro e a w' ⟨k1,k2,pa,pb,k3,k4,k5,k6⟩
  exact⟨k1,k2,pa,pb,k3,nx_tape k4,k5,k6⟩
 rintro t6 W6 ⟨pa,pb,⟨s6,n1,n2,n3,n4,n5,n6,n7,n8,n9,n10,n11,n12,n13,n14,n15,n16,n17⟩,o6,ga,gb⟩
 have hE6:=hE5.oc o6
 have hv5:=hv5.oc o6
 have hv8:=hv8.oc o6
 have hv11:=hv11.oc o6
 have ca0:W6.cell? ⟨pa,0,none⟩=some (num 720):=row_cell ga rfl
 have ca1:W6.cell? ⟨pa,1,none⟩=some (num 825):=row_cell ga rfl
 have cb0:W6.cell? ⟨pb,0,none⟩=some (num 20):=row_cell gb rfl
 have cb1:W6.cell? ⟨pb,1,none⟩=some (num 20):=row_cell gb rfl
 have o6:=o5.trans o6
 clear o5 hE5 s5 m1 m2 m3 m4 m5 m6 m7 m8 m9 m10 m11 m12 m13 m14 ga gb
 refine Gm.seq ?_
 refine Gm.lone (F:=FW) (fun t7 W7=>∃ v18,(t7.size=146∧t7[1]?=some (ptr p1)∧t7[2]?=some (num 2)∧t7[3]?=some (.bool true)∧t7[4]?=some (num 0)∧t7[5]?=some v5∧t7[6]?=some (.bool true)∧t7[7]?=some (num 0)∧t7[8]?=some v8∧t7[9]?=some (.bool true)∧t7[10]?=some (num 0)∧t7[11]?=some v11∧t7[12]?=some (num 1)∧t7[13]?=some (.bool true)∧t7[14]?=some (num 0)∧t7[15]?=some (ptr pa)∧t7[16]?=some (ptr pb)∧t7[17]?=some (num 0)∧t7[18]?=some v18∧t7[19]?=some (num 0))∧OldC W6 W7∧Sl W7 v18 2 (L32.map spc)) rfl rfl trivial FW_ok (by kernel_rfl) (by kernel_rfl) (fun τ=>?_) ?_
 ·refine wpIn_mono (dr7 p1 pa pb v5 v8 v11 r t6 s6 n1 n2 n3 n4 n5 n6 n7 n8 n9 n10 n11 n12 n13 n14 n15 n16 n17 { W6 with tape:=τ } hE6.tape) ?_
  rintro e a w' ⟨k1,k2,v18,k3,k4,k5⟩
  exact⟨k1,k2,v18,k3,nx_tape k4,k5⟩
 rintro t7 W7 ⟨v18,⟨s7,m1,m2,m3,m4,m5,m6,m7,m8,m9,m10,m11,m12,m13,m14,m15,m16,m17,m18,m19⟩,o7,hv18⟩
 have hv5:=hv5.oc o7
 have hv8:=hv8.oc o7
 have hv11:=hv11.oc o7
 have ca0:=o7.at ca0
 have ca1:=o7.at ca1
 have cb0:=o7.at cb0
 have cb1:=o7.at cb1
 have o7:=o6.trans o7
 clear o6 hE6 s6 n1 n2 n3 n4 n5 n6 n7 n8 n9 n10 n11 n12 n13 n14 n15 n16 n17
 refine Gm.seq (Gm.seq ?_)
 refine Gm.lone (F:=FW) (fun t8 W8=>P8 t8 p1 pa pb v5 v8 v11 v18∧W8.heap=W7.heap) rfl rfl trivial FW_ok (by kernel_rfl) (by kernel_rfl) (fun τ=>?_) ?_
 ·refine wpIn_mono (dr8 p1 pa pb v5 v8 v11 v18 t7 s7 m1 m2 m3 m4 m5 m6 m7 m8 m9 m10 m11 m12 m13 m14 m15 m16 m17 m18 m19 { W7 with tape:=τ }) ?_
  rintro e a w' ⟨k1,k2,k3,rfl⟩
  exact⟨k1,k2,k3,rfl⟩
 rintro t8 W8 ⟨⟨s8,n1,n2,n3,n4,n5,n6,n7,n8,n9,n10,n11,n12,n13,n14,n15,n16,n17,n18,n19,n85⟩,hW8⟩
 have o8:=OldC.same hW8
 have hv5:=hv5.oc o8
 have hv8:=hv8.oc o8
 have hv11:=hv11.oc o8
 have hv18:=hv18.oc o8
 have ca0:=o8.at ca0
 have ca1:=o8.at ca1
 have cb0:=o8.at cb0
 have cb1:=o8.at cb1
 have o8:=o7.trans o8
 clear o7 hW8 s7 m1 m2 m3 m4 m5 m6 m7 m8 m9 m10 m11 m12 m13 m14 m15 m16 m17 m18 m19
 refine Gm.cond (b:=false) (eval_tmp n85) rfl ?_
 refine Gm.skip (Gm.seq ?_)
 obtain⟨a8,k8,rfl⟩:=sl_len3 hv8
 obtain⟨a11,k11,rfl⟩:=sl_len3 hv11
 obtain⟨a18,k18,rfl⟩:=sl_len3 hv18
 obtain⟨vs,hvs,hlen,hel⟩:=hv5
 rw [ex_safe2] at hlen
 obtain⟨b5,o5,k5,rfl,u,cu,hu⟩:∃ b5 o5 k5,v5=.slice (some ⟨b5,o5,none⟩) 4 k5∧∃ u,W8.cell? ⟨b5,o5+2,none⟩=some u∧Sl W8 u 3 (L46.map St.cells):=by
  obtain⟨cap,⟨h1,_⟩ | ⟨b,off,rfl,_,hc⟩⟩:=hvs
  ·have:vs=[]:=by simpa using h1
   rw [this] at hlen;cases hlen
  ·refine⟨b,off,cap,by rw [List.length_map,hlen],?_⟩
   have hu2:vs[2]?=some (vs[2]'(by omega)):=List.getElem?_eq_getElem _
   refine⟨_,?_,hel 2 _ L46 hu2 ex_safe3⟩
   have:=hc 2 0 [vs[2]'(by omega)] _ (by rw [List.getElem?_map,hu2];rfl) rfl
   exact this
 obtain⟨ua,uc,rfl⟩:=sl_len3 hu
 refine Gm.lone (F:=FW) (fun t9 W9=>t9[0]?=some (.bool true)∧OldC W8 W9) rfl rfl trivial FW_ok (by kernel_rfl) (by kernel_rfl) (fun τ=>?_) ?_
 ·refine wpIn_mono (dr10 pa pb b5 o5 k5 k8 k11 k18 a8 a11 a18 t8 ⟨s8,n2,n3,n5,n6,n8,n9,n11,n12,n13,n15,n16,n18⟩ { W8 with tape:=τ } uc ua cu (hu.oc (OldC.same rfl)) (hv8.oc (OldC.same rfl)) (hv11.oc (OldC.same rfl)) (hv18.oc (OldC.same rfl)) ca0 ca1 cb0 cb1) ?_
  rintro e a w' ⟨k1,k2,k3,k4⟩
  exact⟨k1,k2,k3,nx_tape k4⟩
 rintro t9 W9 ⟨h0,o9⟩
 refine Gm.ret Try.func17 (results17 (.bool true) t9 h0) ?_
 exact hcont φ1 W9 Fz1 (o8.trans o9)
end Go.Proofs.Ytedomogjmhommaa
namespace Go.Proofs.Ytedomogjmhommaa
open Go.RowKit Go.Con Go.Conc
local instance dryI88:Lone:=dryL
theorem wanted_guard {ops:Array Oper} {o:Oper} {i d:Nat} {b:Bool} {t:Array Value} (hg:o.guard=some (i,b)) (hd:(ops[i]?).bind (·.dst)=some d) (hv:t[d]?=some (.bool b)):Region.wanted o (yielded ops t)=true:=by
 unfold Region.wanted yielded
 simp [hg,hd,hv]
section
variable {dst:Option Nat} {ty:TypeId} {pos:String} {af:Array Edge} {gd:Option (Nat×Bool)} {x y:Nat}
theorem pick_run (e:Operand→Value) {w:World} {v c:Value} (h:e (.tmp x)=.bool true) (h2:e (.tmp y)=v) (τ:Tape):(execOp e ⟨dst,.pick (.tmp x) (.tmp y) (.const c),ty,pos,af,gd⟩).run Try.prog { w with tape:=τ }=.ok (.value v) { w with tape:=τ }:=by
 simp [execOp,go_sem,h,h2]
end
theorem body17_of:Try.f17.body=some b17:=by kernel_rfl
theorem one_back {g:Nat} {args:Array Value} {W:World} {v:Value} {τ:Tape} (h:CallsIn FW 0 Try.prog g args { W with tape:=τ } fun e w'=>e=.returned v∧Nx { W with tape:=τ } w') :
  CallsIn FW 0 Try.prog g args { W with tape:=τ } fun e w'=>match e with | .returned u=>(u=v∧OldC W w') | _=>False:=by
 refine h.mono ?_
 rintro e w' ⟨rfl,n⟩
 exact⟨rfl,nx_tape n⟩
end Go.Proofs.Ytedomogjmhommaa
