import Derived.Test.YtbbanmifdbeneaaDoorF05
set_option linter.all false
set_option maxRecDepth 100000
set_option maxHeartbeats 4000000
open Go.CallsIn renaming mono → jqa
open Go.Instr renaming index → jqb
namespace Go.Proofs.YtbbanmifdbeneaaDoor
open Go.RowKit
structure zaR where
 h:Value
 t:Value
 f:Value
 s:Value
 l:Value
 p:Value
abbrev Dit.cellsA (d:Dit) (r:zaR):Array Value:=#[r.h,r.t,num d.begin_,num d.week,num d.from_,num d.long,r.f,r.s,r.l,num d.flow.1,num d.flow.2,num d.loss.1,num d.loss.2,r.p]
abbrev Dit.val (d:Dit) (r:zaR):Value:=.agg (d.cellsA r)
def zo6 (v:Value):Prop:=∀ a n cap,v=.slice a n cap→n≤cap
structure DitSl (w:World) (d:Dit) (r:zaR):Prop where
 holders:Sl w r.h 1 (d.holders.map fun s=>[str s])
 turns:Sl w r.t 2 (d.turns.map two)
 feasts:Sl w r.f 2 (d.feasts.map two)
 swaps:Sl w r.s 3 (d.swaps.map three)
 loans:Sl w r.l 3 (d.loans.map three)
 plots:Sl w r.p 6 (d.plots.map Plot.cells)
 cap0:zo6 r.h
 cap13:zo6 r.p
 kinds:∀ v∈[r.h,r.t,r.f,r.s,r.l,r.p],Kind w v
theorem DitSl.nx {w w' : World} {d:Dit} {r:zaR} (h:DitSl w d r) (n:Nx w w'):DitSl w' d r :=
 ⟨h.holders.nx n,h.turns.nx n,h.feasts.nx n,h.swaps.nx n,h.loans.nx n,h.plots.nx n,h.cap0,h.cap13,fun v hv=>(h.kinds v hv).nx n⟩
theorem zaS {w:World} {b:Nat} {d:Dit} {r:zaR} (h:∀ i v,(d.cellsA r)[i]?=some v→w.cell? ⟨b,i,none⟩=some v):w.cell? ⟨b,0,none⟩=some (r.h)∧w.cell? ⟨b,1,none⟩=some (r.t)∧w.cell? ⟨b,2,none⟩=some (num d.begin_)∧w.cell? ⟨b,3,none⟩=some (num d.week)∧w.cell? ⟨b,4,none⟩=some (num d.from_)∧w.cell? ⟨b,5,none⟩=some (num d.long)∧w.cell? ⟨b,6,none⟩=some (r.f)∧w.cell? ⟨b,7,none⟩=some (r.s)∧w.cell? ⟨b,8,none⟩=some (r.l)∧w.cell? ⟨b,9,none⟩=some (num d.flow.1)∧w.cell? ⟨b,10,none⟩=some (num d.flow.2)∧w.cell? ⟨b,11,none⟩=some (num d.loss.1)∧w.cell? ⟨b,12,none⟩=some (num d.loss.2)∧w.cell? ⟨b,13,none⟩=some (r.p) :=
 ⟨h 0 _ rfl,h 1 _ rfl,h 2 _ rfl,h 3 _ rfl,h 4 _ rfl,h 5 _ rfl,h 6 _ rfl,h 7 _ rfl,h 8 _ rfl,h 9 _ rfl,h 10 _ rfl,h 11 _ rfl,h 12 _ rfl,h 13 _ rfl⟩
theorem DitSl.at {w:World} {d:Dit} {r:zaR} {B o:Nat} (h:DitSl w d r) (hB:B<w.heap.size) (hc:∀ i v,(d.cellsA r)[i]?=some v→w.cell? ⟨B,o+i,none⟩=some v):DitAt w B o d :=
 have k:=fun i v (e:(d.cellsA r)[i]?=some v)=>hc i v e
 ⟨hB,⟨_,k 0 _ rfl,h.holders⟩,⟨_,k 1 _ rfl,h.turns⟩,k 2 _ rfl,k 3 _ rfl,k 4 _ rfl,k 5 _ rfl,⟨_,k 6 _ rfl,h.feasts⟩,⟨_,k 7 _ rfl,h.swaps⟩,⟨_,k 8 _ rfl,h.loans⟩,k 9 _ rfl,k 10 _ rfl,k 11 _ rfl,k 12 _ rfl,⟨_,k 13 _ rfl,h.plots⟩,
  fun a n cap e=>h.cap0 a n cap (Option.some.inj ((k 0 _ rfl).symm.trans e)),fun a n cap e=>h.cap13 a n cap (Option.some.inj ((k 13 _ rfl).symm.trans e)),fun i v hi e=>by
   have hk:=h.kinds;simp only [List.mem_cons,List.not_mem_nil,or_false,forall_eq_or_imp,forall_eq] at hk;obtain⟨h1,h2,h3,h4,h5,h6⟩:=hk;have hv:∀ u,(d.cellsA r)[i]?=some u→v=u:=fun u hu=>Option.some.inj (e.symm.trans (k i u hu));rcases i with _ | _ | _ | _ | _ | _ | _ | _ | _ | _ | _ | _ | _ | _ | i
   all_goals first
    | (exfalso;omega)
    | (rw [hv _ rfl];first | exact h1 | exact h2 | exact h3 | exact h4 | exact h5 | exact h6 | exact Kind.num _)⟩
def zaF (d:Dit):Int:=if zaI d≠0 then zaI d else if zaJ d≠0 then zaJ d else if zaq d≠0 then zaq d else zaO d
structure Glob (w:World):Prop where
 size:2≤w.heap.size
 c0:w.cell? ⟨1,0,none⟩=some (.func (.func 92) #[] #[])
 c1:w.cell? ⟨1,1,none⟩=some (.func (.func 93) #[] #[])
 c2:w.cell? ⟨1,2,none⟩=some (.func (.func 94) #[] #[])
 c3:w.cell? ⟨1,3,none⟩=some (.func (.func 95) #[] #[])
 n0:w.cell? ⟨0,0,none⟩=some (num (-1))
 n1:w.cell? ⟨0,1,none⟩=some (num (-1))
theorem Glob.nx {w w' : World} (h:Glob w) (n:Nx w w'):Glob w':=by
 have s:=h.size;exact⟨Nat.le_trans s n.size,(n.cell (by show 1<_;omega)).trans h.c0,(n.cell (by show 1<_;omega)).trans h.c1,(n.cell (by show 1<_;omega)).trans h.c2,(n.cell (by show 1<_;omega)).trans h.c3,(n.cell (by show 0<_;omega)).trans h.n0,(n.cell (by show 0<_;omega)).trans h.n1⟩
structure Glob1 (w:World):Prop where
 size:2≤w.heap.size
 n0:w.cell? ⟨0,0,none⟩=some (num (-1))
 n1:w.cell? ⟨0,1,none⟩=some (num (-1))
theorem Glob.one {w:World} (h:Glob w):Glob1 w:=⟨h.size,h.n0,h.n1⟩
theorem Glob1.nx {w w' : World} (h:Glob1 w) (n:Nx w w'):Glob1 w':=by
 have s:=h.size;exact⟨Nat.le_trans s n.size,(n.cell (by show 0<_;omega)).trans h.n0,(n.cell (by show 0<_;omega)).trans h.n1⟩
theorem zom (a b c d:Value) (ha:a.oneCell'=true) (hb:b.oneCell'=true) (hc:c.oneCell'=true) (hd:d.oneCell'=true) (w:World) :
  ((jqb 133 (.agg #[a,b,c,d]) (num 0)).run Tryd.prog w=.ok a w∧(jqb 133 (.agg #[a,b,c,d]) (num 1)).run Tryd.prog w=.ok b w)∧(jqb 133 (.agg #[a,b,c,d]) (num 2)).run Tryd.prog w=.ok c w∧(jqb 133 (.agg #[a,b,c,d]) (num 3)).run Tryd.prog w=.ok d w:=by
 simp [jqb,go_sem]
theorem zi2 (d:Dit) (r:zaR) (w:World) (hd:DitSl w d r) (hs:d.Small) (hg:Glob w) :
  CallsIn FL 0 Tryd.prog 60 #[d.val r] w fun e w'=>e=.returned (num (zaF d))∧Nx w w':=by
 generalize hW:w.alloc (.cells (d.cellsA r) 31)=W;have n0:Nx w W:=by rw [← hW];exact (Below.refl _ _).alloc (Nat.le_refl _) _
 have hWs:W.heap.size=w.heap.size+1:=by rw [← hW];simp
 have hcW:∀ i v,(d.cellsA r)[i]?=some v→W.cell? ⟨w.heap.size,i,none⟩=some v:=fun i v h=>by rw [← hW];exact zaw _ _ _ _ _ h
 have cW:∀ w1,Nx W w1→∀ i v,(d.cellsA r)[i]?=some v→w1.cell? ⟨w.heap.size,i,none⟩=some v:=fun w1 n1 i v h=>(n1.cell (p:=⟨w.heap.size,i,none⟩) (by show w.heap.size<_;omega)).trans (hcW i v h);have nWW:Nx W W:=Below.refl _ _;have key:∀ w1 B t,Nx W w1→B=w1.heap.size→DitAt (w1.alloc (.cells (d.cellsA r) t)) B 0 d:=by
  intro w1 B t n1 hB;subst hB;have:=(hd.nx (Nx.trans n0 n1)).nx (w':=w1.alloc (.cells (d.cellsA r) t)) ((Below.refl _ _).alloc (Nat.le_refl _) _);exact this.at (by simp) fun i v h=>by rw [Nat.zero_add];exact zaw _ _ _ _ _ h
 have kP:∀ w1 t,Nx W w1→CallsIn FL 0 Tryd.prog 92 #[.pointer (some ⟨w1.heap.size,0,none⟩)] (w1.alloc (.cells (d.cellsA r) t)) fun e w'=>e=.returned (num (zaI d))∧Nx W w':=fun w1 t n1=>(zlC _ d _ (key w1 _ t n1 rfl) hs).mono fun e w' ⟨x,y⟩=>⟨x,Nx.trans (n1.alloc (by exact n1.size) _) y⟩;have kT:∀ w1 t,Nx W w1→CallsIn FL 0 Tryd.prog 93 #[.pointer (some ⟨w1.heap.size,0,none⟩)] (w1.alloc (.cells (d.cellsA r) t)) fun e w'=>e=.returned (num (zaJ d))∧Nx W w':=fun w1 t n1=>(zmx _ d _ (key w1 _ t n1 rfl) hs).mono fun e w' ⟨x,y⟩=>⟨x,Nx.trans (n1.alloc (by exact n1.size) _) y⟩;have kC:∀ w1 t,Nx W w1→CallsIn FL 0 Tryd.prog 94 #[.pointer (some ⟨w1.heap.size,0,none⟩)] (w1.alloc (.cells (d.cellsA r) t)) fun e w'=>e=.returned (num (zaq d))∧Nx W w':=fun w1 t n1=>(zjO _ d _ (key w1 _ t n1 rfl) hs).mono fun e w' ⟨x,y⟩=>⟨x,Nx.trans (n1.alloc (by exact n1.size) _) y⟩;have kG:∀ w1 t,Nx W w1→CallsIn FL 0 Tryd.prog 95 #[.pointer (some ⟨w1.heap.size,0,none⟩)] (w1.alloc (.cells (d.cellsA r) t)) fun e w'=>e=.returned (num (zaO d))∧Nx W w':=fun w1 t n1=>(zlb _ d _ (key w1 _ t n1 rfl) hs).mono fun e w' ⟨x,y⟩=>⟨x,Nx.trans (n1.alloc (by exact n1.size) _) y⟩;obtain⟨_,g0,g1,g2,g3,_,_⟩:=hg.nx n0;gi_enter Tryd.func60,Tryd.ntmps60;gi_wp2;clear hW hcW key hd
 gi_loopw [7] (fun i wr=>∃ k:Nat,k≤4∧i=num k∧(0<k→zaI d=0)∧(1<k→zaJ d=0)∧(2<k→zaq d=0)∧(3<k→zaO d=0)∧Nx W wr) (fun i _=>4-(intOf i).toNat)
 case atStart=>exact⟨0,Nat.zero_le _,rfl,(fun h=>by omega),(fun h=>by omega),(fun h=>by omega),(fun h=>by omega),nWW⟩
 case round =>
  obtain⟨k,hk,rfl,h0,h1,h2,h3,n2⟩:=hrel;obtain⟨⟨i0,i1⟩,i2,i3⟩:=zom (.func (.func 92) #[] #[]) (.func (.func 93) #[] #[]) (.func (.func 94) #[] #[]) (.func (.func 95) #[] #[]) rfl rfl rfl rfl wr;obtain⟨c0,c1,c2,c3,c4,c5,c6,c7,c8,c9,c10,c11,c12,c13⟩:=zaS (cW _ n2);rcases k with _ | _ | _ | _ | _ | k
  ·have kk:=kP wr 114 n2
   by_cases hz:zaI d=0
   ·have HZ:=Lib.hid hz
    have hb:(zaI d != 0)=false:=by simpa using hz
    clear hz
    gi_wp2_with (first | (gi_at_call 92;refine jqa kk ?_;rintro e w1 ⟨rfl,n1⟩) | gi_in)
    exact⟨⟨1,by omega,rfl,(fun _=>HZ.out),(fun h=>by omega),(fun h=>by omega),(fun h=>by omega),n1⟩,by simp [intOf]⟩
   ·have HP:Hid (zaF d=zaI d):=by show _=_;unfold zaF;rw [if_pos hz]
    have hb:(zaI d != 0)=true:=by simpa using hz
    gi_wp2_with (first | (gi_at_call 92;refine jqa kk ?_;rintro e w1 ⟨rfl,n1⟩) | gi_in)
    go_ret;exact⟨by rw [HP.out];rfl,Nx.trans n0 n1⟩
  ·have kk:=kT wr 114 n2
   by_cases hz:zaJ d=0
   ·have HZ:=Lib.hid hz
    have hb:(zaJ d != 0)=false:=by simpa using hz
    clear hz
    gi_wp2_with (first | (gi_at_call 93;refine jqa kk ?_;rintro e w1 ⟨rfl,n1⟩) | gi_in)
    exact⟨⟨2,by omega,rfl,(fun h=>h0 (by omega)),(fun _=>HZ.out),(fun h=>by omega),(fun h=>by omega),n1⟩,by simp [intOf]⟩
   ·have HP:Hid (zaF d=zaJ d):=by show _=_;unfold zaF;rw [if_neg (fun h=>h (h0 (by omega))),if_pos hz]
    have hb:(zaJ d != 0)=true:=by simpa using hz
    gi_wp2_with (first | (gi_at_call 93;refine jqa kk ?_;rintro e w1 ⟨rfl,n1⟩) | gi_in)
    go_ret;exact⟨by rw [HP.out];rfl,Nx.trans n0 n1⟩
  ·have kk:=kC wr 114 n2
   by_cases hz:zaq d=0
   ·have HZ:=Lib.hid hz
    have hb:(zaq d != 0)=false:=by simpa using hz
    clear hz
    gi_wp2_with (first | (gi_at_call 94;refine jqa kk ?_;rintro e w1 ⟨rfl,n1⟩) | gi_in)
    exact⟨⟨3,by omega,rfl,(fun h=>h0 (by omega)),(fun h=>h1 (by omega)),(fun _=>HZ.out),(fun h=>by omega),n1⟩,by simp [intOf]⟩
   ·have HP:Hid (zaF d=zaq d):=by show _=_;unfold zaF;rw [if_neg (fun h=>h (h0 (by omega))),if_neg (fun h=>h (h1 (by omega))),if_pos hz]
    have hb:(zaq d != 0)=true:=by simpa using hz
    gi_wp2_with (first | (gi_at_call 94;refine jqa kk ?_;rintro e w1 ⟨rfl,n1⟩) | gi_in)
    go_ret;exact⟨by rw [HP.out];rfl,Nx.trans n0 n1⟩
  ·have kk:=kG wr 114 n2
   by_cases hz:zaO d=0
   ·have HZ:=Lib.hid hz
    have hb:(zaO d != 0)=false:=by simpa using hz
    clear hz
    gi_wp2_with (first | (gi_at_call 95;refine jqa kk ?_;rintro e w1 ⟨rfl,n1⟩) | gi_in)
    exact⟨⟨4,by omega,rfl,(fun h=>h0 (by omega)),(fun h=>h1 (by omega)),(fun h=>h2 (by omega)),(fun _=>HZ.out),n1⟩,by simp [intOf]⟩
   ·have HP:Hid (zaF d=zaO d):=by show _=_;unfold zaF;rw [if_neg (fun h=>h (h0 (by omega))),if_neg (fun h=>h (h1 (by omega))),if_neg (fun h=>h (h2 (by omega)))]
    have hb:(zaO d != 0)=true:=by simpa using hz
    gi_wp2_with (first | (gi_at_call 95;refine jqa kk ?_;rintro e w1 ⟨rfl,n1⟩) | gi_in)
    go_ret;exact⟨by rw [HP.out];rfl,Nx.trans n0 n1⟩
  ·have HP:Hid (zaF d=0):=by show _=_;unfold zaF;rw [if_neg (fun h=>h (h0 (by omega))),if_neg (fun h=>h (h1 (by omega))),if_neg (fun h=>h (h2 (by omega))),h3 (by omega)]
   gi_wp2;go_ret;exact⟨by rw [HP.out];rfl,Nx.trans n0 n2⟩
  ·omega
end Go.Proofs.YtbbanmifdbeneaaDoor
