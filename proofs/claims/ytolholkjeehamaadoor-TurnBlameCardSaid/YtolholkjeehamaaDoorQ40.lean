import Derived.Test.YtolholkjeehamaaDoorC39
import Derived.Test.YtolholkjeehamaaDoorC09
import Derived.Test.YtolholkjeehamaaDoorC30
set_option linter.all false
set_option maxRecDepth 100000
set_option maxHeartbeats 4000000
namespace Go.Proofs.YtolholkjeehamaaDoor
open Go.RowKit
theorem sumTo_le {l:List (Int×Int)} (h:∀ x∈l,1≤x.2∧x.2≤100) {i j:Nat} (hij:i≤j):sumTo l i≤sumTo l j:=by
 induction j with
 | zero=>obtain rfl:i=0:=by omega
         exact Int.le_refl _
 | succ j ih =>
  rcases Nat.lt_or_ge i (j+1) with hlt | hge
  ·have:=ih (by omega)
   simp only [sumTo]
   cases hx:l[j]? with
   | none=>simp;omega
   | some x =>
    have:=(h x (List.mem_of_getElem? hx)).1
    simp;omega
  ·obtain rfl:i=j+1:=by omega
   exact Int.le_refl _
theorem turnS_at {l:List (Int×Int)} {r:Int} (hr:r<sumTo l l.length):∀ (n t:Nat),t≤l.length→l.length≤t+n→sumTo l t≤r →
  turnS (endsTo l l.length) r n t<l.length∧sumTo l (turnS (endsTo l l.length) r n t)≤r∧r<sumTo l (turnS (endsTo l l.length) r n t+1)
 | 0,t,h1,h2,h3=>by
  obtain rfl:t=l.length:=by omega
  omega
 | n+1,t,h1,h2,h3=>by
  have hlt:t<l.length:=by
   rcases Nat.lt_or_ge t l.length with h | h
   ·exact h
   ·obtain rfl:t=l.length:=by omega
    omega
  unfold turnS
  have he:endsTo l l.length t=sumTo l (t+1):=by unfold endsTo;rw [if_pos hlt]
  rw [he]
  split
  ·rename_i hge
   exact turnS_at hr n (t+1) (by omega) (by omega) hge
  ·rename_i hge
   exact⟨hlt,h3,by omega⟩
def Dit.turn (d:Dit) (r:Int):Nat:=turnS d.ends r 12 0
theorem Dit.Ok.turn_at {d:Dit} (hO:d.Ok) {r:Int} (h0:0≤r) (h1:r<d.cyc):d.turn r<d.turns.length∧sumTo d.turns (d.turn r)≤r∧r<sumTo d.turns (d.turn r+1) :=
 turnS_at h1 12 0 (Nat.zero_le _) (by have:=hO.t12;omega) h0
def Dit.has (d:Dit) (l:List Int) (holder r:Int):Int:=if l[d.turn r]?=some holder then 1 else 0
theorem Dit.Ok.cyc_pos {d:Dit} (hO:d.Ok):0<d.cyc:=by have:=hO.cyc.size;omega
theorem oth_us {d:Dit} {c:Int} (hc:c∉d.keys):d.oth c=d.us:=by
 have h1:∀ s∈d.swaps,s.1≠c:=fun s hs e=>hc (mem_keysOf.2 (.inl (mem_keysOf.2 (.inr ⟨s,hs,e⟩))))
 have h2:∀ s∈d.loans,s.1≠c:=fun s hs e=>hc (mem_keysOf.2 (.inr ⟨s,hs,e⟩))
 have f2:∀ (sw:List (Int×Int×Int)) (us:List Int),(∀ s∈sw,s.1≠c)→oth2 us sw c=us:=by
  intro sw
  induction sw with
  | nil=>intro us _;rfl
  | cons s sw ih =>
   intro us h
   have:oth2 us (s :: sw) c=oth2 (if s.1=c then swapL us s.2.1.toNat s.2.2.toNat else us) sw c:=rfl
   rw [this,if_neg (h s (List.mem_cons_self ..)),ih _ fun t ht=>h t (List.mem_cons_of_mem _ ht)]
 have f3:∀ (sw:List (Int×Int×Int)) (us:List Int),(∀ s∈sw,s.1≠c)→oth3 us sw c=us:=by
  intro sw
  induction sw with
  | nil=>intro us _;rfl
  | cons s sw ih =>
   intro us h
   have:oth3 us (s :: sw) c=oth3 (if s.1=c then us.set s.2.1.toNat s.2.2 else us) sw c:=rfl
   rw [this,if_neg (h s (List.mem_cons_self ..)),ih _ fun t ht=>h t (List.mem_cons_of_mem _ ht)]
 unfold Dit.oth
 rw [f2 _ _ h1,f3 _ _ h2]
def Dit.own (d:Dit) (holder x:Int):Int:=d.has (d.oth (x / d.cyc)) holder (x % d.cyc)
def Dit.mine (d:Dit) (holder h:Int):Int:=if d.runs h=true then d.own holder (d.ran h) else 0
end Go.Proofs.YtolholkjeehamaaDoor
namespace Go.Proofs.YtolholkjeehamaaDoor
open Go.RowKit
theorem in_any (n low high:Int) (w:World):CallsIn FL 0 Tryd.prog 71 #[num n,num low,num high] w fun e w'=>e=.returned (.bool (decide (low≤n∧n≤high)))∧w'=w:=by
 gi_enter Tryd.func71,Tryd.ntmps71
 by_cases h:low≤n
 ·by_cases h2:n≤high
  ·gi_wp2
   go_ret
   exact⟨by simp [h,h2],rfl⟩
  ·gi_wp2
   go_ret
   exact⟨by simp [h2],rfl⟩
 ·gi_wp2
  go_ret
  exact⟨by simp;omega,rfl⟩
theorem inside70_any (a b low high:Int) (w:World):CallsIn FL 0 Tryd.prog 70 #[.agg #[num a,num b],num low,num high] w fun e w'=>e=.returned (.bool (decide (low≤a∧a≤b∧b≤high)))∧Nx w w':=by
 gi_enter Tryd.func70,Tryd.ntmps70
 by_cases h:low≤a
 ·by_cases h2:a≤b
  ·by_cases h3:b≤high
   ·gi_wp2
    go_ret
    exact⟨by simp [h,h2,h3],alloc_nx (Below.refl _ _) _⟩
   ·gi_wp2
    go_ret
    exact⟨by simp [h3],alloc_nx (Below.refl _ _) _⟩
  ·gi_wp2
   go_ret
   exact⟨by simp;omega,alloc_nx (Below.refl _ _) _⟩
 ·gi_wp2
  go_ret
  exact⟨by simp;omega,alloc_nx (Below.refl _ _) _⟩
theorem rests_any (d:Dit) (r:Rows6) (h:Int) (w:World) (ht:d.Times) (hh : -1000000000000≤h∧h≤1000000000000) :
  CallsIn FL 0 Tryd.prog 104 #[d.val r,num h] w fun e w'=>e=.returned (num (restS d.week d.from_ d.long h))∧Nx w w':=by
 obtain⟨W,hW,n0,hWs,cW⟩:=boxed w d r
 have nWW:Nx W W:=Below.refl _ _
 have c3:W.cell? ⟨w.heap.size,3,none⟩=some (num d.week):=cW _ nWW 3 _ rfl
 have c4:W.cell? ⟨w.heap.size,4,none⟩=some (num d.from_):=cW _ nWW 4 _ rfl
 have c5:W.cell? ⟨w.heap.size,5,none⟩=some (num d.long):=cW _ nWW 5 _ rfl
 have hw:=ht.week
 have hf:=ht.from_
 have hl:=ht.long
 clear cW ht
 gi_enter Tryd.func104,Tryd.ntmps104
 by_cases hz:d.week=0
 ·have HR:Hid (restS d.week d.from_ d.long h=0):=by show _=_;simp [restS,hz]
  rw [hz] at c3
  clear hz
  gi_wp2
  go_ret
  exact⟨by rw [HR.out];rfl,n0⟩
 ·gi_upto_region 3 with fail
  gi_big_quiet_th (fail)
  have h1:=mul_abs (a:=h.tdiv d.week) (b:=d.long) (m:=1000000000000) (n:=1000) (Nat.le_trans (tdiv_abs _ _) (by omega)) (by omega)
  have h2:=tmod_bd h (b:=d.week) (by omega)
  have HA:=Lib.hid (wrap_id (n:=h.tdiv d.week * d.long) (by omega))
  have HB:=Lib.hid (wrap_id (n:=h.tmod d.week-d.from_) (by omega))
  have HZ:=Lib.hid hz
  have H1:=Lib.hid h1
  have H2:=Lib.hid h2
  clear h1 h2
  gi_wp2
  all_goals (
   go_ret
   refine⟨congrArg (fun x=>Ending.returned (num x)) ?_,Nx.drewN n0 _⟩
   have h1:=H1.out
   have h2:=H2.out
   have hA:=HA.out
   have hB:=HB.out
   simp only [hB] at *
   unfold restS
   rw [if_neg HZ.out,hA]
   rw [wrap_id (by first | omega | (split at *<;>omega))]
   first | omega | (split at *<;>omega))
end Go.Proofs.YtolholkjeehamaaDoor

