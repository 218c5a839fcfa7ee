import Derived.Test.YtolholkjeehamaaDoorC39
import Derived.Test.YtolholkjeehamaaDoorC09
import Derived.Test.YtolholkjeehamaaDoorC30
set_option linter.all false
set_option maxRecDepth 100000
set_option maxHeartbeats 4000000
namespace Go.Proofs.YtolholkjeehamaaDoor
open Go.RowKit
def Dit.turn (d:Dit) (r:Int):Nat:=turnS d.ends r 12 0
def Dit.has (d:Dit) (l:List Int) (holder r:Int):Int:=if l[d.turn r]?=some holder then 1 else 0
def Dit.own (d:Dit) (holder x:Int):Int:=d.has (d.oth (x / d.cyc)) holder (x % d.cyc)
def Dit.mine (d:Dit) (holder h:Int):Int:=if d.runs h=true then d.own holder (d.ran h) else 0
end Go.Proofs.YtolholkjeehamaaDoor
namespace Go.Proofs.YtolholkjeehamaaDoor
open Go.RowKit
theorem in_any (n low high:Int) (w:World):CallsIn FL 0 Tryd.prog 71 #[num n,num low,num high] w fun e w'=>e=.returned (.bool (decide (low≤n∧n≤high)))∧w'=w:=by
 gi_enter Tryd.func71,Tryd.ntmps71
 by_cases h:low≤n
 ·by_cases h2:n≤high
  ·gi_wp2
   go_ret
   exact⟨by simp [h,h2],rfl⟩
  ·gi_wp2
   go_ret
   exact⟨by simp [h2],rfl⟩
 ·gi_wp2
  go_ret
  exact⟨by simp;omega,rfl⟩
theorem inside70_any (a b low high:Int) (w:World):CallsIn FL 0 Tryd.prog 70 #[.agg #[num a,num b],num low,num high] w fun e w'=>e=.returned (.bool (decide (low≤a∧a≤b∧b≤high)))∧Nx w w':=by
 gi_enter Tryd.func70,Tryd.ntmps70
 by_cases h:low≤a
 ·by_cases h2:a≤b
  ·by_cases h3:b≤high
   ·gi_wp2
    go_ret
    exact⟨by simp [h,h2,h3],alloc_nx (Below.refl _ _) _⟩
   ·gi_wp2
    go_ret
    exact⟨by simp [h3],alloc_nx (Below.refl _ _) _⟩
  ·gi_wp2
   go_ret
   exact⟨by simp;omega,alloc_nx (Below.refl _ _) _⟩
 ·gi_wp2
  go_ret
  exact⟨by simp;omega,alloc_nx (Below.refl _ _) _⟩
end Go.Proofs.YtolholkjeehamaaDoor

