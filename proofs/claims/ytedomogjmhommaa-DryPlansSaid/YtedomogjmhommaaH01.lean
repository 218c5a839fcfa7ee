import Derived.Test.YtedomogjmhommaaProg
import Derived.WalkKit
import Derived.OwnWalkIn
import Derived.TacticsInMore
import Derived.RegionIn
import Derived.LoopNIn
import Derived.LoopIn
import Derived.RecoverIn
import Derived.Sort.BigQuietIn
import Derived.Sort.CutIn
import Derived.Lib.Hide
import Derived.Laws.Rows
import Derived.Deep.Upon
import Derived.Maps.AppendAt
import Derived.Maps.OwnIn
import Derived.Lib.SliceRun
import Derived.Sort.QuietThIn
import Derived.StillTail
set_option linter.all false
set_option maxRecDepth 100000
set_option maxHeartbeats 8000000
namespace Go.Proofs.Ytedomogjmhommaa
open Go.RowKit
abbrev FW:Fence:=Fence.wide
abbrev Nx (w w' : World):Prop:=Below w.heap.size w w'
abbrev num (n:Int):Value:=.int .i64 n
theorem Nx.trans {a b c:World} (h:Nx a b) (k:Nx b c):Nx a c:=Below.trans h (k.mono h.size)
theorem Nx.refl (w:World):Nx w w:=Below.refl _ _
@[simp] theorem zrA (f:FuncId):FW.fn f=True:=rfl
@[simp] theorem zqV:FW.depth=none:=rfl
@[simp] theorem zqW:FW.round=none:=rfl
theorem zaj {w w' : World} (h:Nx w w') (o:Obj):Nx w (w'.alloc o):=h.alloc h.size o
theorem zcW {n:Int} (h : -9223372036854775808≤n∧n≤9223372036854775807):wrap64 n=n:=by unfold wrap64;omega
theorem zaK (n low high:Int) (w:World):CallsIn FW 0 Try.prog 55 #[num n,num low,num high] w fun e w'=>e=.returned (.bool (decide (low≤n∧n≤high)))∧w'=w:=by
 gi_enter Try.func55,Try.ntmps55
 by_cases h:low≤n
 ·gi_wp2
  go_ret
  exact⟨by simp;omega,rfl⟩
 ·gi_wp2
  go_ret
  exact⟨by simp;omega,rfl⟩
theorem zbM (n low high:Int) (w:World):CallsIn FW 0 Try.prog 58 #[num n,num low,num high] w fun e w'=>e=.returned (.bool (decide (low≤n∧n≤high)))∧w'=w:=by
 gi_enter Try.func58,Try.ntmps58
 by_cases h:low≤n
 ·gi_wp2
  go_ret
  exact⟨by simp;omega,rfl⟩
 ·gi_wp2
  go_ret
  exact⟨by simp;omega,rfl⟩
abbrev spV (x:Int×Int):Value:=.agg #[num x.1,num x.2]
abbrev insB (x:Int×Int) (low high:Int):Bool:=decide (low≤x.1∧x.1≤x.2∧x.2≤high)
theorem zfj (x:Int×Int) (low high:Int) (w:World):CallsIn FW 0 Try.prog 77 #[spV x,num low,num high] w fun e w'=>e=.returned (.bool (insB x low high))∧Nx w w':=by
 obtain⟨a,b⟩:=x
 gi_enter Try.func77,Try.ntmps77
 by_cases h:low≤a
 ·by_cases h2:a≤b
  ·gi_wp2
   go_ret
   exact⟨by simp [insB, *];try omega,by exact zaj (Nx.refl _) _⟩
  ·gi_wp2
   go_ret
   exact⟨by simp [insB, *];try omega,by exact zaj (Nx.refl _) _⟩
 ·gi_wp2
  go_ret
  exact⟨by simp [insB, *];try omega,by exact zaj (Nx.refl _) _⟩
end Go.Proofs.Ytedomogjmhommaa
namespace Go.Proofs.Ytedomogjmhommaa
open Go.RowKit
section
variable {w W:World} {b k i:Nat} {cs:Array Value} {e:TypeId} {fz:Nat×Nat} {v:Value} {o o1 o2 o3:Obj}
theorem zaa (h:w.heap[b]?=some (.cells cs e fz)) (hv:cs[i]?=some v):w.cell? ⟨b,i,none⟩=some v:=by
 unfold World.cell?
 dsimp only
 rw [h]
 exact hv
theorem zac (h:w.heap[b]?=some (.cells cs e (0,0))):w.frozen? ⟨b,i,none⟩=false:=by
 unfold World.frozen?
 dsimp only
 rw [h]
 simp
theorem zaA (h:w.heap[b]?=some (.cells cs e fz)):(w.setCell ⟨b,i,none⟩ v).heap[b]?=some (.cells (cs.setIfInBounds i v) e fz):=by
 unfold World.setCell
 simp [Array.getElem?_modify,h]
theorem zae (h:k≠b):(w.setCell ⟨b,i,none⟩ v).heap[k]?=w.heap[k]?:=by
 have h2:¬ b=k:=fun e=>h e.symm
 unfold World.setCell
 simp [Array.getElem?_modify,h2]
theorem zay:(w.setCell ⟨b,i,none⟩ v).heap.size=w.heap.size:=by simp [World.setCell]
theorem zaT:(w.alloc o).heap[w.heap.size]?=some o:=heap_alloc_new w o
theorem zbq (h:k<w.heap.size):(w.alloc o).heap[k]?=w.heap[k]?:=heap_alloc_old w o h
theorem zlL:(w.alloc o).heap.size=w.heap.size+1:=by simp
theorem al1 (h:w.alloc o1=W):Nx w W∧W.heap.size=w.heap.size+1∧W.heap[w.heap.size]?=some o1:=by
 subst h
 exact⟨zaj (Nx.refl _) _,zlL,zaT⟩
theorem al2 (h:(w.alloc o1).alloc o2=W):Nx w W∧W.heap.size=w.heap.size+2∧W.heap[w.heap.size]?=some o1∧W.heap[w.heap.size+1]?=some o2:=by
 obtain⟨n1,s1,g1⟩:=al1 (w:=w) (o1:=o1) rfl
 obtain⟨n2,s2,g2⟩:=al1 h
 rw [s1] at s2 g2
 have hl:w.heap.size<(w.alloc o1).heap.size:=by omega
 exact⟨n1.trans n2,s2,(n2.block _ hl).trans g1,g2⟩
theorem al3 (h:((w.alloc o1).alloc o2).alloc o3=W):Nx w W∧W.heap.size=w.heap.size+3∧W.heap[w.heap.size]?=some o1∧W.heap[w.heap.size+1]?=some o2∧W.heap[w.heap.size+1+1]?=some o3:=by
 obtain⟨n1,s1,g1,g2⟩:=al2 (w:=w) (o1:=o1) (o2:=o2) rfl
 obtain⟨n2,s2,g3⟩:=al1 h
 rw [s1] at s2 g3
 exact⟨n1.trans n2,s2,(n2.block _ (by omega)).trans g1,(n2.block _ (by omega)).trans g2,g3⟩
theorem set3 {x0 x1 x2 v0 v1 v2:Value} (h:w.heap[b]?=some (.cells #[x0,x1,x2] e fz)):(((w.setCell ⟨b,0,none⟩ v0).setCell ⟨b,1,none⟩ v1).setCell ⟨b,2,none⟩ v2).heap[b]?=some (.cells #[v0,v1,v2] e fz) :=
 zaA (zaA (zaA h))
theorem zav {o:Obj} (h:w.heap[b]?=some o):b<w.heap.size:=(Array.getElem?_eq_some_iff.1 h).1
theorem Nx.drewN {w w' : World} (h:Nx w w') (m:Nat):Nx w (w'.drewN m):=⟨h.os,h.tape,h.output,h.size,h.block⟩
theorem Nx.drew {w w' : World} (h:Nx w w'):Nx w w'.drew:=⟨h.os,h.tape,h.output,h.size,h.block⟩
theorem Nx.set {w w' : World} (h:Nx w w') {b i:Nat} {v:Value} (hb:w.heap.size≤b):Nx w (w'.setCell ⟨b,i,none⟩ v):=h.setCell (by exact hb) _
end
end Go.Proofs.Ytedomogjmhommaa
namespace Go.Proofs.Ytedomogjmhommaa
open Go.RowKit
abbrev two (x:Int×Int):List Value:=[num x.1,num x.2]
structure St where
 w:Int
 c:Int
 h:Int
 deriving DecidableEq
abbrev St.cells (s:St):List Value:=[num s.w,num s.c,num s.h]
abbrev St.val (s:St):Value:=.agg #[num s.w,num s.c,num s.h]
structure Stp where
 lo:Int
 hi:Int
 tended:Bool
 wlo:Int
 whi:Int
 col:Int
abbrev Stp.cells (s:Stp):List Value:=[num s.lo,num s.hi,.bool s.tended,num s.wlo,num s.whi,num s.col]
abbrev Stp.val (s:Stp):Value:=.agg #[num s.lo,num s.hi,.bool s.tended,num s.wlo,num s.whi,num s.col]
abbrev zd5 (n:Int) (s:Stp):List Value:=[num s.lo,num s.hi,.bool s.tended,num s.wlo,num s.whi,num s.col,num n]
abbrev zqO (n:Int) (s:Stp):Value:=.agg #[num s.lo,num s.hi,.bool s.tended,num s.wlo,num s.whi,num s.col,num n]
structure Dry where
 heats:List (Int×Int)
 soak:Int
 brittle:Int
 start:St
 steps:List Stp
def stF (d:Dry) (s:St):Int :=
 if ¬ ((0≤s.w∧s.w≤5000)∧(0≤s.c∧s.c≤1000)) then 1 else if ¬ (0≤s.h∧s.h≤(d.heats.length:Int)-1) then 6 else 0
def za5 (x:Stp) (s:St):Bool:=decide (x.wlo≤s.w∧s.w≤x.whi) && decide (x.col≤s.c)
def mayB (n:Int) (x:Stp) (was heat:Int):Bool:=decide (0≤heat∧heat≤n-1) && (decide (heat=was) || x.tended && (decide (heat=was-1) || decide (heat=was+1)))
def zcr (a b:Int):Int:=a-(a * b).tdiv 1000
def za9 (d:Dry) (hs:Int×Int) (s:St) (heat damp:Int):St :=
 ⟨zcr s.w (max 0 (hs.1-damp * d.soak)),if zcr s.w (max 0 (hs.1-damp * d.soak))<d.brittle then zcr s.c hs.2 else s.c,heat⟩
theorem zkz (n:Int) (x:Stp) (was heat:Int) (w:World) (hn:0≤n∧n≤1000000) (hw : -1000000000≤was∧was≤1000000000) :
  CallsIn FW 0 Try.prog 91 #[zqO n x,num was,num heat] w fun e w'=>e=.returned (.bool (mayB n x was heat))∧Nx w w':=by
 have k:=fun (w1:World)=>zaK heat 0 (n-1) w1
 by_cases h:0≤heat∧heat≤n-1
 case neg =>
  have b1:decide (0≤heat∧heat≤n-1)=false:=decide_eq_false h
  rw [show mayB n x was heat=false by unfold mayB;rw [b1];rfl]
  gi_enter Try.func91,Try.ntmps91
  gi_wp2_with (first | (gi_at_call 55;refine CallsIn.mono (k _) ?_;rintro e w1 ⟨rfl,rfl⟩) | gi_in)
  all_goals (go_ret;exact⟨rfl,zaj (Nx.refl _) _⟩)
 case pos =>
 have b1:decide (0≤heat∧heat≤n-1)=true:=decide_eq_true h
 by_cases h2:heat=was
 ·subst h2
  rw [show mayB n x heat heat=true by unfold mayB;rw [b1,decide_eq_true rfl];rfl]
  gi_enter Try.func91,Try.ntmps91
  gi_wp2_with (first | (gi_at_call 55;refine CallsIn.mono (k _) ?_;rintro e w1 ⟨rfl,rfl⟩) | gi_in)
  all_goals (go_ret;exact⟨rfl,zaj (Nx.refl _) _⟩)
 ·have b2:(heat == was)=false:=beq_false_of_ne h2
  have hd2:decide (heat=was)=false:=decide_eq_false h2
  cases ht:x.tended with
  | false =>
   rw [show mayB n x was heat=false by unfold mayB;rw [b1,hd2,ht];rfl]
   gi_enter Try.func91,Try.ntmps91
   gi_wp2_with (first | (gi_at_call 55;refine CallsIn.mono (k _) ?_;rintro e w1 ⟨rfl,rfl⟩) | gi_in)
   all_goals (go_ret;exact⟨rfl,zaj (Nx.refl _) _⟩)
  | true =>
   by_cases h3:heat=was-1
   ·have b3:(heat == was-1)=true:=by simpa using h3
    rw [show mayB n x was heat=true by unfold mayB;rw [b1,hd2,ht,decide_eq_true h3];rfl]
    clear h3
    gi_enter Try.func91,Try.ntmps91
    gi_wp2_with (first | (gi_at_call 55;refine CallsIn.mono (k _) ?_;rintro e w1 ⟨rfl,rfl⟩) | gi_in)
    all_goals (go_ret;exact⟨rfl,zaj (Nx.refl _) _⟩)
   ·have b3:(heat == was-1)=false:=beq_false_of_ne h3
    rw [show mayB n x was heat=(heat == was+1) by unfold mayB;rw [b1,hd2,ht,decide_eq_false h3];simp [Bool.beq_eq_decide_eq]]
    gi_enter Try.func91,Try.ntmps91
    gi_wp2_with (first | (gi_at_call 55;refine CallsIn.mono (k _) ?_;rintro e w1 ⟨rfl,rfl⟩) | gi_in)
    all_goals (go_ret;exact⟨rfl,zaj (Nx.refl _) _⟩)
end Go.Proofs.Ytedomogjmhommaa
namespace Go.Proofs.Ytedomogjmhommaa
open Go.RowKit
def Sl (w:World) (v:Value) (sz:Nat) (xs:List (List Value)):Prop :=
 ∃ cap,(xs=[]∧v=.slice none 0 cap)∨∃ b off,v=.slice (some ⟨b,off,none⟩) xs.length cap∧b<w.heap.size ∧
  ∀ (j k:Nat) (l:List Value) (x:Value),xs[j]?=some l→l[k]?=some x→w.cell? ⟨b,off+j * sz+k,none⟩=some x
theorem Sl.nx {w w' : World} {v:Value} {sz:Nat} {xs:List (List Value)} (h:Sl w v sz xs) (n:Nx w w'):Sl w' v sz xs:=by
 obtain⟨cap,h | ⟨b,off,h1,h2,h3⟩⟩:=h
 ·exact⟨cap,.inl h⟩
 ·exact⟨cap,.inr ⟨b,off,h1,Nat.lt_of_lt_of_le h2 n.size,fun j k l x hj hk=>(n.cell (by exact h2)).trans (h3 j k l x hj hk)⟩⟩
theorem Sl.cases {w:World} {v:Value} {sz:Nat} {xs:List (List Value)} (h:Sl w v sz xs):∃ a cap,v=.slice a xs.length cap:=by
 obtain⟨cap,⟨rfl,rfl⟩ | ⟨b,off,rfl,_⟩⟩:=h
 ·exact⟨none,cap,rfl⟩
 ·exact⟨_,cap,rfl⟩
theorem Sl.get {w:World} {a:Option Addr} {n cap sz:Nat} {xs:List (List Value)} (hv:Sl w (.slice a n cap) sz xs) (h:0<xs.length) :
  ∃ b off,a=some ⟨b,off,none⟩∧b<w.heap.size∧(∀ (j k:Nat) (z:List Value) (x:Value),xs[j]?=some z→z[k]?=some x→w.cell? ⟨b,off+j * sz+k,none⟩=some x):=by
 obtain⟨cap',⟨hn,_⟩ | ⟨b,off,h1,h2,h3⟩⟩:=hv
 ·rw [hn] at h;exact absurd h (Nat.not_lt_zero _)
 ·simp only [Value.slice.injEq] at h1
  exact⟨b,off,h1.1,h2,h3⟩
theorem Sl.at {α:Type} {en:α→List Value} {w wr:World} {b off sz:Nat} {xs:List α} (hcl:∀ (j k:Nat) (z:List Value) (x:Value),(xs.map en)[j]?=some z→z[k]?=some x→w.cell? ⟨b,off+j * sz+k,none⟩=some x) (n:Nx w wr) (hb:b<w.heap.size) {k:Nat} {p:α} (hk:xs[k]?=some p) (i:Nat) {v:Value} (hv:(en p)[i]?=some v) :
  wr.cell? ⟨b,off+k * sz+i,none⟩=some v:=(n.cell (p:=⟨b,off+k * sz+i,none⟩) (by exact hb)).trans (hcl k i (en p) v (by simp [hk]) hv)
structure Dry.Ok (d:Dry):Prop where
 h4:1≤d.heats.length∧d.heats.length≤4
 hs:∀ x∈d.heats,(0≤x.1∧x.1≤1000)∧(0≤x.2∧x.2≤1000)
 soak:0≤d.soak∧d.soak≤1000
 brittle:0≤d.brittle∧d.brittle≤5000
 start:stF d d.start=0
 s5:d.steps.length≤5
 st:∀ x∈d.steps,(0≤x.lo∧x.lo≤x.hi∧x.hi≤3)∧(0≤x.wlo∧x.wlo≤x.whi∧x.whi≤5000)∧(0≤x.col∧x.col≤1000)
structure St.Ok (n:Nat) (s:St):Prop where
 w:0≤s.w∧s.w≤5000
 c:0≤s.c∧s.c≤1000
 h:0≤s.h∧s.h≤(n:Int)-1
theorem stF_ok {d:Dry} {s:St}:stF d s=0↔s.Ok d.heats.length:=by
 unfold stF
 constructor
 ·intro h
  split at h
  ·cases h
  ·rename_i h1
   split at h
   ·cases h
   ·rename_i h2
    rw [Decidable.not_not] at h1 h2
    exact⟨h1.1,h1.2,h2⟩
 ·rintro ⟨a,b,c⟩
  rw [if_neg (by simp only [Decidable.not_not];exact⟨a,b⟩),if_neg (by simp only [Decidable.not_not];exact c)]
theorem zkx {a b:Int} (ha:0≤a) (hb:0≤b∧b≤1000):0≤zcr a b∧zcr a b≤a:=by
 unfold zcr
 have h1:0≤a * b:=Int.mul_nonneg ha hb.1
 have h2:a * b≤a * 1000:=Int.mul_le_mul_of_nonneg_left hb.2 ha
 rw [Int.tdiv_eq_ediv_of_nonneg h1]
 omega
theorem zki {a damp soak:Int} (ha:0≤a∧a≤1000) (hd:0≤damp) (hs:0≤soak):0≤max 0 (a-damp * soak)∧max 0 (a-damp * soak)≤1000:=by
 have:=Int.mul_nonneg hd hs
 omega
theorem zep {d:Dry} (hd:d.Ok) {n:Nat} {hs:Int×Int} (hh:hs∈d.heats) {s:St} (h:s.Ok n) {heat damp:Int} (h1:0≤heat∧heat≤(n:Int)-1) (h2:0≤damp):(za9 d hs s heat damp).Ok n:=by
 have a1:=hd.hs hs hh
 have a2:=zkx h.w.1 (zki a1.1 h2 hd.soak.1)
 have a3:=zkx h.c.1 a1.2
 have:=h.w
 have:=h.c
 refine⟨by simp only [za9];omega,?_,h1⟩
 simp only [za9]
 split<;>omega
structure StoveAt (w:World) (B:Nat) (d:Dry):Prop where
 lt:B<w.heap.size
 heats:∃ v,w.cell? ⟨B,0,none⟩=some v∧Sl w v 2 (d.heats.map two)
 soak:w.cell? ⟨B,1,none⟩=some (num d.soak)
 brittle:w.cell? ⟨B,2,none⟩=some (num d.brittle)
 s0:w.cell? ⟨B,3,none⟩=some (num d.start.w)
 s1:w.cell? ⟨B,4,none⟩=some (num d.start.c)
 s2:w.cell? ⟨B,5,none⟩=some (num d.start.h)
 steps:∃ v,w.cell? ⟨B,6,none⟩=some v∧Sl w v 6 (d.steps.map Stp.cells)
 stages:∃ v,w.cell? ⟨B,7,none⟩=some v∧Sl w v 7 (d.steps.map (zd5 d.heats.length))
theorem StoveAt.nx {w w' : World} {B:Nat} {d:Dry} (h:StoveAt w B d) (n:Nx w w'):StoveAt w' B d:=by
 have k:∀ {i:Nat} {v:Value},w.cell? ⟨B,i,none⟩=some v→w'.cell? ⟨B,i,none⟩=some v:=fun h'=>(n.cell (by exact h.lt)).trans h'
 exact⟨Nat.lt_of_lt_of_le h.lt n.size,h.heats.imp fun _ x=>⟨k x.1,x.2.nx n⟩,k h.soak,k h.brittle,k h.s0,k h.s1,k h.s2,h.steps.imp fun _ x=>⟨k x.1,x.2.nx n⟩,h.stages.imp fun _ x=>⟨k x.1,x.2.nx n⟩⟩
theorem zgO (x:Stp) (s:St) (w:World):CallsIn FW 0 Try.prog 73 #[x.val,s.val] w fun e w'=>e=.returned (.bool (za5 x s))∧Nx w w':=by
 have k:=fun (w1:World)=>zaK s.w x.wlo x.whi w1
 have N:=fun (W:World) (h:Nx w W)=>zaj h (.cells #[num s.w,num s.c,num s.h] 24)
 by_cases h:x.wlo≤s.w∧s.w≤x.whi
 ·have b1:decide (x.wlo≤s.w∧s.w≤x.whi)=true:=decide_eq_true h
  rw [show za5 x s=decide (s.c≥x.col) by unfold za5;rw [b1];rfl]
  gi_enter Try.func73,Try.ntmps73
  gi_wp2_with (first | (gi_at_call 55;refine CallsIn.mono (k _) ?_;rintro e w1 ⟨rfl,rfl⟩) | gi_in)
  all_goals (go_ret;exact⟨rfl,zaj (zaj (Nx.refl _) _) _⟩)
 ·have b1:decide (x.wlo≤s.w∧s.w≤x.whi)=false:=decide_eq_false h
  rw [show za5 x s=false by unfold za5;rw [b1];rfl]
  gi_enter Try.func73,Try.ntmps73
  gi_wp2_with (first | (gi_at_call 55;refine CallsIn.mono (k _) ?_;rintro e w1 ⟨rfl,rfl⟩) | gi_in)
  all_goals (go_ret;exact⟨rfl,zaj (zaj (Nx.refl _) _) _⟩)
end Go.Proofs.Ytedomogjmhommaa
namespace Go.Proofs.Ytedomogjmhommaa
open Go.RowKit
theorem zii {sz:Nat}:∀ (ys:List (List Value)) (j k:Nat) (l:List Value) (x:Value),(∀ y∈ys,y.length=sz)→ys[j]?=some l→l[k]?=some x→ys.flatten[j * sz+k]?=some x
 | [],j,k,l,x,_,h,_=>by simp at h
 | y :: ys,j,k,l,x,hl,hj,hk=>by
  have hy:=hl y (List.mem_cons_self ..)
  cases j with
  | zero =>
   simp only [List.getElem?_cons_zero,Option.some.injEq] at hj
   subst hj
   have:k<y.length:=(List.getElem?_eq_some_iff.1 hk).1
   rw [Nat.zero_mul,Nat.zero_add,List.flatten_cons,List.getElem?_append_left this]
   exact hk
  | succ j =>
   rw [List.flatten_cons,List.getElem?_append_right (by rw [hy,Nat.succ_mul];omega),hy]
   have:(j+1) * sz+k-sz=j * sz+k:=by rw [Nat.succ_mul];omega
   rw [this]
   exact zii ys j k l x (fun y hy=>hl y (List.mem_cons_of_mem _ hy)) hj hk
theorem zeM {sz:Nat}:∀ ys:List (List Value),(∀ y∈ys,y.length=sz)→ys.flatten.length=ys.length * sz
 | [],_=>by simp
 | y :: ys,h=>by
  have:=zeM ys fun z hz=>h z (List.mem_cons_of_mem _ hz)
  rw [List.flatten_cons,List.length_append,this,h y (List.mem_cons_self ..),List.length_cons,Nat.succ_mul]
  omega
theorem zpS {sz:Nat} (hs:0<sz) {ys:List (List Value)} (h:∀ y∈ys,y.length=sz) {j:Nat} {x:Value} (hj:ys.flatten[j]?=some x):∃ l,ys[j / sz]?=some l∧l[j % sz]?=some x:=by
 have hl:j<ys.length * sz:=by rw [← zeM ys h];exact (List.getElem?_eq_some_iff.1 hj).1
 have hd:j / sz<ys.length:=Nat.div_lt_of_lt_mul (by rwa [Nat.mul_comm])
 have hm:j % sz<(ys[j / sz]).length:=by rw [h _ (List.getElem_mem _)];exact Nat.mod_lt _ hs
 have h1:=zii (sz:=sz) ys (j / sz) (j % sz) _ _ h (List.getElem?_eq_getElem hd) (List.getElem?_eq_getElem hm)
 rw [show j / sz * sz+j % sz=j by rw [Nat.mul_comm];exact Nat.div_add_mod ..] at h1
 rw [h1] at hj
 cases hj
 exact⟨_,List.getElem?_eq_getElem hd,List.getElem?_eq_getElem hm⟩
theorem addr_add (b o j:Nat):(⟨b,o,none⟩:Addr).add j=⟨b,o+j,none⟩:=by
 unfold Addr.add
 split
 ·rename_i h;subst h;rfl
 ·rfl
structure ElemT (t e:TypeId) (z:Value) (sz by_:Nat):Prop where
 und:Try.prog.underlying t=some (.slice e)
 info:∃ i:TypeInfo,Try.prog.info? e=some i∧i.zero=some z∧i.size=sz∧i.bytes=by_
 zs:z.cells.size=sz
 pos:0<sz
theorem ElemT.mk' {t e:TypeId} {z:Value} {sz by_:Nat} (h1:Try.prog.underlying t=some (.slice e)) (h:(Try.prog.info? e).map (fun i=>(i.zero,i.size,i.bytes))=some (some z,sz,by_)) (h2:z.cells.size=sz) (h3:0<sz):ElemT t e z sz by_:=by
 refine⟨h1,?_,h2,h3⟩
 cases hi:Try.prog.info? e with
 | none=>rw [hi] at h;cases h
 | some i =>
  rw [hi] at h
  simp only [Option.map_some,Option.some.injEq,Prod.mk.injEq] at h
  exact⟨i,rfl,h.1,h.2.1,h.2.2⟩
theorem zcF {w:World} {base e sz n:Nat} {v:Value} {rows:List (List Value)} (hr:∀ y∈rows,y.length=sz) (hn:rows.length=n) (h:w.ownsRow base e sz v n rows.flatten):Sl w v sz rows:=by
 subst hn
 obtain⟨_,⟨rfl,h0⟩ | ⟨g,cap,cur,rfl,hb,hg,hc,hm,hs,ht⟩⟩:=h
 ·exact⟨0,.inl ⟨List.eq_nil_of_length_eq_zero h0,rfl⟩⟩
 ·refine⟨cap,.inr ⟨g,0,rfl,(Array.getElem?_eq_some_iff.1 hg).1,fun j k l x hj hk=>?_⟩⟩
  have h1:=zii (sz:=sz) rows j k l x hr hj hk
  rw [← ht,List.getElem?_take] at h1
  split at h1
  ·unfold World.cell?
   dsimp only
   rw [hg]
   simpa using h1
  ·cases h1
theorem zjx {w:World} {base e sz n:Nat} {v:Value} {xs:List Value} (h0:0<n) (h:w.ownsRow base e sz v n xs):∃ g cap,v=.slice (some ⟨g,0,none⟩) n cap∧base≤g∧g<w.heap.size∧n≤cap:=by
 obtain⟨_,⟨_,h1⟩ | ⟨g,cap,cur,rfl,hb,hg,hc,_⟩⟩:=h
 ·omega
 ·exact⟨g,cap,rfl,hb,(Array.getElem?_eq_some_iff.1 hg).1,hc⟩
section
variable {t e:TypeId} {z:Value} {sz by_:Nat} (T:ElemT t e z sz by_)
include T
end
theorem zbn {w w' : World} {base e sz n:Nat} {v:Value} {xs:List Value} (h:w.ownsRow base e sz v n xs) (hk:∀ g,v.ownBlock=some g→w'.heap[g]?=w.heap[g]?):w'.ownsRow base e sz v n xs:=by
 obtain⟨h1,h2⟩:=h
 refine⟨h1,h2.imp id ?_⟩
 rintro ⟨g,cap,cur,rfl,hb,hg,r⟩
 exact⟨g,cap,cur,rfl,hb,(hk g rfl).trans hg,r⟩
theorem zg2 {t e:TypeId} {z:Value} {sz by_:Nat} (T:ElemT t e z sz by_) (base:Nat) (w:World) (v:Value) (rows:List (List Value)) (hown:w.ownsRow base e sz v rows.length rows.flatten) (g1:Nat) (x:List Value) (hx:x.length=sz) (hg:w.heap[g1]?=some (.cells x.toArray e (0,0)))
  (h1:∀ y∈x,y.oneCell'=true) (hl:(rows.length+1) * by_≤140737488355328) (hm:rows.length≤281474976710656) (hb:base≤w.heap.size) :
  ∃ v' w',(Builtin.append_ #[t,t] t #[v,.slice (some ⟨g1,0,none⟩) 1 1]).run Try.prog w=.ok v' w'∧w'.ownsRow base e sz v' (rows++[x]).length (rows++[x]).flatten∧w.grownBy w' v.ownBlock∧(v'.ownBlock=v.ownBlock∨v'.ownBlock=some w.heap.size):=by
 obtain⟨i,hi,hz,hs,hby⟩:=T.info
 obtain⟨v',w',r1,r2,r3,_,r5⟩:=run_append_own_at (P:=Try.prog) w base t t e i z sz by_ T.und hi hz hs hby T.zs T.pos v rows.length rows.flatten hown ⟨g1,0,none⟩ 1 1 x (by omega) (fun j y hj=>by
  rw [addr_add]
  unfold World.cell?
  dsimp only
  rw [hg]
  simpa using hj) h1 (by unfold maxLen;omega) hl hb
 exact⟨v',w',r1,by rw [List.flatten_append,List.length_append];simpa using r2,r3,r5⟩
theorem zaB {w:World} {base e sz n:Nat} {v:Value} {xs:List Value} (h:w.ownsRow base e sz v n xs):∃ a c,v=.slice a n c:=by
 obtain⟨_,⟨rfl,h0⟩ | ⟨g,cap,cur,rfl,_⟩⟩:=h
 ·exact⟨none,0,by rw [h0]⟩
 ·exact⟨_,_,rfl⟩
theorem zck {w w' : World} {base e sz n:Nat} {v:Value} {xs:List Value} (h:w.ownsRow base e sz v n xs) (nx:Nx w w'):w'.ownsRow base e sz v n xs :=
 zbn h fun g hg=>nx.block g (h.lt g hg).2
theorem zbi {w:World} {base e sz n:Nat} {v:Value} {xs:List Value} (h:w.ownsRow base e sz v n xs) (o:Obj):(w.alloc o).ownsRow base e sz v n xs:=zck h (zaj (Nx.refl _) _)
end Go.Proofs.Ytedomogjmhommaa
namespace Go
section
variable {F:Fence} {nF:Nat} {P:Program} {ops:Array Oper} {md:Region.Mode} {C:World→Prop}
def ze5 (F:Fence) (nF:Nat) (P:Program) (md:Region.Mode) (ops:Array Oper) (C:World→Prop) (n:Nat) (L:Array Bool→Act→Prop):Nat→Array Bool→Act→Prop
 | 0,listed,a=>L listed a
 | f+1,listed,a =>
  Region.ready md ops listed≠[]∧∀ i∈Region.ready md ops listed,i<n∧qOpIn F nF P ops C i (ze5 F nF P md ops C n L f (listed.setIfInBounds i true)) a
theorem zdO {n g:Nat} {L:Array Bool→Act→Prop} {Q' : Exit→Act→World→Prop} (hro:F.round=none) (hL:∀ listed a w,C w→L listed a→wpAnyIn F nF P md ops Q' g listed a w) :
  ∀ (f:Nat) (listed:Array Bool) (a:Act) (w:World),C w→ze5 F nF P md ops C n L f listed a→wpAnyIn F nF P md ops Q' (f+g) listed a w
 | 0,listed,a,w,hw,h=>by rw [Nat.zero_add];exact hL _ _ _ hw h
 | f+1,listed,a,w,hw,h=>by
  rw [show f+1+g=(f+g)+1 by omega]
  exact⟨fun h0=>absurd h0 h.1,fun i hi=>wpOpIn_of_qOpIn hro hw (fun a' w' hw' h'=>zdO hro hL f _ a' w' hw' h') (h.2 i hi).2⟩
theorem zhs {n i:Nat} {oi:Oper} {v:Value} {L:Array Bool→Act→Prop} (hi:ops[i]?=some oi) (hsel:∀ (j:Nat) (o:Oper) cs b,ops[j]?=some o→o.op≠.select cs b)
  (hs:Region.sinkB md ops n=true) (hc:Region.chainB md ops n=true) (hn:n<ops.size) (hin:i<n)
  (hdone:∀ listed a,L listed a→∀ j∈Region.ready md ops listed,n≤j) :
  ∀ (f:Nat) (listed:Array Bool) (a:Act),HeadInv md ops n listed →
   (∀ j oj,ops[j]?=some oj→j≠i→listed.getD j true=false→(∀ e∈oj.after,Region.binds md e=true→e.on≠i)→oi.apart ops oj=true) →
   i∈Region.ready md ops listed→YieldsQuiet F nF P ops C oi v a →
   ze5 F nF P md ops C n L f (listed.setIfInBounds i true) (a.put oi.dst v)→ze5 F nF P md ops C n L (f+1) listed a:=by
 intro f
 induction f with
 | zero =>
  intro listed a inv _ hr hy H
  have hun:=(mem_ready.1 hr).1
  refine⟨fun h=>(by rw [h] at hr;cases hr),fun j hj=>?_⟩
  have hjn:j<n:=by
   rcases Nat.lt_or_ge j n with h | h
   ·exact h
   ·exact absurd hj (tail_waits hs hc hn inv _ i rfl hin hun j h)
  refine⟨hjn,?_⟩
  by_cases hji:j=i
  ·subst hji;exact hy.qOpIn hi H
  ·have:=hdone _ _ H j (ready_mono hj hji)
   omega
 | succ f ih =>
  intro listed a inv hfree hr hy H
  have hun:=(mem_ready.1 hr).1
  refine⟨fun h=>(by rw [h] at hr;cases hr),fun j hj=>?_⟩
  have hjn:j<n:=by
   rcases Nat.lt_or_ge j n with h | h
   ·exact h
   ·exact absurd hj (tail_waits hs hc hn inv _ i rfl hin hun j h)
  refine⟨hjn,?_⟩
  by_cases hji:j=i
  ·subst hji;exact hy.qOpIn hi H
  ·have h1:=(H.2 j (ready_mono hj hji)).2
   obtain⟨hjun,oj,hoj,hall⟩:=mem_ready.1 hj
   have hnot:∀ e∈oj.after,Region.binds md e=true→e.on≠i:=fun e he hb heq=>by
    have h1:=hall e he hb
    rw [heq,getD_both hun] at h1
    cases h1
   have h2:=qOpIn_put hoj (hfree j oj hoj hji hjun hnot) (fun cs b=>hsel i oi cs b hi) (fun cs b=>hsel j oj cs b hoj) hy h1
   have hfree' : ∀ k ok,ops[k]?=some ok→k≠i→(listed.setIfInBounds j true).getD k true=false →
     (∀ e∈ok.after,Region.binds md e=true→e.on≠i)→oi.apart ops ok=true:=fun k ok hk hki hun hno=>by
    refine hfree k ok hk hki ?_ hno
    by_cases hjk:j=k
    ·subst hjk;exact hjun
    ·rw [getD_set_ne true hjk] at hun;exact hun
   refine qOpIn_mono (fun a' h3=>ih (listed.setIfInBounds j true) a' (inv.set hj hjn) hfree' (ready_mono hr (Ne.symm hji)) h3.1 ?_) h2
   rw [Array.setIfInBounds_comm _ _ hji]
   exact h3.2
theorem zed {Q' : Exit→Act→World→Prop}:∀ (l:List Oper) (k:Nat) (listed:Array Bool) (a:Act) (w:World),(∀ j,l[j]?=ops[k+j]?) →
  Region.seqB md ops l.length k listed=true→wpListIn F nF P ops Q' l a w→wpAnyIn F nF P md ops Q' l.length listed a w
 | [],_,_,_,_,_,hB,h=>⟨by simpa [Region.seqB] using hB,h⟩
 | o :: l,k,listed,a,w,hl,hB,h=>by
  have h0:ops[k]?=some o:=by simpa using (hl 0).symm
  simp only [List.length_cons,Region.seqB,Bool.and_eq_true,decide_eq_true_eq] at hB
  refine⟨fun h1=>(by rw [hB.1] at h1;cases h1),fun i hi=>?_⟩
  rw [hB.1] at hi
  have hik:i=k:=by simpa using hi
  subst hik
  have hw:wpOpIn F nF P ops Q' i (wpListIn F nF P ops Q' l) a w:=by unfold wpOpIn;simp only [h0];exact h
  exact wpOpIn_mono (fun a' w' h'=>zed l (i+1) _ a' w' (fun j=>by have:=hl (j+1);simpa [Nat.add_assoc,Nat.add_comm 1 j] using this) hB.2 h') hw
theorem zfS {n g:Nat} {Lq:Act→Prop} (hsel:Region.noSelect ops=true) (hs:Region.sinkB md ops n=true) (hc:Region.chainB md ops n=true) (hn:n<ops.size) :
  ∀ (l:List Oper) (k:Nat) (listed:Array Bool) (a:Act),(∀ j,j<l.length→l[j]?=ops[k+j]?)→k+l.length=n→HeadInv md ops n listed →
  Region.lexHead md ops g l.length k listed=true→wpQuietIn F nF P ops C Lq l a →
  ze5 F nF P md ops C n (fun listed' a'=>Region.seqB md ops g n listed'=true∧Lq a') l.length listed a
 | [],k,listed,a,_,hk,_,hB,h=>by
  have:k=n:=by simpa using hk
  subst this
  exact⟨by simpa [Region.lexHead] using hB,h⟩
 | o :: l,k,listed,a,hl,hk,inv,hB,h=>by
  have h0:ops[k]?=some o:=by simpa using (hl 0 (by simp)).symm
  simp only [List.length_cons,Region.lexHead,Bool.and_eq_true] at hB
  obtain⟨⟨hr,hf⟩,hB'⟩:=hB
  have hkn:k<n:=by simp only [List.length_cons] at hk;omega
  have hr' : k∈Region.ready md ops listed:=by simpa using hr
  have hst:qOpIn F nF P ops C k (wpQuietIn F nF P ops C Lq l) a:=by unfold qOpIn;simp only [h0];exact h
  obtain⟨v,hy,hK⟩:=yieldsQuiet_of_qOpIn h0 hst
  exact zhs h0 (Region.noSelect_spec hsel) hs hc hn hkn (fun listed' a' hL=>seqB_ready hL.1) l.length listed a inv (Region.free_spec h0 hf) hr' hy
   (zfS hsel hs hc hn l (k+1) _ _ (fun j hj=>by have:=hl (j+1) (by simp;omega);simpa [Nat.add_assoc,Nat.add_comm 1 j] using this) (by simp only [List.length_cons] at hk;omega) (inv.set hr' hkn) hB' hK)
theorem zaX {id:Nat} {Q:Exit→Act→World→Prop} {a:Act} {w:World} {l:List Oper} (n:Nat) (hro:F.round=none) (hm:P.follows .mixedOrders=true) (hB:Region.lexTailB .any l.toArray n=true)
  (h:wpQuietIn F nF P l.toArray (fun w'=>∃ n,w'=w.drewN n) (fun a'=>∀ w',(∃ n,w'=w.drewN n)→wpListIn F nF P l.toArray Q (l.drop n) a' w') (l.take n) a):(Code.region id l.toArray true).wpIn F nF P Q a w:=by
 simp only [Region.lexTailB,Bool.and_eq_true,decide_eq_true_eq] at hB
 obtain⟨⟨⟨⟨hsel,hn⟩,hs⟩,hc⟩,hlex⟩:=hB
 have hn' : n<l.length:=by simpa using hn
 have htl:(l.take n).length=n:=by simp;omega
 have hdl:(l.drop n).length=l.toArray.size-n:=by simp
 have inv0:HeadInv .any l.toArray n (Array.replicate l.toArray.size false) :=
  ⟨by simp,fun j oj _ hl=>(by rw [getD_replicate_false] at hl;cases hl),fun t _ ht=>getD_in (by simpa using ht) (getD_replicate_false _ _)⟩
 have H:=zfS (F:=F) (nF:=nF) (md:=.any) (g:=l.toArray.size-n) hsel hs hc hn (l.take n) 0 _ a (fun j hj=>by
  have hj' : j<n:=by rw [htl] at hj;exact hj
  simp [hj']) (by simpa using htl) inv0 (by rw [htl];exact hlex) h
 refine wpIn_region_any hm ?_
 have:=zdO (Q':=Q) (g:=l.toArray.size-n) hro (fun listed a' w' hw' hL=>by
  have:=zed (F:=F) (nF:=nF) (md:=.any) (Q':=Q) (l.drop n) n listed a' w' (fun j=>by simp [List.getElem?_drop]) (by rw [hdl];exact hL.1) (hL.2 w' hw')
  rwa [hdl] at this) _ _ _ { w with drawn:=w.drawn+1 } ⟨1,rfl⟩ H
 rw [htl,show n+(l.toArray.size-n)=l.toArray.size by omega] at this
 exact this
end
end Go
namespace Go
section
variable {F:Fence} {n:Nat} {P:Program} {ops:Array Oper} {md:Region.Mode} {C:World→Prop} {Q:Exit→Act→World→Prop}
def wpAnyC (F:Fence) (n:Nat) (P:Program) (md:Region.Mode) (ops:Array Oper) (C:World→Prop) (Q:Exit→Act→World→Prop):Nat→Array Bool→Act→World→Prop
 | 0,listed,a,w=>C w∧Region.ready md ops listed=[]∧Q .normal a w
 | f+1,listed,a,w=>C w∧(Region.ready md ops listed=[]→Q .normal a w)∧∀ i∈Region.ready md ops listed,wpOpIn F n P ops Q i (wpAnyC F n P md ops C Q f (listed.setIfInBounds i true)) a w
theorem wpAnyC.class:∀ {f:Nat} {listed:Array Bool} {a:Act} {w:World},wpAnyC F n P md ops C Q f listed a w→C w
 | 0,_,_,_,h=>h.1
 | _+1,_,_,_,h=>h.1
def YieldsC (F:Fence) (n:Nat) (P:Program) (ops:Array Oper) (C:World→Prop) (o:Oper) (v:Value) (a:Act):Prop :=
 o.askedIn F P a C∧((Region.wanted o (yielded ops a.tmps)=true∧∀ w,C w→o.quietAtIn F n P a (fun w'=>w'=w) w v)∨(Region.wanted o (yielded ops a.tmps)=false∧v=undef))
theorem YieldsC.of_same {o:Oper} {v:Value} {a a' : Act} (hy:YieldsC F n P ops C o v a) (he:execOp a'.eval o=execOp a.eval o)
  (hw:Region.wanted o (yielded ops a'.tmps)=Region.wanted o (yielded ops a.tmps)) (hb:∀ w,o.about P w a'.eval=o.about P w a.eval):YieldsC F n P ops C o v a':=by
 unfold YieldsC Oper.quietAtIn Oper.askedIn at *
 rw [he,hw]
 exact⟨fun w hc f hf=>hy.1 w hc f (by rw [← hb w];exact hf),hy.2⟩
theorem YieldsC.wpOpIn {i:Nat} {o:Oper} {v:Value} {a:Act} (hro:∀ e,Oper.semAt F.round e o=execOp e o) (hi:ops[i]?=some o) (hy:YieldsC F n P ops C o v a) {K:Act→World→Prop} {w:World} (hC:C w) (h:K (a.put o.dst v) w) :
  wpOpIn F n P ops Q i K a w:=by
 unfold Go.wpOpIn
 simp only [hi]
 rcases hy.2 with ⟨hw,hv⟩ | ⟨hw,rfl⟩
 ·simp only [hw,if_true]
  have h3:=hv w hC
  unfold Oper.quietAtIn at h3
  unfold Oper.wpIn
  refine⟨hy.1 w hC,?_⟩
  rw [hro]
  generalize (execOp a.eval o).run P w=r at *
  cases r with
  | ok x w' =>
   cases x<;>simp only [Oper.quietUponIn] at h3<;>simp only [Oper.uponIn]
   case value u=>obtain⟨e1,e2⟩:=h3;rw [e1,e2];exact h
   case skip=>obtain⟨e1,e2⟩:=h3;rw [e1,← e2];exact h
   case enter f args =>
    obtain⟨e1,hd,hc⟩:=h3
    rw [e1]
    exact⟨hd,hc.mono fun e w'' ⟨he,hw''⟩=>by subst he;rw [hw''];exact h⟩
  | halt x w'=>simp only [Oper.quietUponIn] at h3
 ·simp only [hw,Bool.false_eq_true,if_false];exact⟨hy.1 w hC,h⟩
theorem zkX {j:Nat} {oi oj:Oper} {v:Value} (hro:∀ e,Oper.semAt F.round e oj=execOp e oj) (hj:ops[j]?=some oj) (hap:oi.apart ops oj=true)
  (hsi:∀ cs b,oi.op≠.select cs b) (hsj:∀ cs b,oj.op≠.select cs b)
  (hQ:∀ c a w,Q (.panic c) (a.put oi.dst v) w→Q (.panic c) a w) {K:Act→World→Prop} {a:Act} {w:World}
  (hy:YieldsC F n P ops C oi v a) (h:wpOpIn F n P ops Q j K (a.put oi.dst v) w) :
  wpOpIn F n P ops Q j (fun a' w'=>YieldsC F n P ops C oi v a'∧K (a'.put oi.dst v) w') a w:=by
 obtain⟨h1,h2,h3⟩:=Oper.apart_spec hap
 have keep:∀ (a:Act),YieldsC F n P ops C oi v a→∀ u,YieldsC F n P ops C oi v (a.put oj.dst u):=fun a hy u =>
  hy.of_same (execOp_put oi hsi a oj.dst u h3) (wanted_put oi a oj.dst u h3) (fun w=>about_put oi w a oj.dst u h3)
 have keepD:∀ d,YieldsC F n P ops C oi v { a with defers:=d :: a.defers }:=fun d=>hy.of_same rfl rfl (fun _=>rfl)
 unfold wpOpIn at *
 simp only [hj] at *
 rw [wanted_put oj a oi.dst v h1,about_put oj w a oi.dst v h1] at h
 split
 ·rename_i hw
  simp only [hw,if_true] at h
  unfold Oper.wpIn at *
  rw [about_put oj w a oi.dst v h1] at h
  refine⟨h.1,?_⟩
  have h:=h.2
  rw [hro,execOp_put oj hsj a oi.dst v h1] at h
  rw [hro]
  generalize (execOp a.eval oj).run P w=r at *
  cases r with
  | ok x w' =>
   cases x<;>simp only [Oper.uponIn] at h ⊢
   case value u=>exact⟨keep a hy u,by rw [← Act.put_comm a v u h2];exact h⟩
   case skip=>exact⟨keep a hy _,by rw [← Act.put_comm a v undef h2];exact h⟩
   case defer d =>
    refine⟨keep _ (keepD d) _,?_⟩
    rw [← Act.put_comm _ v undef h2,← Act.put_defers]
    exact h
   case enter f args =>
    refine⟨h.1,CallsIn.mono h.2 fun e w'' he=>?_⟩
    cases e with
    | returned u=>exact⟨keep a hy u,by rw [← Act.put_comm a v u h2];exact he⟩
    | panicked c=>exact hQ _ _ _ he
    | outgrown=>exact he
   case row row args=>exact⟨h.1,RowsIn.mono h.2 fun u w'' he=>⟨keep a hy u,by rw [← Act.put_comm a v u h2];exact he⟩⟩
   case round l f tmps assign body =>
    refine⟨h.1,RoundIn.mono h.2 fun e w'' he=>?_⟩
    cases e with
    | returned u=>exact⟨keep a hy u,by rw [← Act.put_comm a v u h2];exact he⟩
    | panicked c=>exact hQ _ _ _ he
    | outgrown=>exact he
  | halt x w' =>
   cases x<;>simp only [Oper.uponIn] at h ⊢
   case panic u=>exact hQ _ _ _ h
 ·rename_i hw
  simp only [hw] at h
  exact⟨h.1,keep a hy _,by rw [← Act.put_comm a v undef h2];exact h.2⟩
theorem zjy (h:ops.all (fun o=>match o.op with | .defer _=>false | _=>true)=true):∀ (j:Nat) (o:Oper),ops[j]?=some o→∀ e,Oper.semAt F.round e o=execOp e o:=fun j o ho e =>
 Oper.semAt_eq _ _ _ fun c hc=>by
  have:=Array.all_eq_true_iff_forall_mem.1 h o (Array.mem_of_getElem? ho)
  rw [hc] at this
  cases this
end
end Go
