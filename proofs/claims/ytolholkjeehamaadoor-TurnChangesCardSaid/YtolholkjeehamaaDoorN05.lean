/- For every ditch, any swap, any loan and any 32 bit number the law TurnChanges returns true, does not panic, and leaves the ditch as it was. Conditions: the package's variables hold what the program lays in them at its start (the statement's own word: laid), and the arguments are values as the statement's card tells them. -/
import Derived.Test.YtolholkjeehamaaDoorK1
import Derived.Test.YtolholkjeehamaaDoorC40
import Derived.Test.YtolholkjeehamaaDoorC39
import Derived.Test.YtolholkjeehamaaDoorC34
import Derived.Test.YtolholkjeehamaaDoorC09
import Derived.Deep.Upon
set_option linter.all false
set_option maxRecDepth 100000
set_option maxHeartbeats 4000000
namespace Go.Proofs.YtolholkjeehamaaDoor
end Go.Proofs.YtolholkjeehamaaDoor
namespace Go.Proofs.YtolholkjeehamaaDoor
open Go.RowKit
end Go.Proofs.YtolholkjeehamaaDoor

namespace Go.Proofs.YtolholkjeehamaaDoor
theorem Dit.Ok.oth_len {d:Dit} (hO:d.Ok) (c:Int):(d.oth c).length=d.turns.length:=by
 by_cases hc:c∈d.keys
 ·rw [hO.chg.len c hc]
 ·rw [oth_us hc];simp [Dit.us]
end Go.Proofs.YtolholkjeehamaaDoor

namespace Go.Proofs.YtolholkjeehamaaDoor
end Go.Proofs.YtolholkjeehamaaDoor

namespace Go.Proofs.YtolholkjeehamaaDoor
end Go.Proofs.YtolholkjeehamaaDoor

namespace Go.Proofs.YtolholkjeehamaaDoor
end Go.Proofs.YtolholkjeehamaaDoor

namespace Go.Proofs.YtolholkjeehamaaDoor
def Dit.swap (d:Dit) (s:Int×Int×Int):Dit:={ d with swaps:=d.swaps++[s] }
def Dit.lend (d:Dit) (l:Int×Int×Int):Dit:={ d with loans:=d.loans++[l] }
theorem oth3_at (x:Int) (t:Nat):∀ (lo:List (Int×Int×Int)) (u v:List Int),u[t]?=v[t]?→u.length=v.length→(oth3 u lo x)[t]?=(oth3 v lo x)[t]?
 | [],_,_,h,_=>h
 | s :: lo,u,v,h,hl=>by
  show (oth3 (if s.1=x then u.set s.2.1.toNat s.2.2 else u) lo x)[t]?=(oth3 (if s.1=x then v.set s.2.1.toNat s.2.2 else v) lo x)[t]?
  refine oth3_at x t lo _ _ ?_ ?_
  ·split
   ·rw [List.getElem?_set,List.getElem?_set,hl,h]
   ·exact h
  ·split
   ·rw [List.length_set,List.length_set,hl]
   ·exact hl
theorem swapL_at {l:List Int} {a b t:Nat} (ha:t≠a) (hb:t≠b):(swapL l a b)[t]?=l[t]?:=by
 unfold swapL
 rw [List.getElem?_set_ne hb.symm,List.getElem?_set_ne ha.symm]
theorem Dit.Ok.owner_oth {d:Dit} (hO:d.Ok) {h:Int} (hh:0≤h):(d.at d.ends d.cyc h=(-1,-1)∧d.owner h=(-1,-1,-1)) ∨
  (∃ c:Int,∃ t:Nat,d.at d.ends d.cyc h=(c,(t:Int))∧0≤c∧t<d.turns.length∧d.owner h=(((d.oth c)[t]?).getD 0,c,(t:Int))):=by
 have hs:=hO.ran_step hh
 by_cases hr:d.runs h=true
 ·have hr0:=hO.ran_nonneg h
  have hT:=hO.cyc_pos
  rw [if_pos hr] at hs
  have hq:0≤(d.ran h).tdiv d.cyc:=Int.tdiv_nonneg hr0 (by omega)
  have htl:=hO.turn_lt (d.ran h)
  have hw:(if (d.ran h).tdiv d.cyc∈d.keys then d.oth ((d.ran h).tdiv d.cyc) else d.us)=d.oth ((d.ran h).tdiv d.cyc):=by
   split
   ·rfl
   ·rename_i hn;rw [oth_us hn]
  have hat:d.at d.ends d.cyc h=((d.ran h).tdiv d.cyc,(turnS d.ends ((d.ran h).tmod d.cyc) 12 0:Int)):=by unfold Dit.at;rw [if_neg (by omega)]
  refine .inr ⟨_,_,hat,hq,htl,?_⟩
  unfold Dit.owner whoS
  rw [hat]
  simp only []
  rw [if_neg (by omega),hw,Int.toNat_natCast]
 ·rw [if_neg hr] at hs
  have hat:d.at d.ends d.cyc h=(-1,-1):=by unfold Dit.at;rw [if_pos (by omega)]
  refine .inl ⟨hat,?_⟩
  unfold Dit.owner whoS
  rw [hat]
  simp
theorem own_eq {d:Dit} (hc:checkS d=0) {n:Int} (hn:0≤n∧n≤999999999):ownerF d n=(d.owner n,0):=by
 unfold ownerF;rw [if_neg (by simp [hc]),if_neg (by simp;omega)]
theorem swap_law {d:Dit} {s:Int×Int×Int} (hc:checkS d=0) (hx:checkS (d.swap s)=0) {a:Int} (ha:0≤a∧a≤999999999) :
  ∃ h i c t:Int,ownerF d a=((h,c,t),0)∧ownerF (d.swap s) a=((i,c,t),0)∧(i=h∨c=s.1∧(t=s.2.1∨t=s.2.2)):=by
 have hO:=ok_of_check hc
 have hP:=ok_of_check hx
 rw [own_eq hc ha,own_eq hx ha]
 have hat:(d.swap s).at (d.swap s).ends (d.swap s).cyc a=d.at d.ends d.cyc a:=rfl
 rcases hO.owner_oth ha.1 with ⟨e1,e2⟩ | ⟨c,t,e1,e2,e3,e4⟩<;>rcases hP.owner_oth ha.1 with ⟨g1,g2⟩ | ⟨c',t',g1,g2,g3,g4⟩
 ·exact⟨_,_,_,_,by rw [e2],by rw [g2],.inl rfl⟩
 ·rw [hat,e1] at g1
  have:=(Prod.mk.injEq .. ▸ g1).1
  omega
 ·rw [hat,e1] at g1
  have:=(Prod.mk.injEq .. ▸ g1).1
  omega
 ·rw [hat,e1] at g1
  obtain⟨rfl,h2⟩:=(Prod.mk.injEq .. ▸ g1)
  obtain rfl:t=t':=by omega
  refine⟨_,_,_,_,by rw [e4],by rw [g4],?_⟩
  have hsw:=hP.sw s (by show s∈d.swaps++[s];simp)
  by_cases hcs:c=s.1
  ·by_cases h1:(t:Int)=s.2.1
   ·exact .inr ⟨hcs,.inl h1⟩
   by_cases h2:(t:Int)=s.2.2
   ·exact .inr ⟨hcs,.inr h2⟩
   left
   congr 1
   show (oth3 (oth2 d.us (d.swaps++[s]) c) d.loans c)[t]?=(oth3 (oth2 d.us d.swaps c) d.loans c)[t]?
   have:oth2 d.us (d.swaps++[s]) c=if s.1=c then swapL (oth2 d.us d.swaps c) s.2.1.toNat s.2.2.toNat else oth2 d.us d.swaps c:=by unfold oth2;rw [List.foldl_append];rfl
   rw [this,if_pos hcs.symm]
   exact oth3_at c t _ _ _ (swapL_at (by omega) (by omega)) (swapL_len ..)
  ·left
   congr 1
   show (oth3 (oth2 d.us (d.swaps++[s]) c) d.loans c)[t]?=(oth3 (oth2 d.us d.swaps c) d.loans c)[t]?
   have:oth2 d.us (d.swaps++[s]) c=if s.1=c then swapL (oth2 d.us d.swaps c) s.2.1.toNat s.2.2.toNat else oth2 d.us d.swaps c:=by unfold oth2;rw [List.foldl_append];rfl
   rw [this,if_neg (fun e=>hcs e.symm)]
theorem lend_law {d:Dit} {s:Int×Int×Int} (hc:checkS d=0) (hx:checkS (d.lend s)=0) {a:Int} (ha:0≤a∧a≤999999999) :
  ∃ h i c t:Int,ownerF d a=((h,c,t),0)∧ownerF (d.lend s) a=((i,c,t),0)∧(if 0≤c∧c=s.1∧t=s.2.1 then i=s.2.2 else i=h):=by
 have hO:=ok_of_check hc
 have hP:=ok_of_check hx
 rw [own_eq hc ha,own_eq hx ha]
 have hat:(d.lend s).at (d.lend s).ends (d.lend s).cyc a=d.at d.ends d.cyc a:=rfl
 rcases hO.owner_oth ha.1 with ⟨e1,e2⟩ | ⟨c,t,e1,e2,e3,e4⟩<;>rcases hP.owner_oth ha.1 with ⟨g1,g2⟩ | ⟨c',t',g1,g2,g3,g4⟩
 ·exact⟨_,_,_,_,by rw [e2],by rw [g2],by rw [if_neg (by omega)]⟩
 ·rw [hat,e1] at g1
  have:=(Prod.mk.injEq .. ▸ g1).1
  omega
 ·rw [hat,e1] at g1
  have:=(Prod.mk.injEq .. ▸ g1).1
  omega
 ·rw [hat,e1] at g1
  obtain⟨rfl,h2⟩:=(Prod.mk.injEq .. ▸ g1)
  obtain rfl:t=t':=by omega
  refine⟨_,_,_,_,by rw [e4],by rw [g4],?_⟩
  have hlo:=hP.lo s (by show s∈d.loans++[s];simp)
  have hlen:=hO.oth_len c
  have:(d.lend s).oth c=if s.1=c then (d.oth c).set s.2.1.toNat s.2.2 else d.oth c:=by
   show oth3 (oth2 d.us d.swaps c) (d.loans++[s]) c=_
   unfold oth3
   rw [List.foldl_append]
   rfl
  rw [this]
  split
  ·rename_i h
   obtain⟨_,h3,h4⟩:=h
   rw [if_pos h3.symm,show s.2.1.toNat=t by omega,List.getElem?_set,if_pos rfl,if_pos (by omega)]
   rfl
  ·rename_i h
   split
   ·rename_i h3
    rw [List.getElem?_set_ne (by omega)]
   ·rfl
end Go.Proofs.YtolholkjeehamaaDoor

namespace Go.Proofs.YtolholkjeehamaaDoor
open Go.RowKit Go.Con Go.Conc
local instance:Lone:=mainL
section
variable {dst:Option Nat} {ty:TypeId} {pos:String} {af:Array Edge} {x y c b o:Nat} {w:World} {gd:Option (Nat×Bool)} (e:Operand→Value)
end
end Go.Proofs.YtolholkjeehamaaDoor

namespace Go.Proofs.YtolholkjeehamaaDoor
open Go.RowKit
section
variable {F:Fence} {n:Nat} {ops:Array Oper} {C:World→Prop} {a:Act} {dst:Option Nat} {ty:TypeId} {pos:String} {af:Array Edge}
theorem yC_load25 {s:Nat} {p:Addr} {v:Value} (h:a.eval (.tmp s)=.pointer (some p)) (hc:∀ x,C x→x.cell? p=some v):YieldsC F n Tryd.prog ops C ⟨dst,.load 25 (.tmp s),ty,pos,af,none⟩ v a :=
 yC rfl (fun _=>rfl) fun x hx=>by have:=hc x hx;generalize a.eval=ρ at h ⊢;simp [execOp,go_sem,h,this]
theorem yC_load26 {s:Nat} {p:Addr} {v:Value} (h:a.eval (.tmp s)=.pointer (some p)) (hc:∀ x,C x→x.cell? p=some v):YieldsC F n Tryd.prog ops C ⟨dst,.load 26 (.tmp s),ty,pos,af,none⟩ v a :=
 yC rfl (fun _=>rfl) fun x hx=>by have:=hc x hx;generalize a.eval=ρ at h ⊢;simp [execOp,go_sem,h,this]
theorem yC_f31_7 {s B:Nat} (h:a.eval (.tmp s)=.pointer (some ⟨B,0,none⟩)):YieldsC F n Tryd.prog ops C ⟨dst,.fieldAddr 31 (.tmp s) 7,ty,pos,af,none⟩ (.pointer (some ⟨B,7,none⟩)) a :=
 yC rfl (fun _=>rfl) fun x _=>by generalize a.eval=ρ at h ⊢;simp [execOp,go_sem,h]
theorem yC_f31_8 {s B:Nat} (h:a.eval (.tmp s)=.pointer (some ⟨B,0,none⟩)):YieldsC F n Tryd.prog ops C ⟨dst,.fieldAddr 31 (.tmp s) 8,ty,pos,af,none⟩ (.pointer (some ⟨B,8,none⟩)) a :=
 yC rfl (fun _=>rfl) fun x _=>by generalize a.eval=ρ at h ⊢;simp [execOp,go_sem,h]
end
end Go.Proofs.YtolholkjeehamaaDoor

namespace Go.Proofs.YtolholkjeehamaaDoor
open Go.RowKit
theorem flat_at {sz:Nat}:∀ (ys:List (List Value)) (j k:Nat) (l:List Value) (x:Value),(∀ y∈ys,y.length=sz)→ys[j]?=some l→l[k]?=some x→ys.flatten[j * sz+k]?=some x
 | [],j,k,l,x,_,h,_=>by simp at h
 | y :: ys,j,k,l,x,hl,hj,hk=>by
  have hy:=hl y (List.mem_cons_self ..)
  cases j with
  | zero =>
   simp only [List.getElem?_cons_zero,Option.some.injEq] at hj
   subst hj
   have:k<y.length:=(List.getElem?_eq_some_iff.1 hk).1
   rw [Nat.zero_mul,Nat.zero_add,List.flatten_cons,List.getElem?_append_left this]
   exact hk
  | succ j =>
   rw [List.flatten_cons,List.getElem?_append_right (by rw [hy,Nat.succ_mul];omega),hy]
   have:(j+1) * sz+k-sz=j * sz+k:=by rw [Nat.succ_mul];omega
   rw [this]
   exact flat_at ys j k l x (fun y hy=>hl y (List.mem_cons_of_mem _ hy)) hj hk
theorem flat_len {sz:Nat}:∀ ys:List (List Value),(∀ y∈ys,y.length=sz)→ys.flatten.length=ys.length * sz
 | [],_=>by simp
 | y :: ys,h=>by
  have:=flat_len ys fun z hz=>h z (List.mem_cons_of_mem _ hz)
  rw [List.flatten_cons,List.length_append,this,h y (List.mem_cons_self ..),List.length_cons,Nat.succ_mul]
  omega
theorem flat_ix {sz:Nat} (hs:0<sz) {ys:List (List Value)} (h:∀ y∈ys,y.length=sz) {j:Nat} {x:Value} (hj:ys.flatten[j]?=some x):∃ l,ys[j / sz]?=some l∧l[j % sz]?=some x:=by
 have hl:j<ys.length * sz:=by rw [← flat_len ys h];exact (List.getElem?_eq_some_iff.1 hj).1
 have hd:j / sz<ys.length:=Nat.div_lt_of_lt_mul (by rwa [Nat.mul_comm])
 have hm:j % sz<(ys[j / sz]).length:=by rw [h _ (List.getElem_mem _)];exact Nat.mod_lt _ hs
 have h1:=flat_at (sz:=sz) ys (j / sz) (j % sz) _ _ h (List.getElem?_eq_getElem hd) (List.getElem?_eq_getElem hm)
 rw [show j / sz * sz+j % sz=j by rw [Nat.mul_comm];exact Nat.div_add_mod ..] at h1
 rw [h1] at hj
 cases hj
 exact⟨_,List.getElem?_eq_getElem hd,List.getElem?_eq_getElem hm⟩
theorem addr_add (b o j:Nat):(⟨b,o,none⟩:Addr).add j=⟨b,o+j,none⟩:=by
 unfold Addr.add
 split
 ·rename_i h;subst h;rfl
 ·rfl
structure ElemT (t e:TypeId) (z:Value) (sz by_:Nat):Prop where
 und:Tryd.prog.underlying t=some (.slice e)
 info:∃ i:TypeInfo,Tryd.prog.info? e=some i∧i.zero=some z∧i.size=sz∧i.bytes=by_
 zs:z.cells.size=sz
 pos:0<sz
theorem ElemT.mk' {t e:TypeId} {z:Value} {sz by_:Nat} (h1:Tryd.prog.underlying t=some (.slice e)) (h:(Tryd.prog.info? e).map (fun i=>(i.zero,i.size,i.bytes))=some (some z,sz,by_)) (h2:z.cells.size=sz) (h3:0<sz):ElemT t e z sz by_:=by
 refine⟨h1,?_,h2,h3⟩
 cases hi:Tryd.prog.info? e with
 | none=>rw [hi] at h;cases h
 | some i =>
  rw [hi] at h
  simp only [Option.map_some,Option.some.injEq,Prod.mk.injEq] at h
  exact⟨i,rfl,h.1,h.2.1,h.2.2⟩
theorem own_sl {w:World} {base e sz n:Nat} {v:Value} {rows:List (List Value)} (hr:∀ y∈rows,y.length=sz) (hn:rows.length=n) (h:w.ownsRow base e sz v n rows.flatten):Sl w v sz rows:=by
 subst hn
 obtain⟨_,⟨rfl,h0⟩ | ⟨g,cap,cur,rfl,hb,hg,hc,hm,hs,ht⟩⟩:=h
 ·exact⟨0,.inl ⟨List.eq_nil_of_length_eq_zero h0,rfl⟩⟩
 ·refine⟨cap,.inr ⟨g,0,rfl,(Array.getElem?_eq_some_iff.1 hg).1,fun j k l x hj hk=>?_⟩⟩
  have h1:=flat_at (sz:=sz) rows j k l x hr hj hk
  rw [← ht,List.getElem?_take] at h1
  split at h1
  ·unfold World.cell?
   dsimp only
   rw [hg]
   simpa using h1
  ·cases h1
theorem own_shape {w:World} {base e sz n:Nat} {v:Value} {xs:List Value} (h0:0<n) (h:w.ownsRow base e sz v n xs):∃ g cap,v=.slice (some ⟨g,0,none⟩) n cap∧base≤g∧g<w.heap.size∧n≤cap∧Kind w v:=by
 obtain⟨_,⟨_,h1⟩ | ⟨g,cap,cur,rfl,hb,hg,hc,_⟩⟩:=h
 ·omega
 ·exact⟨g,cap,rfl,hb,(Array.getElem?_eq_some_iff.1 hg).1,hc,fun a n c e=>by cases e;exact⟨_,_,_,hg⟩⟩
section
variable {t e:TypeId} {z:Value} {sz by_:Nat} (T:ElemT t e z sz by_)
include T
theorem run_copy (base:Nat) (w:World) (g0:Nat) (hg:w.heap[g0]?=some (.cells #[] e (0,0))) (hb:base≤g0) (u:Value) (rows:List (List Value)) (hr:∀ y∈rows,y.length=sz) (h1:∀ y∈rows,∀ x∈y,x.oneCell'=true) (hu:Sl w u sz rows)
  (hl:rows.length * by_≤140737488355328) (hm:rows.length≤281474976710656) :
  ∃ v' w',(Builtin.append_ #[t,t] t #[.slice (some ⟨g0,0,none⟩) 0 0,u]).run Tryd.prog w=.ok v' w'∧w'.ownsRow base e sz v' rows.length rows.flatten∧w.grownBy w' (some g0)∧(v'.ownBlock=some g0∨v'.ownBlock=some w.heap.size):=by
 obtain⟨i,hi,hz,hs,hby⟩:=T.info
 have hown:w.ownsRow base e sz (.slice (some ⟨g0,0,none⟩) 0 0) 0 []:=⟨by simp,.inr ⟨g0,0,#[],rfl,hb,hg,Nat.le_refl _,by simp [maxLen],by simp,by simp⟩⟩
 have hgl:g0<w.heap.size:=(Array.getElem?_eq_some_iff.1 hg).1
 obtain⟨cap,⟨h0,rfl⟩ | ⟨b,off,rfl,hbl,hc⟩⟩:=hu
 ·subst h0
  refine⟨_,w,?_,hown,World.grownBy.refl _ _,.inl rfl⟩
  simp [Builtin.append_,run_underlying T.und,sizeOf,typeInfo,hi,Builtin.lenOf,Builtin.firstCells,storeCells]
 ·obtain⟨v',w',r1,r2,r3,_,r5⟩:=run_append_own_at (P:=Tryd.prog) w base t t e i z sz by_ T.und hi hz hs hby T.zs T.pos _ 0 [] hown ⟨b,off,none⟩ rows.length cap rows.flatten (by rw [flat_len rows hr]) (fun j x hj=>by
   obtain⟨l,g1,g2⟩:=flat_ix T.pos hr hj
   have:=hc (j / sz) (j % sz) l x g1 g2
   rw [addr_add]
   rw [show off+j / sz * sz+j % sz=off+j by have:=Nat.div_add_mod j sz;rw [Nat.mul_comm] at this;omega] at this
   exact this) (fun x hx=>by
   obtain⟨y,hy,hxy⟩:=List.mem_flatten.1 hx
   exact h1 y hy x hxy) (by unfold maxLen;omega) (by rw [Nat.zero_add];exact hl) (by omega)
  rw [Nat.zero_add,List.nil_append] at r2
  exact⟨v',w',r1,r2,r3,r5⟩
theorem run_more (base:Nat) (w:World) (v:Value) (rows:List (List Value)) (hr:∀ y∈rows,y.length=sz) (hown:w.ownsRow base e sz v rows.length rows.flatten) (g1:Nat) (x:List Value) (hx:x.length=sz) (hg:w.heap[g1]?=some (.cells x.toArray e (0,0)))
  (h1:∀ y∈x,y.oneCell'=true) (hl:(rows.length+1) * by_≤140737488355328) (hm:rows.length≤281474976710656) (hb:base≤w.heap.size) :
  ∃ v' w',(Builtin.append_ #[t,t] t #[v,.slice (some ⟨g1,0,none⟩) 1 1]).run Tryd.prog w=.ok v' w'∧w'.ownsRow base e sz v' (rows.length+1) (rows++[x]).flatten∧w.grownBy w' v.ownBlock:=by
 obtain⟨i,hi,hz,hs,hby⟩:=T.info
 obtain⟨v',w',r1,r2,r3,_,r5⟩:=run_append_own_at (P:=Tryd.prog) w base t t e i z sz by_ T.und hi hz hs hby T.zs T.pos v rows.length rows.flatten hown ⟨g1,0,none⟩ 1 1 x (by omega) (fun j y hj=>by
  rw [addr_add]
  unfold World.cell?
  dsimp only
  rw [hg]
  simpa using hj) h1 (by unfold maxLen;omega) hl hb
 exact⟨v',w',r1,by rw [List.flatten_append];simpa using r2,r3⟩
end
theorem T25:ElemT 25 49 (.agg #[num 0,num 0,num 0]) 3 24:=.mk' Tryd.underlying25 (by kernel_rfl) (by kernel_rfl) (by decide)
theorem T26:ElemT 26 51 (.agg #[num 0,num 0,num 0]) 3 24:=.mk' Tryd.underlying26 (by kernel_rfl) (by kernel_rfl) (by decide)
end Go.Proofs.YtolholkjeehamaaDoor

namespace Go.Proofs.YtolholkjeehamaaDoor
open Go.RowKit Go.Con Go.Conc
theorem wpIn_of_value {F:Fence} {n:Nat} {P:Program} {K:Act→World→Prop} {Q:Exit→Act→World→Prop} {o:Oper} {a:Act} {w w1:World} {v:Value} (hro:F.round=none) (hab:o.about P w a.eval=none) (hrun:(execOp a.eval o).run P w=.ok (.value v) w1) (h:K (a.put o.dst v) w1):o.wpIn F n P a w K Q:=by
 unfold Oper.wpIn
 refine⟨fun f hf=>(by rw [hab] at hf;cases hf),?_⟩
 rw [hro,Oper.semAt_none,hrun]
 exact h
section
variable {dst:Option Nat} {ty:TypeId} {pos:String} {af:Array Edge} {x y:Nat} {w:World} (e:Operand→Value)
theorem app_run {t:TypeId} {v u v' : Value} {w' : World} (h:e (.tmp x)=v) (h2:e (.tmp y)=u) (hr:(Builtin.append_ #[t,t] t #[v,u]).run Tryd.prog w=.ok v' w') :
  (execOp e ⟨dst,.call { callee:=.builtin .append,args:=#[.tmp x,.tmp y],argTypes:=#[t,t] },t,pos,af,none⟩).run Tryd.prog w=.ok (.value v') w':=by
 simp [execOp,resolve,invoke,builtin,h,h2,hr,Result.andThen]
end
theorem old_blocks {w w' : World} (hs:w.heap.size≤w'.heap.size) (h:∀ b,b<w.heap.size→w'.heap[b]?=w.heap[b]?):Old w w':=by
 refine⟨hs,fun a ha=>?_,fun b hb=>?_,fun b es k hb=>?_⟩
 ·unfold World.cell?
  rw [h _ ha]
 ·obtain⟨cs,t,fz,e⟩:=hb
  exact⟨cs,t,fz,(h b (Array.getElem?_eq_some_iff.1 e).1).trans e⟩
 ·exact (h b (Array.getElem?_eq_some_iff.1 hb).1).trans hb
theorem wp_new {F:Fence} {nF:Nat} {K:Act→World→Prop} {Q:Exit→Act→World→Prop} {dst:Option Nat} {op:Op} {ty:TypeId} {pos:String} {af:Array Edge} {a:Act} {w Y:World} {v:Nat→Value} {o:Obj} (hro:F.round=none) (hab:(⟨dst,op,ty,pos,af,none⟩:Oper).about Tryd.prog w a.eval=none)
  (hrun:(execOp a.eval ⟨dst,op,ty,pos,af,none⟩).run Tryd.prog w=.ok (.value (v w.heap.size)) (w.alloc o)) (nw:Nx Y w)
  (H:∀ g w',w'.heap[g]?=some o→Nx Y w'→Y.heap.size≤g→w.heap.size≤g→(∀ b,b<w.heap.size→w'.heap[b]?=w.heap[b]?)→(∀ {base e sz v n xs},w.ownsRow base e sz v n xs→w'.ownsRow base e sz v n xs)→K (a.put dst (v g)) w') :
  (⟨dst,op,ty,pos,af,none⟩:Oper).wpIn F nF Tryd.prog a w K Q :=
 wpIn_of_value hro hab hrun (H w.heap.size (w.alloc o) (heap_alloc_new _ _) (alloc_nx nw _) nw.size (Nat.le_refl _) (fun b hb=>heap_alloc_old _ _ hb) fun h=>h.alloc o)
theorem wp_store31 {F:Fence} {nF:Nat} {K:Act→World→Prop} {Q:Exit→Act→World→Prop} {dst:Option Nat} {ty:TypeId} {pos:String} {af:Array Edge} {a:Act} {w:World} {s t b:Nat} {x0 x1 x2 x3 x4 x5 x6 x7 x8 x9 x10 x11 x12 x13:Value} {s0 s1 s6 s7 s8 s13:Option Addr} {n0 c0 n1 c1 n6 c6 n7 c7 n8 c8 n13 c13:Nat} {z2 z3 z4 z5 z9 z10 z11 z12:Int} (hro:F.round=none) (hab:(⟨dst,.store 31 (.tmp s) (.tmp t),ty,pos,af,none⟩:Oper).about Tryd.prog w a.eval=none) (h:a.eval (.tmp s)=.pointer (some ⟨b,0,none⟩))
  (h2:a.eval (.tmp t)=.agg #[.slice s0 n0 c0,.slice s1 n1 c1,.int .i64 z2,.int .i64 z3,.int .i64 z4,.int .i64 z5,.slice s6 n6 c6,.slice s7 n7 c7,.slice s8 n8 c8,.int .i64 z9,.int .i64 z10,.int .i64 z11,.int .i64 z12,.slice s13 n13 c13]) (hb:w.heap[b]?=some (.cells #[x0,x1,x2,x3,x4,x5,x6,x7,x8,x9,x10,x11,x12,x13] 31 (0,0)))
  (H:∀ w',w'.heap[b]?=some (.cells #[.slice s0 n0 c0,.slice s1 n1 c1,.int .i64 z2,.int .i64 z3,.int .i64 z4,.int .i64 z5,.slice s6 n6 c6,.slice s7 n7 c7,.slice s8 n8 c8,.int .i64 z9,.int .i64 z10,.int .i64 z11,.int .i64 z12,.slice s13 n13 c13] 31 (0,0))→(∀ k,k≠b→w'.heap[k]?=w.heap[k]?)→w'.heap.size=w.heap.size→K (a.put dst undef) w') :
  (⟨dst,.store 31 (.tmp s) (.tmp t),ty,pos,af,none⟩:Oper).wpIn F nF Tryd.prog a w K Q :=
 wpIn_of_skip hro hab (store31_run' h h2 hb) (H _ (set14 hb) (fun k hk=>other14 hk) size14)
end Go.Proofs.YtolholkjeehamaaDoor

namespace Go.Proofs.YtolholkjeehamaaDoor
open Go.RowKit Go.Con Go.Conc Go.ChangeShapes Go.WideShapes Go.ChangeAt
section
variable {H:Type} {enc:TypeId×Value→H} {W:World}
theorem slice_fit {t e:TypeId} {fuel:Nat} {v:Value} {x:DataW H×List MemPlace} (ht:Tryd.prog.underlying t=some (.slice e)) (h:trodW enc W fuel t [v]=some x) (hfit:Fits t x.1) (a:Option Addr) (n cap:Nat) (hv:v=.slice a n cap):n * Tryd.prog.bytesOf e≤reachBytes:=by
 rcases DataW.trod_slice ht h with ⟨h1,_⟩ | ⟨a',len,cap',elems,rest,m,_,h1,hxx,_,hl,hm,hlen,hel,_,_⟩
 ·simp only [List.cons.injEq,and_true] at h1
  subst h1
  cases hv
  simp
 ·simp only [List.cons.injEq,and_true] at h1
  subst h1
  subst hxx
  cases hv
  have hwt:(DataW.slice (elems.map (·.1)) (rest.map (·.1)):DataW H).weights Tryd.prog t=((elems.map (·.1)).length+(rest.map (·.1)).length) * Tryd.prog.bytesOf e :: (DataW.weightsAll Tryd.prog e (elems.map (·.1))++DataW.weightsAll Tryd.prog e (rest.map (·.1))):=by
   unfold DataW.weights
   rw [ht]
  unfold Fits at hfit
  dsimp only at hfit
  rw [hwt] at hfit
  have h1:=hfit _ (List.mem_cons_self ..)
  rw [List.length_map,List.length_map,hlen] at h1
  exact Nat.le_trans (Nat.mul_le_mul_right _ (Nat.le_add_right _ _)) h1
theorem dit_fit {d:Dit} {r:Rows6} {dd:DataW H} {p:List MemPlace} (hd:DitSl W d r) (h:DataW.Trod enc Tryd.prog W 0 (fun _=>true) true 31 (d.val r) dd p) (hfit:Fits 31 dd) :
  d.feasts.length * 16≤140737488351232∧d.swaps.length * 24≤140737488351232∧d.loans.length * 24≤140737488351232∧d.plots.length * 56≤140737488351232:=by
 obtain⟨fuel,hf⟩:=h
 have e:(d.val r).cells=#[r.h,r.t,num d.begin_,num d.week,num d.from_,num d.long,r.f,r.s,r.l,num d.flow.1,num d.flow.2,num d.loss.1,num d.loss.2,r.p]:=rfl
 rw [e] at hf
 obtain⟨xs,m,_,hyy,_,hx,hg⟩:=DataW.trod_struct Tryd.underlying31 hf
 simp only [Prod.mk.injEq] at hyy
 obtain⟨rfl,rfl⟩:=hyy
 have hwt:(DataW.agg (xs.map (·.1)):DataW H).weights Tryd.prog 31=DataW.weightsEach Tryd.prog [22,23,3,3,3,3,24,25,26,28,28,29] (xs.map (·.1)):=by
  unfold DataW.weights
  rw [Tryd.underlying31]
  rfl
 unfold Fits at hfit
 rw [hwt] at hfit
 have hx0:∀ (i:Nat) (y:DataW H×List MemPlace) (t:TypeId),xs[i]?=some y→([22,23,3,3,3,3,24,25,26,28,28,29]:List TypeId)[i]?=some t→Fits t y.1:=fun i y t hy ht m hm=>hfit m (DataW.weights_mem_each ht (by rw [List.getElem?_map,hy];rfl) m hm)
 have c24:Tryd.prog.cellsOf 24=1:=by kernel_rfl
 have c25:Tryd.prog.cellsOf 25=1:=by kernel_rfl
 have c26:Tryd.prog.cellsOf 26=1:=by kernel_rfl
 have c29:Tryd.prog.cellsOf 29=1:=by kernel_rfl
 have g6:=hg 6 ⟨ "Feasts",24,6,false,"","",80⟩ rfl
 have g7:=hg 7 ⟨ "Swaps",25,7,false,"","",104⟩ rfl
 have g8:=hg 8 ⟨ "Loans",26,8,false,"","",128⟩ rfl
 have g11:=hg 11 ⟨ "Plots",29,13,false,"","",184⟩ rfl
 rw [List.getElem?_eq_getElem (by rw [hx];simp)] at g6 g7 g8 g11
 dsimp only at g6 g7 g8 g11
 rw [c24] at g6;rw [c25] at g7;rw [c26] at g8;rw [c29] at g11
 simp only [List.drop_succ_cons,List.drop_zero,List.take_succ_cons,List.take_zero] at g6 g7 g8 g11
 obtain⟨a1,b1,e1⟩:=hd.feasts.cases
 obtain⟨a2,b2,e2⟩:=hd.swaps.cases
 obtain⟨a3,b3,e3⟩:=hd.loans.cases
 obtain⟨a4,b4,e4⟩:=hd.plots.cases
 have f1:=slice_fit Tryd.underlying24 g6 (hx0 6 _ _ (List.getElem?_eq_getElem _) rfl) _ _ _ e1
 have f2:=slice_fit Tryd.underlying25 g7 (hx0 7 _ _ (List.getElem?_eq_getElem _) rfl) _ _ _ e2
 have f3:=slice_fit Tryd.underlying26 g8 (hx0 8 _ _ (List.getElem?_eq_getElem _) rfl) _ _ _ e3
 have f4:=slice_fit Tryd.underlying29 g11 (hx0 11 _ _ (List.getElem?_eq_getElem _) rfl) _ _ _ e4
 rw [List.length_map] at f1 f2 f3 f4
 rw [show Tryd.prog.bytesOf 28=16 by kernel_rfl] at f1
 rw [show Tryd.prog.bytesOf 49=24 by kernel_rfl] at f2
 rw [show Tryd.prog.bytesOf 51=24 by kernel_rfl] at f3
 rw [show Tryd.prog.bytesOf 91=56 by kernel_rfl] at f4
 have hr:reachBytes=140737488351232:=by decide
 omega
theorem open_three {t:TypeId} {f0 f1 f2:Field} {v:Value} {x:DataW H} {p:List MemPlace} {base:Nat} (ht:Tryd.prog.underlying t=some (.struct #[f0,f1,f2])) (t0:f0.type=3) (t1:f1.type=3) (t2:f2.type=3) (o0:f0.offset=0) (o1:f1.offset=1) (o2:f2.offset=2) (hc:Tryd.prog.cellsOf t=3)
  (hv:Value.okWide Tryd.prog W .any base t v) (h:DataW.Trod enc Tryd.prog W 0 (fun _=>true) true t v x p):∃ a b c:Int,v=.agg #[num a,num b,num c]:=by
 simp only [Value.okWide,ht] at hv
 obtain⟨cs,rfl,_⟩:=hv
 obtain⟨fuel,hf⟩:=h
 simp only [Value.cells] at hf
 obtain⟨⟨a,b,c⟩,e,_⟩:=read_three ht t0 t1 t2 o0 o1 o2 hc hf
 obtain⟨l⟩:=cs
 refine⟨a,b,c,?_⟩
 have e' : l=[num a,num b,num c]:=e
 rw [e']
end
end Go.Proofs.YtolholkjeehamaaDoor

namespace Go.Proofs.YtolholkjeehamaaDoor
open Go.RowKit Go.Con Go.Conc
local instance:Lone:=mainL
noncomputable def lawB5:Code:=match Tryd.f5.body with | some c=>c | none=>.skip
noncomputable def ch0:Code:=seqL lawB5
noncomputable def chp1:Code:=seqR lawB5
noncomputable def ch1:Code:=seqL (seqL chp1)
noncomputable def ch2:Code:=match seqR (seqL chp1) with | .cond _ x _=>seqL x | c=>c
noncomputable def chp2:Code:=seqR chp1
noncomputable def ch3:Code:=seqL chp2
noncomputable def chp3:Code:=seqR chp2
noncomputable def ch4:Code:=seqL chp3
noncomputable def chp4:Code:=seqR chp3
noncomputable def ch5:Code:=seqL chp4
noncomputable def chp5:Code:=seqR chp4
noncomputable def ch7:Code:=seqL chp5
noncomputable def chp6:Code:=seqR chp5
noncomputable def ch8:Code:=seqL chp6
noncomputable def chp7:Code:=seqR chp6
noncomputable def ch9:Code:=seqL chp7
noncomputable def chp8:Code:=seqR chp7
noncomputable def ch10:Code:=seqL chp8
noncomputable def chp9:Code:=seqR chp8
noncomputable def ch14:Code:=seqL chp9
noncomputable def chp10:Code:=seqR chp9
noncomputable def ch19:Code:=seqL chp10
theorem lawB5_eq:lawB5=.seq ch0 (.seq (.seq ch1 (.cond (.tmp 32) (.seq ch2 .ret) .skip)) (.seq ch3 (.seq ch4 (.seq ch5 (.seq ch7 (.seq ch8 (.seq ch9 (.seq ch10 (.seq ch14 (.seq ch19 .ret)))))))))):=by kernel_rfl
theorem lawB5_of:Tryd.f5.body=some lawB5:=by kernel_rfl
noncomputable def opch2:Array Oper:=opsOf ch2
theorem ch2_eq:ch2=.region 2 opch2 false:=by kernel_rfl
noncomputable def opch19:Array Oper:=opsOf ch19
theorem ch19_eq:ch19=.region 19 opch19 false:=by kernel_rfl
theorem st25_run {dst:Option Nat} {ty:TypeId} {pos:String} {af:Array Edge} {x y:Nat} {w:World} (e:Operand→Value) {a:Addr} {u:Value} {s:Option Addr} {n c:Nat} (h:e (.tmp x)=.pointer (some a)) (h2:e (.tmp y)=.slice s n c) (hc:w.cell? a=some u) (hf:w.frozen? a=false) :
  (execOp e ⟨dst,.store 25 (.tmp x) (.tmp y),ty,pos,af,none⟩).run Tryd.prog w=.ok .skip (w.setCell a (.slice s n c)):=by
 simp [execOp,go_sem,h,h2,hc,hf]
theorem st26_run {dst:Option Nat} {ty:TypeId} {pos:String} {af:Array Edge} {x y:Nat} {w:World} (e:Operand→Value) {a:Addr} {u:Value} {s:Option Addr} {n c:Nat} (h:e (.tmp x)=.pointer (some a)) (h2:e (.tmp y)=.slice s n c) (hc:w.cell? a=some u) (hf:w.frozen? a=false) :
  (execOp e ⟨dst,.store 26 (.tmp x) (.tmp y),ty,pos,af,none⟩).run Tryd.prog w=.ok .skip (w.setCell a (.slice s n c)):=by
 simp [execOp,go_sem,h,h2,hc,hf]
noncomputable def opch7:Array Oper:=match ch7 with | .region _ ops _=>ops | _=>#[]
theorem ch7_eqA:ch7=.region 7 opch7 true:=by kernel_rfl
theorem changes_boxes (d:Dit) (r:Rows6) (Y:World) (B B5 B6:Nat) (v0 v1 v2 v3 v9 v10 v11 v12 v13 v25 v26 v27 v28 v29 v30 v31 v32 v34 v35 v36 v37 v38 v39 v40 v41 v42 v43 v44 v45 v46:Value) (hd:DitSl Y d r) (hc:∀ i v,(d.cellsA r)[i]?=some v→Y.cell? ⟨B,i,none⟩=some v) (hB:B<Y.heap.size) :
  ch7.wpIn (FG 5) 0 Tryd.prog (fun e a w'=>e=.normal∧a.defers=[]∧∃ b1 b2:Nat,a.tmps=#[v0,v1,v2,v3,.pointer (some ⟨B,0,none⟩),.pointer (some ⟨B5,0,none⟩),.pointer (some ⟨B6,0,none⟩),undef,.bool false,v9,v10,v11,v12,v13,.pointer (some ⟨b1,0,none⟩),.pointer (some ⟨b2,0,none⟩),undef,undef,undef,undef,undef,undef,undef,undef,undef,v25,v26,v27,v28,v29,v30,v31,v32,undef,v34,v35,v36,v37,v38,v39,v40,v41,v42,v43,v44,v45,v46,d.val r,d.val r,undef,undef,undef,undef,undef,undef,undef,undef,undef,undef,undef,undef,undef,undef,undef,undef,undef,undef,undef,undef,undef,undef,undef,undef,undef,undef,undef,undef,undef,undef,undef,undef,undef,undef,undef,undef,undef,undef,undef,undef,undef,undef,undef,undef,undef,undef,undef,undef,undef,undef,undef,undef,undef,undef,undef,undef,undef,undef,undef,undef,undef,undef,undef,undef,undef,undef,undef,undef,undef,undef,undef,undef,undef,undef,undef,undef,undef,undef,undef,undef,undef,undef,undef,undef,undef,undef,undef,undef,undef,undef,undef,undef,undef,undef,undef,undef,undef,undef,undef,undef,undef,undef,undef,undef,undef,undef,undef,undef,undef,undef,undef,undef,undef,undef,undef,undef,undef,undef]∧b1≠b2∧Y.heap.size≤b1∧Y.heap.size≤b2∧Y.heap.size≤w'.heap.size∧(∀ b,b<Y.heap.size→w'.heap[b]?=Y.heap[b]?) ∧
   w'.heap[b1]?=some (.cells (d.cellsA r) 31 (0,0))∧w'.heap[b2]?=some (.cells (d.cellsA r) 31 (0,0))) ⟨#[v0,v1,v2,v3,.pointer (some ⟨B,0,none⟩),.pointer (some ⟨B5,0,none⟩),.pointer (some ⟨B6,0,none⟩),undef,.bool false,v9,v10,v11,v12,v13,undef,undef,undef,undef,undef,undef,undef,undef,undef,undef,undef,v25,v26,v27,v28,v29,v30,v31,v32,undef,v34,v35,v36,v37,v38,v39,v40,v41,v42,v43,v44,v45,v46,undef,undef,undef,undef,undef,undef,undef,undef,undef,undef,undef,undef,undef,undef,undef,undef,undef,undef,undef,undef,undef,undef,undef,undef,undef,undef,undef,undef,undef,undef,undef,undef,undef,undef,undef,undef,undef,undef,undef,undef,undef,undef,undef,undef,undef,undef,undef,undef,undef,undef,undef,undef,undef,undef,undef,undef,undef,undef,undef,undef,undef,undef,undef,undef,undef,undef,undef,undef,undef,undef,undef,undef,undef,undef,undef,undef,undef,undef,undef,undef,undef,undef,undef,undef,undef,undef,undef,undef,undef,undef,undef,undef,undef,undef,undef,undef,undef,undef,undef,undef,undef,undef,undef,undef,undef,undef,undef,undef,undef,undef,undef,undef,undef,undef,undef,undef,undef,undef,undef,undef],[]⟩ Y:=by
 rw [ch7_eqA]
 let C:World→Prop:=fun x=>x.heap[B]?=Y.heap[B]?
 have cC:∀ x,C x→∀ i v,(d.cellsA r)[i]?=some v→x.cell? ⟨B,i,none⟩=some v:=fun x hx i v hv=>by
  have:=hc i v hv
  have hx' : x.heap[B]?=Y.heap[B]?:=hx
  unfold World.cell? at this ⊢;dsimp only at this ⊢;rw [hx'];exact this
 have cN:∀ x,Nx Y x→C x:=fun x n=>n.block _ hB
 refine wpIn_region_C C (by kernel_rfl) ?_
 change wpAnyC _ _ _ _ _ _ _ 6 #[false,false,false,false,false,false] _ _
 refine wpAnyC_takeR (i:=0) (oi:=⟨some 47,.load 31 (.tmp 4),_,_,_,none⟩) (v:=d.val r) (plain_ops (by kernel_rfl)) rfl (by kernel_rfl) (by kernel_rfl) (by kernel_rfl) (fun _ _ _ h=>by cases h.1) (yC_dit rfl cC) ?_
 simp only [Act.put,List.setIfInBounds_toArray,List.set_cons_succ,List.set_cons_zero]
 refine wpAnyC_as (l':=#[true,false,false,false,false,false]) rfl ?_
 refine wpAnyC_takeR (i:=1) (oi:=⟨some 48,.load 31 (.tmp 4),_,_,_,none⟩) (v:=d.val r) (plain_ops (by kernel_rfl)) rfl (by kernel_rfl) (by kernel_rfl) (by kernel_rfl) (fun _ _ _ h=>by cases h.1) (yC_dit rfl cC) ?_
 simp only [Act.put,List.setIfInBounds_toArray,List.set_cons_succ,List.set_cons_zero]
 refine wpAnyC_as (l':=#[true,true,false,false,false,false]) rfl ?_
 obtain⟨ah,hh,eh⟩:=hd.holders.cases
 obtain⟨at1,ht,et⟩:=hd.turns.cases
 obtain⟨af,hf,ef⟩:=hd.feasts.cases
 obtain⟨as1,hs,es⟩:=hd.swaps.cases
 obtain⟨al,hl,el⟩:=hd.loans.cases
 obtain⟨ap,hp,ep⟩:=hd.plots.cases
 have hval:d.val r=.agg #[r.h,r.t,num d.begin_,num d.week,num d.from_,num d.long,r.f,r.s,r.l,num d.flow.1,num d.flow.2,num d.loss.1,num d.loss.2,r.p]:=rfl
 have hcel:d.cellsA r=#[r.h,r.t,num d.begin_,num d.week,num d.from_,num d.long,r.f,r.s,r.l,num d.flow.1,num d.flow.2,num d.loss.1,num d.loss.2,r.p]:=rfl
 rw [hval,hcel]
 clear hval hcel hc hd cC
 rw [eh,et,ef,es,el,ep]
 generalize (d.holders.map fun s=>[str s]).length=nh at *
 generalize (d.turns.map two).length=nt at *
 generalize (d.feasts.map two).length=nf at *
 generalize (d.swaps.map three).length=ns at *
 generalize (d.loans.map three).length=nl at *
 generalize (d.plots.map Plot.cells).length=np at *
 clear eh et ef es el ep
 have n0:Nx Y Y.drew:=Below.drew (Below.refl _ _)
 change wpAnyC _ _ _ _ _ _ _ _ _ _ Y.drew
 generalize Y.drew=q at *
 have nq:=n0
 clear n0
 refine wpAnyC_two (i:=2) (j:=3) (oi:=⟨some 14,.alloc 31,_,_,_,none⟩) (oj:=⟨some 15,.alloc 31,_,_,_,none⟩) (by kernel_rfl) rfl rfl rfl rfl (cN _ nq) ?_ ?_
 ·skip
  intro K hK
  refine wp_new (v:=fun g=>.pointer (some ⟨g,0,none⟩)) (o:=.cells #[.slice none 0 0,.slice none 0 0,num 0,num 0,num 0,num 0,.slice none 0 0,.slice none 0 0,.slice none 0 0,num 0,num 0,num 0,num 0,.slice none 0 0] 31) rfl rfl (by simp [execOp,go_sem]) nq ?_
  intro gA w1 hgA nw1 zgA lgA kgA _
  simp only [Act.put,List.setIfInBounds_toArray,List.set_cons_succ,List.set_cons_zero]
  refine hK _ _ ?_
  refine wpAnyC_only (i:=3) (o:=⟨some 15,.alloc 31,_,_,_,none⟩) (by kernel_rfl) rfl rfl (cN _ nw1) ?_
  intro K hK
  refine wp_new (v:=fun g=>.pointer (some ⟨g,0,none⟩)) (o:=.cells #[.slice none 0 0,.slice none 0 0,num 0,num 0,num 0,num 0,.slice none 0 0,.slice none 0 0,.slice none 0 0,num 0,num 0,num 0,num 0,.slice none 0 0] 31) rfl rfl (by simp [execOp,go_sem]) nw1 ?_
  intro gB w2 hgB nw2 zgB lgB kgB _
  simp only [Act.put,List.setIfInBounds_toArray,List.set_cons_succ,List.set_cons_zero]
  refine hK _ _ ?_
  have hAB:gA≠gB:=by have:=lt_of_some hgA;omega
  replace hgA:=(kgB gA (lt_of_some hgA)).trans hgA
  have hb12:gA≠gB:=by first | exact hAB | exact hAB.symm
  refine wpAnyC_only (i:=4) (o:=⟨none,.store 31 (.tmp 14) (.tmp 47),_,_,_,none⟩) (by kernel_rfl) rfl rfl (cN _ nw2) ?_
  intro K hK
  refine wp_store31 rfl rfl rfl rfl hgA ?_
  intro w3 bw3 qw3 zw3
  simp only [Act.put]
  refine hK _ _ ?_
  refine wpAnyC_as (l':=#[true,true,true,true,true,false]) rfl ?_
  have dw3:=(qw3 gB hb12.symm).trans hgB
  have hBb:B≠gA:=by omega
  refine wpAnyC_only (i:=5) (o:=⟨none,.store 31 (.tmp 15) (.tmp 48),_,_,_,none⟩) (by kernel_rfl) rfl rfl ((qw3 _ hBb).trans (nw2.block _ hB)) ?_
  intro K hK
  refine wp_store31 rfl rfl rfl rfl dw3 ?_
  intro w4 bw4 qw4 zw4
  simp only [Act.put]
  refine hK _ _ ?_
  refine wpAnyC_as (l':=#[true,true,true,true,true,true]) rfl ?_
  refine wpAnyC_done (by kernel_rfl) ((qw4 B (by omega)).trans ((qw3 _ hBb).trans (nw2.block _ hB))) ⟨rfl,rfl,gA,gB,rfl,hb12,by omega,by omega,by rw [zw4,zw3];exact nw2.size,fun b hb=>(qw4 b (by omega)).trans ((qw3 b (by omega)).trans (nw2.block _ hb)),(qw4 _ hb12).trans bw3,bw4⟩
 ·skip
  intro K hK
  refine wp_new (v:=fun g=>.pointer (some ⟨g,0,none⟩)) (o:=.cells #[.slice none 0 0,.slice none 0 0,num 0,num 0,num 0,num 0,.slice none 0 0,.slice none 0 0,.slice none 0 0,num 0,num 0,num 0,num 0,.slice none 0 0] 31) rfl rfl (by simp [execOp,go_sem]) nq ?_
  intro gA w1 hgA nw1 zgA lgA kgA _
  simp only [Act.put,List.setIfInBounds_toArray,List.set_cons_succ,List.set_cons_zero]
  refine hK _ _ ?_
  refine wpAnyC_only (i:=2) (o:=⟨some 14,.alloc 31,_,_,_,none⟩) (by kernel_rfl) rfl rfl (cN _ nw1) ?_
  intro K hK
  refine wp_new (v:=fun g=>.pointer (some ⟨g,0,none⟩)) (o:=.cells #[.slice none 0 0,.slice none 0 0,num 0,num 0,num 0,num 0,.slice none 0 0,.slice none 0 0,.slice none 0 0,num 0,num 0,num 0,num 0,.slice none 0 0] 31) rfl rfl (by simp [execOp,go_sem]) nw1 ?_
  intro gB w2 hgB nw2 zgB lgB kgB _
  simp only [Act.put,List.setIfInBounds_toArray,List.set_cons_succ,List.set_cons_zero]
  refine hK _ _ ?_
  have hAB:gA≠gB:=by have:=lt_of_some hgA;omega
  replace hgA:=(kgB gA (lt_of_some hgA)).trans hgA
  have hb12:gB≠gA:=by first | exact hAB | exact hAB.symm
  refine wpAnyC_only (i:=4) (o:=⟨none,.store 31 (.tmp 14) (.tmp 47),_,_,_,none⟩) (by kernel_rfl) rfl rfl (cN _ nw2) ?_
  intro K hK
  refine wp_store31 rfl rfl rfl rfl hgB ?_
  intro w3 bw3 qw3 zw3
  simp only [Act.put]
  refine hK _ _ ?_
  refine wpAnyC_as (l':=#[true,true,true,true,true,false]) rfl ?_
  have dw3:=(qw3 gA hb12.symm).trans hgA
  have hBb:B≠gB:=by omega
  refine wpAnyC_only (i:=5) (o:=⟨none,.store 31 (.tmp 15) (.tmp 48),_,_,_,none⟩) (by kernel_rfl) rfl rfl ((qw3 _ hBb).trans (nw2.block _ hB)) ?_
  intro K hK
  refine wp_store31 rfl rfl rfl rfl dw3 ?_
  intro w4 bw4 qw4 zw4
  simp only [Act.put]
  refine hK _ _ ?_
  refine wpAnyC_as (l':=#[true,true,true,true,true,true]) rfl ?_
  refine wpAnyC_done (by kernel_rfl) ((qw4 B (by omega)).trans ((qw3 _ hBb).trans (nw2.block _ hB))) ⟨rfl,rfl,gB,gA,rfl,hb12,by omega,by omega,by rw [zw4,zw3];exact nw2.size,fun b hb=>(qw4 b (by omega)).trans ((qw3 b (by omega)).trans (nw2.block _ hb)),(qw4 _ hb12).trans bw3,bw4⟩
noncomputable def opch8:Array Oper:=match ch8 with | .region _ ops _=>ops | _=>#[]
theorem ch8_eqA:ch8=.region 8 opch8 true:=by kernel_rfl
abbrev changes_swapP (d:Dit) (r:Rows6) (s1 s2 s3:Int) (Y:World) (B Bo:Nat) (oc:Array Value) (v0 v1 v2 v3 v9 v10 v11 v12 v13 v25 v26 v27 v28 v29 v30 v31 v32 v34 v35 v36 v37 v38 v39 v40 v41 v42 v43 v44 v45 v46 v47 v48 v6 v15:Value) (Bx:Nat) (e:Exit) (a:Act) (w' : World):Prop:=e=.normal∧a.defers=[]∧∃ y0 y3 y5 g cap,a.tmps=#[v0,v1,v2,v3,.pointer (some ⟨B,0,none⟩),.pointer (some ⟨Bx,0,none⟩),v6,undef,.bool false,v9,v10,v11,v12,v13,.pointer (some ⟨Bo,0,none⟩),v15,undef,undef,undef,undef,undef,undef,undef,undef,undef,v25,v26,v27,v28,v29,v30,v31,v32,undef,v34,v35,v36,v37,v38,v39,v40,v41,v42,v43,v44,v45,v46,v47,v48,y0,.pointer (some ⟨B,7,none⟩),r.s,y3,.agg #[num s1,num s2,num s3],y5,.slice (some ⟨g,0,none⟩) (d.swaps.length+1) cap,.pointer (some ⟨Bo,7,none⟩),undef,undef,undef,undef,undef,undef,undef,undef,undef,undef,undef,undef,undef,undef,undef,undef,undef,undef,undef,undef,undef,undef,undef,undef,undef,undef,undef,undef,undef,undef,undef,undef,undef,undef,undef,undef,undef,undef,undef,undef,undef,undef,undef,undef,undef,undef,undef,undef,undef,undef,undef,undef,undef,undef,undef,undef,undef,undef,undef,undef,undef,undef,undef,undef,undef,undef,undef,undef,undef,undef,undef,undef,undef,undef,undef,undef,undef,undef,undef,undef,undef,undef,undef,undef,undef,undef,undef,undef,undef,undef,undef,undef,undef,undef,undef,undef,undef,undef,undef,undef,undef,undef,undef,undef,undef,undef,undef,undef,undef,undef] ∧
   Y.heap.size≤w'.heap.size∧(∀ b,b<Y.heap.size→b≠Bo→w'.heap[b]?=Y.heap[b]?)∧(w'.os=Y.os∧w'.tape=Y.tape∧w'.output=Y.output)∧w'.heap[Bo]?=some (.cells (oc.setIfInBounds 7 (.slice (some ⟨g,0,none⟩) (d.swaps.length+1) cap)) 31 (0,0))∧d.swaps.length+1≤cap∧Y.heap.size≤g ∧
   Sl w' (.slice (some ⟨g,0,none⟩) (d.swaps.length+1) cap) 3 ((d.swaps++[(s1,s2,s3)]).map three)∧Kind w' (.slice (some ⟨g,0,none⟩) (d.swaps.length+1) cap)
theorem changes_swap (d:Dit) (r:Rows6) (s1 s2 s3:Int) (Y:World) (B Bx Bo:Nat) (oc:Array Value) (v0 v1 v2 v3 v9 v10 v11 v12 v13 v25 v26 v27 v28 v29 v30 v31 v32 v34 v35 v36 v37 v38 v39 v40 v41 v42 v43 v44 v45 v46 v47 v48 v6 v15:Value) (hc:∀ i v,(d.cellsA r)[i]?=some v→Y.cell? ⟨B,i,none⟩=some v) (hB:B<Y.heap.size) (hX:∀ i v,(#[num s1,num s2,num s3]:Array Value)[i]?=some v→Y.cell? ⟨Bx,i,none⟩=some v) (hbl:Bx<Y.heap.size) (hO:Y.heap[Bo]?=some (.cells oc 31 (0,0))) (h14:oc.size=14)
  (hBo:B≠Bo) (hXo:Bx≠Bo) (hs:Sl Y r.s 3 (d.swaps.map three)) (hl:(d.swaps.length+1) * 24≤140737488355328) :
  ch8.wpIn (FG 5) 0 Tryd.prog (changes_swapP d r s1 s2 s3 Y B Bo oc v0 v1 v2 v3 v9 v10 v11 v12 v13 v25 v26 v27 v28 v29 v30 v31 v32 v34 v35 v36 v37 v38 v39 v40 v41 v42 v43 v44 v45 v46 v47 v48 v6 v15 Bx) ⟨#[v0,v1,v2,v3,.pointer (some ⟨B,0,none⟩),.pointer (some ⟨Bx,0,none⟩),v6,undef,.bool false,v9,v10,v11,v12,v13,.pointer (some ⟨Bo,0,none⟩),v15,undef,undef,undef,undef,undef,undef,undef,undef,undef,v25,v26,v27,v28,v29,v30,v31,v32,undef,v34,v35,v36,v37,v38,v39,v40,v41,v42,v43,v44,v45,v46,v47,v48,undef,undef,undef,undef,undef,undef,undef,undef,undef,undef,undef,undef,undef,undef,undef,undef,undef,undef,undef,undef,undef,undef,undef,undef,undef,undef,undef,undef,undef,undef,undef,undef,undef,undef,undef,undef,undef,undef,undef,undef,undef,undef,undef,undef,undef,undef,undef,undef,undef,undef,undef,undef,undef,undef,undef,undef,undef,undef,undef,undef,undef,undef,undef,undef,undef,undef,undef,undef,undef,undef,undef,undef,undef,undef,undef,undef,undef,undef,undef,undef,undef,undef,undef,undef,undef,undef,undef,undef,undef,undef,undef,undef,undef,undef,undef,undef,undef,undef,undef,undef,undef,undef,undef,undef,undef,undef,undef,undef,undef,undef,undef,undef,undef,undef,undef,undef,undef,undef],[]⟩ Y:=by
 have hr:∀ y∈d.swaps.map three,y.length=3:=fun y hy=>by
  obtain⟨z,_,rfl⟩:=List.mem_map.1 hy;rfl
 have h1:∀ y∈d.swaps.map three,∀ x∈y,x.oneCell'=true:=fun y hy x hx=>by
  obtain⟨z,_,rfl⟩:=List.mem_map.1 hy
  simp only [three,List.mem_cons,List.not_mem_nil,or_false] at hx
  rcases hx with rfl | rfl | rfl<;>rfl
 have hol:Bo<Y.heap.size:=(Array.getElem?_eq_some_iff.1 hO).1
 have hn:(d.swaps.map three).length=d.swaps.length:=List.length_map ..
 rw [ch8_eqA]
 let C:World→Prop:=fun x=>x.heap[B]?=Y.heap[B]?∧x.heap[Bx]?=Y.heap[Bx]?
 have cC:∀ i v,(d.cellsA r)[i]?=some v→∀ x,C x→x.cell? ⟨B,i,none⟩=some v:=fun i v hv x hx=>by
  have:=hc i v hv
  unfold World.cell? at this ⊢;dsimp only at this ⊢;rw [hx.1];exact this
 have cX:∀ i v,(#[num s1,num s2,num s3]:Array Value)[i]?=some v→∀ x,C x→x.cell? ⟨Bx,i,none⟩=some v:=fun i v hv x hx=>by
  have:=hX i v hv
  unfold World.cell? at this ⊢;dsimp only at this ⊢;rw [hx.2];exact this
 have cN:∀ x,Nx Y x→C x:=fun x n=>⟨n.block _ hB,n.block _ hbl⟩
 refine wpIn_region_C C (by kernel_rfl) ?_
 change wpAnyC _ _ _ _ _ _ _ 9 #[false,false,false,false,false,false,false,false,false] _ _
 refine wpAnyC_takeR (i:=1) (oi:=⟨some 50,.fieldAddr 31 (.tmp 4) 7,_,_,_,none⟩) (v:=.pointer (some ⟨B,7,none⟩)) (plain_ops (by kernel_rfl)) rfl (by kernel_rfl) (by kernel_rfl) (by kernel_rfl) (fun _ _ _ h=>by cases h.1) (yC_f31_7 rfl) ?_
 simp only [Act.put,List.setIfInBounds_toArray,List.set_cons_succ,List.set_cons_zero]
 refine wpAnyC_takeR (i:=2) (oi:=⟨some 51,.load 25 (.tmp 50),_,_,_,none⟩) (v:=r.s) (plain_ops (by kernel_rfl)) rfl (by kernel_rfl) (by kernel_rfl) (by kernel_rfl) (fun _ _ _ h=>by cases h.1) (yC_load25 rfl (cC 7 _ rfl)) ?_
 simp only [Act.put,List.setIfInBounds_toArray,List.set_cons_succ,List.set_cons_zero]
 refine wpAnyC_takeR (i:=4) (oi:=⟨some 53,.load 49 (.tmp 5),_,_,_,none⟩) (v:=.agg #[num s1,num s2,num s3]) (plain_ops (by kernel_rfl)) rfl (by kernel_rfl) (by kernel_rfl) (by kernel_rfl) (fun _ _ _ h=>by cases h.1) (yC rfl (fun _=>rfl) fun x hx=>by have e0:=cX 0 _ rfl x hx;have e1:=cX 1 _ rfl x hx;have e2:=cX 2 _ rfl x hx;clear hc cC cX cN hX hO;simp [execOp,go_sem,e0,e1,e2]) ?_
 simp only [Act.put,List.setIfInBounds_toArray,List.set_cons_succ,List.set_cons_zero]
 have n0:Nx Y Y.drew:=Below.drew (Below.refl _ _)
 change wpAnyC _ _ _ _ _ _ _ _ _ _ Y.drew
 have fin:∀ (y0 y3 y5 y6:Value) (w4:World),Nx Y w4→w4.ownsRow Y.heap.size 49 3 y6 (d.swaps.length+1) ((d.swaps++[(s1,s2,s3)]).map three).flatten→wpAnyC (FG 5) 0 Tryd.prog .any opch8 C (changes_swapP d r s1 s2 s3 Y B Bo oc v0 v1 v2 v3 v9 v10 v11 v12 v13 v25 v26 v27 v28 v29 v30 v31 v32 v34 v35 v36 v37 v38 v39 v40 v41 v42 v43 v44 v45 v46 v47 v48 v6 v15 Bx) 2 #[true,true,true,true,true,true,true,false,false] ⟨#[v0,v1,v2,v3,.pointer (some ⟨B,0,none⟩),.pointer (some ⟨Bx,0,none⟩),v6,undef,.bool false,v9,v10,v11,v12,v13,.pointer (some ⟨Bo,0,none⟩),v15,undef,undef,undef,undef,undef,undef,undef,undef,undef,v25,v26,v27,v28,v29,v30,v31,v32,undef,v34,v35,v36,v37,v38,v39,v40,v41,v42,v43,v44,v45,v46,v47,v48,y0,.pointer (some ⟨B,7,none⟩),r.s,y3,.agg #[num s1,num s2,num s3],y5,y6,undef,undef,undef,undef,undef,undef,undef,undef,undef,undef,undef,undef,undef,undef,undef,undef,undef,undef,undef,undef,undef,undef,undef,undef,undef,undef,undef,undef,undef,undef,undef,undef,undef,undef,undef,undef,undef,undef,undef,undef,undef,undef,undef,undef,undef,undef,undef,undef,undef,undef,undef,undef,undef,undef,undef,undef,undef,undef,undef,undef,undef,undef,undef,undef,undef,undef,undef,undef,undef,undef,undef,undef,undef,undef,undef,undef,undef,undef,undef,undef,undef,undef,undef,undef,undef,undef,undef,undef,undef,undef,undef,undef,undef,undef,undef,undef,undef,undef,undef,undef,undef,undef,undef,undef,undef,undef,undef,undef,undef,undef,undef],[]⟩ w4:=by
  intro y0 y3 y5 y6 w4 n4 hown
  have hsl:=own_sl (fun y hy=>by obtain⟨z,_,rfl⟩:=List.mem_map.1 hy;rfl) (by simp) hown
  obtain⟨g,cap,rfl,hg,hgl,hcap,hk⟩:=own_shape (by omega) hown
  have hob:w4.heap[Bo]?=some (.cells oc 31 (0,0)):=(n4.block _ hol).trans hO
  obtain⟨z0,hz0⟩:∃ z,oc[7]?=some z:=⟨_,Array.getElem?_eq_getElem (by omega)⟩
  have hcl:w4.cell? ⟨Bo,7,none⟩=some z0:=by unfold World.cell?;dsimp only;rw [hob];exact hz0
  have hfz:w4.frozen? ⟨Bo,7,none⟩=false:=frozen_of_row _ _ _ _ _ hob
  refine wpAnyC_takeR (i:=7) (oi:=⟨some 56,.fieldAddr 31 (.tmp 14) 7,_,_,_,none⟩) (v:=.pointer (some ⟨Bo,7,none⟩)) (plain_ops (by kernel_rfl)) rfl (by kernel_rfl) (by kernel_rfl) (by kernel_rfl) (fun _ _ _ h=>by cases h.1) (yC_f31_7 rfl) ?_
  simp only [Act.put,List.setIfInBounds_toArray,List.set_cons_succ,List.set_cons_zero]
  refine wpAnyC_only (i:=8) (o:=⟨none,.store 25 (.tmp 56) (.tmp 55),_,_,_,none⟩) (by kernel_rfl) rfl rfl (cN _ n4) ?_
  intro K hK
  refine wpIn_of_skip rfl rfl (st25_run _ rfl rfl hcl hfz) ?_
  simp only [Act.put]
  refine hK _ _ ?_
  refine wpAnyC_as (l':=#[true,true,true,true,true,true,true,true,true]) rfl ?_
  have hneg:g≠Bo:=by omega
  have hoth:∀ b,b≠Bo→(w4.setCell ⟨Bo,7,none⟩ (.slice (some ⟨g,0,none⟩) (d.swaps.length+1) cap)).heap[b]?=w4.heap[b]?:=fun b hb=>heap_setCell_other _ _ _ _ (by exact hb)
  have hsz:(w4.setCell ⟨Bo,7,none⟩ (.slice (some ⟨g,0,none⟩) (d.swaps.length+1) cap)).heap.size=w4.heap.size:=by simp
  refine wpAnyC_done (by kernel_rfl) ⟨(hoth _ hBo).trans (n4.block _ hB),(hoth _ hXo).trans (n4.block _ hbl)⟩ ⟨rfl,rfl,y0,y3,y5,g,cap,rfl,by rw [hsz];exact n4.size,fun b hb hbo=>(hoth b hbo).trans (n4.block _ hb),⟨n4.os,n4.tape,n4.output⟩,?_,hcap,hg,?_,?_⟩
  ·unfold World.setCell
   simp [Array.getElem?_modify,hob]
  ·obtain⟨c',⟨h0,e⟩ | ⟨b,o,e,h2,h3⟩⟩:=hsl
   ·cases e
   ·simp only [Value.slice.injEq,Option.some.injEq,Addr.mk.injEq,and_true] at e
    obtain⟨⟨rfl,rfl⟩,e2,rfl⟩:=e
    exact⟨cap,.inr ⟨_,_,by rw [← e2],by rw [hsz];exact h2,fun j k l x hj hk=>by
     have:=h3 j k l x hj hk
     unfold World.cell? at this ⊢
     dsimp only at this ⊢
     rw [hoth _ hneg]
     exact this⟩⟩
  ·intro a n c e
   cases e
   obtain⟨q1,q2,q3,q4⟩:=hk _ _ _ rfl
   exact⟨q1,q2,q3,(hoth _ hneg).trans q4⟩
 generalize Y.drew=q at *
 have nq:=n0
 clear n0
 refine wpAnyC_two (i:=0) (j:=5) (oi:=⟨some 49,.buildSlice 25 0 #[],_,_,_,none⟩) (oj:=⟨some 54,.buildSlice 25 1 #[(0,.tmp 53)],_,_,_,none⟩) (by kernel_rfl) rfl rfl rfl rfl (cN _ nq) ?_ ?_
 ·skip
  intro K hK
  refine wp_new (v:=fun g=>.slice (some ⟨g,0,none⟩) 0 0) (o:=.cells #[] 49) rfl rfl (by simp [execOp,go_sem]) nq ?_
  intro gA w1 ga nw1 hgA lA kA oA
  refine hK _ _ ?_
  refine wpAnyC_two (i:=3) (j:=5) (oi:=⟨some 52,.call { callee:=.builtin .append,args:=#[.tmp 49,.tmp 51],argTypes:=#[25,25] },_,_,_,none⟩) (oj:=⟨some 54,.buildSlice 25 1 #[(0,.tmp 53)],_,_,_,none⟩) (by kernel_rfl) rfl rfl rfl rfl (cN _ nw1) ?_ ?_
  ·skip
   intro K hK
   obtain⟨y3,w2,hr1,hown,hgr,hob⟩:=run_copy T25 Y.heap.size w1 gA ga hgA r.s (d.swaps.map three) hr h1 (hs.nx nw1) (by rw [hn];omega) (by rw [hn];omega)
   rw [hn] at hown
   refine wpIn_of_value rfl rfl (app_run _ rfl rfl hr1) ?_
   refine hK _ _ ?_
   have nw2:Nx Y w2:=nw1.grown hgr fun z hz=>by cases hz;exact hgA
   clear hr1 hgr hob
   refine wpAnyC_only (i:=5) (o:=⟨some 54,.buildSlice 25 1 #[(0,.tmp 53)],_,_,_,none⟩) (by kernel_rfl) rfl rfl (cN _ nw2) ?_
   intro K hK
   refine wp_new (v:=fun g=>.slice (some ⟨g,0,none⟩) 1 1) (o:=.cells #[num s1,num s2,num s3] 49) rfl rfl (by simp [execOp,go_sem]) nw2 ?_
   intro gD w3 gd nw3 hgD lD kD oD
   refine hK _ _ ?_
   replace hown:=oD hown
   refine wpAnyC_only (i:=6) (o:=⟨some 55,.call { callee:=.builtin .append,args:=#[.tmp 52,.tmp 54],argTypes:=#[25,25] },_,_,_,none⟩) (by kernel_rfl) rfl rfl (cN _ nw3) ?_
   intro K hK
   obtain⟨y6,w4,hr1,how2,hgr⟩:=run_more T25 Y.heap.size w3 y3 (d.swaps.map three) hr (by rw [hn];exact hown) gD [num s1,num s2,num s3] rfl gd (by simp [Value.oneCell']) (by rw [hn];exact hl) (by rw [hn];omega) nw3.size
   rw [hn,show d.swaps.map three++[[num s1,num s2,num s3]]=(d.swaps++[(s1,s2,s3)]).map three by rw [List.map_append];rfl] at how2
   refine wpIn_of_value rfl rfl (app_run _ rfl rfl hr1) ?_
   simp only [Act.put,List.setIfInBounds_toArray,List.set_cons_succ,List.set_cons_zero]
   refine hK _ _ ?_
   refine wpAnyC_as (l':=#[true,true,true,true,true,true,true,false,false]) rfl ?_
   exact fin _ _ _ _ _ (nw3.grown hgr fun z hz=>(hown.lt z hz).1) how2
  ·skip
   intro K hK
   refine wp_new (v:=fun g=>.slice (some ⟨g,0,none⟩) 1 1) (o:=.cells #[num s1,num s2,num s3] 49) rfl rfl (by simp [execOp,go_sem]) nw1 ?_
   intro gD w5 gd nw5 hgD lD kD oD
   refine hK _ _ ?_
   have hDA:gD≠gA:=by have:=lt_of_some ga;omega
   replace ga:=(kD gA (lt_of_some ga)).trans ga
   refine wpAnyC_only (i:=3) (o:=⟨some 52,.call { callee:=.builtin .append,args:=#[.tmp 49,.tmp 51],argTypes:=#[25,25] },_,_,_,none⟩) (by kernel_rfl) rfl rfl (cN _ nw5) ?_
   intro K hK
   obtain⟨y3,w6,hr1,hown,hgr,hob⟩:=run_copy T25 Y.heap.size w5 gA ga hgA r.s (d.swaps.map three) hr h1 (hs.nx nw5) (by rw [hn];omega) (by rw [hn];omega)
   rw [hn] at hown
   refine wpIn_of_value rfl rfl (app_run _ rfl rfl hr1) ?_
   refine hK _ _ ?_
   have nw6:Nx Y w6:=nw5.grown hgr fun z hz=>by cases hz;exact hgA
   replace gd:=(hgr.block gD (lt_of_some gd) (by simpa using hDA)).trans gd
   clear hr1 hgr hob
   refine wpAnyC_only (i:=6) (o:=⟨some 55,.call { callee:=.builtin .append,args:=#[.tmp 52,.tmp 54],argTypes:=#[25,25] },_,_,_,none⟩) (by kernel_rfl) rfl rfl (cN _ nw6) ?_
   intro K hK
   obtain⟨y6,w7,hr1,how2,hgr⟩:=run_more T25 Y.heap.size w6 y3 (d.swaps.map three) hr (by rw [hn];exact hown) gD [num s1,num s2,num s3] rfl gd (by simp [Value.oneCell']) (by rw [hn];exact hl) (by rw [hn];omega) nw6.size
   rw [hn,show d.swaps.map three++[[num s1,num s2,num s3]]=(d.swaps++[(s1,s2,s3)]).map three by rw [List.map_append];rfl] at how2
   refine wpIn_of_value rfl rfl (app_run _ rfl rfl hr1) ?_
   simp only [Act.put,List.setIfInBounds_toArray,List.set_cons_succ,List.set_cons_zero]
   refine hK _ _ ?_
   refine wpAnyC_as (l':=#[true,true,true,true,true,true,true,false,false]) rfl ?_
   exact fin _ _ _ _ _ (nw6.grown hgr fun z hz=>(hown.lt z hz).1) how2
 ·skip
  intro K hK
  refine wp_new (v:=fun g=>.slice (some ⟨g,0,none⟩) 1 1) (o:=.cells #[num s1,num s2,num s3] 49) rfl rfl (by simp [execOp,go_sem]) nq ?_
  intro gD w8 gd nw8 hgD lD kD oD
  refine hK _ _ ?_
  refine wpAnyC_only (i:=0) (o:=⟨some 49,.buildSlice 25 0 #[],_,_,_,none⟩) (by kernel_rfl) rfl rfl (cN _ nw8) ?_
  intro K hK
  refine wp_new (v:=fun g=>.slice (some ⟨g,0,none⟩) 0 0) (o:=.cells #[] 49) rfl rfl (by simp [execOp,go_sem]) nw8 ?_
  intro gA w9 ga nw9 hgA lA kA oA
  refine hK _ _ ?_
  have hDA:gD≠gA:=by have:=lt_of_some gd;omega
  replace gd:=(kA gD (lt_of_some gd)).trans gd
  refine wpAnyC_only (i:=3) (o:=⟨some 52,.call { callee:=.builtin .append,args:=#[.tmp 49,.tmp 51],argTypes:=#[25,25] },_,_,_,none⟩) (by kernel_rfl) rfl rfl (cN _ nw9) ?_
  intro K hK
  obtain⟨y3,w10,hr1,hown,hgr,hob⟩:=run_copy T25 Y.heap.size w9 gA ga hgA r.s (d.swaps.map three) hr h1 (hs.nx nw9) (by rw [hn];omega) (by rw [hn];omega)
  rw [hn] at hown
  refine wpIn_of_value rfl rfl (app_run _ rfl rfl hr1) ?_
  refine hK _ _ ?_
  have nw10:Nx Y w10:=nw9.grown hgr fun z hz=>by cases hz;exact hgA
  replace gd:=(hgr.block gD (lt_of_some gd) (by simpa using hDA)).trans gd
  clear hr1 hgr hob
  refine wpAnyC_only (i:=6) (o:=⟨some 55,.call { callee:=.builtin .append,args:=#[.tmp 52,.tmp 54],argTypes:=#[25,25] },_,_,_,none⟩) (by kernel_rfl) rfl rfl (cN _ nw10) ?_
  intro K hK
  obtain⟨y6,w11,hr1,how2,hgr⟩:=run_more T25 Y.heap.size w10 y3 (d.swaps.map three) hr (by rw [hn];exact hown) gD [num s1,num s2,num s3] rfl gd (by simp [Value.oneCell']) (by rw [hn];exact hl) (by rw [hn];omega) nw10.size
  rw [hn,show d.swaps.map three++[[num s1,num s2,num s3]]=(d.swaps++[(s1,s2,s3)]).map three by rw [List.map_append];rfl] at how2
  refine wpIn_of_value rfl rfl (app_run _ rfl rfl hr1) ?_
  simp only [Act.put,List.setIfInBounds_toArray,List.set_cons_succ,List.set_cons_zero]
  refine hK _ _ ?_
  refine wpAnyC_as (l':=#[true,true,true,true,true,true,true,false,false]) rfl ?_
  exact fin _ _ _ _ _ (nw10.grown hgr fun z hz=>(hown.lt z hz).1) how2
noncomputable def opch9:Array Oper:=match ch9 with | .region _ ops _=>ops | _=>#[]
theorem ch9_eqA:ch9=.region 9 opch9 true:=by kernel_rfl
abbrev changes_loanP (d:Dit) (r:Rows6) (l1 l2 l3:Int) (Y:World) (B Bo:Nat) (oc:Array Value) (v0 v1 v2 v3 v9 v10 v11 v12 v13 v25 v26 v27 v28 v29 v30 v31 v32 v34 v35 v36 v37 v38 v39 v40 v41 v42 v43 v44 v45 v46 v47 v48 v49 v50 v51 v52 v53 v54 v55 v56 v5 v14:Value) (Bx:Nat) (e:Exit) (a:Act) (w' : World):Prop:=e=.normal∧a.defers=[]∧∃ y0 y3 y5 g cap,a.tmps=#[v0,v1,v2,v3,.pointer (some ⟨B,0,none⟩),v5,.pointer (some ⟨Bx,0,none⟩),undef,.bool false,v9,v10,v11,v12,v13,v14,.pointer (some ⟨Bo,0,none⟩),undef,undef,undef,undef,undef,undef,undef,undef,undef,v25,v26,v27,v28,v29,v30,v31,v32,undef,v34,v35,v36,v37,v38,v39,v40,v41,v42,v43,v44,v45,v46,v47,v48,v49,v50,v51,v52,v53,v54,v55,v56,y0,.pointer (some ⟨B,8,none⟩),r.l,y3,.agg #[num l1,num l2,num l3],y5,.slice (some ⟨g,0,none⟩) (d.loans.length+1) cap,.pointer (some ⟨Bo,8,none⟩),undef,undef,undef,undef,undef,undef,undef,undef,undef,undef,undef,undef,undef,undef,undef,undef,undef,undef,undef,undef,undef,undef,undef,undef,undef,undef,undef,undef,undef,undef,undef,undef,undef,undef,undef,undef,undef,undef,undef,undef,undef,undef,undef,undef,undef,undef,undef,undef,undef,undef,undef,undef,undef,undef,undef,undef,undef,undef,undef,undef,undef,undef,undef,undef,undef,undef,undef,undef,undef,undef,undef,undef,undef,undef,undef,undef,undef,undef,undef,undef,undef,undef,undef,undef,undef,undef,undef,undef,undef,undef,undef,undef,undef,undef,undef,undef,undef,undef,undef,undef,undef,undef] ∧
   Y.heap.size≤w'.heap.size∧(∀ b,b<Y.heap.size→b≠Bo→w'.heap[b]?=Y.heap[b]?)∧(w'.os=Y.os∧w'.tape=Y.tape∧w'.output=Y.output)∧w'.heap[Bo]?=some (.cells (oc.setIfInBounds 8 (.slice (some ⟨g,0,none⟩) (d.loans.length+1) cap)) 31 (0,0))∧d.loans.length+1≤cap∧Y.heap.size≤g ∧
   Sl w' (.slice (some ⟨g,0,none⟩) (d.loans.length+1) cap) 3 ((d.loans++[(l1,l2,l3)]).map three)∧Kind w' (.slice (some ⟨g,0,none⟩) (d.loans.length+1) cap)
theorem changes_loan (d:Dit) (r:Rows6) (l1 l2 l3:Int) (Y:World) (B Bx Bo:Nat) (oc:Array Value) (v0 v1 v2 v3 v9 v10 v11 v12 v13 v25 v26 v27 v28 v29 v30 v31 v32 v34 v35 v36 v37 v38 v39 v40 v41 v42 v43 v44 v45 v46 v47 v48 v49 v50 v51 v52 v53 v54 v55 v56 v5 v14:Value) (hc:∀ i v,(d.cellsA r)[i]?=some v→Y.cell? ⟨B,i,none⟩=some v) (hB:B<Y.heap.size) (hX:∀ i v,(#[num l1,num l2,num l3]:Array Value)[i]?=some v→Y.cell? ⟨Bx,i,none⟩=some v) (hbl:Bx<Y.heap.size) (hO:Y.heap[Bo]?=some (.cells oc 31 (0,0))) (h14:oc.size=14)
  (hBo:B≠Bo) (hXo:Bx≠Bo) (hs:Sl Y r.l 3 (d.loans.map three)) (hl:(d.loans.length+1) * 24≤140737488355328) :
  ch9.wpIn (FG 5) 0 Tryd.prog (changes_loanP d r l1 l2 l3 Y B Bo oc v0 v1 v2 v3 v9 v10 v11 v12 v13 v25 v26 v27 v28 v29 v30 v31 v32 v34 v35 v36 v37 v38 v39 v40 v41 v42 v43 v44 v45 v46 v47 v48 v49 v50 v51 v52 v53 v54 v55 v56 v5 v14 Bx) ⟨#[v0,v1,v2,v3,.pointer (some ⟨B,0,none⟩),v5,.pointer (some ⟨Bx,0,none⟩),undef,.bool false,v9,v10,v11,v12,v13,v14,.pointer (some ⟨Bo,0,none⟩),undef,undef,undef,undef,undef,undef,undef,undef,undef,v25,v26,v27,v28,v29,v30,v31,v32,undef,v34,v35,v36,v37,v38,v39,v40,v41,v42,v43,v44,v45,v46,v47,v48,v49,v50,v51,v52,v53,v54,v55,v56,undef,undef,undef,undef,undef,undef,undef,undef,undef,undef,undef,undef,undef,undef,undef,undef,undef,undef,undef,undef,undef,undef,undef,undef,undef,undef,undef,undef,undef,undef,undef,undef,undef,undef,undef,undef,undef,undef,undef,undef,undef,undef,undef,undef,undef,undef,undef,undef,undef,undef,undef,undef,undef,undef,undef,undef,undef,undef,undef,undef,undef,undef,undef,undef,undef,undef,undef,undef,undef,undef,undef,undef,undef,undef,undef,undef,undef,undef,undef,undef,undef,undef,undef,undef,undef,undef,undef,undef,undef,undef,undef,undef,undef,undef,undef,undef,undef,undef,undef,undef,undef,undef,undef,undef,undef,undef,undef,undef,undef,undef],[]⟩ Y:=by
 have hr:∀ y∈d.loans.map three,y.length=3:=fun y hy=>by
  obtain⟨z,_,rfl⟩:=List.mem_map.1 hy;rfl
 have h1:∀ y∈d.loans.map three,∀ x∈y,x.oneCell'=true:=fun y hy x hx=>by
  obtain⟨z,_,rfl⟩:=List.mem_map.1 hy
  simp only [three,List.mem_cons,List.not_mem_nil,or_false] at hx
  rcases hx with rfl | rfl | rfl<;>rfl
 have hol:Bo<Y.heap.size:=(Array.getElem?_eq_some_iff.1 hO).1
 have hn:(d.loans.map three).length=d.loans.length:=List.length_map ..
 rw [ch9_eqA]
 let C:World→Prop:=fun x=>x.heap[B]?=Y.heap[B]?∧x.heap[Bx]?=Y.heap[Bx]?
 have cC:∀ i v,(d.cellsA r)[i]?=some v→∀ x,C x→x.cell? ⟨B,i,none⟩=some v:=fun i v hv x hx=>by
  have:=hc i v hv
  unfold World.cell? at this ⊢;dsimp only at this ⊢;rw [hx.1];exact this
 have cX:∀ i v,(#[num l1,num l2,num l3]:Array Value)[i]?=some v→∀ x,C x→x.cell? ⟨Bx,i,none⟩=some v:=fun i v hv x hx=>by
  have:=hX i v hv
  unfold World.cell? at this ⊢;dsimp only at this ⊢;rw [hx.2];exact this
 have cN:∀ x,Nx Y x→C x:=fun x n=>⟨n.block _ hB,n.block _ hbl⟩
 refine wpIn_region_C C (by kernel_rfl) ?_
 change wpAnyC _ _ _ _ _ _ _ 9 #[false,false,false,false,false,false,false,false,false] _ _
 refine wpAnyC_takeR (i:=1) (oi:=⟨some 58,.fieldAddr 31 (.tmp 4) 8,_,_,_,none⟩) (v:=.pointer (some ⟨B,8,none⟩)) (plain_ops (by kernel_rfl)) rfl (by kernel_rfl) (by kernel_rfl) (by kernel_rfl) (fun _ _ _ h=>by cases h.1) (yC_f31_8 rfl) ?_
 simp only [Act.put,List.setIfInBounds_toArray,List.set_cons_succ,List.set_cons_zero]
 refine wpAnyC_takeR (i:=2) (oi:=⟨some 59,.load 26 (.tmp 58),_,_,_,none⟩) (v:=r.l) (plain_ops (by kernel_rfl)) rfl (by kernel_rfl) (by kernel_rfl) (by kernel_rfl) (fun _ _ _ h=>by cases h.1) (yC_load26 rfl (cC 8 _ rfl)) ?_
 simp only [Act.put,List.setIfInBounds_toArray,List.set_cons_succ,List.set_cons_zero]
 refine wpAnyC_takeR (i:=4) (oi:=⟨some 61,.load 51 (.tmp 6),_,_,_,none⟩) (v:=.agg #[num l1,num l2,num l3]) (plain_ops (by kernel_rfl)) rfl (by kernel_rfl) (by kernel_rfl) (by kernel_rfl) (fun _ _ _ h=>by cases h.1) (yC rfl (fun _=>rfl) fun x hx=>by have e0:=cX 0 _ rfl x hx;have e1:=cX 1 _ rfl x hx;have e2:=cX 2 _ rfl x hx;clear hc cC cX cN hX hO;simp [execOp,go_sem,e0,e1,e2]) ?_
 simp only [Act.put,List.setIfInBounds_toArray,List.set_cons_succ,List.set_cons_zero]
 have n0:Nx Y Y.drew:=Below.drew (Below.refl _ _)
 change wpAnyC _ _ _ _ _ _ _ _ _ _ Y.drew
 have fin:∀ (y0 y3 y5 y6:Value) (w4:World),Nx Y w4→w4.ownsRow Y.heap.size 51 3 y6 (d.loans.length+1) ((d.loans++[(l1,l2,l3)]).map three).flatten→wpAnyC (FG 5) 0 Tryd.prog .any opch9 C (changes_loanP d r l1 l2 l3 Y B Bo oc v0 v1 v2 v3 v9 v10 v11 v12 v13 v25 v26 v27 v28 v29 v30 v31 v32 v34 v35 v36 v37 v38 v39 v40 v41 v42 v43 v44 v45 v46 v47 v48 v49 v50 v51 v52 v53 v54 v55 v56 v5 v14 Bx) 2 #[true,true,true,true,true,true,true,false,false] ⟨#[v0,v1,v2,v3,.pointer (some ⟨B,0,none⟩),v5,.pointer (some ⟨Bx,0,none⟩),undef,.bool false,v9,v10,v11,v12,v13,v14,.pointer (some ⟨Bo,0,none⟩),undef,undef,undef,undef,undef,undef,undef,undef,undef,v25,v26,v27,v28,v29,v30,v31,v32,undef,v34,v35,v36,v37,v38,v39,v40,v41,v42,v43,v44,v45,v46,v47,v48,v49,v50,v51,v52,v53,v54,v55,v56,y0,.pointer (some ⟨B,8,none⟩),r.l,y3,.agg #[num l1,num l2,num l3],y5,y6,undef,undef,undef,undef,undef,undef,undef,undef,undef,undef,undef,undef,undef,undef,undef,undef,undef,undef,undef,undef,undef,undef,undef,undef,undef,undef,undef,undef,undef,undef,undef,undef,undef,undef,undef,undef,undef,undef,undef,undef,undef,undef,undef,undef,undef,undef,undef,undef,undef,undef,undef,undef,undef,undef,undef,undef,undef,undef,undef,undef,undef,undef,undef,undef,undef,undef,undef,undef,undef,undef,undef,undef,undef,undef,undef,undef,undef,undef,undef,undef,undef,undef,undef,undef,undef,undef,undef,undef,undef,undef,undef,undef,undef,undef,undef,undef,undef,undef,undef,undef,undef,undef,undef],[]⟩ w4:=by
  intro y0 y3 y5 y6 w4 n4 hown
  have hsl:=own_sl (fun y hy=>by obtain⟨z,_,rfl⟩:=List.mem_map.1 hy;rfl) (by simp) hown
  obtain⟨g,cap,rfl,hg,hgl,hcap,hk⟩:=own_shape (by omega) hown
  have hob:w4.heap[Bo]?=some (.cells oc 31 (0,0)):=(n4.block _ hol).trans hO
  obtain⟨z0,hz0⟩:∃ z,oc[8]?=some z:=⟨_,Array.getElem?_eq_getElem (by omega)⟩
  have hcl:w4.cell? ⟨Bo,8,none⟩=some z0:=by unfold World.cell?;dsimp only;rw [hob];exact hz0
  have hfz:w4.frozen? ⟨Bo,8,none⟩=false:=frozen_of_row _ _ _ _ _ hob
  refine wpAnyC_takeR (i:=7) (oi:=⟨some 64,.fieldAddr 31 (.tmp 15) 8,_,_,_,none⟩) (v:=.pointer (some ⟨Bo,8,none⟩)) (plain_ops (by kernel_rfl)) rfl (by kernel_rfl) (by kernel_rfl) (by kernel_rfl) (fun _ _ _ h=>by cases h.1) (yC_f31_8 rfl) ?_
  simp only [Act.put,List.setIfInBounds_toArray,List.set_cons_succ,List.set_cons_zero]
  refine wpAnyC_only (i:=8) (o:=⟨none,.store 26 (.tmp 64) (.tmp 63),_,_,_,none⟩) (by kernel_rfl) rfl rfl (cN _ n4) ?_
  intro K hK
  refine wpIn_of_skip rfl rfl (st26_run _ rfl rfl hcl hfz) ?_
  simp only [Act.put]
  refine hK _ _ ?_
  refine wpAnyC_as (l':=#[true,true,true,true,true,true,true,true,true]) rfl ?_
  have hneg:g≠Bo:=by omega
  have hoth:∀ b,b≠Bo→(w4.setCell ⟨Bo,8,none⟩ (.slice (some ⟨g,0,none⟩) (d.loans.length+1) cap)).heap[b]?=w4.heap[b]?:=fun b hb=>heap_setCell_other _ _ _ _ (by exact hb)
  have hsz:(w4.setCell ⟨Bo,8,none⟩ (.slice (some ⟨g,0,none⟩) (d.loans.length+1) cap)).heap.size=w4.heap.size:=by simp
  refine wpAnyC_done (by kernel_rfl) ⟨(hoth _ hBo).trans (n4.block _ hB),(hoth _ hXo).trans (n4.block _ hbl)⟩ ⟨rfl,rfl,y0,y3,y5,g,cap,rfl,by rw [hsz];exact n4.size,fun b hb hbo=>(hoth b hbo).trans (n4.block _ hb),⟨n4.os,n4.tape,n4.output⟩,?_,hcap,hg,?_,?_⟩
  ·unfold World.setCell
   simp [Array.getElem?_modify,hob]
  ·obtain⟨c',⟨h0,e⟩ | ⟨b,o,e,h2,h3⟩⟩:=hsl
   ·cases e
   ·simp only [Value.slice.injEq,Option.some.injEq,Addr.mk.injEq,and_true] at e
    obtain⟨⟨rfl,rfl⟩,e2,rfl⟩:=e
    exact⟨cap,.inr ⟨_,_,by rw [← e2],by rw [hsz];exact h2,fun j k l x hj hk=>by
     have:=h3 j k l x hj hk
     unfold World.cell? at this ⊢
     dsimp only at this ⊢
     rw [hoth _ hneg]
     exact this⟩⟩
  ·intro a n c e
   cases e
   obtain⟨q1,q2,q3,q4⟩:=hk _ _ _ rfl
   exact⟨q1,q2,q3,(hoth _ hneg).trans q4⟩
 generalize Y.drew=q at *
 have nq:=n0
 clear n0
 refine wpAnyC_two (i:=0) (j:=5) (oi:=⟨some 57,.buildSlice 26 0 #[],_,_,_,none⟩) (oj:=⟨some 62,.buildSlice 26 1 #[(0,.tmp 61)],_,_,_,none⟩) (by kernel_rfl) rfl rfl rfl rfl (cN _ nq) ?_ ?_
 ·skip
  intro K hK
  refine wp_new (v:=fun g=>.slice (some ⟨g,0,none⟩) 0 0) (o:=.cells #[] 51) rfl rfl (by simp [execOp,go_sem]) nq ?_
  intro gA w1 ga nw1 hgA lA kA oA
  refine hK _ _ ?_
  refine wpAnyC_two (i:=3) (j:=5) (oi:=⟨some 60,.call { callee:=.builtin .append,args:=#[.tmp 57,.tmp 59],argTypes:=#[26,26] },_,_,_,none⟩) (oj:=⟨some 62,.buildSlice 26 1 #[(0,.tmp 61)],_,_,_,none⟩) (by kernel_rfl) rfl rfl rfl rfl (cN _ nw1) ?_ ?_
  ·skip
   intro K hK
   obtain⟨y3,w2,hr1,hown,hgr,hob⟩:=run_copy T26 Y.heap.size w1 gA ga hgA r.l (d.loans.map three) hr h1 (hs.nx nw1) (by rw [hn];omega) (by rw [hn];omega)
   rw [hn] at hown
   refine wpIn_of_value rfl rfl (app_run _ rfl rfl hr1) ?_
   refine hK _ _ ?_
   have nw2:Nx Y w2:=nw1.grown hgr fun z hz=>by cases hz;exact hgA
   clear hr1 hgr hob
   refine wpAnyC_only (i:=5) (o:=⟨some 62,.buildSlice 26 1 #[(0,.tmp 61)],_,_,_,none⟩) (by kernel_rfl) rfl rfl (cN _ nw2) ?_
   intro K hK
   refine wp_new (v:=fun g=>.slice (some ⟨g,0,none⟩) 1 1) (o:=.cells #[num l1,num l2,num l3] 51) rfl rfl (by simp [execOp,go_sem]) nw2 ?_
   intro gD w3 gd nw3 hgD lD kD oD
   refine hK _ _ ?_
   replace hown:=oD hown
   refine wpAnyC_only (i:=6) (o:=⟨some 63,.call { callee:=.builtin .append,args:=#[.tmp 60,.tmp 62],argTypes:=#[26,26] },_,_,_,none⟩) (by kernel_rfl) rfl rfl (cN _ nw3) ?_
   intro K hK
   obtain⟨y6,w4,hr1,how2,hgr⟩:=run_more T26 Y.heap.size w3 y3 (d.loans.map three) hr (by rw [hn];exact hown) gD [num l1,num l2,num l3] rfl gd (by simp [Value.oneCell']) (by rw [hn];exact hl) (by rw [hn];omega) nw3.size
   rw [hn,show d.loans.map three++[[num l1,num l2,num l3]]=(d.loans++[(l1,l2,l3)]).map three by rw [List.map_append];rfl] at how2
   refine wpIn_of_value rfl rfl (app_run _ rfl rfl hr1) ?_
   simp only [Act.put,List.setIfInBounds_toArray,List.set_cons_succ,List.set_cons_zero]
   refine hK _ _ ?_
   refine wpAnyC_as (l':=#[true,true,true,true,true,true,true,false,false]) rfl ?_
   exact fin _ _ _ _ _ (nw3.grown hgr fun z hz=>(hown.lt z hz).1) how2
  ·skip
   intro K hK
   refine wp_new (v:=fun g=>.slice (some ⟨g,0,none⟩) 1 1) (o:=.cells #[num l1,num l2,num l3] 51) rfl rfl (by simp [execOp,go_sem]) nw1 ?_
   intro gD w5 gd nw5 hgD lD kD oD
   refine hK _ _ ?_
   have hDA:gD≠gA:=by have:=lt_of_some ga;omega
   replace ga:=(kD gA (lt_of_some ga)).trans ga
   refine wpAnyC_only (i:=3) (o:=⟨some 60,.call { callee:=.builtin .append,args:=#[.tmp 57,.tmp 59],argTypes:=#[26,26] },_,_,_,none⟩) (by kernel_rfl) rfl rfl (cN _ nw5) ?_
   intro K hK
   obtain⟨y3,w6,hr1,hown,hgr,hob⟩:=run_copy T26 Y.heap.size w5 gA ga hgA r.l (d.loans.map three) hr h1 (hs.nx nw5) (by rw [hn];omega) (by rw [hn];omega)
   rw [hn] at hown
   refine wpIn_of_value rfl rfl (app_run _ rfl rfl hr1) ?_
   refine hK _ _ ?_
   have nw6:Nx Y w6:=nw5.grown hgr fun z hz=>by cases hz;exact hgA
   replace gd:=(hgr.block gD (lt_of_some gd) (by simpa using hDA)).trans gd
   clear hr1 hgr hob
   refine wpAnyC_only (i:=6) (o:=⟨some 63,.call { callee:=.builtin .append,args:=#[.tmp 60,.tmp 62],argTypes:=#[26,26] },_,_,_,none⟩) (by kernel_rfl) rfl rfl (cN _ nw6) ?_
   intro K hK
   obtain⟨y6,w7,hr1,how2,hgr⟩:=run_more T26 Y.heap.size w6 y3 (d.loans.map three) hr (by rw [hn];exact hown) gD [num l1,num l2,num l3] rfl gd (by simp [Value.oneCell']) (by rw [hn];exact hl) (by rw [hn];omega) nw6.size
   rw [hn,show d.loans.map three++[[num l1,num l2,num l3]]=(d.loans++[(l1,l2,l3)]).map three by rw [List.map_append];rfl] at how2
   refine wpIn_of_value rfl rfl (app_run _ rfl rfl hr1) ?_
   simp only [Act.put,List.setIfInBounds_toArray,List.set_cons_succ,List.set_cons_zero]
   refine hK _ _ ?_
   refine wpAnyC_as (l':=#[true,true,true,true,true,true,true,false,false]) rfl ?_
   exact fin _ _ _ _ _ (nw6.grown hgr fun z hz=>(hown.lt z hz).1) how2
 ·skip
  intro K hK
  refine wp_new (v:=fun g=>.slice (some ⟨g,0,none⟩) 1 1) (o:=.cells #[num l1,num l2,num l3] 51) rfl rfl (by simp [execOp,go_sem]) nq ?_
  intro gD w8 gd nw8 hgD lD kD oD
  refine hK _ _ ?_
  refine wpAnyC_only (i:=0) (o:=⟨some 57,.buildSlice 26 0 #[],_,_,_,none⟩) (by kernel_rfl) rfl rfl (cN _ nw8) ?_
  intro K hK
  refine wp_new (v:=fun g=>.slice (some ⟨g,0,none⟩) 0 0) (o:=.cells #[] 51) rfl rfl (by simp [execOp,go_sem]) nw8 ?_
  intro gA w9 ga nw9 hgA lA kA oA
  refine hK _ _ ?_
  have hDA:gD≠gA:=by have:=lt_of_some gd;omega
  replace gd:=(kA gD (lt_of_some gd)).trans gd
  refine wpAnyC_only (i:=3) (o:=⟨some 60,.call { callee:=.builtin .append,args:=#[.tmp 57,.tmp 59],argTypes:=#[26,26] },_,_,_,none⟩) (by kernel_rfl) rfl rfl (cN _ nw9) ?_
  intro K hK
  obtain⟨y3,w10,hr1,hown,hgr,hob⟩:=run_copy T26 Y.heap.size w9 gA ga hgA r.l (d.loans.map three) hr h1 (hs.nx nw9) (by rw [hn];omega) (by rw [hn];omega)
  rw [hn] at hown
  refine wpIn_of_value rfl rfl (app_run _ rfl rfl hr1) ?_
  refine hK _ _ ?_
  have nw10:Nx Y w10:=nw9.grown hgr fun z hz=>by cases hz;exact hgA
  replace gd:=(hgr.block gD (lt_of_some gd) (by simpa using hDA)).trans gd
  clear hr1 hgr hob
  refine wpAnyC_only (i:=6) (o:=⟨some 63,.call { callee:=.builtin .append,args:=#[.tmp 60,.tmp 62],argTypes:=#[26,26] },_,_,_,none⟩) (by kernel_rfl) rfl rfl (cN _ nw10) ?_
  intro K hK
  obtain⟨y6,w11,hr1,how2,hgr⟩:=run_more T26 Y.heap.size w10 y3 (d.loans.map three) hr (by rw [hn];exact hown) gD [num l1,num l2,num l3] rfl gd (by simp [Value.oneCell']) (by rw [hn];exact hl) (by rw [hn];omega) nw10.size
  rw [hn,show d.loans.map three++[[num l1,num l2,num l3]]=(d.loans++[(l1,l2,l3)]).map three by rw [List.map_append];rfl] at how2
  refine wpIn_of_value rfl rfl (app_run _ rfl rfl hr1) ?_
  simp only [Act.put,List.setIfInBounds_toArray,List.set_cons_succ,List.set_cons_zero]
  refine hK _ _ ?_
  refine wpAnyC_as (l':=#[true,true,true,true,true,true,true,false,false]) rfl ?_
  exact fin _ _ _ _ _ (nw10.grown hgr fun z hz=>(hown.lt z hz).1) how2
end Go.Proofs.YtolholkjeehamaaDoor

namespace Go.Proofs.YtolholkjeehamaaDoor
open Go.RowKit Go.Con Go.Conc
local instance:Lone:=mainL
def ChangesR (W:World) (t:Array Value) (W2:World):Prop:=Old W W2∧t.size=167
theorem changes_last {v0 v1 v2 v3 v4 v5 v7 v8 v13 v14 v16 v17 v18 v19 v20 v21 v22 v23 v24 v25 v26 v27 v28 v29 v30 v31 v32 v33 v34 v35 v36 v37 v38 v39 v40 v41 v42 v43 v44 v45 v46 v47 v48 v49 v50 v51 v52 v53 v54 v55 v56 v57 v58 v59 v60 v61 v62 v63 v64 v65 v66 v67 v68 v69 v70 v71 v72 v73 v74 v75 v76 v77 v78 v79 v80 v81 v82 v83 v84 v85 v86 v87 v88 v89 v90 v91 v92 v93 v94 v95 v96 v97 v98 v99 v100 v101 v102 v103 v104 v105 v106 v107 v108 v109 v110:Value} (p:Dit) (rp:Rows6) (B6 b2:Nat) (at0 h c t l1 l2 l3:Int) (W w1 w:World) (hOw:Old W w1) (hw:Old w1 w)
  (CP:Hid (∀ w2,Old w1 w2→∀ i v,(p.cellsA rp)[i]?=some v→w2.cell? ⟨b2,i,none⟩=some v)) (CX:Hid (∀ w2,Old w1 w2→∀ i v,(#[num l1,num l2,num l3]:Array Value)[i]?=some v→w2.cell? ⟨B6,i,none⟩=some v))
  (KE:Hid (∀ u,Old w1 u→CallsIn (FG 5) 0 Tryd.prog 25 #[p.val rp] u fun e w'=>e=Ending.returned (num (checkS p))∧Nx u w'))
  (KO:Hid (checkS p=0→∃ i:Int,(∀ u,Old w1 u→CallsIn (FG 5) 0 Tryd.prog 26 #[p.val rp,num at0] u fun e w'=>e=Ending.returned (.tuple #[num i,num c,num t,num 0])∧Nx u w')∧(if 0≤c∧c=l1∧t=l2 then i=l3 else i=h))) :
  Lones Tryd.prog (FG 5) [ch14] (ChangesR W) #[v0,v1,v2,v3,v4,v5,.pointer (some ⟨B6,0,none⟩),v7,v8,num at0,num h,num c,num t,v13,v14,.pointer (some ⟨b2,0,none⟩),v16,v17,v18,v19,v20,v21,v22,v23,v24,v25,v26,v27,v28,v29,v30,v31,v32,v33,v34,v35,v36,v37,v38,v39,v40,v41,v42,v43,v44,v45,v46,v47,v48,v49,v50,v51,v52,v53,v54,v55,v56,v57,v58,v59,v60,v61,v62,v63,v64,v65,v66,v67,v68,v69,v70,v71,v72,v73,v74,v75,v76,v77,v78,v79,v80,v81,v82,v83,v84,v85,v86,v87,v88,v89,v90,v91,v92,v93,v94,v95,v96,v97,v98,v99,v100,v101,v102,v103,v104,v105,v106,v107,v108,v109,v110,undef,undef,undef,undef,undef,undef,undef,undef,undef,undef,undef,undef,undef,undef,undef,undef,undef,undef,undef,undef,undef,undef,undef,undef,undef,undef,undef,undef,undef,undef,undef,undef,undef,undef,undef,undef,undef,undef,undef,undef,undef,undef,undef,undef,undef,undef,undef,undef,undef,undef,undef,undef,undef,undef,undef,undef] w:=by
 intro τ
 generalize hq:({ w with tape:=τ }:World)=u
 have oU:Old w1 u:=hw.trans (by rw [← hq];exact .same rfl)
 clear hq
 have k25:=KE.out u oU
 obtain⟨p0,p1,p2,p3,p4,p5,p6,p7,p8,p9,p10,p11,p12,p13⟩:=cells14 (CP.out u oU)
 simp only [ch14,chp10,chp9,chp8,chp7,chp6,chp5,chp4,chp3,chp2,chp1,lawB5,seqL,seqR,Tryd.f5]
 by_cases hp0:checkS p=0
 ·rw [hp0] at k25
  obtain⟨i,hk,hif⟩:=KO.out hp0
  clear hp0 KE KO
  by_cases h0:0≤c
  ·by_cases h1:c=l1
   ·by_cases h2:t=l2
    ·rw [if_pos ⟨h0,h1,h2⟩] at hif
     subst h1 h2 hif
     have b0:decide (c≥0)=true:=by simpa using h0
     clear h0
     gi_wp2_with (first
      | (gi_at_call 25;refine CallsIn.mono k25 ?_;rintro e w2 ⟨rfl,x2⟩;clear k25;clear p0 p1 p2 p3 p4 p5 p6 p7 p8 p9 p10 p11 p12 p13;obtain⟨p0,p1,p2,p3,p4,p5,p6,p7,p8,p9,p10,p11,p12,p13⟩:=cells14 (CP.out w2 (oU.trans (.nx x2)));have k26:=hk w2 (oU.trans (.nx x2)))
      | (gi_at_call 26;refine CallsIn.mono k26 ?_;rintro e w3 ⟨rfl,x3⟩;clear k26;clear p0 p1 p2 p3 p4 p5 p6 p7 p8 p9 p10 p11 p12 p13;have e0:=CX.out w3 (oU.trans ((Old.nx x2).trans (.nx x3))) 0 _ rfl;have e1:=CX.out w3 (oU.trans ((Old.nx x2).trans (.nx x3))) 1 _ rfl;have e2:=CX.out w3 (oU.trans ((Old.nx x2).trans (.nx x3))) 2 _ rfl)
      | gi_in)
     exact (show ChangesR W _ _ from ⟨hOw.trans (oU.trans ((Old.nx x2).trans (.nx x3))),rfl⟩)
    ·rw [if_neg (fun q=>h2 q.2.2)] at hif
     subst h1 hif
     have b0:decide (c≥0)=true:=by simpa using h0
     have b1:(t == l2)=false:=by simpa using h2
     clear h0 h2
     gi_wp2_with (first
      | (gi_at_call 25;refine CallsIn.mono k25 ?_;rintro e w2 ⟨rfl,x2⟩;clear k25;clear p0 p1 p2 p3 p4 p5 p6 p7 p8 p9 p10 p11 p12 p13;obtain⟨p0,p1,p2,p3,p4,p5,p6,p7,p8,p9,p10,p11,p12,p13⟩:=cells14 (CP.out w2 (oU.trans (.nx x2)));have k26:=hk w2 (oU.trans (.nx x2)))
      | (gi_at_call 26;refine CallsIn.mono k26 ?_;rintro e w3 ⟨rfl,x3⟩;clear k26;clear p0 p1 p2 p3 p4 p5 p6 p7 p8 p9 p10 p11 p12 p13;have e0:=CX.out w3 (oU.trans ((Old.nx x2).trans (.nx x3))) 0 _ rfl;have e1:=CX.out w3 (oU.trans ((Old.nx x2).trans (.nx x3))) 1 _ rfl;have e2:=CX.out w3 (oU.trans ((Old.nx x2).trans (.nx x3))) 2 _ rfl)
      | gi_in)
     exact (show ChangesR W _ _ from ⟨hOw.trans (oU.trans ((Old.nx x2).trans (.nx x3))),rfl⟩)
   ·rw [if_neg (fun q=>h1 q.2.1)] at hif
    subst hif
    have b0:decide (c≥0)=true:=by simpa using h0
    have b1:(c == l1)=false:=by simpa using h1
    clear h0 h1
    gi_wp2_with (first
     | (gi_at_call 25;refine CallsIn.mono k25 ?_;rintro e w2 ⟨rfl,x2⟩;clear k25;clear p0 p1 p2 p3 p4 p5 p6 p7 p8 p9 p10 p11 p12 p13;obtain⟨p0,p1,p2,p3,p4,p5,p6,p7,p8,p9,p10,p11,p12,p13⟩:=cells14 (CP.out w2 (oU.trans (.nx x2)));have k26:=hk w2 (oU.trans (.nx x2)))
     | (gi_at_call 26;refine CallsIn.mono k26 ?_;rintro e w3 ⟨rfl,x3⟩;clear k26;clear p0 p1 p2 p3 p4 p5 p6 p7 p8 p9 p10 p11 p12 p13;have e0:=CX.out w3 (oU.trans ((Old.nx x2).trans (.nx x3))) 0 _ rfl;have e1:=CX.out w3 (oU.trans ((Old.nx x2).trans (.nx x3))) 1 _ rfl;have e2:=CX.out w3 (oU.trans ((Old.nx x2).trans (.nx x3))) 2 _ rfl)
     | gi_in)
    exact (show ChangesR W _ _ from ⟨hOw.trans (oU.trans ((Old.nx x2).trans (.nx x3))),rfl⟩)
  ·rw [if_neg (fun q=>h0 q.1)] at hif
   subst hif
   have b0:decide (c≥0)=false:=by simp;omega
   clear h0
   gi_wp2_with (first
    | (gi_at_call 25;refine CallsIn.mono k25 ?_;rintro e w2 ⟨rfl,x2⟩;clear k25;clear p0 p1 p2 p3 p4 p5 p6 p7 p8 p9 p10 p11 p12 p13;obtain⟨p0,p1,p2,p3,p4,p5,p6,p7,p8,p9,p10,p11,p12,p13⟩:=cells14 (CP.out w2 (oU.trans (.nx x2)));have k26:=hk w2 (oU.trans (.nx x2)))
    | (gi_at_call 26;refine CallsIn.mono k26 ?_;rintro e w3 ⟨rfl,x3⟩;clear k26;clear p0 p1 p2 p3 p4 p5 p6 p7 p8 p9 p10 p11 p12 p13;have e0:=CX.out w3 (oU.trans ((Old.nx x2).trans (.nx x3))) 0 _ rfl;have e1:=CX.out w3 (oU.trans ((Old.nx x2).trans (.nx x3))) 1 _ rfl;have e2:=CX.out w3 (oU.trans ((Old.nx x2).trans (.nx x3))) 2 _ rfl)
    | gi_in)
   exact (show ChangesR W _ _ from ⟨hOw.trans (oU.trans ((Old.nx x2).trans (.nx x3))),rfl⟩)
 ·have b1:(checkS p == 0)=false:=by simpa using hp0
  clear KO hp0
  gi_wp2_with (first
   | (gi_at_call 25;refine CallsIn.mono k25 ?_;rintro e w2 ⟨rfl,x2⟩)
   | gi_in)
  exact (show ChangesR W _ _ from ⟨hOw.trans (oU.trans (.nx x2)),rfl⟩)
theorem changes_mid {v0 v1 v2 v3 v4 v7 v8 v13 v16 v17 v18 v19 v20 v21 v22 v23 v24 v25 v26 v27 v28 v29 v30 v31 v32 v33 v34 v35 v36 v37 v38 v39 v40 v41 v42 v43 v44 v45 v46 v47 v48 v49 v50 v51 v52 v53 v54 v55 v56 v57 v58 v59 v60 v61 v62 v63 v64:Value} (o p:Dit) (ro rp:Rows6) (B5 B6 b1 b2:Nat) (at0 h c t s1 s2 s3 l1 l2 l3:Int) (W w1 w:World) (hOw:Old W w1) (hw:Old w1 w)
  (CQ:Hid (∀ w2,Old w1 w2→∀ i v,(o.cellsA ro)[i]?=some v→w2.cell? ⟨b1,i,none⟩=some v)) (CS:Hid (∀ w2,Old w1 w2→∀ i v,(#[num s1,num s2,num s3]:Array Value)[i]?=some v→w2.cell? ⟨B5,i,none⟩=some v))
  (JE:Hid (∀ u,Old w1 u→CallsIn (FG 5) 0 Tryd.prog 25 #[o.val ro] u fun e w'=>e=Ending.returned (num (checkS o))∧Nx u w'))
  (JO:Hid (checkS o=0→∃ i:Int,(∀ u,Old w1 u→CallsIn (FG 5) 0 Tryd.prog 26 #[o.val ro,num at0] u fun e w'=>e=Ending.returned (.tuple #[num i,num c,num t,num 0])∧Nx u w')∧(i=h∨c=s1∧(t=s2∨t=s3))))
  (CP:Hid (∀ w2,Old w1 w2→∀ i v,(p.cellsA rp)[i]?=some v→w2.cell? ⟨b2,i,none⟩=some v)) (CX:Hid (∀ w2,Old w1 w2→∀ i v,(#[num l1,num l2,num l3]:Array Value)[i]?=some v→w2.cell? ⟨B6,i,none⟩=some v))
  (KE:Hid (∀ u,Old w1 u→CallsIn (FG 5) 0 Tryd.prog 25 #[p.val rp] u fun e w'=>e=Ending.returned (num (checkS p))∧Nx u w'))
  (KO:Hid (checkS p=0→∃ i:Int,(∀ u,Old w1 u→CallsIn (FG 5) 0 Tryd.prog 26 #[p.val rp,num at0] u fun e w'=>e=Ending.returned (.tuple #[num i,num c,num t,num 0])∧Nx u w')∧(if 0≤c∧c=l1∧t=l2 then i=l3 else i=h))) :
  Lones Tryd.prog (FG 5) [ch10,ch14] (ChangesR W) #[v0,v1,v2,v3,v4,.pointer (some ⟨B5,0,none⟩),.pointer (some ⟨B6,0,none⟩),v7,v8,num at0,num h,num c,num t,v13,.pointer (some ⟨b1,0,none⟩),.pointer (some ⟨b2,0,none⟩),v16,v17,v18,v19,v20,v21,v22,v23,v24,v25,v26,v27,v28,v29,v30,v31,v32,v33,v34,v35,v36,v37,v38,v39,v40,v41,v42,v43,v44,v45,v46,v47,v48,v49,v50,v51,v52,v53,v54,v55,v56,v57,v58,v59,v60,v61,v62,v63,v64,undef,undef,undef,undef,undef,undef,undef,undef,undef,undef,undef,undef,undef,undef,undef,undef,undef,undef,undef,undef,undef,undef,undef,undef,undef,undef,undef,undef,undef,undef,undef,undef,undef,undef,undef,undef,undef,undef,undef,undef,undef,undef,undef,undef,undef,undef,undef,undef,undef,undef,undef,undef,undef,undef,undef,undef,undef,undef,undef,undef,undef,undef,undef,undef,undef,undef,undef,undef,undef,undef,undef,undef,undef,undef,undef,undef,undef,undef,undef,undef,undef,undef,undef,undef,undef,undef,undef,undef,undef,undef,undef,undef,undef,undef,undef,undef,undef,undef,undef,undef,undef,undef] w:=by
 intro τ
 generalize hq:({ w with tape:=τ }:World)=u
 have oU:Old w1 u:=hw.trans (by rw [← hq];exact .same rfl)
 clear hq
 have k25:=JE.out u oU
 obtain⟨p0,p1,p2,p3,p4,p5,p6,p7,p8,p9,p10,p11,p12,p13⟩:=cells14 (CQ.out u oU)
 simp only [ch10,chp10,chp9,chp8,chp7,chp6,chp5,chp4,chp3,chp2,chp1,lawB5,seqL,seqR,Tryd.f5]
 by_cases hp0:checkS o=0
 ·rw [hp0] at k25
  obtain⟨i,hk,hif⟩:=JO.out hp0
  clear hp0 JE JO
  by_cases h0:i=h
  ·subst h0
   clear hif
   gi_wp2_with (first
    | (gi_at_call 25;refine CallsIn.mono k25 ?_;rintro e w2 ⟨rfl,x2⟩;clear k25;clear p0 p1 p2 p3 p4 p5 p6 p7 p8 p9 p10 p11 p12 p13;obtain⟨p0,p1,p2,p3,p4,p5,p6,p7,p8,p9,p10,p11,p12,p13⟩:=cells14 (CQ.out w2 (oU.trans (.nx x2)));have k26:=hk w2 (oU.trans (.nx x2)))
    | (gi_at_call 26;refine CallsIn.mono k26 ?_;rintro e w3 ⟨rfl,x3⟩;clear k26;clear p0 p1 p2 p3 p4 p5 p6 p7 p8 p9 p10 p11 p12 p13;have e0:=CS.out w3 (oU.trans ((Old.nx x2).trans (.nx x3))) 0 _ rfl;have e1:=CS.out w3 (oU.trans ((Old.nx x2).trans (.nx x3))) 1 _ rfl;have e2:=CS.out w3 (oU.trans ((Old.nx x2).trans (.nx x3))) 2 _ rfl)
    | gi_in)
   exact changes_last p rp B6 b2 at0 i c t l1 l2 l3 W w1 _ hOw (oU.trans ((Old.nx x2).trans (.nx x3))) CP CX KE KO
  ·have b0:(i != h)=true:=by simpa using h0
   obtain⟨h1,h2⟩:=hif.resolve_left h0
   subst h1
   clear h0 hif
   by_cases h3:t=s2
   ·subst h3
    clear h2
    gi_wp2_with (first
     | (gi_at_call 25;refine CallsIn.mono k25 ?_;rintro e w2 ⟨rfl,x2⟩;clear k25;clear p0 p1 p2 p3 p4 p5 p6 p7 p8 p9 p10 p11 p12 p13;obtain⟨p0,p1,p2,p3,p4,p5,p6,p7,p8,p9,p10,p11,p12,p13⟩:=cells14 (CQ.out w2 (oU.trans (.nx x2)));have k26:=hk w2 (oU.trans (.nx x2)))
     | (gi_at_call 26;refine CallsIn.mono k26 ?_;rintro e w3 ⟨rfl,x3⟩;clear k26;clear p0 p1 p2 p3 p4 p5 p6 p7 p8 p9 p10 p11 p12 p13;have e0:=CS.out w3 (oU.trans ((Old.nx x2).trans (.nx x3))) 0 _ rfl;have e1:=CS.out w3 (oU.trans ((Old.nx x2).trans (.nx x3))) 1 _ rfl;have e2:=CS.out w3 (oU.trans ((Old.nx x2).trans (.nx x3))) 2 _ rfl)
     | gi_in)
    exact changes_last p rp B6 b2 at0 h c t l1 l2 l3 W w1 _ hOw (oU.trans ((Old.nx x2).trans (.nx x3))) CP CX KE KO
   ·have b1:(t != s2)=true:=by simpa using h3
    have h4:=h2.resolve_left h3
    subst h4
    clear h2 h3
    gi_wp2_with (first
     | (gi_at_call 25;refine CallsIn.mono k25 ?_;rintro e w2 ⟨rfl,x2⟩;clear k25;clear p0 p1 p2 p3 p4 p5 p6 p7 p8 p9 p10 p11 p12 p13;obtain⟨p0,p1,p2,p3,p4,p5,p6,p7,p8,p9,p10,p11,p12,p13⟩:=cells14 (CQ.out w2 (oU.trans (.nx x2)));have k26:=hk w2 (oU.trans (.nx x2)))
     | (gi_at_call 26;refine CallsIn.mono k26 ?_;rintro e w3 ⟨rfl,x3⟩;clear k26;clear p0 p1 p2 p3 p4 p5 p6 p7 p8 p9 p10 p11 p12 p13;have e0:=CS.out w3 (oU.trans ((Old.nx x2).trans (.nx x3))) 0 _ rfl;have e1:=CS.out w3 (oU.trans ((Old.nx x2).trans (.nx x3))) 1 _ rfl;have e2:=CS.out w3 (oU.trans ((Old.nx x2).trans (.nx x3))) 2 _ rfl)
     | gi_in)
    exact changes_last p rp B6 b2 at0 h c t l1 l2 l3 W w1 _ hOw (oU.trans ((Old.nx x2).trans (.nx x3))) CP CX KE KO
 ·have b1:(checkS o == 0)=false:=by simpa using hp0
  clear JO hp0
  gi_wp2_with (first
   | (gi_at_call 25;refine CallsIn.mono k25 ?_;rintro e w2 ⟨rfl,x2⟩)
   | gi_in)
  exact changes_last p rp B6 b2 at0 h c t l1 l2 l3 W w1 _ hOw (oU.trans (.nx x2)) CP CX KE KO
end Go.Proofs.YtolholkjeehamaaDoor

namespace Go.Proofs.YtolholkjeehamaaDoor
open Go.RowKit Go.Con Go.Conc
local instance:Lone:=mainL
theorem old_then {w u w' : World} (o:Old w u) (hs:u.heap.size≤w'.heap.size) (h:∀ b,b<w.heap.size→w'.heap[b]?=u.heap[b]?):Old w w':=by
 refine⟨Nat.le_trans o.size hs,fun a ha=>?_,fun b hb=>?_,fun b es k hb=>?_⟩
 ·rw [← o.cell a ha]
  unfold World.cell?
  rw [h _ ha]
 ·have hl:b<w.heap.size:=by
   obtain⟨cs,t,fz,e⟩:=hb
   exact (Array.getElem?_eq_some_iff.1 e).1
  obtain⟨cs,t,fz,e⟩:=o.kind b hb
  exact⟨cs,t,fz,(h b hl).trans e⟩
 ·exact (h b (Array.getElem?_eq_some_iff.1 hb).1).trans (o.map b es k hb)
theorem sl_at {w w' : World} {g n cap sz:Nat} {xs:List (List Value)} (h:Sl w (.slice (some ⟨g,0,none⟩) n cap) sz xs) (hs:w.heap.size≤w'.heap.size) (hg:w'.heap[g]?=w.heap[g]?):Sl w' (.slice (some ⟨g,0,none⟩) n cap) sz xs:=by
 obtain⟨c',⟨h0,e⟩ | ⟨b,o,e,h2,h3⟩⟩:=h
 ·cases e
 ·simp only [Value.slice.injEq,Option.some.injEq,Addr.mk.injEq,and_true] at e
  obtain⟨⟨rfl,rfl⟩,e2,rfl⟩:=e
  refine⟨cap,.inr ⟨_,_,by rw [← e2],Nat.lt_of_lt_of_le h2 hs,fun j k l x hj hk=>?_⟩⟩
  have:=h3 j k l x hj hk
  unfold World.cell? at this ⊢
  dsimp only at this ⊢
  rw [hg]
  exact this
theorem kind_at {w w' : World} {g n cap:Nat} (h:Kind w (.slice (some ⟨g,0,none⟩) n cap)) (hg:w'.heap[g]?=w.heap[g]?):Kind w' (.slice (some ⟨g,0,none⟩) n cap):=by
 intro a n c e
 cases e
 obtain⟨q1,q2,q3,q4⟩:=h _ _ _ rfl
 exact⟨q1,q2,q3,hg.trans q4⟩
theorem changes_lone (d:Dit) (r:Rows6) (s1 s2 s3 l1 l2 l3 x:Int) (W:World) (hd:DitSl W d r) (hb:d.Big) (hfs:d.swaps.length * 24≤140737488351232) (hfl:d.loans.length * 24≤140737488351232) (hg:Glob W) (hx:0≤x∧x≤4294967295) :
  Lones Tryd.prog (FG 5) [ch0,ch1] (fun t W1=>Old W W1∧t.size=167∧(t[32]?=some (.bool true)∨(t[32]?=some (.bool false)∧Lones Tryd.prog (FG 5) [ch3,ch4,ch5,ch7,ch8,ch9,ch10,ch14] (ChangesR W) t W1)))
   #[d.val r,.agg #[num s1,num s2,num s3],.agg #[num l1,num l2,num l3],.int .u32 x,undef,undef,undef,undef,undef,undef,undef,undef,undef,undef,undef,undef,undef,undef,undef,undef,undef,undef,undef,undef,undef,undef,undef,undef,undef,undef,undef,undef,undef,undef,undef,undef,undef,undef,undef,undef,undef,undef,undef,undef,undef,undef,undef,undef,undef,undef,undef,undef,undef,undef,undef,undef,undef,undef,undef,undef,undef,undef,undef,undef,undef,undef,undef,undef,undef,undef,undef,undef,undef,undef,undef,undef,undef,undef,undef,undef,undef,undef,undef,undef,undef,undef,undef,undef,undef,undef,undef,undef,undef,undef,undef,undef,undef,undef,undef,undef,undef,undef,undef,undef,undef,undef,undef,undef,undef,undef,undef,undef,undef,undef,undef,undef,undef,undef,undef,undef,undef,undef,undef,undef,undef,undef,undef,undef,undef,undef,undef,undef,undef,undef,undef,undef,undef,undef,undef,undef,undef,undef,undef,undef,undef,undef,undef,undef,undef,undef,undef,undef,undef,undef,undef,undef,undef,undef,undef,undef,undef,undef,undef,undef,undef,undef,undef] W:=by
 intro τ
 generalize hw0:({ W with tape:=τ }:World)=w0
 have hO0:Old W w0:=by rw [← hw0];exact .same rfl
 clear hw0
 have hd0:=hd.old hO0
 generalize hY:((w0.alloc (.cells (d.cellsA r) 31)).alloc (.cells #[.int .i64 s1,.int .i64 s2,.int .i64 s3] 49)).alloc (.cells #[.int .i64 l1,.int .i64 l2,.int .i64 l3] 51)=Y
 obtain⟨g1,g2,g3,sY,nY⟩:=al3 hY
 have hcd:d.cellsA r=#[r.h,r.t,num d.begin_,num d.week,num d.from_,num d.long,r.f,r.s,r.l,num d.flow.1,num d.flow.2,num d.loss.1,num d.loss.2,r.p]:=rfl
 rw [hcd] at hY
 simp only [ch0,lawB5,seqL,seqR,Tryd.f5]
 gi_wp2
 clear hcd hY
 intro τ1
 generalize hw1:({ Y with tape:=τ1 }:World)=w1
 have h1:w1.heap=Y.heap:=by rw [← hw1]
 clear hw1
 have hOw:Old W w1:=hO0.trans (old_blocks (by rw [h1];omega) fun b hb=>by rw [h1];exact nY.block b hb)
 have cell0:∀ (b:Nat) (cs:Array Value) (T:TypeId),Y.heap[b]?=some (.cells cs T (0,0))→∀ w2,Old w1 w2→∀ i v,cs[i]?=some v→w2.cell? ⟨b,i,none⟩=some v:=fun b cs T hb w2 o i v hv=>by
  have hl:=(Array.getElem?_eq_some_iff.1 hb).1
  rw [o.cell ⟨b,i,none⟩ (by rw [h1];exact hl)]
  unfold World.cell?
  dsimp only
  rw [h1,hb]
  exact hv
 have cO:=cell0 _ _ _ g1
 have CS:=Lib.hid (cell0 _ _ _ g2)
 have CX:=Lib.hid (cell0 _ _ _ g3)
 have hBl:w0.heap.size+3≤w1.heap.size:=by rw [h1];omega
 clear cell0 g1 g2 g3 sY nY h1
 simp only [ch1,chp10,chp9,chp8,chp7,chp6,chp5,chp4,chp3,chp2,chp1,lawB5,seqL,seqR,Tryd.f5]
 have k19:=toFG 5 (m:=0) (great_big d r 0 0 (.slice none 0 0) [] w1 (hd.old hOw) hb ⟨0,.inl ⟨rfl,rfl⟩⟩ (Nat.zero_le _))
 obtain⟨ah,caph,eh⟩:=hd.holders.cases
 obtain⟨at1,capt,et⟩:=hd.turns.cases
 rw [List.length_map] at eh et
 obtain⟨c0,c1,c2,c3,c4,c5,c6,c7,c8,c9,c10,c11,c12,c13⟩:=cells14 (cO w1 (Old.refl _))
 have CH:=Lib.hid (show ∀ w2,Old w1 w2→w2.cell? ⟨w0.heap.size,0,none⟩=some (.slice ah d.holders.length caph) from fun w2 o=>(cO w2 o 0 r.h rfl).trans (by rw [eh]))
 have CT:=Lib.hid (show ∀ w2,Old w1 w2→w2.cell? ⟨w0.heap.size,1,none⟩=some (.slice at1 d.turns.length capt) from fun w2 o=>(cO w2 o 1 r.t rfl).trans (by rw [et]))
 have CO:=Lib.hid cO
 have HD:=Lib.hid hd
 have HG:=Lib.hid hg
 have HB:=Lib.hid hb
 clear cO hd hg hb hd0 eh et
 cases hgr:greatS d 0 with
 | true =>
  rw [show ([]:List (List Value)).length=0 from rfl,hgr] at k19
  gi_wp2_with (first
   | (gi_at_call 19;refine CallsIn.mono k19 ?_;rintro e w2 ⟨rfl,x2⟩)
   | gi_in)
  exact⟨hOw.trans (.nx x2),rfl,.inl rfl⟩
 | false =>
 rw [show ([]:List (List Value)).length=0 from rfl,hgr] at k19
 have hs:=small_of_great hgr
 have k25:=fun w2 (o:Old w1 w2)=>toFG 5 (m:=0) (check25_any d r w2 (HD.out.old (hOw.trans o)) hs)
 clear hgr
 rcases (Decidable.em (checkS d=0)).symm with hc | hc
 ·have b1:(checkS d != 0)=true:=by simpa using hc
  gi_wp2_with (first
   | (gi_at_call 19;refine CallsIn.mono k19 ?_;rintro e w2 ⟨rfl,x2⟩;clear c0 c1 c2 c3 c4 c5 c6 c7 c8 c9 c10 c11 c12 c13;obtain⟨c0,c1,c2,c3,c4,c5,c6,c7,c8,c9,c10,c11,c12,c13⟩:=cells14 (CO.out w2 (.nx x2));have kk:=k25 w2 (.nx x2))
   | (gi_at_call 25;refine CallsIn.mono kk ?_;rintro e w3 ⟨rfl,x3⟩)
   | gi_in)
  exact⟨hOw.trans (.trans (.nx x2) (.nx x3)),rfl,.inl rfl⟩
 have HC:=Lib.hid hc
 rw [hc] at k25
 clear hc
 gi_wp2_with (first
  | (gi_at_call 19;refine CallsIn.mono k19 ?_;rintro e w2 ⟨rfl,x2⟩;clear c0 c1 c2 c3 c4 c5 c6 c7 c8 c9 c10 c11 c12 c13;obtain⟨c0,c1,c2,c3,c4,c5,c6,c7,c8,c9,c10,c11,c12,c13⟩:=cells14 (CO.out w2 (.nx x2));have kk:=k25 w2 (.nx x2))
  | (gi_at_call 25;refine CallsIn.mono kk ?_;rintro e w3 ⟨rfl,x3⟩;clear c0 c1 c2 c3 c4 c5 c6 c7 c8 c9 c10 c11 c12 c13)
  | gi_in)
 have oB2:Old w1 w3:=.trans (.nx x2) (.nx x3)
 refine⟨hOw.trans oB2,rfl,.inr ⟨rfl,?_⟩⟩
 clear k19 k25 kk
 intro τ3
 generalize hq3:({ w3 with tape:=τ3 }:World)=u3
 have oA3:Old w1 u3:=oB2.trans (by rw [← hq3];exact .same rfl)
 clear hq3
 simp only [ch3,chp10,chp9,chp8,chp7,chp6,chp5,chp4,chp3,chp2,chp1,lawB5,seqL,seqR,Tryd.f5]
 gi_wp2
 have hx1:0≤x % 1000000000∧x % 1000000000≤999999999:=by omega
 generalize x % 1000000000=at0 at *
 rcases hod:ownerF d at0 with ⟨⟨h,c,t⟩,f⟩
 have hf0:f=0:=by
  rw [own_eq HC.out hx1] at hod
  exact (Prod.mk.inj hod).2.symm
 subst hf0
 have KO4:=Lib.hid (fun u (o:Old w1 u)=>show CallsIn (FG 5) 0 Tryd.prog 26 #[d.val r,num at0] u fun e w'=>e=Ending.returned (.tuple #[num h,num c,num t,num 0])∧Nx u w' by
  have:=toFG 5 (m:=0) (owner_any d r at0 u (HD.out.old (hOw.trans o)) hs (HG.out.old (hOw.trans o)))
  rw [hod] at this
  exact this)
 have HOD:=Lib.hid hod
 clear hod hx
 intro τ4
 generalize hq4:({ u3 with tape:=τ4 }:World)=u4
 have oA4:Old w1 u4:=oA3.trans (by rw [← hq4];exact .same rfl)
 clear hq4
 simp only [ch4,chp10,chp9,chp8,chp7,chp6,chp5,chp4,chp3,chp2,chp1,lawB5,seqL,seqR,Tryd.f5]
 have kk:=KO4.out u4 oA4
 obtain⟨c0,c1,c2,c3,c4,c5,c6,c7,c8,c9,c10,c11,c12,c13⟩:=cells14 (CO.out u4 oA4)
 gi_wp2_with (first
  | (gi_at_call 26;refine CallsIn.mono kk ?_;rintro e v4 ⟨rfl,x4⟩)
  | gi_in)
 clear kk c0 c1 c2 c3 c4 c5 c6 c7 c8 c9 c10 c11 c12 c13
 have oB4:Old w1 v4:=oA4.trans (.nx x4)
 intro τ5
 generalize hq5:({ v4 with tape:=τ5 }:World)=u5
 have oA5:Old w1 u5:=oB4.trans (by rw [← hq5];exact .same rfl)
 clear hq5
 simp only [ch5,chp10,chp9,chp8,chp7,chp6,chp5,chp4,chp3,chp2,chp1,lawB5,seqL,seqR,Tryd.f5]
 gi_wp2
 intro τ7
 generalize hq7:({ u5 with tape:=τ7 }:World)=u7
 have oA7:Old w1 u7:=oA5.trans (by rw [← hq7];exact .same rfl)
 clear hq7
 have hs7:=oA7.size
 refine wpIn_mono (changes_boxes d r u7 w0.heap.size (w0.heap.size+1) (w0.heap.size+2) _ _ _ _ _ _ _ _ _ _ _ _ _ _ _ _ _ _ _ _ _ _ _ _ _ _ _ _ _ _ (HD.out.old (hOw.trans oA7)) (CO.out u7 oA7) (by omega)) ?_
 rintro e a w7 ⟨rfl,h2,b1,b2,ht,h12,hb1,hb2,hsz7,hot7,hr1,hr2⟩
 refine⟨rfl,h2,?_⟩
 rw [ht]
 clear h2 ht
 have oB7:Old w1 w7:=oA7.trans (old_blocks hsz7 hot7)
 clear hot7
 intro τ8
 generalize hq8:({ w7 with tape:=τ8 }:World)=u8
 have e8:u8.heap=w7.heap:=by rw [← hq8]
 have oA8:Old w1 u8:=oB7.trans (by rw [← hq8];exact .same rfl)
 clear hq8
 have hs8:u8.heap.size=w7.heap.size:=by rw [e8]
 have lb1:=(Array.getElem?_eq_some_iff.1 hr1).1
 have lb2:=(Array.getElem?_eq_some_iff.1 hr2).1
 refine wpIn_mono (changes_swap d r s1 s2 s3 u8 w0.heap.size (w0.heap.size+1) b1 (d.cellsA r) _ _ _ _ _ _ _ _ _ _ _ _ _ _ _ _ _ _ _ _ _ _ _ _ _ _ _ _ _ _ _ _ _ _ (CO.out u8 oA8) (by omega) (CS.out u8 oA8) (by omega) (by rw [e8];exact hr1) rfl (by omega) (by omega) (HD.out.old (hOw.trans oA8)).swaps (by omega)) ?_
 rintro e a w8 ⟨rfl,h2,y0,y3,y5,gs,caps,ht,hsz8,hot8,hos8,hbo8,hcap8,hg8,hsl8,hk8⟩
 refine⟨rfl,h2,?_⟩
 rw [ht]
 clear h2 ht hos8 hcap8
 have oB8:Old w1 w8:=old_then oA8 hsz8 fun b hb=>hot8 b (by omega) (by omega)
 have hr2b:w8.heap[b2]?=some (.cells (d.cellsA r) 31 (0,0)):=(hot8 b2 (by omega) h12.symm).trans (by rw [e8];exact hr2)
 clear hot8 hr1 hr2 e8
 intro τ9
 generalize hq9:({ w8 with tape:=τ9 }:World)=u9
 have e9:u9.heap=w8.heap:=by rw [← hq9]
 have oA9:Old w1 u9:=oB8.trans (by rw [← hq9];exact .same rfl)
 clear hq9
 have hs9:u9.heap.size=w8.heap.size:=by rw [e9]
 have lgs:gs<w8.heap.size:=by
  obtain⟨q1,q2,q3,q4⟩:=hk8 _ _ _ rfl
  exact (Array.getElem?_eq_some_iff.1 q4).1
 refine wpIn_mono (changes_loan d r l1 l2 l3 u9 w0.heap.size (w0.heap.size+2) b2 (d.cellsA r) _ _ _ _ _ _ _ _ _ _ _ _ _ _ _ _ _ _ _ _ _ _ _ _ _ _ _ _ _ _ _ _ _ _ _ _ _ _ _ _ _ _ (CO.out u9 oA9) (by omega) (CX.out u9 oA9) (by omega) (by rw [e9];exact hr2b) rfl (by omega) (by omega) (HD.out.old (hOw.trans oA9)).loans (by omega)) ?_
 rintro e a w9 ⟨rfl,h2,z0,z3,z5,gl,capl,ht,hsz9,hot9,hos9,hbo9,hcap9,hg9,hsl9,hk9⟩
 refine⟨rfl,h2,?_⟩
 rw [ht]
 clear h2 ht hos9 hcap9
 have oB9:Old w1 w9:=old_then oA9 hsz9 fun b hb=>hot9 b (by omega) (by omega)
 have hbo8b:=(hot9 b1 (by omega) h12).trans ((show u9.heap[b1]?=w8.heap[b1]? by rw [e9]).trans hbo8)
 have hgs:w9.heap[gs]?=w8.heap[gs]?:=(hot9 gs (by omega) (by omega)).trans (by rw [e9])
 have hsl8b:=sl_at hsl8 (by omega) hgs
 have hk8b:=kind_at hk8 hgs
 clear hot9 hgs hsl8 hk8 hbo8 hr2b e9 lgs lb1 lb2
 have hd9:=HD.out.old (hOw.trans oB9)
 have hg99:=HG.out.old (hOw.trans oB9)
 have hO:=ok_of_check HC.out
 have hkk:=hd9.kinds
 simp only [List.mem_cons,List.not_mem_nil,or_false,forall_eq_or_imp,forall_eq] at hkk
 obtain⟨k1,k2,k3,k4,k5,k6⟩:=hkk
 have hdo:DitSl w9 (d.swap (s1,s2,s3)) { r with s:=.slice (some ⟨gs,0,none⟩) (d.swaps.length+1) caps }:=⟨hd9.holders,hd9.turns,hd9.feasts,hsl8b,hd9.loans,hd9.plots,hd9.cap0,hd9.cap13,fun v hv=>by
  simp only [List.mem_cons,List.not_mem_nil,or_false] at hv
  rcases hv with rfl | rfl | rfl | rfl | rfl | rfl
  ·exact k1
  ·exact k2
  ·exact k3
  ·exact hk8b
  ·exact k5
  ·exact k6⟩
 have hdp:DitSl w9 (d.lend (l1,l2,l3)) { r with l:=.slice (some ⟨gl,0,none⟩) (d.loans.length+1) capl }:=⟨hd9.holders,hd9.turns,hd9.feasts,hd9.swaps,hsl9,hd9.plots,hd9.cap0,hd9.cap13,fun v hv=>by
  simp only [List.mem_cons,List.not_mem_nil,or_false] at hv
  rcases hv with rfl | rfl | rfl | rfl | rfl | rfl
  ·exact k1
  ·exact k2
  ·exact k3
  ·exact k4
  ·exact hk9
  ·exact k6⟩
 have hlo:(d.swap (s1,s2,s3)).swaps.length=d.swaps.length+1:=by show (d.swaps++[(s1,s2,s3)]).length=_;simp
 have hlp:(d.lend (l1,l2,l3)).loans.length=d.loans.length+1:=by show (d.loans++[(l1,l2,l3)]).length=_;simp
 have hs8':=hO.s8
 have hl8':=hO.l8
 have hso:(d.swap (s1,s2,s3)).Small:=⟨hs.h,hs.t,hs.f,by omega,hs.l,hs.p,hs.hn,hs.pn⟩
 have hsp:(d.lend (l1,l2,l3)).Small:=⟨hs.h,hs.t,hs.f,hs.s,by omega,hs.p,hs.hn,hs.pn⟩
 have cell9:∀ (b:Nat) (cs:Array Value) (T:TypeId),w9.heap[b]?=some (.cells cs T (0,0))→∀ w2,Old w9 w2→∀ i v,cs[i]?=some v→w2.cell? ⟨b,i,none⟩=some v:=fun b cs T hb w2 o i v hv=>by
  have hl:=(Array.getElem?_eq_some_iff.1 hb).1
  rw [o.cell ⟨b,i,none⟩ hl]
  unfold World.cell?
  dsimp only
  rw [hb]
  exact hv
 refine changes_mid (d.swap (s1,s2,s3)) (d.lend (l1,l2,l3)) { r with s:=.slice (some ⟨gs,0,none⟩) (d.swaps.length+1) caps } { r with l:=.slice (some ⟨gl,0,none⟩) (d.loans.length+1) capl } (w0.heap.size+1) (w0.heap.size+2) b1 b2 at0 h c t s1 s2 s3 l1 l2 l3 W w9 w9 (hOw.trans oB9) (Old.refl _) ?_ ?_ ?_ ?_ ?_ ?_ ?_ ?_
 ·exact cell9 _ _ _ hbo8b
 ·exact fun w2 o=>CS.out w2 (oB9.trans o)
 ·exact fun u oo=>toFG 5 (m:=0) (check25_any _ _ u (hdo.old oo) hso)
 ·intro hx2
  obtain⟨h',i,c',t',q1,q2,q3⟩:=swap_law HC.out hx2 hx1
  rw [HOD.out] at q1
  cases q1
  refine⟨i,fun u oo=>?_,q3⟩
  have:=toFG 5 (m:=0) (owner_any _ _ at0 u (hdo.old oo) hso (hg99.old oo))
  rw [q2] at this
  exact this
 ·exact cell9 _ _ _ hbo9
 ·exact fun w2 o=>CX.out w2 (oB9.trans o)
 ·exact fun u oo=>toFG 5 (m:=0) (check25_any _ _ u (hdp.old oo) hsp)
 ·intro hx2
  obtain⟨h',i,c',t',q1,q2,q3⟩:=lend_law HC.out hx2 hx1
  rw [HOD.out] at q1
  cases q1
  refine⟨i,fun u oo=>?_,q3⟩
  have:=toFG 5 (m:=0) (owner_any _ _ at0 u (hdp.old oo) hsp (hg99.old oo))
  rw [q2] at this
  exact this
end Go.Proofs.YtolholkjeehamaaDoor

namespace Go.Proofs.YtolholkjeehamaaDoor
open Go.RowKit Go.Con Go.Conc
local instance:Lone:=mainL
theorem results5 (v:Value) (t:Array Value) (h:t[8]?=some v) (σ:Rn):ResultsC Tryd.prog Tryd.f5 (t.map (ren σ)) (ren σ v):=by
 have:=resultsC_tmp (P:=Tryd.prog) (fn:=Tryd.f5) (t:=8) rfl (t.map (ren σ))
 simp only [Array.getD_eq_getD_getElem?,Array.getElem?_map,h,Option.map_some,Option.getD_some] at this
 exact this
theorem changes_go (E Fz Arg:Nat→Prop) (W0:World) (hArg:∀ x,Arg x↔x<W0.heap.size) (Post:Value→World→Prop) (φ:Ph) (d:Dit) (r:Rows6) (s1 s2 s3 l1 l2 l3 x:Int) (W:World) (hd:DitSl W d r) (hb:d.Big) (hfs:d.swaps.length * 24≤140737488351232) (hfl:d.loans.length * 24≤140737488351232) (hg:Glob W) (hx:0≤x∧x≤4294967295)
  (hPost:∀ Fz1 ρ D own A fr W1 W',Here Tryd.prog true E Fz1 Arg W0 ρ D own A fr [] W1 W'→Post (ren ρ (.bool true)) W') :
  GoM Tryd.prog true E Fz Arg W0 (AtEnd Tryd.prog Post) φ [] (Fr 5 #[d.val r,.agg #[num s1,num s2,num s3],.agg #[num l1,num l2,num l3],.int .u32 x,undef,undef,undef,undef,undef,undef,undef,undef,undef,undef,undef,undef,undef,undef,undef,undef,undef,undef,undef,undef,undef,undef,undef,undef,undef,undef,undef,undef,undef,undef,undef,undef,undef,undef,undef,undef,undef,undef,undef,undef,undef,undef,undef,undef,undef,undef,undef,undef,undef,undef,undef,undef,undef,undef,undef,undef,undef,undef,undef,undef,undef,undef,undef,undef,undef,undef,undef,undef,undef,undef,undef,undef,undef,undef,undef,undef,undef,undef,undef,undef,undef,undef,undef,undef,undef,undef,undef,undef,undef,undef,undef,undef,undef,undef,undef,undef,undef,undef,undef,undef,undef,undef,undef,undef,undef,undef,undef,undef,undef,undef,undef,undef,undef,undef,undef,undef,undef,undef,undef,undef,undef,undef,undef,undef,undef,undef,undef,undef,undef,undef,undef,undef,undef,undef,undef,undef,undef,undef,undef,undef,undef,undef,undef,undef,undef,undef,undef,undef,undef,undef,undef,undef,undef,undef,undef,undef,undef,undef,undef,undef,undef,undef,undef] [.code lawB5]) [] W:=by
 have hgood:goodFn Tryd.prog (.func 5)=false:=by kernel_rfl
 have hL:=changes_lone d r s1 s2 s3 l1 l2 l3 x W hd hb hfs hfl hg hx
 rw [lawB5_eq]
 refine Gm.seq ?_
 refine Gm.lone (F:=FG 5) _ rfl rfl rfl (List.mem_cons_self ..) (FG_ok 5 hgood) (by kernel_rfl) (by kernel_rfl) hL ?_
 clear hL
 intro t0 V0 hL
 refine Gm.seq (Gm.seq ?_)
 refine Gm.lone (F:=FG 5) _ rfl rfl rfl (List.mem_cons_self ..) (FG_ok 5 hgood) (by kernel_rfl) (by kernel_rfl) hL ?_
 clear hL
 rintro t W1 ⟨hO1,hs,h32 | ⟨h32,hL⟩⟩
 ·refine Gm.cond (b:=true) (eval_tmp h32) rfl ?_
  refine Gm.seq ?_
  rw [ch2_eq]
  refine Gm.region ?_
  rw [show List.range opch2.size=[0,1] by kernel_rfl]
  refine Gm.enter (o:=⟨some 33,.call { callee:=.value (.func 20),args:=#[],argTypes:=#[] },_,_,_,none⟩) (c:={ callee:=.value (.func 20),args:=#[],argTypes:=#[] }) rfl rfl rfl rfl (by kernel_rfl) Tryd.func20 body20_of (by kernel_rfl) ?_
  rw [fr20]
  refine flows_go E _ Arg W0 hArg _ _ _ _ _ (hg.old hO1) ?_
  intro WL FzL φL hOL
  rw [Fr_finish (o:=⟨some 33,.call { callee:=.value (.func 20),args:=#[],argTypes:=#[] },_,_,_,none⟩) rfl]
  refine Gm.op (o:=⟨some 8,.assign (.tmp 33),_,_,_,none⟩) (.bool true) WL rfl rfl (by kernel_rfl) rfl (asg_run _ (eval_tmp (by simp only [putD_get,putD_same,putD_size,hs,ne_eq,Nat.reduceEqDiff,not_false_eq_true,Nat.reduceLT]))) id ?_
  refine Gm.regionEnd ?_
  refine Gm.done Tryd.func5 (by kernel_rfl) (results5 (.bool true) _ (by simp only [putD_get,putD_same,putD_size,hs,ne_eq,Nat.reduceEqDiff,not_false_eq_true,Nat.reduceLT])) ?_
  exact fun ρ D own A fr W' h=>hPost _ ρ D own A fr _ W' h
 ·refine Gm.cond (b:=false) (eval_tmp h32) rfl ?_
  refine Gm.skip ?_
  refine Gm.seq ?_
  refine Gm.lone (F:=FG 5) _ rfl rfl rfl (List.mem_cons_self ..) (FG_ok 5 hgood) (by kernel_rfl) (by kernel_rfl) hL ?_
  clear hL
  intro t3 V3 hL
  refine Gm.seq ?_
  refine Gm.lone (F:=FG 5) _ rfl rfl rfl (List.mem_cons_self ..) (FG_ok 5 hgood) (by kernel_rfl) (by kernel_rfl) hL ?_
  clear hL
  intro t4 V4 hL
  refine Gm.seq ?_
  refine Gm.lone (F:=FG 5) _ rfl rfl rfl (List.mem_cons_self ..) (FG_ok 5 hgood) (by kernel_rfl) (by kernel_rfl) hL ?_
  clear hL
  intro t5 V5 hL
  refine Gm.seq ?_
  refine Gm.lone (F:=FG 5) _ rfl rfl rfl (List.mem_cons_self ..) (FG_ok 5 hgood) (by kernel_rfl) (by kernel_rfl) hL ?_
  clear hL
  intro t7 V7 hL
  refine Gm.seq ?_
  refine Gm.lone (F:=FG 5) _ rfl rfl rfl (List.mem_cons_self ..) (FG_ok 5 hgood) (by kernel_rfl) (by kernel_rfl) hL ?_
  clear hL
  intro t8 V8 hL
  refine Gm.seq ?_
  refine Gm.lone (F:=FG 5) _ rfl rfl rfl (List.mem_cons_self ..) (FG_ok 5 hgood) (by kernel_rfl) (by kernel_rfl) hL ?_
  clear hL
  intro t9 V9 hL
  refine Gm.seq ?_
  refine Gm.lone (F:=FG 5) _ rfl rfl rfl (List.mem_cons_self ..) (FG_ok 5 hgood) (by kernel_rfl) (by kernel_rfl) hL ?_
  clear hL
  intro t10 V10 hL
  refine Gm.seq ?_
  refine Gm.lone (F:=FG 5) _ rfl rfl rfl (List.mem_cons_self ..) (FG_ok 5 hgood) (by kernel_rfl) (by kernel_rfl) hL ?_
  clear hL
  clear hO1 hs h32
  rintro t W2 ⟨hO2,hs⟩
  refine Gm.seq ?_
  rw [ch19_eq]
  refine Gm.region ?_
  rw [show List.range opch19.size=[0,1] by kernel_rfl]
  refine Gm.enter (o:=⟨some 166,.call { callee:=.value (.func 20),args:=#[],argTypes:=#[] },_,_,_,none⟩) (c:={ callee:=.value (.func 20),args:=#[],argTypes:=#[] }) rfl rfl rfl rfl (by kernel_rfl) Tryd.func20 body20_of (by kernel_rfl) ?_
  rw [fr20]
  refine flows_go E _ Arg W0 hArg _ _ _ _ _ (hg.old hO2) ?_
  intro WL FzL φL hOL
  rw [Fr_finish (o:=⟨some 166,.call { callee:=.value (.func 20),args:=#[],argTypes:=#[] },_,_,_,none⟩) rfl]
  refine Gm.op (o:=⟨some 8,.assign (.tmp 166),_,_,_,none⟩) (.bool true) WL rfl rfl (by kernel_rfl) rfl (asg_run _ (eval_tmp (by simp only [putD_get,putD_same,putD_size,hs,ne_eq,Nat.reduceEqDiff,not_false_eq_true,Nat.reduceLT]))) id ?_
  refine Gm.regionEnd ?_
  refine Gm.done Tryd.func5 (by kernel_rfl) (results5 (.bool true) _ (by simp only [putD_get,putD_same,putD_size,hs,ne_eq,Nat.reduceEqDiff,not_false_eq_true,Nat.reduceLT])) ?_
  exact fun ρ D own A fr W' h=>hPost _ ρ D own A fr _ W' h
end Go.Proofs.YtolholkjeehamaaDoor

namespace Go.Proofs.YtolholkjeehamaaDoor
open Go.RowKit Go.Con Go.Conc Go.ChangeShapes Go.WideShapes Go.ChangeAt
local instance:Lone:=mainL
theorem fr5 (a0 a1 a2 a3:Value):#[a0,a1,a2,a3]++Array.replicate (Tryd.f5.ntmps-(#[a0,a1,a2,a3]:Array Value).size) undef=#[a0,a1,a2,a3,undef,undef,undef,undef,undef,undef,undef,undef,undef,undef,undef,undef,undef,undef,undef,undef,undef,undef,undef,undef,undef,undef,undef,undef,undef,undef,undef,undef,undef,undef,undef,undef,undef,undef,undef,undef,undef,undef,undef,undef,undef,undef,undef,undef,undef,undef,undef,undef,undef,undef,undef,undef,undef,undef,undef,undef,undef,undef,undef,undef,undef,undef,undef,undef,undef,undef,undef,undef,undef,undef,undef,undef,undef,undef,undef,undef,undef,undef,undef,undef,undef,undef,undef,undef,undef,undef,undef,undef,undef,undef,undef,undef,undef,undef,undef,undef,undef,undef,undef,undef,undef,undef,undef,undef,undef,undef,undef,undef,undef,undef,undef,undef,undef,undef,undef,undef,undef,undef,undef,undef,undef,undef,undef,undef,undef,undef,undef,undef,undef,undef,undef,undef,undef,undef,undef,undef,undef,undef,undef,undef,undef,undef,undef,undef,undef,undef,undef,undef,undef,undef,undef,undef,undef,undef,undef,undef,undef,undef,undef,undef,undef,undef,undef]:=by
 simp only [Tryd.ntmps5,List.size_toArray,List.length_cons,List.length_nil,Nat.reduceAdd,Nat.reduceSub,Array.replicate_succ,Array.replicate_zero,List.push_toArray,List.append_toArray,List.nil_append,List.cons_append]
theorem changes_fin (d:Dit) (r:Rows6) (s1 s2 s3:Int) (l1 l2 l3:Int) (x3:Int) (W:World) (hd:DitSl W d r) (hb:d.Big) (hg:Glob W) (hfs:d.swaps.length * 24≤140737488351232) (hfl:d.loans.length * 24≤140737488351232) (hx3:(0≤x3∧x3≤4294967295)) :
  Con.Fin Tryd.prog (fun u W'=>u=.bool true∧Con.Left W W') (solo (G (Frame.enter Tryd.prog 5 #[d.val r,.agg #[num s1,num s2,num s3],.agg #[num l1,num l2,num l3],.int .u32 x3] .normal) []) W) #[]:=by
 refine law_fin Tryd.func5 lawB5_of hg (fun v hv=>?_) fun c Post hPost=>?_
 ·simp only [List.mem_cons,List.not_mem_nil,or_false] at hv
  rcases hv with rfl | rfl | rfl | rfl
  ·exact hd.same
  ·exact Same.agg fun v hv=>by (simp only [List.mem_cons,List.not_mem_nil,or_false] at hv;rcases hv with rfl | rfl | rfl<;>exact Same.num _)
  ·exact Same.agg fun v hv=>by (simp only [List.mem_cons,List.not_mem_nil,or_false] at hv;rcases hv with rfl | rfl | rfl<;>exact Same.num _)
  ·exact⟨fun c=>by simp [ren],by simp [ren]⟩
 ·rw [fr5]
  exact changes_go _ _ _ _ (fun _=>Iff.rfl) Post _ d r s1 s2 s3 l1 l2 l3 x3 _ hd.entry hb hfs hfl hg.entry hx3 hPost
theorem changes_lifted (os:Os) (started:os.Started) (H:Type) (enc:TypeId×Value→H) :
  ReturnsInLeavingWide {} Tryd.checked os 5 .any (fun w args=>(Rows.turnChangesSpec.pre enc Tryd.prog Tryd.f5 [] false w args∧laidMetH Tryd.prog laid2 w)∧sizedMet enc Tryd.prog Tryd.f5 (OpenSpec.ofChange Rows.turnChangesSpec) false w args)
   (Rows.turnChangesSpec.post enc Tryd.prog Tryd.f5 false true false false):=by
 refine returnsInLeavingWide_and (C:=Tryd.checked) (X:=fun w _=>laidMetH Tryd.prog laid2 w) (fun _ _ _ hh h=>h.of_heap hh) own_knob started Tryd.func5
  (ChangeSpec.witness_shaped (enc:=enc) (C:=Tryd.checked) (os:=os) (X:=fun w _=>laidMetH Tryd.prog laid2 w) false (World.doorLaid Tryd.prog 600 os)
   #[.agg #[.slice none 0 0,.slice none 0 0,.int .i64 0,.int .i64 0,.int .i64 0,.int .i64 0,.slice none 0 0,.slice none 0 0,.slice none 0 0,.int .i64 0,.int .i64 0,.int .i64 0,.int .i64 0,.slice none 0 0],.agg #[.int .i64 0,.int .i64 0,.int .i64 0],.agg #[.int .i64 0,.int .i64 0,.int .i64 0],.int .u32 0] 8 rfl (World.shaped_of_RefB (by kernel_rfl) (by kernel_rfl)) (by kernel_rfl) (by kernel_rfl) (by kernel_rfl) (door_met os _)) ?_
 intro W base args ds gs before hval0 hW _ hsz hL
 have hval:∀ (j:Nat) t v,Tryd.f5.params[j]?=some t→args[j]?=some v→Value.okWide Tryd.prog W .any base t v:=hval0
 have hW':=hW
 obtain⟨p,q,hA0,hV,rfl,hfz,hnd⟩:=hW
 have hA:DataW.TrodAll enc Tryd.prog W 0 (fun _=>true) true Tryd.f5.params.toList args.toList ds p:=hA0
 rw [Tryd.params5] at hA hval
 obtain⟨v0,v1,v2,v3,d0,d1,d2,d3,p0,p1,p2,p3,rfl,rfl,rfl,h0,h1,h2,h3⟩:=trodAll_four hA
 obtain⟨rfl,rfl⟩:=trodVars_none hV
 obtain⟨s1,s2,s3,rfl⟩:=open_three Tryd.underlying49 rfl rfl rfl rfl rfl rfl (by kernel_rfl) (hval 1 49 v1 rfl rfl) h1
 obtain⟨l1,l2,l3,rfl⟩:=open_three Tryd.underlying51 rfl rfl rfl rfl rfl rfl (by kernel_rfl) (hval 2 51 v2 rfl rfl) h2
 obtain⟨x3,rfl,rfl,rfl,w3⟩:=open_int Tryd.underlying43 (hval 3 43 v3 rfl rfl) h3
 have hx3:0≤x3∧x3≤4294967295:=by
  have h:=w3
  simp only [Lit.wf,Bool.and_eq_true,decide_eq_true_eq] at h
  exact h
 have hfit:Fits 31 d0:=fun n hn=>by
  have:=List.all_eq_true.1 hsz n (DataW.weights_mem_each (P:=Tryd.prog) (j:=0) (t:=31) (d:=d0) (by rw [show Tryd.checked.prog=Tryd.prog from rfl,Tryd.params5];rfl) rfl n hn)
  simpa using this
 obtain⟨d,r,rfl,hd,hb⟩:=dit_open (hval 0 31 v0 rfl rfl) h0 hfit
 have hfs:=(dit_fit hd h0 hfit).2.1
 have hfl:=(dit_fit hd h0 hfit).2.2.1
 clear hA0 hval0
 try simp only [List.append_nil] at hW'
 have hlt:=fun x hx=>hW'.lt x hx
 try simp only [Array.size_empty,Nat.add_zero] at hlt
 refine fin_post (changes_fin d r s1 s2 s3 l1 l2 l3 x3 W hd hb (of_laid hL) hfs hfl hx3) fun W' hl=>?_
 have ha:=trodAll_mk4 (left_trod (by kernel_rfl) (of_decide_eq_true (by kernel_rfl)) h0 hl fun x hx=>hlt x (by simp [hx])) (left_trod (by kernel_rfl) (of_decide_eq_true (by kernel_rfl)) h1 hl fun x hx=>hlt x (by simp [hx])) (left_trod (by kernel_rfl) (of_decide_eq_true (by kernel_rfl)) h2 hl fun x hx=>hlt x (by simp [hx])) (shut_int Tryd.underlying43 w3)
 try simp only [List.append_nil] at ha
 exact⟨[d0,d1,d2,.lit (.int .u32 x3)],[],_,[],_,[],hW',trodAll_mk1 (shut_bool Tryd.underlying4 _),ha,rfl,left_kept hl _,fun h=>by cases h⟩
theorem changes_holds:Rows.TurnChangesSaid :=
 OpenClaim.holds_of_wide_leaving 5 Tryd.f5 rfl rfl rfl rfl rfl rfl rfl ⟨rfl,rfl,rfl,rfl,rfl⟩ rfl rfl rfl rfl rfl (by kernel_rfl) Tryd.func5 (by kernel_rfl)
  (of_decide_eq_true (by kernel_rfl)) (by unfold Func.isWrapper;first | (rw [if_pos (by decide +kernel)];kernel_rfl) | (rw [if_neg (by decide +kernel)];exact⟨rfl,rfl⟩))
  (fun os started H enc _=>changes_lifted os started H enc)
theorem changes_card:Rows.TurnChangesCardSaid :=
 tied_plain_goes .later [] [.funcs,.data] true (true,"13bbfa5877394a3cde13138796d6bb679173f8167c87f9ccc98cd9f3e99a425f") false true
  changes_holds (fun _ h=>by cases h) (by kernel_rfl) (fun _ h=>by cases h) turnChanges_row_tie rfl ⟨rfl,rfl⟩ (by kernel_rfl) rfl
  (fun f fn hf hfn=>by
   obtain rfl:f=5:=Option.some.inj ((show Tryd.prog.funcNamed "crocus/crocuslaw02.TurnChanges" = some 5 by kernel_rfl).symm.trans hf) |>.symm
   obtain rfl:fn=Tryd.f5:=(Option.some.inj (Tryd.func5.symm.trans hfn)).symm
   exact⟨by kernel_rfl,fun j t ht=>by
    rw [Tryd.params5] at ht
    have hm:t∈[31,49,51,43]:=by simpa using Array.mem_of_getElem? ht
    have hall:([31,49,51,43].all fun u=>!Tryd.prog.wantsStandIn u)=true:=by kernel_rfl
    exact (show Tryd.prog.wantsStandIn t=false by simpa using List.all_eq_true.1 hall t hm)⟩)
  (by kernel_rfl)
#print axioms changes_card
end Go.Proofs.YtolholkjeehamaaDoor

