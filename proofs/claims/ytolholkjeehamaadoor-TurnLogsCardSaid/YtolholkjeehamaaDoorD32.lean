import Derived.Test.YtolholkjeehamaaDoorD31
import Derived.Test.YtolholkjeehamaaDoorD11
import Derived.Test.YtolholkjeehamaaDoorD29
set_option linter.all false
set_option maxRecDepth 100000
set_option maxHeartbeats 4000000
namespace Go
section
variable {F:Fence} {n:Nat} {P:Program} {ops:Array Oper} {md:Region.Mode} {C:World→Prop} {Q:Exit→Act→World→Prop}
theorem zhi {i j:Nat} {oi oj:Oper} {fuel:Nat} {listed:Array Bool} {a:Act} {w:World} (hr:Region.ready md ops listed=[i,j]) (hoi:ops[i]?=some oi) (hoj:ops[j]?=some oj)
  (hwi:Region.wanted oi (yielded ops a.tmps)=true) (hwj:Region.wanted oj (yielded ops a.tmps)=true) (hC:C w)
  (hi:∀ K:Act→World→Prop,(∀ a w,wpAnyC F n P md ops C Q fuel (listed.setIfInBounds i true) a w→K a w)→oi.wpIn F n P a w K Q)
  (hj:∀ K:Act→World→Prop,(∀ a w,wpAnyC F n P md ops C Q fuel (listed.setIfInBounds j true) a w→K a w)→oj.wpIn F n P a w K Q):wpAnyC F n P md ops C Q (fuel+1) listed a w:=by
 refine⟨hC,fun h0=>(by rw [hr] at h0;cases h0),fun k hk=>?_⟩
 rw [hr] at hk
 simp only [List.mem_cons,List.not_mem_nil,or_false] at hk
 rcases hk with rfl | rfl
 ·unfold wpOpIn
  simp only [hoi,hwi,if_true]
  exact hi _ fun _ _ h=>h
 ·unfold wpOpIn
  simp only [hoj,hwj,if_true]
  exact hj _ fun _ _ h=>h
end
end Go
namespace Go.Proofs.YtolholkjeehamaaDoor
open Go.RowKit
noncomputable def zpJ:Code:=match Tryd.f55.body with | some c=>c | none=>.skip
noncomputable def e2:Code:=seqL (seqR (seqR zpJ))
noncomputable def ope2:Array Oper:=match e2 with | .region _ ops _=>ops | _=>#[]
theorem zqT:e2=.region 2 ope2 true:=by kernel_rfl
section
variable {F:Fence} {n:Nat} {ops:Array Oper} {C:World→Prop} {a:Act} {dst:Option Nat} {ty:TypeId} {pos:String} {af:Array Edge}
theorem zmj {s b:Nat} {v0 v1 v2 v3 v4 v5 v6 v7 v8 v9 v10 v11 v12 v13:Value} (h:a.eval (.tmp s)=.pointer (some ⟨b,0,none⟩)) (h0:∀ x,C x→x.cell? ⟨b,0,none⟩=some v0) (h1:∀ x,C x→x.cell? ⟨b,1,none⟩=some v1) (h2:∀ x,C x→x.cell? ⟨b,2,none⟩=some v2) (h3:∀ x,C x→x.cell? ⟨b,3,none⟩=some v3) (h4:∀ x,C x→x.cell? ⟨b,4,none⟩=some v4) (h5:∀ x,C x→x.cell? ⟨b,5,none⟩=some v5) (h6:∀ x,C x→x.cell? ⟨b,6,none⟩=some v6) (h7:∀ x,C x→x.cell? ⟨b,7,none⟩=some v7) (h8:∀ x,C x→x.cell? ⟨b,8,none⟩=some v8) (h9:∀ x,C x→x.cell? ⟨b,9,none⟩=some v9) (h10:∀ x,C x→x.cell? ⟨b,10,none⟩=some v10) (h11:∀ x,C x→x.cell? ⟨b,11,none⟩=some v11) (h12:∀ x,C x→x.cell? ⟨b,12,none⟩=some v12) (h13:∀ x,C x→x.cell? ⟨b,13,none⟩=some v13):YieldsC F n Tryd.prog ops C ⟨dst,.load 31 (.tmp s),ty,pos,af,none⟩ (.agg #[v0,v1,v2,v3,v4,v5,v6,v7,v8,v9,v10,v11,v12,v13]) a :=
 yC rfl (fun _=>rfl) fun x hx=>by
  have e0:=h0 x hx;have e1:=h1 x hx;have e2:=h2 x hx;have e3:=h3 x hx;have e4:=h4 x hx;have e5:=h5 x hx;have e6:=h6 x hx;have e7:=h7 x hx;have e8:=h8 x hx;have e9:=h9 x hx;have e10:=h10 x hx;have e11:=h11 x hx;have e12:=h12 x hx;have e13:=h13 x hx
  generalize a.eval=ρ at h ⊢
  simp [execOp,go_sem,h,e0,e1,e2,e3,e4,e5,e6,e7,e8,e9,e10,e11,e12,e13]
end
def Kp (W x:World):Prop:=W.heap.size≤x.heap.size∧∀ k,k<W.heap.size→x.heap[k]?=W.heap[k]?
theorem Kp.refl (W:World):Kp W W:=⟨Nat.le_refl _,fun _ _=>rfl⟩
theorem Kp.drew {W x:World} (h:Kp W x):Kp W x.drew:=h
theorem Kp.nx {W x y:World} (h:Kp W x) (n:Nx x y):Kp W y:=⟨Nat.le_trans h.1 n.size,fun k hk=>(n.block k (Nat.lt_of_lt_of_le hk h.1)).trans (h.2 k hk)⟩
theorem Kp.alloc {W x:World} (h:Kp W x) (o:Obj):Kp W (x.alloc o):=⟨by have:=h.1;simp;omega,fun k hk=>(heap_alloc_old _ _ (Nat.lt_of_lt_of_le hk h.1)).trans (h.2 k hk)⟩
theorem zb4 {F:Fence} {n:Nat} {P:Program} {K:Act→World→Prop} {Q:Exit→Act→World→Prop} {o:Oper} {a:Act} {w w1:World} (hro:F.round=none) (hab:o.about P w a.eval=none) (hrun:(execOp a.eval o).run P w=.ok .skip w1) (h:K (a.put o.dst undef) w1):o.wpIn F n P a w K Q:=by
 unfold Oper.wpIn
 refine⟨fun f hf=>(by rw [hab] at hf;cases hf),?_⟩
 rw [hro,Oper.semAt_none,hrun]
 exact h
theorem zdT {e:Operand→Value} {w:World} {s t b:Nat} {dst:Option Nat} {ty:TypeId} {pos:String} {af:Array Edge} {x0 x1 x2 x3 x4 x5 x6 x7 x8 x9 x10 x11 x12 x13:Value} {s0 s1 s6 s7 s8 s13:Option Addr} {n0 c0 n1 c1 n6 c6 n7 c7 n8 c8 n13 c13:Nat} {z2 z3 z4 z5 z9 z10 z11 z12:Int} (h:e (.tmp s)=.pointer (some ⟨b,0,none⟩)) (h2:e (.tmp t)=.agg #[.slice s0 n0 c0,.slice s1 n1 c1,.int .i64 z2,.int .i64 z3,.int .i64 z4,.int .i64 z5,.slice s6 n6 c6,.slice s7 n7 c7,.slice s8 n8 c8,.int .i64 z9,.int .i64 z10,.int .i64 z11,.int .i64 z12,.slice s13 n13 c13]) (hb:w.heap[b]?=some (.cells #[x0,x1,x2,x3,x4,x5,x6,x7,x8,x9,x10,x11,x12,x13] 31 (0,0))) :
  (execOp e ⟨dst,.store 31 (.tmp s) (.tmp t),ty,pos,af,none⟩).run Tryd.prog w=.ok .skip ((((((((((((((w.setCell ⟨b,0,none⟩ (.slice s0 n0 c0)).setCell ⟨b,1,none⟩ (.slice s1 n1 c1)).setCell ⟨b,2,none⟩ (.int .i64 z2)).setCell ⟨b,3,none⟩ (.int .i64 z3)).setCell ⟨b,4,none⟩ (.int .i64 z4)).setCell ⟨b,5,none⟩ (.int .i64 z5)).setCell ⟨b,6,none⟩ (.slice s6 n6 c6)).setCell ⟨b,7,none⟩ (.slice s7 n7 c7)).setCell ⟨b,8,none⟩ (.slice s8 n8 c8)).setCell ⟨b,9,none⟩ (.int .i64 z9)).setCell ⟨b,10,none⟩ (.int .i64 z10)).setCell ⟨b,11,none⟩ (.int .i64 z11)).setCell ⟨b,12,none⟩ (.int .i64 z12)).setCell ⟨b,13,none⟩ (.slice s13 n13 c13)):=by
 have cc:∀ i v,(#[x0,x1,x2,x3,x4,x5,x6,x7,x8,x9,x10,x11,x12,x13]:Array Value)[i]?=some v→w.cell? ⟨b,i,none⟩=some v∧w.frozen? ⟨b,i,none⟩=false:=fun i v hv=>⟨by unfold World.cell?;dsimp only;rw [hb];exact hv,frozen_of_row _ _ _ _ _ hb⟩
 obtain⟨e0,f0⟩:=cc 0 x0 rfl;obtain⟨e1,f1⟩:=cc 1 x1 rfl;obtain⟨e2,f2⟩:=cc 2 x2 rfl;obtain⟨e3,f3⟩:=cc 3 x3 rfl;obtain⟨e4,f4⟩:=cc 4 x4 rfl;obtain⟨e5,f5⟩:=cc 5 x5 rfl;obtain⟨e6,f6⟩:=cc 6 x6 rfl;obtain⟨e7,f7⟩:=cc 7 x7 rfl;obtain⟨e8,f8⟩:=cc 8 x8 rfl;obtain⟨e9,f9⟩:=cc 9 x9 rfl;obtain⟨e10,f10⟩:=cc 10 x10 rfl;obtain⟨e11,f11⟩:=cc 11 x11 rfl;obtain⟨e12,f12⟩:=cc 12 x12 rfl;obtain⟨e13,f13⟩:=cc 13 x13 rfl
 clear cc hb
 simp [execOp,go_sem,h,h2,e0,f0,e1,f1,e2,f2,e3,f3,e4,f4,e5,f5,e6,f6,e7,f7,e8,f8,e9,f9,e10,f10,e11,f11,e12,f12,e13,f13]
theorem zdP {e:Operand→Value} {w:World} {s t b:Nat} {dst:Option Nat} {ty:TypeId} {pos:String} {af:Array Edge} {x0 x1 x2:Value} {v0 v1:Int} {a2:Option Addr} {n2 c2:Nat} (h:e (.tmp s)=.pointer (some ⟨b,0,none⟩)) (h2:e (.tmp t)=.agg #[.int .i64 v0,.int .i64 v1,.slice a2 n2 c2]) (hb:w.heap[b]?=some (.cells #[x0,x1,x2] 35 (0,0))) :
  (execOp e ⟨dst,.store 35 (.tmp s) (.tmp t),ty,pos,af,none⟩).run Tryd.prog w=.ok .skip (((w.setCell ⟨b,0,none⟩ (.int .i64 v0)).setCell ⟨b,1,none⟩ (.int .i64 v1)).setCell ⟨b,2,none⟩ (.slice a2 n2 c2)):=by
 have cc:∀ i v,(#[x0,x1,x2]:Array Value)[i]?=some v→w.cell? ⟨b,i,none⟩=some v∧w.frozen? ⟨b,i,none⟩=false:=fun i v hv=>⟨by unfold World.cell?;dsimp only;rw [hb];exact hv,frozen_of_row _ _ _ _ _ hb⟩
 obtain⟨e0,f0⟩:=cc 0 x0 rfl
 obtain⟨e1,f1⟩:=cc 1 x1 rfl
 obtain⟨e2,f2⟩:=cc 2 x2 rfl
 clear cc hb
 simp [execOp,go_sem,h,h2,e0,e1,e2,f0,f1,f2]
theorem zpv {w:World} {b:Nat} {x0 x1 x2 x3 x4 x5 x6 x7 x8 x9 x10 x11 x12 x13 v0 v1 v2 v3 v4 v5 v6 v7 v8 v9 v10 v11 v12 v13:Value} (h:w.heap[b]?=some (.cells #[x0,x1,x2,x3,x4,x5,x6,x7,x8,x9,x10,x11,x12,x13] 31 (0,0))) :
  ((((((((((((((w.setCell ⟨b,0,none⟩ v0).setCell ⟨b,1,none⟩ v1).setCell ⟨b,2,none⟩ v2).setCell ⟨b,3,none⟩ v3).setCell ⟨b,4,none⟩ v4).setCell ⟨b,5,none⟩ v5).setCell ⟨b,6,none⟩ v6).setCell ⟨b,7,none⟩ v7).setCell ⟨b,8,none⟩ v8).setCell ⟨b,9,none⟩ v9).setCell ⟨b,10,none⟩ v10).setCell ⟨b,11,none⟩ v11).setCell ⟨b,12,none⟩ v12).setCell ⟨b,13,none⟩ v13).heap[b]?=some (.cells #[v0,v1,v2,v3,v4,v5,v6,v7,v8,v9,v10,v11,v12,v13] 31 (0,0)):=by
 unfold World.setCell
 simp [Array.getElem?_modify,h]
theorem set3 {w:World} {b:Nat} {x0 x1 x2 v0 v1 v2:Value} (h:w.heap[b]?=some (.cells #[x0,x1,x2] 35 (0,0))) :
  (((w.setCell ⟨b,0,none⟩ v0).setCell ⟨b,1,none⟩ v1).setCell ⟨b,2,none⟩ v2).heap[b]?=some (.cells #[v0,v1,v2] 35 (0,0)):=by
 unfold World.setCell
 simp [Array.getElem?_modify,h]
theorem zjj {w:World} {b k:Nat} {v0 v1 v2 v3 v4 v5 v6 v7 v8 v9 v10 v11 v12 v13:Value} (h:k≠b):((((((((((((((w.setCell ⟨b,0,none⟩ v0).setCell ⟨b,1,none⟩ v1).setCell ⟨b,2,none⟩ v2).setCell ⟨b,3,none⟩ v3).setCell ⟨b,4,none⟩ v4).setCell ⟨b,5,none⟩ v5).setCell ⟨b,6,none⟩ v6).setCell ⟨b,7,none⟩ v7).setCell ⟨b,8,none⟩ v8).setCell ⟨b,9,none⟩ v9).setCell ⟨b,10,none⟩ v10).setCell ⟨b,11,none⟩ v11).setCell ⟨b,12,none⟩ v12).setCell ⟨b,13,none⟩ v13).heap[k]?=w.heap[k]?:=by
 repeat rw [heap_setCell_other _ _ _ _ (by exact h)]
theorem zl3 {w:World} {b:Nat} {v0 v1 v2 v3 v4 v5 v6 v7 v8 v9 v10 v11 v12 v13:Value}:((((((((((((((w.setCell ⟨b,0,none⟩ v0).setCell ⟨b,1,none⟩ v1).setCell ⟨b,2,none⟩ v2).setCell ⟨b,3,none⟩ v3).setCell ⟨b,4,none⟩ v4).setCell ⟨b,5,none⟩ v5).setCell ⟨b,6,none⟩ v6).setCell ⟨b,7,none⟩ v7).setCell ⟨b,8,none⟩ v8).setCell ⟨b,9,none⟩ v9).setCell ⟨b,10,none⟩ v10).setCell ⟨b,11,none⟩ v11).setCell ⟨b,12,none⟩ v12).setCell ⟨b,13,none⟩ v13).heap.size=w.heap.size:=by
 simp
theorem zqO (w:World) (a:Addr) (v:Value):(w.setCell a v).os=w.os:=rfl
theorem zpn (w:World) (a:Addr) (v:Value):(w.setCell a v).tape=w.tape:=rfl
theorem zqh (w:World) (a:Addr) (v:Value):(w.setCell a v).output=w.output:=rfl
theorem zoN {w:World} {b:Nat} {v0 v1 v2 v3 v4 v5 v6 v7 v8 v9 v10 v11 v12 v13:Value}:((((((((((((((w.setCell ⟨b,0,none⟩ v0).setCell ⟨b,1,none⟩ v1).setCell ⟨b,2,none⟩ v2).setCell ⟨b,3,none⟩ v3).setCell ⟨b,4,none⟩ v4).setCell ⟨b,5,none⟩ v5).setCell ⟨b,6,none⟩ v6).setCell ⟨b,7,none⟩ v7).setCell ⟨b,8,none⟩ v8).setCell ⟨b,9,none⟩ v9).setCell ⟨b,10,none⟩ v10).setCell ⟨b,11,none⟩ v11).setCell ⟨b,12,none⟩ v12).setCell ⟨b,13,none⟩ v13).os=w.os∧((((((((((((((w.setCell ⟨b,0,none⟩ v0).setCell ⟨b,1,none⟩ v1).setCell ⟨b,2,none⟩ v2).setCell ⟨b,3,none⟩ v3).setCell ⟨b,4,none⟩ v4).setCell ⟨b,5,none⟩ v5).setCell ⟨b,6,none⟩ v6).setCell ⟨b,7,none⟩ v7).setCell ⟨b,8,none⟩ v8).setCell ⟨b,9,none⟩ v9).setCell ⟨b,10,none⟩ v10).setCell ⟨b,11,none⟩ v11).setCell ⟨b,12,none⟩ v12).setCell ⟨b,13,none⟩ v13).tape=w.tape∧((((((((((((((w.setCell ⟨b,0,none⟩ v0).setCell ⟨b,1,none⟩ v1).setCell ⟨b,2,none⟩ v2).setCell ⟨b,3,none⟩ v3).setCell ⟨b,4,none⟩ v4).setCell ⟨b,5,none⟩ v5).setCell ⟨b,6,none⟩ v6).setCell ⟨b,7,none⟩ v7).setCell ⟨b,8,none⟩ v8).setCell ⟨b,9,none⟩ v9).setCell ⟨b,10,none⟩ v10).setCell ⟨b,11,none⟩ v11).setCell ⟨b,12,none⟩ v12).setCell ⟨b,13,none⟩ v13).output=w.output:=by
 refine⟨?_,?_,?_⟩
 ·simp only [zqO]
 ·simp only [zpn]
 ·simp only [zqh]
theorem zav (w:World) {b k:Nat} (v0 v1 v2:Value) (x:Nat) (h:k≠b):(((w.setCell ⟨b,0,none⟩ v0).setCell ⟨b,1,none⟩ v1).setCell ⟨b,2,none⟩ v2).heap[k]?=w.heap[k]?:=by
 repeat rw [heap_setCell_other _ _ _ _ (by exact h)]
theorem lt_of_some {w:World} {b:Nat} {o:Obj} (h:w.heap[b]?=some o):b<w.heap.size:=(Array.getElem?_eq_some_iff.1 h).1
def Kq (w v:World):Prop:=w.heap.size≤v.heap.size∧(∀ k,k<w.heap.size→v.heap[k]?=w.heap[k]?)∧v.os=w.os∧v.tape=w.tape∧v.output=w.output
def Km (w v:World) (b:Nat):Prop:=w.heap.size≤v.heap.size∧(∀ k,k<w.heap.size→k≠b→v.heap[k]?=w.heap[k]?)∧v.os=w.os∧v.tape=w.tape∧v.output=w.output
def exR (h t f s l p:Nat):zaR:=⟨.slice (some ⟨h,0,none⟩) 2 2,.slice (some ⟨t,0,none⟩) 3 3,.slice (some ⟨f,0,none⟩) 1 1,.slice (some ⟨s,0,none⟩) 1 1,.slice (some ⟨l,0,none⟩) 1 1,.slice (some ⟨p,0,none⟩) 3 3⟩
theorem zp5 (W:World) (b0 b1 b2:Nat) (rh rt rf rs rl rp:Nat) (x0 x1 x2 x3 x4 x5 x6 x7 x8 x9 x10 x11 x12 x13 y0 y1 y2:Value) (h01:b0≠b1) (h02:b0≠b2) (h12:b1≠b2)
  (h0:W.heap[b0]?=some (.cells #[x0,x1,x2,x3,x4,x5,x6,x7,x8,x9,x10,x11,x12,x13] 31 (0,0))) (h1:W.heap[b1]?=some (.cells #[y0,y1,y2] 35 (0,0))) (h2:W.heap[b2]?=some (.cells (exD.cellsA (exR rh rt rf rs rl rp)) 31 (0,0))) (a3 a4 a5 a6 a7 a8 a9 a10 a11 a12 a13 a14 a15 a16 a17 a18 a19 a20 a21 a22 a23:Value) :
  e2.wpIn FL 0 Tryd.prog (fun e a w'=>e=.normal∧a.defers=[]∧a.tmps[0]?=some (.pointer (some ⟨b0,0,none⟩))∧a.tmps[1]?=some (.pointer (some ⟨b1,0,none⟩))∧(∀ k,k<W.heap.size→k≠b0→k≠b1→w'.heap[k]?=W.heap[k]?)∧W.heap.size≤w'.heap.size∧w'.os=W.os∧w'.tape=W.tape∧w'.output=W.output ∧
   w'.heap[b0]?=some (.cells (exD.cellsA (exR rh rt rf rs rl rp)) 31 (0,0))∧∃ g,g≠b0∧g≠b1∧w'.heap[b1]?=some (.cells #[num (-1),num 1,.slice (some ⟨g,0,none⟩) 3 3] 35 (0,0))∧w'.heap[g]?=some (.cells #[num 1,num 13,num 15,num 0,num 15,num 16,num 1,num 17,num 19] 59 (0,0)))
   ⟨#[.pointer (some ⟨b0,0,none⟩),.pointer (some ⟨b1,0,none⟩),.pointer (some ⟨b2,0,none⟩),a3,a4,a5,a6,a7,a8,a9,a10,a11,a12,a13,a14,a15,a16,a17,a18,a19,a20,a21,a22,a23,undef,undef,undef,undef,undef,undef,undef],[]⟩ W:=by
 have l0:b0<W.heap.size:=(Array.getElem?_eq_some_iff.1 h0).1
 have l1:b1<W.heap.size:=(Array.getElem?_eq_some_iff.1 h1).1
 rw [zqT]
 let C:World→Prop:=fun x=>x.heap[b2]?=some (.cells (exD.cellsA (exR rh rt rf rs rl rp)) 31 (0,0))
 have cC:∀ i v,(exD.cellsA (exR rh rt rf rs rl rp))[i]?=some v→∀ x,C x→x.cell? ⟨b2,i,none⟩=some v:=fun i v hv x hx=>by
  unfold World.cell?;dsimp only;rw [hx];exact hv
 refine zbg C (by kernel_rfl) ?_
 change wpAnyC _ _ _ _ _ _ _ 9 #[false,false,false,false,false,false,false,false,false] _ _
 refine zat (i:=0) (oi:=⟨some 24,.load 31 (.tmp 2),_,_,_,none⟩) (v:=exD.val (exR rh rt rf rs rl rp)) rfl rfl (by kernel_rfl) (by kernel_rfl) (by kernel_rfl) (fun _ _ _ h=>by cases h.1) (zmj rfl (cC 0 _ rfl) (cC 1 _ rfl) (cC 2 _ rfl) (cC 3 _ rfl) (cC 4 _ rfl) (cC 5 _ rfl) (cC 6 _ rfl) (cC 7 _ rfl) (cC 8 _ rfl) (cC 9 _ rfl) (cC 10 _ rfl) (cC 11 _ rfl) (cC 12 _ rfl) (cC 13 _ rfl)) ?_
 simp only [Act.put,List.setIfInBounds_toArray,List.set_cons_succ,List.set_cons_zero]
 refine zae (l':=#[true,false,false,false,false,false,false,false,false]) rfl ?_
 refine zat (i:=2) (oi:=⟨some 26,.build 59 #[(0,.const (num 1)),(1,.const (num 13)),(2,.const (num 15))],_,_,_,none⟩) (v:=.agg #[num 1,num 13,num 15]) rfl rfl (by kernel_rfl) (by kernel_rfl) (by kernel_rfl) (fun _ _ _ h=>by cases h.1) (yC rfl (fun _=>rfl) fun x hx=>by simp [execOp,go_sem]) ?_
 simp only [Act.put,List.setIfInBounds_toArray,List.set_cons_succ,List.set_cons_zero]
 refine zae (l':=#[true,false,true,false,false,false,false,false,false]) rfl ?_
 refine zat (i:=3) (oi:=⟨some 27,.build 59 #[(1,.const (num 15)),(2,.const (num 16))],_,_,_,none⟩) (v:=.agg #[num 0,num 15,num 16]) rfl rfl (by kernel_rfl) (by kernel_rfl) (by kernel_rfl) (fun _ _ _ h=>by cases h.1) (yC rfl (fun _=>rfl) fun x hx=>by simp [execOp,go_sem]) ?_
 simp only [Act.put,List.setIfInBounds_toArray,List.set_cons_succ,List.set_cons_zero]
 refine zae (l':=#[true,false,true,true,false,false,false,false,false]) rfl ?_
 refine zat (i:=4) (oi:=⟨some 28,.build 59 #[(0,.const (num 1)),(1,.const (num 17)),(2,.const (num 19))],_,_,_,none⟩) (v:=.agg #[num 1,num 17,num 19]) rfl rfl (by kernel_rfl) (by kernel_rfl) (by kernel_rfl) (fun _ _ _ h=>by cases h.1) (yC rfl (fun _=>rfl) fun x hx=>by simp [execOp,go_sem]) ?_
 simp only [Act.put,List.setIfInBounds_toArray,List.set_cons_succ,List.set_cons_zero]
 refine zae (l':=#[true,false,true,true,true,false,false,false,false]) rfl ?_
 have bW:=h0
 have dW:=h1
 have cW:=h2
 have kW:Km W W.drew b0:=⟨Nat.le_refl _,fun _ _ _=>rfl,rfl,rfl,rfl⟩
 change wpAnyC _ _ _ _ _ _ _ _ _ _ W.drew
 have bw0:W.drew.heap[b0]?=some (.cells #[x0,x1,x2,x3,x4,x5,x6,x7,x8,x9,x10,x11,x12,x13] 31 (0,0)):=h0
 have dw0:W.drew.heap[b1]?=some (.cells #[y0,y1,y2] 35 (0,0)):=h1
 have cw0:W.drew.heap[b2]?=some (.cells (exD.cellsA (exR rh rt rf rs rl rp)) 31 (0,0)):=h2
 generalize W.drew=w0 at kW bw0 dw0 cw0 ⊢
 have kw0:=kW
 refine zhi (i:=1) (j:=5) (oi:=⟨some 25,.call { callee:=.value (.func 35),args:=#[.const (num (-1)),.const (num 1)],argTypes:=#[3,3] },_,_,_,none⟩) (oj:=⟨some 29,.buildSlice 33 3 #[(0,.tmp 26),(1,.tmp 27),(2,.tmp 28)],_,_,_,none⟩) (by kernel_rfl) rfl rfl rfl rfl cw0 ?_ ?_
 ·intro K hK
  gi_big_op
  refine CallsIn.mono (zh6 _ _ _) ?_
  rintro e w1 ⟨rfl,nw1⟩
  have qw1:Kq w0 w1:=⟨nw1.size,fun k hk=>nw1.block k hk,nw1.os,nw1.tape,nw1.output⟩
  clear nw1
  refine hK _ _ ?_
  refine zae (l':=#[true,true,true,true,true,false,false,false,false]) rfl ?_
  have bw1:=(qw1.2.1 b0 (lt_of_some bw0)).trans bw0
  have dw1:=(qw1.2.1 b1 (lt_of_some dw0)).trans dw0
  have cw1:=(qw1.2.1 b2 (lt_of_some cw0)).trans cw0
  have kw1:Km W w1 b0:=⟨Nat.le_trans kw0.1 qw1.1,fun k h1 h2=>(qw1.2.1 k (Nat.lt_of_lt_of_le h1 kw0.1)).trans (kw0.2.1 k h1 h2),qw1.2.2.1.trans kw0.2.2.1,qw1.2.2.2.1.trans kw0.2.2.2.1,qw1.2.2.2.2.trans kw0.2.2.2.2⟩
  refine zhi (i:=5) (j:=7) (oi:=⟨some 29,.buildSlice 33 3 #[(0,.tmp 26),(1,.tmp 27),(2,.tmp 28)],_,_,_,none⟩) (oj:=⟨none,.store 31 (.tmp 0) (.tmp 24),_,_,_,none⟩) (by kernel_rfl) rfl rfl rfl rfl cw1 ?_ ?_
  ·intro K hK
   gi_big_op
   have qw2:Kq w1 (w1.alloc (.cells #[num 1,num 13,num 15,num 0,num 15,num 16,num 1,num 17,num 19] 59)):=⟨by simp,fun k hk=>heap_alloc_old _ _ hk,rfl,rfl,rfl⟩
   have gw2:(w1.alloc (.cells #[num 1,num 13,num 15,num 0,num 15,num 16,num 1,num 17,num 19] 59)).heap[w1.heap.size]?=some (.cells #[num 1,num 13,num 15,num 0,num 15,num 16,num 1,num 17,num 19] 59 (0,0)):=heap_alloc_new _ _
   have g0w2:w1.heap.size≠b0:=by have:=lt_of_some bw1;omega
   have g1w2:w1.heap.size≠b1:=by have:=lt_of_some dw1;omega
   refine hK _ _ ?_
   generalize hgw2:w1.heap.size=Gw2 at gw2 g0w2 g1w2 ⊢
   generalize (w1.alloc (.cells #[num 1,num 13,num 15,num 0,num 15,num 16,num 1,num 17,num 19] 59))=w2 at qw2 gw2 ⊢
   refine zae (l':=#[true,true,true,true,true,true,false,false,false]) rfl ?_
   have bw2:=(qw2.2.1 b0 (lt_of_some bw1)).trans bw1
   have dw2:=(qw2.2.1 b1 (lt_of_some dw1)).trans dw1
   have cw2:=(qw2.2.1 b2 (lt_of_some cw1)).trans cw1
   have kw2:Km W w2 b0:=⟨Nat.le_trans kw1.1 qw2.1,fun k h1 h2=>(qw2.2.1 k (Nat.lt_of_lt_of_le h1 kw1.1)).trans (kw1.2.1 k h1 h2),qw2.2.2.1.trans kw1.2.2.1,qw2.2.2.2.1.trans kw1.2.2.2.1,qw2.2.2.2.2.trans kw1.2.2.2.2⟩
   refine zat (i:=6) (oi:=⟨some 30,.build 35 #[(0,.tmp 25),(1,.tmp 29)],_,_,_,none⟩) (v:=.agg #[num (-1),num 1,.slice (some ⟨Gw2,0,none⟩) 3 3]) rfl rfl (by kernel_rfl) (by kernel_rfl) (by kernel_rfl) (fun _ _ _ h=>by cases h.1) (yC rfl (fun _=>rfl) fun x hx=>by simp [execOp,go_sem]) ?_
   simp only [Act.put,List.setIfInBounds_toArray,List.set_cons_succ,List.set_cons_zero]
   refine zae (l':=#[true,true,true,true,true,true,true,false,false]) rfl ?_
   refine zau (i:=7) (o:=⟨none,.store 31 (.tmp 0) (.tmp 24),_,_,_,none⟩) (by kernel_rfl) rfl rfl cw2 ?_
   intro K hK
   refine zb4 rfl rfl (zdT rfl rfl bw2) ?_
   simp only [Act.put]
   refine hK _ _ ?_
   have bw3:=zpv (v0:=.slice (some ⟨rh,0,none⟩) 2 2) (v1:=.slice (some ⟨rt,0,none⟩) 3 3) (v2:=num 10) (v3:=num 24) (v4:=num 20) (v5:=num 4) (v6:=.slice (some ⟨rf,0,none⟩) 1 1) (v7:=.slice (some ⟨rs,0,none⟩) 1 1) (v8:=.slice (some ⟨rl,0,none⟩) 1 1) (v9:=num 100) (v10:=num 120) (v11:=num 100) (v12:=num 200) (v13:=.slice (some ⟨rp,0,none⟩) 3 3) bw2
   have qw3:=fun k (h:k≠b0)=>zjj (k:=k) (w:=w2) (b:=b0) (v0:=.slice (some ⟨rh,0,none⟩) 2 2) (v1:=.slice (some ⟨rt,0,none⟩) 3 3) (v2:=num 10) (v3:=num 24) (v4:=num 20) (v5:=num 4) (v6:=.slice (some ⟨rf,0,none⟩) 1 1) (v7:=.slice (some ⟨rs,0,none⟩) 1 1) (v8:=.slice (some ⟨rl,0,none⟩) 1 1) (v9:=num 100) (v10:=num 120) (v11:=num 100) (v12:=num 200) (v13:=.slice (some ⟨rp,0,none⟩) 3 3) h
   have zw3:=zl3 (w:=w2) (b:=b0) (v0:=.slice (some ⟨rh,0,none⟩) 2 2) (v1:=.slice (some ⟨rt,0,none⟩) 3 3) (v2:=num 10) (v3:=num 24) (v4:=num 20) (v5:=num 4) (v6:=.slice (some ⟨rf,0,none⟩) 1 1) (v7:=.slice (some ⟨rs,0,none⟩) 1 1) (v8:=.slice (some ⟨rl,0,none⟩) 1 1) (v9:=num 100) (v10:=num 120) (v11:=num 100) (v12:=num 200) (v13:=.slice (some ⟨rp,0,none⟩) 3 3)
   change wpAnyC _ _ _ _ _ _ _ _ _ _ ((((((((((((((w2.setCell ⟨b0,0,none⟩ (.slice (some ⟨rh,0,none⟩) 2 2)).setCell ⟨b0,1,none⟩ (.slice (some ⟨rt,0,none⟩) 3 3)).setCell ⟨b0,2,none⟩ (num 10)).setCell ⟨b0,3,none⟩ (num 24)).setCell ⟨b0,4,none⟩ (num 20)).setCell ⟨b0,5,none⟩ (num 4)).setCell ⟨b0,6,none⟩ (.slice (some ⟨rf,0,none⟩) 1 1)).setCell ⟨b0,7,none⟩ (.slice (some ⟨rs,0,none⟩) 1 1)).setCell ⟨b0,8,none⟩ (.slice (some ⟨rl,0,none⟩) 1 1)).setCell ⟨b0,9,none⟩ (num 100)).setCell ⟨b0,10,none⟩ (num 120)).setCell ⟨b0,11,none⟩ (num 100)).setCell ⟨b0,12,none⟩ (num 200)).setCell ⟨b0,13,none⟩ (.slice (some ⟨rp,0,none⟩) 3 3))
   have yw3:((((((((((((((w2.setCell ⟨b0,0,none⟩ (.slice (some ⟨rh,0,none⟩) 2 2)).setCell ⟨b0,1,none⟩ (.slice (some ⟨rt,0,none⟩) 3 3)).setCell ⟨b0,2,none⟩ (num 10)).setCell ⟨b0,3,none⟩ (num 24)).setCell ⟨b0,4,none⟩ (num 20)).setCell ⟨b0,5,none⟩ (num 4)).setCell ⟨b0,6,none⟩ (.slice (some ⟨rf,0,none⟩) 1 1)).setCell ⟨b0,7,none⟩ (.slice (some ⟨rs,0,none⟩) 1 1)).setCell ⟨b0,8,none⟩ (.slice (some ⟨rl,0,none⟩) 1 1)).setCell ⟨b0,9,none⟩ (num 100)).setCell ⟨b0,10,none⟩ (num 120)).setCell ⟨b0,11,none⟩ (num 100)).setCell ⟨b0,12,none⟩ (num 200)).setCell ⟨b0,13,none⟩ (.slice (some ⟨rp,0,none⟩) 3 3)).os=w2.os∧((((((((((((((w2.setCell ⟨b0,0,none⟩ (.slice (some ⟨rh,0,none⟩) 2 2)).setCell ⟨b0,1,none⟩ (.slice (some ⟨rt,0,none⟩) 3 3)).setCell ⟨b0,2,none⟩ (num 10)).setCell ⟨b0,3,none⟩ (num 24)).setCell ⟨b0,4,none⟩ (num 20)).setCell ⟨b0,5,none⟩ (num 4)).setCell ⟨b0,6,none⟩ (.slice (some ⟨rf,0,none⟩) 1 1)).setCell ⟨b0,7,none⟩ (.slice (some ⟨rs,0,none⟩) 1 1)).setCell ⟨b0,8,none⟩ (.slice (some ⟨rl,0,none⟩) 1 1)).setCell ⟨b0,9,none⟩ (num 100)).setCell ⟨b0,10,none⟩ (num 120)).setCell ⟨b0,11,none⟩ (num 100)).setCell ⟨b0,12,none⟩ (num 200)).setCell ⟨b0,13,none⟩ (.slice (some ⟨rp,0,none⟩) 3 3)).tape=w2.tape∧((((((((((((((w2.setCell ⟨b0,0,none⟩ (.slice (some ⟨rh,0,none⟩) 2 2)).setCell ⟨b0,1,none⟩ (.slice (some ⟨rt,0,none⟩) 3 3)).setCell ⟨b0,2,none⟩ (num 10)).setCell ⟨b0,3,none⟩ (num 24)).setCell ⟨b0,4,none⟩ (num 20)).setCell ⟨b0,5,none⟩ (num 4)).setCell ⟨b0,6,none⟩ (.slice (some ⟨rf,0,none⟩) 1 1)).setCell ⟨b0,7,none⟩ (.slice (some ⟨rs,0,none⟩) 1 1)).setCell ⟨b0,8,none⟩ (.slice (some ⟨rl,0,none⟩) 1 1)).setCell ⟨b0,9,none⟩ (num 100)).setCell ⟨b0,10,none⟩ (num 120)).setCell ⟨b0,11,none⟩ (num 100)).setCell ⟨b0,12,none⟩ (num 200)).setCell ⟨b0,13,none⟩ (.slice (some ⟨rp,0,none⟩) 3 3)).output=w2.output:=zoN
   generalize (((((((((((((w2.setCell ⟨b0,0,none⟩ (.slice (some ⟨rh,0,none⟩) 2 2)).setCell ⟨b0,1,none⟩ (.slice (some ⟨rt,0,none⟩) 3 3)).setCell ⟨b0,2,none⟩ (num 10)).setCell ⟨b0,3,none⟩ (num 24)).setCell ⟨b0,4,none⟩ (num 20)).setCell ⟨b0,5,none⟩ (num 4)).setCell ⟨b0,6,none⟩ (.slice (some ⟨rf,0,none⟩) 1 1)).setCell ⟨b0,7,none⟩ (.slice (some ⟨rs,0,none⟩) 1 1)).setCell ⟨b0,8,none⟩ (.slice (some ⟨rl,0,none⟩) 1 1)).setCell ⟨b0,9,none⟩ (num 100)).setCell ⟨b0,10,none⟩ (num 120)).setCell ⟨b0,11,none⟩ (num 100)).setCell ⟨b0,12,none⟩ (num 200)).setCell ⟨b0,13,none⟩ (.slice (some ⟨rp,0,none⟩) 3 3)=w3 at bw3 qw3 zw3 yw3 ⊢
   refine zae (l':=#[true,true,true,true,true,true,true,true,false]) rfl ?_
   have dw3:=(qw3 b1 (Ne.symm h01)).trans dw2
   have cw3:=(qw3 b2 (Ne.symm h02)).trans cw2
   have kw3:Km W w3 b0:=⟨by rw [zw3];exact kw2.1,fun k h1 h2=>(qw3 k h2).trans (kw2.2.1 k h1 h2),yw3.1.trans kw2.2.2.1,yw3.2.1.trans kw2.2.2.2.1,yw3.2.2.trans kw2.2.2.2.2⟩
   have gw3:=(qw3 Gw2 g0w2).trans gw2
   have g0w3:=g0w2
   have g1w3:=g1w2
   refine zau (i:=8) (o:=⟨none,.store 35 (.tmp 1) (.tmp 30),_,_,_,none⟩) (by kernel_rfl) rfl rfl cw3 ?_
   intro K hK
   refine zb4 rfl rfl (zdP (v0:=-1) (v1:=1) (a2:=some ⟨Gw2,0,none⟩) (n2:=3) (c2:=3) rfl rfl dw3) ?_
   simp only [Act.put]
   refine hK _ _ ?_
   refine zae (l':=#[true,true,true,true,true,true,true,true,true]) rfl ?_
   have hb:=set3 (v0:=num (-1)) (v1:=num 1) (v2:=.slice (some ⟨Gw2,0,none⟩) 3 3) dw3
   refine zbk (by kernel_rfl) ((zav _ _ _ _ 0 (Ne.symm h12)).trans cw3) ⟨rfl,rfl,rfl,rfl,fun k h1 h2 h3=>(zav _ _ _ _ 0 h3).trans (kw3.2.1 k h1 h2),by simpa using kw3.1,kw3.2.2.1,kw3.2.2.2.1,kw3.2.2.2.2,(zav _ _ _ _ 0 h01).trans bw3,Gw2,g0w3,g1w3,hb,(zav _ _ _ _ 0 g1w3).trans gw3⟩
  ·intro K hK
   refine zb4 rfl rfl (zdT rfl rfl bw1) ?_
   simp only [Act.put]
   refine hK _ _ ?_
   have bw4:=zpv (v0:=.slice (some ⟨rh,0,none⟩) 2 2) (v1:=.slice (some ⟨rt,0,none⟩) 3 3) (v2:=num 10) (v3:=num 24) (v4:=num 20) (v5:=num 4) (v6:=.slice (some ⟨rf,0,none⟩) 1 1) (v7:=.slice (some ⟨rs,0,none⟩) 1 1) (v8:=.slice (some ⟨rl,0,none⟩) 1 1) (v9:=num 100) (v10:=num 120) (v11:=num 100) (v12:=num 200) (v13:=.slice (some ⟨rp,0,none⟩) 3 3) bw1
   have qw4:=fun k (h:k≠b0)=>zjj (k:=k) (w:=w1) (b:=b0) (v0:=.slice (some ⟨rh,0,none⟩) 2 2) (v1:=.slice (some ⟨rt,0,none⟩) 3 3) (v2:=num 10) (v3:=num 24) (v4:=num 20) (v5:=num 4) (v6:=.slice (some ⟨rf,0,none⟩) 1 1) (v7:=.slice (some ⟨rs,0,none⟩) 1 1) (v8:=.slice (some ⟨rl,0,none⟩) 1 1) (v9:=num 100) (v10:=num 120) (v11:=num 100) (v12:=num 200) (v13:=.slice (some ⟨rp,0,none⟩) 3 3) h
   have zw4:=zl3 (w:=w1) (b:=b0) (v0:=.slice (some ⟨rh,0,none⟩) 2 2) (v1:=.slice (some ⟨rt,0,none⟩) 3 3) (v2:=num 10) (v3:=num 24) (v4:=num 20) (v5:=num 4) (v6:=.slice (some ⟨rf,0,none⟩) 1 1) (v7:=.slice (some ⟨rs,0,none⟩) 1 1) (v8:=.slice (some ⟨rl,0,none⟩) 1 1) (v9:=num 100) (v10:=num 120) (v11:=num 100) (v12:=num 200) (v13:=.slice (some ⟨rp,0,none⟩) 3 3)
   change wpAnyC _ _ _ _ _ _ _ _ _ _ ((((((((((((((w1.setCell ⟨b0,0,none⟩ (.slice (some ⟨rh,0,none⟩) 2 2)).setCell ⟨b0,1,none⟩ (.slice (some ⟨rt,0,none⟩) 3 3)).setCell ⟨b0,2,none⟩ (num 10)).setCell ⟨b0,3,none⟩ (num 24)).setCell ⟨b0,4,none⟩ (num 20)).setCell ⟨b0,5,none⟩ (num 4)).setCell ⟨b0,6,none⟩ (.slice (some ⟨rf,0,none⟩) 1 1)).setCell ⟨b0,7,none⟩ (.slice (some ⟨rs,0,none⟩) 1 1)).setCell ⟨b0,8,none⟩ (.slice (some ⟨rl,0,none⟩) 1 1)).setCell ⟨b0,9,none⟩ (num 100)).setCell ⟨b0,10,none⟩ (num 120)).setCell ⟨b0,11,none⟩ (num 100)).setCell ⟨b0,12,none⟩ (num 200)).setCell ⟨b0,13,none⟩ (.slice (some ⟨rp,0,none⟩) 3 3))
   have yw4:((((((((((((((w1.setCell ⟨b0,0,none⟩ (.slice (some ⟨rh,0,none⟩) 2 2)).setCell ⟨b0,1,none⟩ (.slice (some ⟨rt,0,none⟩) 3 3)).setCell ⟨b0,2,none⟩ (num 10)).setCell ⟨b0,3,none⟩ (num 24)).setCell ⟨b0,4,none⟩ (num 20)).setCell ⟨b0,5,none⟩ (num 4)).setCell ⟨b0,6,none⟩ (.slice (some ⟨rf,0,none⟩) 1 1)).setCell ⟨b0,7,none⟩ (.slice (some ⟨rs,0,none⟩) 1 1)).setCell ⟨b0,8,none⟩ (.slice (some ⟨rl,0,none⟩) 1 1)).setCell ⟨b0,9,none⟩ (num 100)).setCell ⟨b0,10,none⟩ (num 120)).setCell ⟨b0,11,none⟩ (num 100)).setCell ⟨b0,12,none⟩ (num 200)).setCell ⟨b0,13,none⟩ (.slice (some ⟨rp,0,none⟩) 3 3)).os=w1.os∧((((((((((((((w1.setCell ⟨b0,0,none⟩ (.slice (some ⟨rh,0,none⟩) 2 2)).setCell ⟨b0,1,none⟩ (.slice (some ⟨rt,0,none⟩) 3 3)).setCell ⟨b0,2,none⟩ (num 10)).setCell ⟨b0,3,none⟩ (num 24)).setCell ⟨b0,4,none⟩ (num 20)).setCell ⟨b0,5,none⟩ (num 4)).setCell ⟨b0,6,none⟩ (.slice (some ⟨rf,0,none⟩) 1 1)).setCell ⟨b0,7,none⟩ (.slice (some ⟨rs,0,none⟩) 1 1)).setCell ⟨b0,8,none⟩ (.slice (some ⟨rl,0,none⟩) 1 1)).setCell ⟨b0,9,none⟩ (num 100)).setCell ⟨b0,10,none⟩ (num 120)).setCell ⟨b0,11,none⟩ (num 100)).setCell ⟨b0,12,none⟩ (num 200)).setCell ⟨b0,13,none⟩ (.slice (some ⟨rp,0,none⟩) 3 3)).tape=w1.tape∧((((((((((((((w1.setCell ⟨b0,0,none⟩ (.slice (some ⟨rh,0,none⟩) 2 2)).setCell ⟨b0,1,none⟩ (.slice (some ⟨rt,0,none⟩) 3 3)).setCell ⟨b0,2,none⟩ (num 10)).setCell ⟨b0,3,none⟩ (num 24)).setCell ⟨b0,4,none⟩ (num 20)).setCell ⟨b0,5,none⟩ (num 4)).setCell ⟨b0,6,none⟩ (.slice (some ⟨rf,0,none⟩) 1 1)).setCell ⟨b0,7,none⟩ (.slice (some ⟨rs,0,none⟩) 1 1)).setCell ⟨b0,8,none⟩ (.slice (some ⟨rl,0,none⟩) 1 1)).setCell ⟨b0,9,none⟩ (num 100)).setCell ⟨b0,10,none⟩ (num 120)).setCell ⟨b0,11,none⟩ (num 100)).setCell ⟨b0,12,none⟩ (num 200)).setCell ⟨b0,13,none⟩ (.slice (some ⟨rp,0,none⟩) 3 3)).output=w1.output:=zoN
   generalize (((((((((((((w1.setCell ⟨b0,0,none⟩ (.slice (some ⟨rh,0,none⟩) 2 2)).setCell ⟨b0,1,none⟩ (.slice (some ⟨rt,0,none⟩) 3 3)).setCell ⟨b0,2,none⟩ (num 10)).setCell ⟨b0,3,none⟩ (num 24)).setCell ⟨b0,4,none⟩ (num 20)).setCell ⟨b0,5,none⟩ (num 4)).setCell ⟨b0,6,none⟩ (.slice (some ⟨rf,0,none⟩) 1 1)).setCell ⟨b0,7,none⟩ (.slice (some ⟨rs,0,none⟩) 1 1)).setCell ⟨b0,8,none⟩ (.slice (some ⟨rl,0,none⟩) 1 1)).setCell ⟨b0,9,none⟩ (num 100)).setCell ⟨b0,10,none⟩ (num 120)).setCell ⟨b0,11,none⟩ (num 100)).setCell ⟨b0,12,none⟩ (num 200)).setCell ⟨b0,13,none⟩ (.slice (some ⟨rp,0,none⟩) 3 3)=w4 at bw4 qw4 zw4 yw4 ⊢
   refine zae (l':=#[true,true,true,true,true,false,false,true,false]) rfl ?_
   have dw4:=(qw4 b1 (Ne.symm h01)).trans dw1
   have cw4:=(qw4 b2 (Ne.symm h02)).trans cw1
   have kw4:Km W w4 b0:=⟨by rw [zw4];exact kw1.1,fun k h1 h2=>(qw4 k h2).trans (kw1.2.1 k h1 h2),yw4.1.trans kw1.2.2.1,yw4.2.1.trans kw1.2.2.2.1,yw4.2.2.trans kw1.2.2.2.2⟩
   refine zau (i:=5) (o:=⟨some 29,.buildSlice 33 3 #[(0,.tmp 26),(1,.tmp 27),(2,.tmp 28)],_,_,_,none⟩) (by kernel_rfl) rfl rfl cw4 ?_
   intro K hK
   gi_big_op
   have qw5:Kq w4 (w4.alloc (.cells #[num 1,num 13,num 15,num 0,num 15,num 16,num 1,num 17,num 19] 59)):=⟨by simp,fun k hk=>heap_alloc_old _ _ hk,rfl,rfl,rfl⟩
   have gw5:(w4.alloc (.cells #[num 1,num 13,num 15,num 0,num 15,num 16,num 1,num 17,num 19] 59)).heap[w4.heap.size]?=some (.cells #[num 1,num 13,num 15,num 0,num 15,num 16,num 1,num 17,num 19] 59 (0,0)):=heap_alloc_new _ _
   have g0w5:w4.heap.size≠b0:=by have:=lt_of_some bw4;omega
   have g1w5:w4.heap.size≠b1:=by have:=lt_of_some dw4;omega
   refine hK _ _ ?_
   generalize hgw5:w4.heap.size=Gw5 at gw5 g0w5 g1w5 ⊢
   generalize (w4.alloc (.cells #[num 1,num 13,num 15,num 0,num 15,num 16,num 1,num 17,num 19] 59))=w5 at qw5 gw5 ⊢
   refine zae (l':=#[true,true,true,true,true,true,false,true,false]) rfl ?_
   have bw5:=(qw5.2.1 b0 (lt_of_some bw4)).trans bw4
   have dw5:=(qw5.2.1 b1 (lt_of_some dw4)).trans dw4
   have cw5:=(qw5.2.1 b2 (lt_of_some cw4)).trans cw4
   have kw5:Km W w5 b0:=⟨Nat.le_trans kw4.1 qw5.1,fun k h1 h2=>(qw5.2.1 k (Nat.lt_of_lt_of_le h1 kw4.1)).trans (kw4.2.1 k h1 h2),qw5.2.2.1.trans kw4.2.2.1,qw5.2.2.2.1.trans kw4.2.2.2.1,qw5.2.2.2.2.trans kw4.2.2.2.2⟩
   refine zat (i:=6) (oi:=⟨some 30,.build 35 #[(0,.tmp 25),(1,.tmp 29)],_,_,_,none⟩) (v:=.agg #[num (-1),num 1,.slice (some ⟨Gw5,0,none⟩) 3 3]) rfl rfl (by kernel_rfl) (by kernel_rfl) (by kernel_rfl) (fun _ _ _ h=>by cases h.1) (yC rfl (fun _=>rfl) fun x hx=>by simp [execOp,go_sem]) ?_
   simp only [Act.put,List.setIfInBounds_toArray,List.set_cons_succ,List.set_cons_zero]
   refine zae (l':=#[true,true,true,true,true,true,true,true,false]) rfl ?_
   refine zau (i:=8) (o:=⟨none,.store 35 (.tmp 1) (.tmp 30),_,_,_,none⟩) (by kernel_rfl) rfl rfl cw5 ?_
   intro K hK
   refine zb4 rfl rfl (zdP (v0:=-1) (v1:=1) (a2:=some ⟨Gw5,0,none⟩) (n2:=3) (c2:=3) rfl rfl dw5) ?_
   simp only [Act.put]
   refine hK _ _ ?_
   refine zae (l':=#[true,true,true,true,true,true,true,true,true]) rfl ?_
   have hb:=set3 (v0:=num (-1)) (v1:=num 1) (v2:=.slice (some ⟨Gw5,0,none⟩) 3 3) dw5
   refine zbk (by kernel_rfl) ((zav _ _ _ _ 0 (Ne.symm h12)).trans cw5) ⟨rfl,rfl,rfl,rfl,fun k h1 h2 h3=>(zav _ _ _ _ 0 h3).trans (kw5.2.1 k h1 h2),by simpa using kw5.1,kw5.2.2.1,kw5.2.2.2.1,kw5.2.2.2.2,(zav _ _ _ _ 0 h01).trans bw5,Gw5,g0w5,g1w5,hb,(zav _ _ _ _ 0 g1w5).trans gw5⟩
 ·intro K hK
  gi_big_op
  have qw6:Kq w0 (w0.alloc (.cells #[num 1,num 13,num 15,num 0,num 15,num 16,num 1,num 17,num 19] 59)):=⟨by simp,fun k hk=>heap_alloc_old _ _ hk,rfl,rfl,rfl⟩
  have gw6:(w0.alloc (.cells #[num 1,num 13,num 15,num 0,num 15,num 16,num 1,num 17,num 19] 59)).heap[w0.heap.size]?=some (.cells #[num 1,num 13,num 15,num 0,num 15,num 16,num 1,num 17,num 19] 59 (0,0)):=heap_alloc_new _ _
  have g0w6:w0.heap.size≠b0:=by have:=lt_of_some bw0;omega
  have g1w6:w0.heap.size≠b1:=by have:=lt_of_some dw0;omega
  refine hK _ _ ?_
  generalize hgw6:w0.heap.size=Gw6 at gw6 g0w6 g1w6 ⊢
  generalize (w0.alloc (.cells #[num 1,num 13,num 15,num 0,num 15,num 16,num 1,num 17,num 19] 59))=w6 at qw6 gw6 ⊢
  refine zae (l':=#[true,false,true,true,true,true,false,false,false]) rfl ?_
  have bw6:=(qw6.2.1 b0 (lt_of_some bw0)).trans bw0
  have dw6:=(qw6.2.1 b1 (lt_of_some dw0)).trans dw0
  have cw6:=(qw6.2.1 b2 (lt_of_some cw0)).trans cw0
  have kw6:Km W w6 b0:=⟨Nat.le_trans kw0.1 qw6.1,fun k h1 h2=>(qw6.2.1 k (Nat.lt_of_lt_of_le h1 kw0.1)).trans (kw0.2.1 k h1 h2),qw6.2.2.1.trans kw0.2.2.1,qw6.2.2.2.1.trans kw0.2.2.2.1,qw6.2.2.2.2.trans kw0.2.2.2.2⟩
  refine zau (i:=1) (o:=⟨some 25,.call { callee:=.value (.func 35),args:=#[.const (num (-1)),.const (num 1)],argTypes:=#[3,3] },_,_,_,none⟩) (by kernel_rfl) rfl rfl cw6 ?_
  intro K hK
  gi_big_op
  refine CallsIn.mono (zh6 _ _ _) ?_
  rintro e w7 ⟨rfl,nw7⟩
  have qw7:Kq w6 w7:=⟨nw7.size,fun k hk=>nw7.block k hk,nw7.os,nw7.tape,nw7.output⟩
  clear nw7
  refine hK _ _ ?_
  refine zae (l':=#[true,true,true,true,true,true,false,false,false]) rfl ?_
  have bw7:=(qw7.2.1 b0 (lt_of_some bw6)).trans bw6
  have dw7:=(qw7.2.1 b1 (lt_of_some dw6)).trans dw6
  have cw7:=(qw7.2.1 b2 (lt_of_some cw6)).trans cw6
  have kw7:Km W w7 b0:=⟨Nat.le_trans kw6.1 qw7.1,fun k h1 h2=>(qw7.2.1 k (Nat.lt_of_lt_of_le h1 kw6.1)).trans (kw6.2.1 k h1 h2),qw7.2.2.1.trans kw6.2.2.1,qw7.2.2.2.1.trans kw6.2.2.2.1,qw7.2.2.2.2.trans kw6.2.2.2.2⟩
  have gw7:=(qw7.2.1 Gw6 (lt_of_some gw6)).trans gw6
  have g0w7:=g0w6
  have g1w7:=g1w6
  refine zat (i:=6) (oi:=⟨some 30,.build 35 #[(0,.tmp 25),(1,.tmp 29)],_,_,_,none⟩) (v:=.agg #[num (-1),num 1,.slice (some ⟨Gw6,0,none⟩) 3 3]) rfl rfl (by kernel_rfl) (by kernel_rfl) (by kernel_rfl) (fun _ _ _ h=>by cases h.1) (yC rfl (fun _=>rfl) fun x hx=>by simp [execOp,go_sem]) ?_
  simp only [Act.put,List.setIfInBounds_toArray,List.set_cons_succ,List.set_cons_zero]
  refine zae (l':=#[true,true,true,true,true,true,true,false,false]) rfl ?_
  refine zau (i:=7) (o:=⟨none,.store 31 (.tmp 0) (.tmp 24),_,_,_,none⟩) (by kernel_rfl) rfl rfl cw7 ?_
  intro K hK
  refine zb4 rfl rfl (zdT rfl rfl bw7) ?_
  simp only [Act.put]
  refine hK _ _ ?_
  have bw8:=zpv (v0:=.slice (some ⟨rh,0,none⟩) 2 2) (v1:=.slice (some ⟨rt,0,none⟩) 3 3) (v2:=num 10) (v3:=num 24) (v4:=num 20) (v5:=num 4) (v6:=.slice (some ⟨rf,0,none⟩) 1 1) (v7:=.slice (some ⟨rs,0,none⟩) 1 1) (v8:=.slice (some ⟨rl,0,none⟩) 1 1) (v9:=num 100) (v10:=num 120) (v11:=num 100) (v12:=num 200) (v13:=.slice (some ⟨rp,0,none⟩) 3 3) bw7
  have qw8:=fun k (h:k≠b0)=>zjj (k:=k) (w:=w7) (b:=b0) (v0:=.slice (some ⟨rh,0,none⟩) 2 2) (v1:=.slice (some ⟨rt,0,none⟩) 3 3) (v2:=num 10) (v3:=num 24) (v4:=num 20) (v5:=num 4) (v6:=.slice (some ⟨rf,0,none⟩) 1 1) (v7:=.slice (some ⟨rs,0,none⟩) 1 1) (v8:=.slice (some ⟨rl,0,none⟩) 1 1) (v9:=num 100) (v10:=num 120) (v11:=num 100) (v12:=num 200) (v13:=.slice (some ⟨rp,0,none⟩) 3 3) h
  have zw8:=zl3 (w:=w7) (b:=b0) (v0:=.slice (some ⟨rh,0,none⟩) 2 2) (v1:=.slice (some ⟨rt,0,none⟩) 3 3) (v2:=num 10) (v3:=num 24) (v4:=num 20) (v5:=num 4) (v6:=.slice (some ⟨rf,0,none⟩) 1 1) (v7:=.slice (some ⟨rs,0,none⟩) 1 1) (v8:=.slice (some ⟨rl,0,none⟩) 1 1) (v9:=num 100) (v10:=num 120) (v11:=num 100) (v12:=num 200) (v13:=.slice (some ⟨rp,0,none⟩) 3 3)
  change wpAnyC _ _ _ _ _ _ _ _ _ _ ((((((((((((((w7.setCell ⟨b0,0,none⟩ (.slice (some ⟨rh,0,none⟩) 2 2)).setCell ⟨b0,1,none⟩ (.slice (some ⟨rt,0,none⟩) 3 3)).setCell ⟨b0,2,none⟩ (num 10)).setCell ⟨b0,3,none⟩ (num 24)).setCell ⟨b0,4,none⟩ (num 20)).setCell ⟨b0,5,none⟩ (num 4)).setCell ⟨b0,6,none⟩ (.slice (some ⟨rf,0,none⟩) 1 1)).setCell ⟨b0,7,none⟩ (.slice (some ⟨rs,0,none⟩) 1 1)).setCell ⟨b0,8,none⟩ (.slice (some ⟨rl,0,none⟩) 1 1)).setCell ⟨b0,9,none⟩ (num 100)).setCell ⟨b0,10,none⟩ (num 120)).setCell ⟨b0,11,none⟩ (num 100)).setCell ⟨b0,12,none⟩ (num 200)).setCell ⟨b0,13,none⟩ (.slice (some ⟨rp,0,none⟩) 3 3))
  have yw8:((((((((((((((w7.setCell ⟨b0,0,none⟩ (.slice (some ⟨rh,0,none⟩) 2 2)).setCell ⟨b0,1,none⟩ (.slice (some ⟨rt,0,none⟩) 3 3)).setCell ⟨b0,2,none⟩ (num 10)).setCell ⟨b0,3,none⟩ (num 24)).setCell ⟨b0,4,none⟩ (num 20)).setCell ⟨b0,5,none⟩ (num 4)).setCell ⟨b0,6,none⟩ (.slice (some ⟨rf,0,none⟩) 1 1)).setCell ⟨b0,7,none⟩ (.slice (some ⟨rs,0,none⟩) 1 1)).setCell ⟨b0,8,none⟩ (.slice (some ⟨rl,0,none⟩) 1 1)).setCell ⟨b0,9,none⟩ (num 100)).setCell ⟨b0,10,none⟩ (num 120)).setCell ⟨b0,11,none⟩ (num 100)).setCell ⟨b0,12,none⟩ (num 200)).setCell ⟨b0,13,none⟩ (.slice (some ⟨rp,0,none⟩) 3 3)).os=w7.os∧((((((((((((((w7.setCell ⟨b0,0,none⟩ (.slice (some ⟨rh,0,none⟩) 2 2)).setCell ⟨b0,1,none⟩ (.slice (some ⟨rt,0,none⟩) 3 3)).setCell ⟨b0,2,none⟩ (num 10)).setCell ⟨b0,3,none⟩ (num 24)).setCell ⟨b0,4,none⟩ (num 20)).setCell ⟨b0,5,none⟩ (num 4)).setCell ⟨b0,6,none⟩ (.slice (some ⟨rf,0,none⟩) 1 1)).setCell ⟨b0,7,none⟩ (.slice (some ⟨rs,0,none⟩) 1 1)).setCell ⟨b0,8,none⟩ (.slice (some ⟨rl,0,none⟩) 1 1)).setCell ⟨b0,9,none⟩ (num 100)).setCell ⟨b0,10,none⟩ (num 120)).setCell ⟨b0,11,none⟩ (num 100)).setCell ⟨b0,12,none⟩ (num 200)).setCell ⟨b0,13,none⟩ (.slice (some ⟨rp,0,none⟩) 3 3)).tape=w7.tape∧((((((((((((((w7.setCell ⟨b0,0,none⟩ (.slice (some ⟨rh,0,none⟩) 2 2)).setCell ⟨b0,1,none⟩ (.slice (some ⟨rt,0,none⟩) 3 3)).setCell ⟨b0,2,none⟩ (num 10)).setCell ⟨b0,3,none⟩ (num 24)).setCell ⟨b0,4,none⟩ (num 20)).setCell ⟨b0,5,none⟩ (num 4)).setCell ⟨b0,6,none⟩ (.slice (some ⟨rf,0,none⟩) 1 1)).setCell ⟨b0,7,none⟩ (.slice (some ⟨rs,0,none⟩) 1 1)).setCell ⟨b0,8,none⟩ (.slice (some ⟨rl,0,none⟩) 1 1)).setCell ⟨b0,9,none⟩ (num 100)).setCell ⟨b0,10,none⟩ (num 120)).setCell ⟨b0,11,none⟩ (num 100)).setCell ⟨b0,12,none⟩ (num 200)).setCell ⟨b0,13,none⟩ (.slice (some ⟨rp,0,none⟩) 3 3)).output=w7.output:=zoN
  generalize (((((((((((((w7.setCell ⟨b0,0,none⟩ (.slice (some ⟨rh,0,none⟩) 2 2)).setCell ⟨b0,1,none⟩ (.slice (some ⟨rt,0,none⟩) 3 3)).setCell ⟨b0,2,none⟩ (num 10)).setCell ⟨b0,3,none⟩ (num 24)).setCell ⟨b0,4,none⟩ (num 20)).setCell ⟨b0,5,none⟩ (num 4)).setCell ⟨b0,6,none⟩ (.slice (some ⟨rf,0,none⟩) 1 1)).setCell ⟨b0,7,none⟩ (.slice (some ⟨rs,0,none⟩) 1 1)).setCell ⟨b0,8,none⟩ (.slice (some ⟨rl,0,none⟩) 1 1)).setCell ⟨b0,9,none⟩ (num 100)).setCell ⟨b0,10,none⟩ (num 120)).setCell ⟨b0,11,none⟩ (num 100)).setCell ⟨b0,12,none⟩ (num 200)).setCell ⟨b0,13,none⟩ (.slice (some ⟨rp,0,none⟩) 3 3)=w8 at bw8 qw8 zw8 yw8 ⊢
  refine zae (l':=#[true,true,true,true,true,true,true,true,false]) rfl ?_
  have dw8:=(qw8 b1 (Ne.symm h01)).trans dw7
  have cw8:=(qw8 b2 (Ne.symm h02)).trans cw7
  have kw8:Km W w8 b0:=⟨by rw [zw8];exact kw7.1,fun k h1 h2=>(qw8 k h2).trans (kw7.2.1 k h1 h2),yw8.1.trans kw7.2.2.1,yw8.2.1.trans kw7.2.2.2.1,yw8.2.2.trans kw7.2.2.2.2⟩
  have gw8:=(qw8 Gw6 g0w7).trans gw7
  have g0w8:=g0w7
  have g1w8:=g1w7
  refine zau (i:=8) (o:=⟨none,.store 35 (.tmp 1) (.tmp 30),_,_,_,none⟩) (by kernel_rfl) rfl rfl cw8 ?_
  intro K hK
  refine zb4 rfl rfl (zdP (v0:=-1) (v1:=1) (a2:=some ⟨Gw6,0,none⟩) (n2:=3) (c2:=3) rfl rfl dw8) ?_
  simp only [Act.put]
  refine hK _ _ ?_
  refine zae (l':=#[true,true,true,true,true,true,true,true,true]) rfl ?_
  have hb:=set3 (v0:=num (-1)) (v1:=num 1) (v2:=.slice (some ⟨Gw6,0,none⟩) 3 3) dw8
  refine zbk (by kernel_rfl) ((zav _ _ _ _ 0 (Ne.symm h12)).trans cw8) ⟨rfl,rfl,rfl,rfl,fun k h1 h2 h3=>(zav _ _ _ _ 0 h3).trans (kw8.2.1 k h1 h2),by simpa using kw8.1,kw8.2.2.1,kw8.2.2.2.1,kw8.2.2.2.2,(zav _ _ _ _ 0 h01).trans bw8,Gw6,g0w8,g1w8,hb,(zav _ _ _ _ 0 g1w8).trans gw8⟩
end Go.Proofs.YtolholkjeehamaaDoor
