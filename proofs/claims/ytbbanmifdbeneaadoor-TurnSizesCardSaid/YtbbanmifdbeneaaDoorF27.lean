import Derived.Test.YtbbanmifdbeneaaDoorF26
set_option linter.all false
set_option maxRecDepth 100000
set_option maxHeartbeats 4000000
namespace Go.Proofs.YtbbanmifdbeneaaDoor
open Go.RowKit Go.Con Go.Conc
local instance:Lone:=zcG
theorem zlm {dst:Option Nat} {ty:TypeId} {pos:String} {af:Array Edge} {x y z u:Nat} {v1 v2 v3 v4:Value} (e:Operand→Value) (w:World) (h1:e (.tmp x)=v1) (h2:e (.tmp y)=v2) (h3:e (.tmp z)=v3) (h4:e (.tmp u)=v4) (τ:Tape) :
  (execOp e ⟨dst,.makeFunc (.func 64) #[] #[.tmp x,.tmp y,.tmp z,.tmp u],ty,pos,af,none⟩).run Tryd.prog { w with tape:=τ }=.ok (.value (.func (.func 64) #[] #[v1,v2,v3,v4])) { w with tape:=τ }:=by
 simp [execOp,go_sem,h1,h2,h3,h4]
theorem zm6:∀ f,T2.work.v f=true→T2.main.v f=true:=by
 intro f hf;have h:∀ x∈LWk,(LF.contains x || x == 64)=true:=by decide
 exact h f (List.contains_iff_mem.1 (show LWk.contains f=true from hf))
theorem fr97 (v1 v2 v3 v4:Value):#[v1,v2,v3,v4]++Array.replicate (Tryd.f64.ntmps-(#[v1,v2,v3,v4]:Array Value).size) undef=#[v1,v2,v3,v4,undef,undef,undef,undef,undef,undef,undef,undef,undef,undef,undef,undef,undef,undef,undef,undef,undef,undef,undef,undef,undef,undef,undef,undef,undef,undef]:=by
 simp only [Tryd.ntmps64,List.size_toArray,List.length_cons,List.length_nil,Nat.reduceAdd,Nat.reduceSub,Array.replicate_succ,Array.replicate_zero,List.push_toArray,List.append_toArray,List.nil_append,List.cons_append]
noncomputable def ops5:Array Oper:=opsOf y5
theorem zpX:y5=.region 5 ops5 false:=by kernel_rfl
theorem zlF:Tryd.f64.body=some zeI:=by kernel_rfl
theorem zmP (E Arg:Nat→Prop) (W0:World) (Q:(Nat→Prop)→(Nat→Prop)→Goroutine→World→Prop) (cs:List Frame) (k:List Item) (Wn Wh:World) (B M L Pw C c:Nat) (d:Dit) (l:Lg) (lv:Value) (hA:zmf Wn Wh B M d l lv)
  (hk:exitTo 0 (.inBlock 0 :: k)=some k) (hLP:Wn.heap.size≤L∧Wn.heap.size≤Pw∧Wn.heap.size≤C) (hlt:L<Wh.heap.size∧Pw<Wh.heap.size∧C<Wh.heap.size) (cL0:Wh.cell? ⟨L,0,none⟩=some (num l.lo)) (cL1:Wh.cell? ⟨L,1,none⟩=some (num l.hi)) (cL2:Wh.cell? ⟨L,2,none⟩=some lv)
  (cP:Wh.cell? ⟨Pw,0,none⟩=some (.pointer (some ⟨B,0,none⟩))) (cC:Wh.cell? ⟨C,0,none⟩=some (.chan (some (2 * c))))
  (hcont:∀ (W1:World) (Fz1:Nat→Prop) (a0 a1 a4 a6 a7 a8 a9 a10 a11 a12 a13 a14 a15 a16 a17 a18 a19 a20 a21 a22 a23 a24 a25 a26 a27 a28:Value),Old Wh W1→(∀ b i,Wn.heap.size≤b→b<Wh.heap.size→b≠L→b≠Pw→b≠C→W1.frozen? ⟨b,i,none⟩=Wh.frozen? ⟨b,i,none⟩) →
   GoM Tryd.prog false E Fz1 Arg W0 Q ⟨true,c,capN l,zcx W0.heap.size d l⟩ (kks (capN l)) (Fr 49 #[a0,a1,.pointer (some ⟨Pw,0,none⟩),.pointer (some ⟨L,0,none⟩),a4,.pointer (some ⟨C,0,none⟩),a6,a7,a8,a9,a10,a11,a12,a13,a14,a15,a16,a17,a18,a19,a20,a21,a22,a23,a24,a25,a26,a27,a28] k) cs W1) :
  ∀ (r j:Nat) (Fz:Nat→Prop) (W:World) (N:Nat) (a0 a1 a4 a7 a8 a9 a10 a11 a12 a13 a14 a15 a16 a17 a18 a19 a20 a21 a22 a23 a24 a25 a26 a27 a28:Value),j+r=capN l→Old Wh W→Wh.heap.size≤N→W.cell? ⟨N,0,none⟩=some (num (l.lo+j)) →
   (∀ b i,Wn.heap.size≤b→b<Wh.heap.size→b≠L→b≠Pw→b≠C→W.frozen? ⟨b,i,none⟩=Wh.frozen? ⟨b,i,none⟩) →
   GoM Tryd.prog false E Fz Arg W0 Q ⟨true,c,capN l,zcx W0.heap.size d l⟩ (kks j) (Fr 49 #[a0,a1,.pointer (some ⟨Pw,0,none⟩),.pointer (some ⟨L,0,none⟩),a4,.pointer (some ⟨C,0,none⟩),.pointer (some ⟨N,0,none⟩),a7,a8,a9,a10,a11,a12,a13,a14,a15,a16,a17,a18,a19,a20,a21,a22,a23,a24,a25,a26,a27,a28] (.code yX :: .inLoop yX :: .inBlock 0 :: k)) cs W:=by
 have hcl:=hA.clock;have hcap:(capN l:Int)=l.hi-l.lo+1:=by unfold capN;omega
 intro r
 induction r with
 | zero =>
  intro j Fz W N a0 a1 a4 a7 a8 a9 a10 a11 a12 a13 a14 a15 a16 a17 a18 a19 a20 a21 a22 a23 a24 a25 a26 a27 a28 hj hO hN cN hfz;rw [zoX];refine Gm.seq (Gm.seq ?_);refine Gm.lone (F:=F73) (fun t1 W1=>t1=#[a0,a1,.pointer (some ⟨Pw,0,none⟩),.pointer (some ⟨L,0,none⟩),a4,.pointer (some ⟨C,0,none⟩),.pointer (some ⟨N,0,none⟩),a7,a8,a9,a10,a11,a12,a13,a14,a15,a16,a17,a18,num (l.lo+j),.pointer (some ⟨L,0,none⟩),.pointer (some ⟨L,1,none⟩),num l.hi,.bool (decide (l.lo+j≤l.hi)),a24,a25,a26,a27,a28]∧W1.heap=W.heap) rfl rfl rfl (by simp [Fence.list]) (zhu false) (by kernel_rfl) (by kernel_rfl) (fun τ=>?_) ?_
  ·have h1:({ W with tape:=τ }:World).cell? ⟨N,0,none⟩=some (num (l.lo+j)):=cN
   have h2:({ W with tape:=τ }:World).cell? ⟨L,1,none⟩=some (num l.hi):=(hO.cell _ hlt.1).trans cL1;refine wpIn_mono (zkf { W with tape:=τ } L N (l.lo+j) l.hi h1 h2 _ _ _ _ _ _ _ _ _ _ _ _ _ _ _ _ _ _ _ _ _ _ _ _ _ _ _) ?_;rintro e a w' ⟨h1,h2,h3,rfl⟩;exact⟨h1,h2,h3,rfl⟩
  rintro t1 W1 ⟨rfl,hW1⟩;have hb:decide (l.lo+(j:Int)≤l.hi)=false:=by simp;omega
  refine Gm.cond (b:=false) (by rw [← hb];rfl) rfl ?_;refine Gm.exit [.code (.seq (.block 1 y5) y6),.inLoop (.seq (.seq y3 (.cond (.tmp 23) .skip (.exit 0))) (.seq (.block 1 y5) y6)),.inBlock 0] rfl ?_;obtain rfl:j=capN l:=by omega
  exact hcont W1 Fz _ _ _ _ _ _ _ _ _ _ _ _ _ _ _ _ _ _ _ _ _ _ _ _ _ _ (hO.trans (Old.same hW1)) fun b i h1 h2 h3 h4 h5=>(za3 (by rw [hW1])).trans (hfz b i h1 h2 h3 h4 h5)
 | succ r ih =>
  intro j Fz W N a0 a1 a4 a7 a8 a9 a10 a11 a12 a13 a14 a15 a16 a17 a18 a19 a20 a21 a22 a23 a24 a25 a26 a27 a28 hj hO hN cN hfz;rw [zoX];refine Gm.seq (Gm.seq ?_);refine Gm.lone (F:=F73) (fun t1 W1=>t1=#[a0,a1,.pointer (some ⟨Pw,0,none⟩),.pointer (some ⟨L,0,none⟩),a4,.pointer (some ⟨C,0,none⟩),.pointer (some ⟨N,0,none⟩),a7,a8,a9,a10,a11,a12,a13,a14,a15,a16,a17,a18,num (l.lo+j),.pointer (some ⟨L,0,none⟩),.pointer (some ⟨L,1,none⟩),num l.hi,.bool (decide (l.lo+j≤l.hi)),a24,a25,a26,a27,a28]∧W1.heap=W.heap) rfl rfl rfl (by simp [Fence.list]) (zhu false) (by kernel_rfl) (by kernel_rfl) (fun τ=>?_) ?_
  ·have h1:({ W with tape:=τ }:World).cell? ⟨N,0,none⟩=some (num (l.lo+j)):=cN
   have h2:({ W with tape:=τ }:World).cell? ⟨L,1,none⟩=some (num l.hi):=(hO.cell _ hlt.1).trans cL1;refine wpIn_mono (zkf { W with tape:=τ } L N (l.lo+j) l.hi h1 h2 _ _ _ _ _ _ _ _ _ _ _ _ _ _ _ _ _ _ _ _ _ _ _ _ _ _ _) ?_;rintro e a w' ⟨h1,h2,h3,rfl⟩;exact⟨h1,h2,h3,rfl⟩
  rintro t1 W1 ⟨rfl,hW1⟩;have hb:decide (l.lo+(j:Int)≤l.hi)=true:=by simp;omega
  have hO1:Old Wh W1:=hO.trans (Old.same hW1);have cN1:W1.cell? ⟨N,0,none⟩=some (num (l.lo+j)):=(zaZ hW1 _).trans cN;refine Gm.cond (b:=true) (by rw [← hb];rfl) rfl ?_;refine Gm.skip (Gm.seq (Gm.block ?_));rw [zpX];refine Gm.region ?_;have hr5:List.range ops5.size=[0,1]:=by kernel_rfl
  rw [hr5];refine Gm.op (o:=⟨some 26,.makeFunc (.func 64) #[] #[.tmp 6,.tmp 3,.tmp 2,.tmp 5],_,_,_,none⟩) (.func (.func 64) #[] #[.pointer (some ⟨N,0,none⟩),.pointer (some ⟨L,0,none⟩),.pointer (some ⟨Pw,0,none⟩),.pointer (some ⟨C,0,none⟩)]) W1 rfl rfl (by kernel_rfl) rfl (zlm _ _ rfl rfl rfl rfl) id ?_;have gW1:Glob W1:=hA.glob.old hO1;have cP1:=(hO1.cell ⟨Pw,0,none⟩ hlt.2.1).trans cP;have cC1:=(hO1.cell ⟨C,0,none⟩ hlt.2.2).trans cC;have cL21:=(hO1.cell ⟨L,2,none⟩ hlt.1).trans cL2;refine Gm.spawn T2 zm6 zmH (roots:=fun b=>b=N∨b=L∨b=Pw∨b=C) (X:=fun b=>b<Wn.heap.size) j (o:=⟨none,.go { callee:=.value (.tmp 26),args:=#[],argTypes:=#[] },_,_,_,none⟩) (c:={ callee:=.value (.tmp 26),args:=#[],argTypes:=#[] }) (x:=.tmp 26) (g:=64) (fn:=Tryd.f64) (body:=zeI)
   (captured:=#[.pointer (some ⟨N,0,none⟩),.pointer (some ⟨L,0,none⟩),.pointer (some ⟨Pw,0,none⟩),.pointer (some ⟨C,0,none⟩)]) rfl rfl rfl rfl rfl rfl rfl rfl (.inr (by rw [zfc];show j<capN l;omega)) ?_ ?_ (zqs gW1) Tryd.func64 zlF (by kernel_rfl) (fun Wc hcut=>?_) ?_
  ·intro v hv
   simp only [List.mem_toArray,List.mem_cons,List.not_mem_nil,or_false] at hv;rcases hv with rfl | rfl | rfl | rfl
   ·exact⟨N,rfl,.inl rfl⟩
   ·exact⟨L,rfl,.inr (.inl rfl)⟩
   ·exact⟨Pw,rfl,.inr (.inr (.inl rfl))⟩
   ·exact⟨C,rfl,.inr (.inr (.inr rfl))⟩
  ·rintro b (rfl | rfl | rfl | rfl)
   ·exact⟨.inl (zbr cN1),6,0,none,rfl⟩
   ·exact⟨.inl (zbr cL21),3,0,none,rfl⟩
   ·exact⟨.inl (zbr cP1),2,0,none,rfl⟩
   ·exact⟨.inl (zbr cC1),5,0,none,rfl⟩
  ·have hwk:=zqn hcut (by decide) (fun b hb=>hb) (hA.old.trans hO1) hA.ok hA.wtr hA.sl hA.kd gW1.one (.inl rfl) (.inr (.inl rfl)) (.inr (.inr (.inl rfl))) (.inr (.inr (.inr rfl))) cN1 cL21 cP1 cC1
   rw [fr97];refine zmE _ W0.heap.size Wc N L Pw C B M c (l.lo+j) d l lv hA.ok hA.log (by omega) hwk fun b hb=>?_;have hkd:zgp W1 b:=hb.kind (zqs gW1) (by
    rintro b (rfl | rfl | rfl | rfl)
    ·exact .inl (zbr cN1)
    ·exact .inl (zbr cL21)
    ·exact .inl (zbr cP1)
    ·exact .inl (zbr cC1))
   rw [hcut.size];rcases hkd with ⟨_,_,_,h1⟩ | ⟨_,_,h1⟩<;>exact (Array.getElem?_eq_some_iff.1 h1).1
  refine Gm.regionEnd (Gm.inBlock ?_);generalize hS:Rch W1 Tryd.prog.globals.size (fun b=>b=N∨b=L∨b=Pw∨b=C) (fun b=>b<Wn.heap.size)=S;have hSn:∀ b,Wn.heap.size≤b→b<Wh.heap.size→b≠L→b≠Pw→b≠C→¬ S b:=by
   intro b h1 h2 h3 h4 h5 hb;rw [← hS] at hb;exact Rch.not (by show 2≤b;exact Nat.le_trans hA.two h1) (by rintro (rfl | rfl | rfl | rfl)<;>omega) (by omega) hb
  generalize hW3:zcz S W1=W3;have hO3:Old Wh W3:=hO1.trans (by rw [← hW3];exact Old.freeze S W1);have cN3:W3.cell? ⟨N,0,none⟩=some (num (l.lo+j)):=by rw [← hW3,zgF];exact cN1
  have hfz3:∀ b i,Wn.heap.size≤b→b<Wh.heap.size→b≠L→b≠Pw→b≠C→W3.frozen? ⟨b,i,none⟩=Wh.frozen? ⟨b,i,none⟩:=fun b i h1 h2 h3 h4 h5=>by
   rw [← hW3,zia (hSn b h1 h2 h3 h4 h5),za3 (w':=W1) (w:=W) (by rw [hW1])];exact hfz b i h1 h2 h3 h4 h5
  refine Gm.lone (F:=F73) (fun t1 W4=>t1=#[a0,a1,.pointer (some ⟨Pw,0,none⟩),.pointer (some ⟨L,0,none⟩),a4,.pointer (some ⟨C,0,none⟩),.pointer (some ⟨W3.heap.size,0,none⟩),a7,a8,a9,a10,a11,a12,a13,a14,a15,a16,a17,a18,num (l.lo+j),.pointer (some ⟨L,0,none⟩),.pointer (some ⟨L,1,none⟩),num l.hi,.bool (decide (l.lo+j≤l.hi)),num (l.lo+j),num (l.lo+j+1),.func (.func 64) #[] #[.pointer (some ⟨N,0,none⟩),.pointer (some ⟨L,0,none⟩),.pointer (some ⟨Pw,0,none⟩),.pointer (some ⟨C,0,none⟩)],num (l.lo+j),a28]∧W4.heap=(W3.alloc (.cells #[num (l.lo+j+1)] 3)).heap) rfl rfl rfl (by simp [Fence.list]) (zhu false) (by kernel_rfl) (by kernel_rfl) (fun τ=>?_) ?_
  ·have h1:({ W3 with tape:=τ }:World).cell? ⟨N,0,none⟩=some (num (l.lo+j)):=cN3
   refine wpIn_mono (znt { W3 with tape:=τ } N (l.lo+j) (by omega) h1 _ _ _ _ _ _ _ _ _ _ _ _ _ _ _ _ _ _ _ _ _ _ _ _ _ _ _ _) ?_;rintro e a w' ⟨h1,h2,h3,rfl⟩;exact⟨h1,h2,h3,rfl⟩
  rintro t4 W4 ⟨rfl,hW4⟩;refine Gm.inLoop ?_;have hO34:Old W3 W4:=.heap (by rw [hW4];simp) fun b hb=>by rw [hW4];exact heap_alloc_old _ _ hb
  rw [← zpX,← zoX];refine ih (j+1) _ W4 W3.heap.size _ _ _ _ _ _ _ _ _ _ _ _ _ _ _ _ _ _ _ _ _ _ _ _ _ (by omega) (hO3.trans hO34) hO3.size ?_ fun b i h1 h2 h3 h4 h5=>?_
  ·rw [zaZ (w:=W3.alloc (.cells #[num (l.lo+j+1)] 3)) hW4]
   exact zaA rfl (by simp;omega)
  ·exact (za3 (by rw [hW4];exact heap_alloc_old _ _ (Nat.lt_of_lt_of_le h2 hO3.size))).trans (hfz3 b i h1 h2 h3 h4 h5)
end Go.Proofs.YtbbanmifdbeneaaDoor
