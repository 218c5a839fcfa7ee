import Derived.Test.YtbbanmifdbeneaaDoorF27
import Derived.Test.YtbbanmifdbeneaaDoorF28
import Derived.Laws.MakeOwn
import Derived.Test.YtbbanmifdbeneaaDoorF12
set_option linter.all false
set_option maxRecDepth 100000
set_option maxHeartbeats 4000000
open List renaming setIfInBounds_toArray → jqa, set_cons_succ → jqb, set_cons_zero → jqc, count_singleton → jqd
namespace Go.Proofs.YtbbanmifdbeneaaDoor
open Go.RowKit Go.Con Go.Conc
local instance:Lone:=zcG
section
variable {dst:Option Nat} {ty:TypeId} {pos:String} {af:Array Edge} {x y b o:Nat} {w:World} (e:Operand→Value)
theorem zcN (h:e (.tmp x)=.pointer (some ⟨b,0,none⟩)) (τ:Tape):(execOp e ⟨dst,.fieldAddr 37 (.tmp x) 0,ty,pos,af,none⟩).run Tryd.prog { w with tape:=τ }=.ok (.value (.pointer (some ⟨b,0,none⟩))) { w with tape:=τ }:=by
 simp [execOp,go_sem,h]
theorem zfe (h:e (.tmp x)=.pointer (some ⟨b,0,none⟩)) (τ:Tape):(execOp e ⟨dst,.fieldAddr 28 (.tmp x) 0,ty,pos,af,none⟩).run Tryd.prog { w with tape:=τ }=.ok (.value (.pointer (some ⟨b,0,none⟩))) { w with tape:=τ }:=by
 simp [execOp,go_sem,h]
theorem zfh (h:e (.tmp x)=.pointer (some ⟨b,0,none⟩)) (τ:Tape):(execOp e ⟨dst,.fieldAddr 28 (.tmp x) 1,ty,pos,af,none⟩).run Tryd.prog { w with tape:=τ }=.ok (.value (.pointer (some ⟨b,1,none⟩))) { w with tape:=τ }:=by
 simp [execOp,go_sem,h]
theorem zdg {a:Addr} {v:Value} (h:e (.tmp x)=.pointer (some a)) (hc:w.cell? a=some v) (τ:Tape) :
  (execOp e ⟨dst,.load 3 (.tmp x),ty,pos,af,none⟩).run Tryd.prog { w with tape:=τ }=.ok (.value v) { w with tape:=τ }:=by
 have hc' : ({ w with tape:=τ }:World).cell? a=some v:=hc;simp [execOp,go_sem,h,hc']
theorem zjE {m n:Int} (h:e (.tmp x)=num m) (h2:e (.tmp y)=num n) (hb : -9223372036854775808≤m-n∧m-n≤9223372036854775807) (τ:Tape) :
  (execOp e ⟨dst,.binOp .sub 3 (.tmp x) (.tmp y) 3,ty,pos,af,none⟩).run Tryd.prog { w with tape:=τ }=.ok (.value (num (m-n))) { w with tape:=τ }:=by
 simp [execOp,go_sem,h,h2];exact IntWalk.i64_in _ hb
theorem zfW {m:Int} (h:e (.tmp x)=num m) (hk:e (.const (.int .i64 1))=.int .i64 1) (hb : -9223372036854775808≤m+1∧m+1≤9223372036854775807) (τ:Tape) :
  (execOp e ⟨dst,.binOp .add 3 (.tmp x) (.const (.int .i64 1)) 3,ty,pos,af,none⟩).run Tryd.prog { w with tape:=τ }=.ok (.value (num (m+1))) { w with tape:=τ }:=by
 simp [execOp,go_sem,h,hk];exact IntWalk.i64_in _ hb
theorem zi4 (τ:Tape):(execOp e ⟨dst,.alloc 127,ty,pos,af,none⟩).run Tryd.prog { w with tape:=τ }=.ok (.value (.pointer (some ⟨w.heap.size,0,none⟩))) { w.alloc (.cells #[.chan none] 127) with tape:=τ }:=by
 simp [execOp,go_sem];rfl
theorem ziK {a:Addr} {u:Value} {r:Option Nat} (h:e (.tmp x)=.pointer (some a)) (h2:e (.tmp y)=.chan r) (hc:w.cell? a=some u) (hf:w.frozen? a=false) (τ:Tape) :
  (execOp e ⟨dst,.store 127 (.tmp x) (.tmp y),ty,pos,af,none⟩).run Tryd.prog { w with tape:=τ }=.ok .skip { w.setCell a (.chan r) with tape:=τ }:=by
 have hc' : ({ w with tape:=τ }:World).cell? a=some u:=hc;have hf' : ({ w with tape:=τ }:World).frozen? a=false:=hf;simp [execOp,go_sem,h,h2,hc',hf'];rfl
end
noncomputable def ops1:Array Oper:=opsOf y1
theorem zqy:y1=.region 1 ops1 false:=by kernel_rfl
theorem zm7 (v:Value) (t:Array Value) (h:t[4]?=some v) (σ:Rn):ResultsC Tryd.prog Tryd.f49 (t.map (ren σ)) (ren σ v):=by
 have:=resultsC_tmp (P:=Tryd.prog) (fn:=Tryd.f49) (t:=4) rfl (t.map (ren σ));simp only [Array.getD_eq_getD_getElem?,Array.getElem?_map,h,Option.map_some,Option.getD_some] at this;exact this
theorem zmO (E Fz Arg:Nat→Prop) (W0:World) (Q:(Nat→Prop)→(Nat→Prop)→Goroutine→World→Prop) (φ:Ph) (c0:Frame) (cs:List Frame) (Wn W:World) (B M:Nat) (d:Dit) (l:Lg) (lv:Value) (hA:zmf Wn W B M d l lv)
  (hcont:∀ (W1:World) (Fz1:Nat→Prop) (c:Nat),Old W W1→(∀ b i,Wn.heap.size≤b→b<W.heap.size→W1.frozen? ⟨b,i,none⟩=W.frozen? ⟨b,i,none⟩) →
   GoM Tryd.prog false E Fz1 Arg W0 Q ⟨true,c,capN l,zcx W0.heap.size d l⟩ (kks (capN l)) (c0.finish (.chan (some (2 * c)))) cs W1) :
  GoM Tryd.prog false E Fz Arg W0 Q φ [] (Fr 49 #[.pointer (some ⟨B,0,none⟩),.agg #[num l.lo,num l.hi,lv],undef,undef,undef,undef,undef,undef,undef,undef,undef,undef,undef,undef,undef,undef,undef,undef,undef,undef,undef,undef,undef,undef,undef,undef,undef,undef,undef] [.code zdi]) (c0 :: cs) W:=by
 have hcl:=hA.clock;have hcap:(capN l:Int)=l.hi-l.lo+1:=by unfold capN;omega
 rw [zlQ];refine Gm.seq ?_;refine Gm.lone (F:=F73) (fun t1 W1=>t1=#[.pointer (some ⟨B,0,none⟩),.agg #[num l.lo,num l.hi,lv],.pointer (some ⟨W.heap.size,0,none⟩),.pointer (some ⟨W.heap.size+1,0,none⟩),.chan none,undef,undef,undef,undef,undef,undef,undef,undef,undef,undef,undef,undef,undef,undef,undef,undef,undef,undef,undef,undef,undef,undef,undef,undef]∧W1.heap=((W.alloc (.cells #[.pointer (some ⟨B,0,none⟩)] 77)).alloc (.cells #[num l.lo,num l.hi,lv] 37)).heap) rfl rfl rfl (by simp [Fence.list]) (zhu false) (by kernel_rfl) (by kernel_rfl) (fun τ=>?_) ?_
 ·refine wpIn_mono (znJ { W with tape:=τ } B l.lo l.hi lv) ?_
  rintro e a w' ⟨h1,h2,h3,rfl⟩;exact⟨h1,h2,h3,rfl⟩
 rintro t1 W1 ⟨rfl,hW1⟩;have sW1:W1.heap.size=W.heap.size+2:=by rw [hW1];simp
 have cP:W1.cell? ⟨W.heap.size,0,none⟩=some (.pointer (some ⟨B,0,none⟩)):=(zaZ hW1 _).trans ((zaH (by simp)).trans (zaA rfl rfl));have cL:∀ i u,#[num l.lo,num l.hi,lv][i]?=some u→W1.cell? ⟨W.heap.size+1,i,none⟩=some u:=fun i u h=>(zaZ hW1 _).trans (zaA (by simp) h);have hO1:Old W W1:=.heap (by omega) fun b hb=>by rw [hW1,heap_alloc_old _ _ (by simp;omega),heap_alloc_old _ _ hb]
 have fz1:∀ b i,b<W.heap.size→W1.frozen? ⟨b,i,none⟩=W.frozen? ⟨b,i,none⟩:=fun b i hb=>za3 (by rw [hW1,heap_alloc_old _ _ (by simp;omega),heap_alloc_old _ _ hb]);refine Gm.seq ?_;rw [zqy];refine Gm.region ?_;have hr:List.range ops1.size=[0,1,2,3,4,5,6,7,8,9,10]:=by kernel_rfl
 rw [hr];refine Gm.op (o:=⟨some 7,.fieldAddr 37 (.tmp 3) 0,_,_,_,none⟩) (.pointer (some ⟨W.heap.size+1,0,none⟩)) W1 rfl rfl (by kernel_rfl) rfl (zcN _ rfl) id ?_;simp only [putD,jqa,jqb,jqc];refine Gm.op (o:=⟨some 8,.fieldAddr 28 (.tmp 7) 1,_,_,_,none⟩) (.pointer (some ⟨W.heap.size+1,1,none⟩)) W1 rfl rfl (by kernel_rfl) rfl (zfh _ rfl) id ?_;simp only [putD,jqa,jqb,jqc];refine Gm.op (o:=⟨some 9,.load 3 (.tmp 8),_,_,_,none⟩) (num l.hi) W1 rfl rfl (by kernel_rfl) rfl (zdg _ rfl (cL 1 _ rfl)) id ?_;simp only [putD,jqa,jqb,jqc];refine Gm.op (o:=⟨some 10,.fieldAddr 37 (.tmp 3) 0,_,_,_,none⟩) (.pointer (some ⟨W.heap.size+1,0,none⟩)) W1 rfl rfl (by kernel_rfl) rfl (zcN _ rfl) id ?_;simp only [putD,jqa,jqb,jqc];refine Gm.op (o:=⟨some 11,.fieldAddr 28 (.tmp 10) 0,_,_,_,none⟩) (.pointer (some ⟨W.heap.size+1,0,none⟩)) W1 rfl rfl (by kernel_rfl) rfl (zfe _ rfl) id ?_;simp only [putD,jqa,jqb,jqc];refine Gm.op (o:=⟨some 12,.load 3 (.tmp 11),_,_,_,none⟩) (num l.lo) W1 rfl rfl (by kernel_rfl) rfl (zdg _ rfl (cL 0 _ rfl)) id ?_;simp only [putD,jqa,jqb,jqc];refine Gm.op (o:=⟨some 13,.binOp .sub 3 (.tmp 9) (.tmp 12) 3,_,_,_,none⟩) (num (l.hi-l.lo)) W1 rfl rfl (by kernel_rfl) rfl (zjE _ rfl rfl (by omega)) id ?_;simp only [putD,jqa,jqb,jqc];refine Gm.op (o:=⟨some 14,.binOp .add 3 (.tmp 13) (.const (.int .i64 1)) 3,_,_,_,none⟩) (num (l.hi-l.lo+1)) W1 rfl rfl (by kernel_rfl) rfl (zfW _ rfl rfl (by omega)) id ?_
 simp only [putD,jqa,jqb,jqc];refine Gm.mkchan (o:=⟨some 15,.makeChan 127 (.tmp 14),_,_,_,none⟩) (cap:=capN l) (zcx W0.heap.size d l) rfl rfl (fun e w he=>zn7 (by omega) e w (by rw [he 14 (l.hi-l.lo+1) rfl,hcap])) fun c=>?_;simp only [putD,jqa,jqb,jqc];refine Gm.op (o:=⟨some 5,.alloc 127,_,_,_,none⟩) (.pointer (some ⟨W1.heap.size,0,none⟩)) (W1.alloc (.cells #[.chan none] 127)) rfl rfl (by kernel_rfl) rfl (zi4 _) (fun h=>h.alloc rfl) ?_;simp only [putD,jqa,jqb,jqc];have ha0:(W1.alloc (.cells #[.chan none] 127)).cell? ⟨W1.heap.size,0,none⟩=some (.chan none):=zaA rfl rfl;have ha1:(W1.alloc (.cells #[.chan none] 127)).frozen? ⟨W1.heap.size,0,none⟩=false:=by
  have hz:=heap_alloc_new W1 (.cells #[.chan none] 127);unfold World.frozen?;dsimp only;rw [hz];rfl
 refine Gm.skipOp (o:=⟨none,.store 127 (.tmp 5) (.tmp 15),_,_,_,none⟩) ((W1.alloc (.cells #[.chan none] 127)).setCell ⟨W1.heap.size,0,none⟩ (.chan (some (2 * c)))) rfl rfl (by kernel_rfl) rfl (ziK _ rfl rfl ha0 ha1) (fun h=>h.setCell _ _) ?_;simp only [putD,jqa,jqb,jqc];generalize hW2:(W1.alloc (.cells #[.chan none] 127)).setCell ⟨W1.heap.size,0,none⟩ (.chan (some (2 * c)))=W2;have sW2:W2.heap.size=W1.heap.size+1:=by rw [← hW2];simp
 have hold2:∀ b,b<W1.heap.size→W2.heap[b]?=W1.heap[b]?:=fun b hb=>by
  rw [← hW2,heap_setCell_other _ _ b _ (by simp;omega)];exact heap_alloc_old _ _ hb
 have hO12:Old W1 W2:=.heap (by omega) hold2;have cC2:W2.cell? ⟨W1.heap.size,0,none⟩=some (.chan (some (2 * c))):=by rw [← hW2];exact World.cell?_setCell_same _ _ _ ha0
 refine Gm.regionEnd (Gm.seq (Gm.seq ?_));refine Gm.lone (F:=F73) (fun t1 W3=>t1=#[.pointer (some ⟨B,0,none⟩),.agg #[num l.lo,num l.hi,lv],.pointer (some ⟨W.heap.size,0,none⟩),.pointer (some ⟨W.heap.size+1,0,none⟩),.chan none,.pointer (some ⟨W1.heap.size,0,none⟩),.pointer (some ⟨W2.heap.size,0,none⟩),.pointer (some ⟨W.heap.size+1,0,none⟩),.pointer (some ⟨W.heap.size+1,1,none⟩),num l.hi,.pointer (some ⟨W.heap.size+1,0,none⟩),.pointer (some ⟨W.heap.size+1,0,none⟩),num l.lo,num (l.hi-l.lo),num (l.hi-l.lo+1),.chan (some (2 * c)),.pointer (some ⟨W.heap.size+1,0,none⟩),.pointer (some ⟨W.heap.size+1,0,none⟩),num l.lo,undef,undef,undef,undef,undef,undef,undef,undef,undef,undef]∧W3.heap=(W2.alloc (.cells #[num l.lo] 3)).heap) rfl rfl rfl (by simp [Fence.list]) (zhu false) (by kernel_rfl) (by kernel_rfl) (fun τ=>?_) ?_
 ·have h1:({ W2 with tape:=τ }:World).cell? ⟨W.heap.size+1,0,none⟩=some (num l.lo):=(hO12.cell ⟨W.heap.size+1,0,none⟩ (by show _<_;simp only;omega)).trans (cL 0 _ rfl)
  refine wpIn_mono (znT { W2 with tape:=τ } (W.heap.size+1) l.lo h1 _ _ _ _ _ _ _ _ _ _ _ _ _ _ _ _ _ _ _ _ _ _ _ _ _ _ _ _) ?_;rintro e a w' ⟨h1,h2,h3,rfl⟩;exact⟨h1,h2,h3,rfl⟩
 rintro t3 W3 ⟨rfl,hW3⟩;refine Gm.block (Gm.loop ?_);have hO23:Old W2 W3:=.heap (by rw [hW3];simp) fun b hb=>by rw [hW3];exact heap_alloc_old _ _ hb
 have hO02:Old W W2:=hO1.trans hO12;have hA3:zmf Wn W2 B M d l lv:=⟨hA.ok,hA.log,hA.clock,hA.wtr,hA.sl,hA.kd,hA.glob.old hO02,hA.old.trans hO02,hA.two⟩;have h13:Old W1 W2:=hO12;have hsW:=hA.old.size;have sW3:W3.heap.size=W2.heap.size+1:=by rw [hW3];simp
 refine zmP E Arg W0 Q (c0 :: cs) [.code (.seq y8 .ret)] Wn W2 B M (W.heap.size+1) W.heap.size W1.heap.size c d l lv hA3 rfl (by omega) (by omega) ((h13.cell ⟨W.heap.size+1,0,none⟩ (by show _<_;simp only;omega)).trans (cL 0 _ rfl)) ((h13.cell ⟨W.heap.size+1,1,none⟩ (by show _<_;simp only;omega)).trans (cL 1 _ rfl)) ((h13.cell ⟨W.heap.size+1,2,none⟩ (by show _<_;simp only;omega)).trans (cL 2 _ rfl))
  ((h13.cell ⟨W.heap.size,0,none⟩ (by show _<_;simp only;omega)).trans cP) cC2 ?_ (capN l) 0 Fz W3 W2.heap.size _ _ _ _ _ _ _ _ _ _ _ _ _ _ _ _ _ _ _ _ _ _ _ _ _ (by omega) hO23 ?_ ?_ ?_
 ·intro W4 Fz1 a0 a1 a4 a6 a7 a8 a9 a10 a11 a12 a13 a14 a15 a16 a17 a18 a19 a20 a21 a22 a23 a24 a25 a26 a27 a28 hO4 hfz4
  refine Gm.seq ?_;refine Gm.lone (F:=F73) (fun t1 W5=>t1=#[a0,a1,.pointer (some ⟨W.heap.size,0,none⟩),.pointer (some ⟨W.heap.size+1,0,none⟩),.chan (some (2 * c)),.pointer (some ⟨W1.heap.size,0,none⟩),a6,a7,a8,a9,a10,a11,a12,a13,a14,a15,a16,a17,a18,a19,a20,a21,a22,a23,a24,a25,a26,a27,.chan (some (2 * c))]∧W5.heap=W4.heap) rfl rfl rfl (by simp [Fence.list]) (zhu false) (by kernel_rfl) (by kernel_rfl) (fun τ=>?_) ?_
  ·have h1:({ W4 with tape:=τ }:World).cell? ⟨W1.heap.size,0,none⟩=some (.chan (some (2 * c))):=(hO4.cell ⟨W1.heap.size,0,none⟩ (by show _<_;simp only;omega)).trans cC2
   refine wpIn_mono (zol { W4 with tape:=τ } W1.heap.size (.chan (some (2 * c))) h1 _ _ _ _ _ _ _ _ _ _ _ _ _ _ _ _ _ _ _ _ _ _ _ _ _ _ _ _) ?_;rintro e a w' ⟨h1,h2,h3,rfl⟩;exact⟨h1,h2,h3,rfl⟩
  rintro t5 W5 ⟨rfl,hW5⟩;refine Gm.ret Tryd.func49 (zm7 (.chan (some (2 * c))) _ rfl) ?_;refine hcont W5 Fz1 c (hO02.trans (hO4.trans (Old.same hW5))) fun b i h1 h2=>?_;refine (za3 (w:=W4) (by rw [hW5])).trans ((hfz4 b i h1 (by omega) (by omega) (by omega) (by omega)).trans ?_);exact (za3 (w:=W1) (hold2 b (by omega))).trans (fz1 b i h2)
 ·exact Nat.le_of_eq (by omega)
 ·rw [zaZ (w:=W2.alloc (.cells #[num l.lo] 3)) hW3]
  exact zaA rfl (by simp)
 ·intro b i _ h _ _ _;exact za3 (by rw [hW3];exact heap_alloc_old _ _ h)
end Go.Proofs.YtbbanmifdbeneaaDoor
namespace Go.Proofs.YtbbanmifdbeneaaDoor
open Go.RowKit Go.Con Go.Conc
section
variable {dst:Option Nat} {ty:TypeId} {pos:String} {af:Array Edge} {x y b o:Nat} {w:World} (e:Operand→Value)
theorem zcT {v:Value} (h:e (.tmp x)=v) (τ:Tape):(execOp e ⟨dst,.move (.tmp x),ty,pos,af,none⟩).run Tryd.prog { w with tape:=τ }=.ok (.value v) { w with tape:=τ }:=by
 simp [execOp,go_sem,h]
theorem zdE {v:Value} (h:e (.tmp x)=v) (τ:Tape):(execOp e ⟨dst,.assign (.tmp x),ty,pos,af,none⟩).run Tryd.prog { w with tape:=τ }=.ok (.value v) { w with tape:=τ }:=by
 simp [execOp,go_sem,h]
theorem zjX {v c:Value} (h:e (.const c)=v) (τ:Tape):(execOp e ⟨dst,.move (.const c),ty,pos,af,none⟩).run Tryd.prog { w with tape:=τ }=.ok (.value v) { w with tape:=τ }:=by
 simp [execOp,go_sem,h]
theorem zm5 {a:Option Addr} {n c:Nat} (h:e (.tmp x)=.slice a n c) (τ:Tape):(execOp e ⟨dst,.call { callee:=.builtin .len,args:=#[.tmp x],argTypes:=#[48] },ty,pos,af,none⟩).run Tryd.prog { w with tape:=τ }=.ok (.value (num n)) { w with tape:=τ }:=by
 simp [execOp,go_sem,h]
theorem zlR {a:Option Addr} {n c:Nat} (h:e (.tmp x)=.slice a n c) (τ:Tape):(execOp e ⟨dst,.call { callee:=.builtin .len,args:=#[.tmp x],argTypes:=#[35] },ty,pos,af,none⟩).run Tryd.prog { w with tape:=τ }=.ok (.value (num n)) { w with tape:=τ }:=by
 simp [execOp,go_sem,h]
theorem zg3 {n:Int} {a:Option Addr} {m c:Nat} (h:e (.tmp x)=.agg #[num n,.slice a m c]) (τ:Tape):(execOp e ⟨dst,.field 111 (.tmp x) 1,ty,pos,af,none⟩).run Tryd.prog { w with tape:=τ }=.ok (.value (.slice a m c)) { w with tape:=τ }:=by
 simp [execOp,go_sem,h,Instr.field,asAgg]
theorem zlp (h:e (.tmp x)=.pointer (some ⟨b,0,none⟩)) (τ:Tape):(execOp e ⟨dst,.fieldAddr 37 (.tmp x) 1,ty,pos,af,none⟩).run Tryd.prog { w with tape:=τ }=.ok (.value (.pointer (some ⟨b,2,none⟩))) { w with tape:=τ }:=by
 simp [execOp,go_sem,h]
theorem zlA {a:Addr} {v:Value} (h:e (.tmp x)=.pointer (some a)) (hc:w.cell? a=some v) (τ:Tape) :
  (execOp e ⟨dst,.load 35 (.tmp x),ty,pos,af,none⟩).run Tryd.prog { w with tape:=τ }=.ok (.value v) { w with tape:=τ }:=by
 have hc' : ({ w with tape:=τ }:World).cell? a=some v:=hc;simp [execOp,go_sem,h,hc']
theorem zd7 {v0 v1 v2:Value} (h:e (.tmp x)=.pointer (some ⟨b,0,none⟩)) (h0:w.cell? ⟨b,0,none⟩=some v0) (h1:w.cell? ⟨b,1,none⟩=some v1) (h2:w.cell? ⟨b,2,none⟩=some v2) (τ:Tape) :
  (execOp e ⟨dst,.load 37 (.tmp x),ty,pos,af,none⟩).run Tryd.prog { w with tape:=τ }=.ok (.value (.agg #[v0,v1,v2])) { w with tape:=τ }:=by
 have h0' : ({ w with tape:=τ }:World).cell? ⟨b,0,none⟩=some v0:=h0;have h1' : ({ w with tape:=τ }:World).cell? ⟨b,1,none⟩=some v1:=h1;have h2' : ({ w with tape:=τ }:World).cell? ⟨b,2,none⟩=some v2:=h2;simp [execOp,go_sem,h,h0',h1',h2']
theorem zh0 {m n:Int} (h:e (.tmp x)=num m) (h2:e (.tmp y)=num n) (τ:Tape):(execOp e ⟨dst,.binOp .lss 3 (.tmp x) (.tmp y) 3,ty,pos,af,none⟩).run Tryd.prog { w with tape:=τ }=.ok (.value (.bool (decide (m<n)))) { w with tape:=τ }:=by
 simp [execOp,go_sem,h,h2]
theorem zil {m:Int} (h:e (.tmp x)=num m) (hk:e (.const (.int .i64 0))=.int .i64 0) (τ:Tape):(execOp e ⟨dst,.binOp .neq 38 (.tmp x) (.const (.int .i64 0)) 38,ty,pos,af,none⟩).run Tryd.prog { w with tape:=τ }=.ok (.value (.bool (m != 0))) { w with tape:=τ }:=by
 simp [execOp,go_sem,h,hk]
theorem zft (τ:Tape):(execOp e ⟨dst,.alloc 111,ty,pos,af,none⟩).run Tryd.prog { w with tape:=τ }=.ok (.value (.pointer (some ⟨w.heap.size,0,none⟩))) { w.alloc (.cells #[num 0,.slice none 0 0] 111) with tape:=τ }:=by
 simp [execOp,go_sem];rfl
theorem zdO {n:Int} {a:Option Addr} {m c:Nat} {u0 u1:Value} (h:e (.tmp x)=.pointer (some ⟨b,0,none⟩)) (h2:e (.tmp y)=.agg #[num n,.slice a m c]) (h0:w.cell? ⟨b,0,none⟩=some u0) (h1:w.cell? ⟨b,1,none⟩=some u1) (f0:w.frozen? ⟨b,0,none⟩=false) (f1:w.frozen? ⟨b,1,none⟩=false) (τ:Tape) :
  (execOp e ⟨dst,.store 111 (.tmp x) (.tmp y),ty,pos,af,none⟩).run Tryd.prog { w with tape:=τ }=.ok .skip { (w.setCell ⟨b,0,none⟩ (num n)).setCell ⟨b,1,none⟩ (.slice a m c) with tape:=τ }:=by
 have h0' : ({ w with tape:=τ }:World).cell? ⟨b,0,none⟩=some u0:=h0;have h1' : ({ w with tape:=τ }:World).cell? ⟨b,1,none⟩=some u1:=h1;have f0' : ({ w with tape:=τ }:World).frozen? ⟨b,0,none⟩=false:=f0;have f1' : ({ w with tape:=τ }:World).frozen? ⟨b,1,none⟩=false:=f1;simp [execOp,go_sem,h,h2,h0',h1',f0',f1'];rfl
theorem zkH {n:Nat} (hn:n≤1000) (h:e (.tmp x)=num n) (τ:Tape):(execOp e ⟨dst,.makeSlice 48 (.tmp x) (.tmp x),ty,pos,af,none⟩).run Tryd.prog { w with tape:=τ }=.ok (.value (.slice (some ⟨w.heap.size,0,none⟩) n n)) { w.alloc (.cells (madeCells (num 0).cells n) 3) with tape:=τ }:=by
 obtain⟨i,hi,hz,h1,h2⟩:=zdZ;have:=run_makeSlice (P:=Tryd.prog) (w:={ w with tape:=τ }) 48 3 i (num 0) Tryd.underlying48 hi hz .i64 .i64 n n (by omega) (by omega) (by rw [h1];omega) (by rw [h2];omega) (by omega);simp only [Int.toNat_natCast,h1,Nat.mul_one] at this;simp [execOp,go_sem,h,this];rfl
end
noncomputable def zdH:Code:=match Tryd.f25.body with | some c=>c | none=>.skip
noncomputable def j0:Code:=seqL zdH
noncomputable def j1:Code:=seqL (seqR zdH)
noncomputable def j2:Code:=seqL (seqL (seqR (seqR zdH)))
noncomputable def j3:Code:=match seqR (seqL (seqR (seqR zdH))) with | .cond _ x _=>seqL x | c=>c
noncomputable def jr3:Code:=seqR (seqR (seqR zdH))
noncomputable def j4:Code:=seqL jr3
noncomputable def j5:Code:=seqL (seqR jr3)
noncomputable def j6:Code:=seqL (seqR (seqR jr3))
noncomputable def j7:Code:=seqL (seqL (seqR (seqR (seqR jr3))))
noncomputable def jX:Code:=zfq (zbj (seqR (seqL (seqR (seqR (seqR jr3))))))
noncomputable def jT:Code:=seqR (seqR (seqR (seqR jr3)))
theorem zlW:zdH=.seq j0 (.seq j1 (.seq (.seq j2 (.cond (.tmp 23) (.seq j3 .ret) .skip)) (.seq j4 (.seq j5 (.seq j6 (.seq (.seq j7 (.block 0 (.loop jX))) jT)))))):=by kernel_rfl
abbrev FG (g:Nat):Fence:=Fence.list (g :: LF) none
theorem toFG (g:Nat) {n m f:Nat} {args:Array Value} {w:World} {R:Ending→World→Prop} (h:CallsIn FL n Tryd.prog f args w R):CallsIn (FG g) m Tryd.prog f args w R :=
 zeU (F:=FL) (F':=FG g) (fun _ hf=>List.mem_cons_of_mem _ hf) rfl rfl rfl h
theorem zpF:LF.all (@zmv zcG Tryd.prog true)=true:=by kernel_rfl
theorem zdr (g:Nat) (hg:@zaL zcG Tryd.prog (.func g)=false):∀ f,(FG g).fn f→@zaL zcG Tryd.prog (.func f)=true→@okFn zcG Tryd.prog true f:=by
 intro f hf h;rcases List.mem_cons.1 hf with rfl | hf
 ·rw [hg] at h;cases h
 ·exact @zhG zcG _ _ _ (List.all_eq_true.1 zpF f hf)
theorem zqd (w:World) (d:Dit) (r:zaR) (l:Lg) (lv:Value) :
  j0.wpIn (FG 25) 0 Tryd.prog (fun e a w'=>e=.normal∧a.defers=[]∧(a.tmps=#[d.val r,.agg #[num l.lo,num l.hi,lv],.pointer (some ⟨w.heap.size,0,none⟩),.pointer (some ⟨w.heap.size+1,0,none⟩),.slice none 0 0,num 0,undef,undef,undef,undef,undef,undef,undef,undef,undef,undef,undef,undef,undef,undef,undef,undef,undef,undef,undef,undef,undef,undef,undef,undef,undef,undef,undef,undef,undef,undef,undef,undef,undef,undef,undef,undef,undef,undef,undef,undef,undef,undef,undef,undef,undef,undef,undef,undef,undef,undef,undef,undef,undef,undef,undef,undef,undef,undef,undef,undef,undef,undef,undef,undef,undef,undef,undef,undef,undef,undef,undef,undef,undef,undef,undef,undef]∧w'=(w.alloc (.cells (d.cellsA r) 31)).alloc (.cells #[num l.lo,num l.hi,lv] 37)))
   ⟨#[d.val r,.agg #[num l.lo,num l.hi,lv],undef,undef,undef,undef,undef,undef,undef,undef,undef,undef,undef,undef,undef,undef,undef,undef,undef,undef,undef,undef,undef,undef,undef,undef,undef,undef,undef,undef,undef,undef,undef,undef,undef,undef,undef,undef,undef,undef,undef,undef,undef,undef,undef,undef,undef,undef,undef,undef,undef,undef,undef,undef,undef,undef,undef,undef,undef,undef,undef,undef,undef,undef,undef,undef,undef,undef,undef,undef,undef,undef,undef,undef,undef,undef,undef,undef,undef,undef,undef,undef],[]⟩ w:=by
 simp only [j0,zdH,seqL,Tryd.f25];gi_wp2
theorem zpZ (w w1:World) (d:Dit) (r:zaR) (l:Lg) (a:Option Addr) (cap:Nat) (hd:DitSl w1 d r) (hs:d.Small) (hg:Glob w1) (hl:Sl w1 (.slice a l.ops.length cap) 3 (l.ops.map three)) (hls:l.ops.length≤1000000000)
  (cW:∀ i v,(d.cellsA r)[i]?=some v→w1.cell? ⟨w.heap.size,i,none⟩=some v) (q0:w1.cell? ⟨w.heap.size+1,0,none⟩=some (num l.lo)) (q1:w1.cell? ⟨w.heap.size+1,1,none⟩=some (num l.hi)) (q2:w1.cell? ⟨w.heap.size+1,2,none⟩=some (.slice a l.ops.length cap)) :
  j1.wpIn (FG 25) 0 Tryd.prog (fun e a w'=>e=.normal∧a.defers=[]∧(a.tmps.size=82∧a.tmps[3]?=some (.pointer (some ⟨w.heap.size+1,0,none⟩))∧a.tmps[4]?=some (.slice none 0 0)∧a.tmps[7]?=some (num (logS d l))∧Nx w1 w'∧∃ v,a.tmps[6]?=some (.pointer v) ∧
    (logS d l=0→d.Ok∧∃ B M,v=some ⟨B,0,none⟩∧w1.heap.size≤B∧Wtr w' B M d d.ends d.cyc d.keys d.oth)))
   ⟨#[d.val r,.agg #[num l.lo,num l.hi,.slice a l.ops.length cap],.pointer (some ⟨w.heap.size,0,none⟩),.pointer (some ⟨w.heap.size+1,0,none⟩),.slice none 0 0,num 0,undef,undef,undef,undef,undef,undef,undef,undef,undef,undef,undef,undef,undef,undef,undef,undef,undef,undef,undef,undef,undef,undef,undef,undef,undef,undef,undef,undef,undef,undef,undef,undef,undef,undef,undef,undef,undef,undef,undef,undef,undef,undef,undef,undef,undef,undef,undef,undef,undef,undef,undef,undef,undef,undef,undef,undef,undef,undef,undef,undef,undef,undef,undef,undef,undef,undef,undef,undef,undef,undef,undef,undef,undef,undef,undef,undef],[]⟩ w1:=by
 have k72:=toFG 25 (m:=0) (zm2 d r l (.slice a l.ops.length cap) w1 hd hs hg hl hls);obtain⟨c0,c1,c2,c3,c4,c5,c6,c7,c8,c9,c10,c11,c12,c13⟩:=zaS cW;clear hl cW;simp only [j1,zdH,seqL,seqR,Tryd.f25]
 gi_wp2_with (first
  | (gi_at_call 48;refine CallsIn.mono k72 ?_;rintro e w2 ⟨v,rfl,n2,hz⟩;have HZ:=Lib.hid hz;clear hz)
  | gi_in)
 intro h;obtain⟨hO,B,M,he,_,hB,hw⟩:=HZ.out h;simp only [Ending.returned.injEq,Value.tuple.injEq,Array.mk.injEq,List.cons.injEq,Value.pointer.injEq,and_true] at he;exact⟨hO,B,he.1,hB,M,hw⟩
noncomputable def k8:Code:=seqL jX
noncomputable def k9:Code:=seqL (zbj (seqL (seqR (seqR jX))))
noncomputable def kI:Code:=seqR (zbj (seqL (seqR (seqR jX))))
noncomputable def k14:Code:=seqR (seqR (seqR jX))
theorem zpc:jX=.seq k8 (.seq (.cond (.tmp 42) .skip (.exit 0)) (.seq (.block 1 (.seq k9 kI)) k14)):=by kernel_rfl
abbrev F29:Fence:=Fence.list [25] none
structure ManyAt (w:World) (Mn m:Nat) (f:Nat→Int):Prop where
 lt:Mn<w.heap.size
 cell:∀ i,i<m→w.cell? ⟨Mn,i,none⟩=some (num (f i))
 fz:∀ i,w.frozen? ⟨Mn,i,none⟩=false
def cntI (o:List Int) (i:Nat):Int:=(o.count (i:Int):Nat)
theorem zqq (w:World) (Mn m cap:Nat) (ao:Option Addr) (o:List Int) (f:Nat→Int) (hm:m≤20) (ho:o.length≤20) (hf:∀ i,0≤f i∧f i≤1000) (hob:∀ x∈o,0≤x∧x<(m:Int)) (hM:ManyAt w Mn m f)
  (hrow:∀ (k:Nat) x,o[k]?=some x→∃ g,ao=some ⟨g,0,none⟩∧g≠Mn∧g<w.heap.size∧w.cell? ⟨g,k,none⟩=some (num x)) (a0 a1 a2 a3 a4 a5 a6 a7 a9 a10 a11 a12 a13 a14 a15 a16 a17 a18 a19 a20 a21 a22 a23 a24 a25 a26 a27 a28 a29 a30 a31 a32 a33 a34 a35 a36 a37 a38 a39 a40 a41 a42 a43 a44 a48 a49 a50 a51 a52 a53 a54 a55 a56 a57 a58 a59 a60 a61 a62 a63 a64 a65 a66 a67 a68 a69 a70 a71 a72 a73 a74 a75 a76 a77 a78 a79 a80 a81:Value) :
  kI.wpIn F29 0 Tryd.prog (fun e a w'=>e=.normal∧a.defers=[]∧(a.tmps.size=82∧a.tmps[8]?=some (.slice (some ⟨Mn,0,none⟩) m m)∧a.tmps[3]?=some a3∧a.tmps[6]?=some a6∧a.tmps[9]?=some a9∧a.tmps[10]?=some a10∧a.tmps[40]?=some a40∧a.tmps[41]?=some a41∧w'.heap.size=w.heap.size∧(∀ b,b≠Mn→w'.heap[b]?=w.heap[b]?)∧ManyAt w' Mn m (fun i=>f i+cntI o i)))
   ⟨#[a0,a1,a2,a3,a4,a5,a6,a7,.slice (some ⟨Mn,0,none⟩) m m,a9,a10,a11,a12,a13,a14,a15,a16,a17,a18,a19,a20,a21,a22,a23,a24,a25,a26,a27,a28,a29,a30,a31,a32,a33,a34,a35,a36,a37,a38,a39,a40,a41,a42,a43,a44,.slice ao o.length cap,num o.length,num 0,a48,a49,a50,a51,a52,a53,a54,a55,a56,a57,a58,a59,a60,a61,a62,a63,a64,a65,a66,a67,a68,a69,a70,a71,a72,a73,a74,a75,a76,a77,a78,a79,a80,a81],[]⟩ w:=by
 simp only [kI,jX,jr3,zbj,zfq,zdH,seqL,seqR,Tryd.f25];gi_wp2
 gi_loopw [47] (fun i wr=>∃ k:Nat,k≤o.length∧i=num k∧wr.heap.size=w.heap.size∧(∀ b,b≠Mn→wr.heap[b]?=w.heap[b]?)∧ManyAt wr Mn m (fun i=>f i+cntI (o.take k) i)) (fun i _=>o.length-(intOf i).toNat)
 case atStart=>exact⟨0,Nat.zero_le _,rfl,rfl,fun _ _=>rfl,by simpa [cntI] using hM⟩
 case round =>
  obtain⟨k,hk,rfl,hs,hkeep,hMr⟩:=hrel;by_cases hlt:k<o.length
  ·have hx:o[k]?=some o[k]:=List.getElem?_eq_getElem hlt
   generalize hxk:o[k]=x at hx;obtain⟨g,rfl,hg,hgl,hgc⟩:=hrow k x hx;have hxm:x∈o:=by rw [← hxk];exact List.getElem_mem _
   obtain⟨hx0,hx1⟩:=hob x hxm;obtain⟨y,rfl⟩:∃ y:Nat,x=y:=⟨x.toNat,by omega⟩;have hy:y<m:=by omega
   have e1:wr.cell? ⟨g,k,none⟩=some (num y):=(zbC (hkeep g hg)).trans hgc;have e2:=hMr.cell y hy;have e3:=hMr.fz y;have hcl:cntI (o.take k) y≤20:=by
    unfold cntI;have:=List.count_le_length (a:=(y:Int)) (l:=o.take k);rw [List.length_take] at this;omega
   have hc0:0≤cntI (o.take k) y:=by unfold cntI;omega
   have hfy:=hf y;have htake:o.take (k+1)=o.take k++[(y:Int)]:=by rw [List.take_add_one,hx];rfl
   generalize hz:f y+cntI (o.take k) y=z at e2;have hzb:0≤z∧z≤2000:=by omega
   clear hxk hrow hob;gi_wp2;refine⟨⟨k+1,hlt,by simp,by simp [hs],fun b hb=>?_,?_⟩,by simp [intOf];omega⟩
   ·rw [heap_setCell_other _ _ b _ (by simpa using hb)];exact hkeep b hb
   ·refine⟨by simpa using hMr.lt,fun i hi=>?_,fun i=>by rw [World.frozen?_setCell];exact hMr.fz i⟩
    by_cases hiy:i=y
    ·subst hiy
     refine (World.cell?_setCell_same _ _ _ e2).trans ?_;rw [htake];simp only [cntI,List.count_append,jqd,beq_self_eq_true,if_true];unfold cntI at hz;rw [← hz];simp;omega
    ·refine (World.cell?_setCell_other _ _ _ _ (by simpa using Ne.symm hiy)).trans ?_
     rw [hMr.cell i hi,htake];have hne:((y:Int) == (i:Int))=false:=by simp;omega
     simp only [cntI,List.count_append,jqd,hne];simp
  ·obtain rfl:k=o.length:=by omega
   rw [List.take_length] at hMr;gi_wp2;exact hkeep
noncomputable def m15:Code:=seqL jT
noncomputable def m16:Code:=seqL (seqR jT)
noncomputable def m26:Code:=seqL (seqR (seqR jT))
theorem zqB:jT=.seq m15 (.seq m16 (.seq m26 .ret)):=by kernel_rfl
theorem zjL:∃ i:TypeInfo,Tryd.prog.info? 74=some i∧i.zero=some (num 0)∧i.size=1∧i.bytes=8:=by
 have h:(Tryd.prog.info? 74).map (fun i=>(i.zero,i.size,i.bytes))=some (some (num 0),1,8):=by kernel_rfl
 cases hi:Tryd.prog.info? 74 with
 | none=>rw [hi] at h;cases h
 | some i =>
  rw [hi] at h;simp only [Option.map_some,Option.some.injEq,Prod.mk.injEq] at h;exact⟨i,rfl,h.1,h.2.1,h.2.2⟩
theorem ziX (base:Nat) (v:Value) (xs:List Int) (x:Int) (w:World) (hown:w.ownsRow base 74 1 v xs.length (xs.map num)) (a:Addr) (c:Nat) (hx:w.cell? a=some (num x)) (hn:xs.length≤1000) (hb:base≤w.heap.size) :
  ∃ v' w',(Builtin.append_ #[68,68] 68 #[v,.slice (some a) 1 c]).run Tryd.prog w=.ok v' w'∧w'.ownsRow base 74 1 v' (xs.length+1) ((xs++[x]).map num)∧w.grownBy w' v.ownBlock:=by
 obtain⟨i,hi,hz,h1,h2⟩:=zjL;obtain⟨v',w',hr,ho,hg,_⟩:=run_append_own_at (P:=Tryd.prog) w base 68 68 74 i (num 0) 1 8 Tryd.underlying68 hi hz h1 h2 rfl (by decide) v xs.length (xs.map num) hown a 1 c [num x] rfl (fun j u hj=>by
  cases j with
  | zero=>simp at hj;subst hj;exact hx
  | succ j=>simp at hj) (by intro u hu;simp at hu;subst hu;rfl) (by unfold maxLen;omega) (by omega) hb
 exact⟨v',w',hr,by rw [List.map_append];exact ho,hg⟩
def belS (all n:Int):Int:=if n=all then 1 else if n=0 then 2 else 0
def belL (all:Int) (f:Nat→Int):Nat→List Int
 | 0=>[]
 | k+1=>belL all f k++[belS all (f k)]
theorem zhH (all:Int) (f:Nat→Int):∀ k,(belL all f k).length=k
 | 0=>rfl
 | k+1=>by simp [belL,zhH all f k]
theorem zp1 (w:World) (Mn m:Nat) (all:Int) (f:Nat→Int) (hm:m≤20) (hM:ManyAt w Mn m f) (a0 a1 a2 a3 a4 a5 a6 a7 a10 a11 a12 a14 a15 a16 a17 a18 a19 a20 a21 a22 a23 a24 a25 a26 a27 a28 a29 a30 a31 a32 a33 a34 a35 a36 a37 a38 a39 a40 a41 a42 a43 a44 a45 a46 a47 a48 a49 a50 a51 a52 a53 a54 a55 a56 a57 a58 a59 a60 a61 a62 a63 a64 a65 a66 a67 a68 a69 a70 a71 a72 a73 a74 a75 a76 a77 a78 a79 a80 a81:Value) :
  m16.wpIn F29 0 Tryd.prog (fun e a w'=>e=.normal∧a.defers=[]∧(a.tmps.size=82∧Nx w w'∧∃ v,a.tmps[13]?=some v∧w'.ownsRow w.heap.size 74 1 v (belL all f m).length ((belL all f m).map num)))
   ⟨#[a0,a1,a2,a3,a4,a5,a6,a7,.slice (some ⟨Mn,0,none⟩) m m,num all,a10,a11,a12,.slice none 0 0,a14,a15,a16,a17,a18,a19,a20,a21,a22,a23,a24,a25,a26,a27,a28,a29,a30,a31,a32,a33,a34,a35,a36,a37,a38,a39,a40,a41,a42,a43,a44,a45,a46,a47,a48,a49,a50,a51,a52,a53,a54,a55,a56,a57,a58,a59,a60,a61,a62,a63,a64,a65,a66,a67,a68,a69,a70,a71,a72,a73,a74,a75,a76,a77,a78,a79,a80,a81],[]⟩ w:=by
 have hMl:=hM.lt;simp only [m16,jT,jr3,zdH,seqL,seqR,Tryd.f25];gi_wp2
 gi_loopw [13,61] (fun v i wr=>∃ (k:Nat) (vv:Value),k≤m∧vv=v∧i=num k∧Nx w wr∧wr.ownsRow w.heap.size 74 1 vv (belL all f k).length ((belL all f k).map num)) (fun _ i _=>m-(intOf i).toNat)
 case atStart=>exact⟨0,_,Nat.zero_le _,rfl,rfl,Below.refl _ _,World.ownsRow_nil ..⟩
 case round =>
  obtain⟨k,v0,hk,hv0,rfl,nr,hR⟩:=hrel;subst hv0;by_cases hlt:k<m
  ·have e2:wr.cell? ⟨Mn,k,none⟩=some (num (f k)):=(nr.cell (p:=⟨Mn,k,none⟩) hMl).trans (hM.cell k hlt)
   have hlen:=zhH all f k;have key:∀ x,belS all (f k)=x→∃ g cap w6,(Builtin.append_ #[68,68] 68 #[v0,.slice (some ⟨wr.heap.size,0,none⟩) 1 1]).run Tryd.prog (wr.alloc (.cells #[num x] 74))=.ok (.slice (some ⟨g,0,none⟩) (k+1) cap) w6∧Nx w w6∧w6.ownsRow w.heap.size 74 1 (.slice (some ⟨g,0,none⟩) (k+1) cap) (belL all f (k+1)).length ((belL all f (k+1)).map num):=by
    intro x hx;have ga:=World.grownBy_alloc wr (.cells #[num x] 74) none;obtain⟨v',w6,hr,ho,hg⟩:=ziX w.heap.size v0 (belL all f k) x (wr.alloc (.cells #[num x] 74)) (hR.kept ga (by cases v0.ownBlock<;>simp)) ⟨wr.heap.size,0,none⟩ 1 (zaA rfl rfl) (by omega) (by have:=nr.size;simp;omega);have ho2:=ho;obtain⟨_,⟨_,h0⟩ | ⟨g,cap,cur,rfl,hg1,_⟩⟩:=ho2
    ·simp at h0
    ·refine⟨g,cap,w6,by rw [hlen] at hr;exact hr,(zaG nr _).grown hg (fun r e=>?_),?_⟩
     ·obtain⟨_,⟨rfl,_⟩ | ⟨g2,cap2,cur2,rfl,hg2,_⟩⟩:=hR
      ·cases e
      ·simp only [Value.ownBlock,Option.some.injEq] at e;omega
     ·have hk1:belL all f (k+1)=belL all f k++[x]:=by rw [belL,hx]
      rw [hlen] at ho;rw [zhH,hk1];exact ho
   have hbel:belS all (f k)=if f k=all then 1 else if f k=0 then 2 else 0:=rfl
   by_cases h1:f k=all
   ·rw [if_pos h1] at hbel
    obtain⟨g,cap,w6,happ,n6,hR6⟩:=key _ hbel;simp [go_sem] at happ;have hb1:(f k == all)=true:=by simpa using h1
    have HR:=Lib.hid hR6;clear key hbel hR hR6;gi_wp2;exact⟨⟨k+1,_,hlt,rfl,by simp,n6,HR.out⟩,by simp [intOf];omega⟩
   ·rw [if_neg h1] at hbel
    have hb1:(f k == all)=false:=by simpa using h1
    by_cases h2:f k=0
    ·rw [if_pos h2] at hbel
     obtain⟨g,cap,w6,happ,n6,hR6⟩:=key _ hbel;simp [go_sem] at happ;have hb2:(f k == 0)=true:=by simpa using h2
     have HR:=Lib.hid hR6;clear key hbel hR hR6 h1 h2;gi_wp2;exact⟨⟨k+1,_,hlt,rfl,by simp,n6,HR.out⟩,by simp [intOf];omega⟩
    ·rw [if_neg h2] at hbel
     obtain⟨g,cap,w6,happ,n6,hR6⟩:=key _ hbel;simp [go_sem] at happ;have hb2:(f k == 0)=false:=by simpa using h2
     have HR:=Lib.hid hR6;clear key hbel hR hR6 h1 h2;gi_wp2;exact⟨⟨k+1,_,hlt,rfl,by simp,n6,HR.out⟩,by simp [intOf];omega⟩
  ·obtain rfl:k=m:=by omega
   gi_wp2
end Go.Proofs.YtbbanmifdbeneaaDoor
namespace Go.Proofs.YtbbanmifdbeneaaDoor
open Go.RowKit Go.Con Go.Conc
local instance:Lone:=zcG
def zbB (d:Dit) (l:Lg):List Nat→Nat→Int
 | [],_=>0
 | kk :: L,i=>cntI (outL d l (l.lo+kk) l.ops.length) i+zbB d l L i
theorem zet (d:Dit) (l:Lg) (i:Nat) {kk:Nat}:∀ {L:List Nat},kk∈L→zbB d l L i=cntI (outL d l (l.lo+kk) l.ops.length) i+zbB d l (L.erase kk) i
 | x :: L,h=>by
  by_cases hx:x=kk
  ·subst hx;simp [zbB]
  ·have hm:kk∈L:=by
    rcases List.mem_cons.1 h with h | h
    ·exact absurd h.symm hx
    ·exact h
   have:(x == kk)=false:=by simpa using hx
   rw [List.erase_cons_tail (by simpa using hx),zbB,zbB,zet d l i hm];omega
theorem zjN (d:Dit) (l:Lg) (n:Int) (i:Nat):∀ k,0≤cntI (outL d l n k) i∧cntI (outL d l n k) i≤if i<k then 1 else 0
 | 0=>by simp [outL,cntI]
 | k+1=>by
  have ih:=zjN d l n i k;have hc:cntI (outL d l n (k+1)) i=cntI (outL d l n k) i+(if (match l.ops[k]? with | some o=>d.out o.1 o.2.1 o.2.2 n | none=>false)=true∧i=k then 1 else 0):=by
   have e:outL d l n (k+1)=outL d l n k++(match l.ops[k]? with | some o=>if d.out o.1 o.2.1 o.2.2 n then [(k:Int)] else [] | none=>[]):=rfl;rw [e];unfold cntI;rw [List.count_append]
   cases l.ops[k]? with
   | none=>simp
   | some o =>
    dsimp only;by_cases ho:d.out o.1 o.2.1 o.2.2 n=true
    ·rw [if_pos ho,jqd]
     by_cases hik:i=k
     ·subst hik;simp [ho]
     ·have:((k:Int) == (i:Int))=false:=by simp;omega
      simp [this,hik]
    ·rw [if_neg ho]
     simp [ho]
  rw [hc]
  split<;>split at ih<;>split<;>omega
theorem zkc (d:Dit) (l:Lg) (i:Nat):∀ L,0≤zbB d l L i∧zbB d l L i≤L.length
 | []=>by simp [zbB]
 | kk :: L=>by
  have h1:=zkc d l i L;have h2:=zjN d l (l.lo+kk) i l.ops.length;simp only [zbB,List.length_cons]
  split at h2<;>omega
theorem zmg (d:Dit) (l:Lg) (n:Int):∀ k,∀ x∈outL d l n k,0≤x∧x<(k:Int)
 | 0,x,h=>by simp [outL] at h
 | k+1,x,h=>by
  unfold outL at h;rcases List.mem_append.1 h with h | h
  ·have:=zmg d l n k x h;omega
  ·split at h
   ·split at h
    ·simp at h;omega
    ·simp at h
   ·simp at h
theorem gs {t:Array Value} {i j:Nat} {v:Value}:(t.setIfInBounds i v)[j]?=if i=j then (if i<t.size then some v else none) else t[j]?:=Array.getElem?_setIfInBounds
theorem zoD {d:Dit} {l:Lg} (h:logS d l=0):zkX d l∧(-100≤l.lo∧l.lo≤l.hi∧l.hi≤100):=by
 unfold logS at h
 split at h
 ·rename_i h0;exact absurd h h0
 ·split at h
  ·cases h
  ·rename_i hc
   split at h
   ·cases h
   ·rename_i hn
    refine⟨⟨by omega,fun i o ho=>?_⟩,Decidable.not_not.1 hc⟩;have h1:=zcv h i o ho;unfold zjq at h1
    split at h1
    ·split at h1
     ·split at h1
      ·cases h1
      ·split at h1
       ·cases h1
       ·rename_i p1 p2 p3 p4
        exact⟨p1,p2.1,p2.2,by omega,by omega⟩
     ·cases h1
    ·cases h1
end Go.Proofs.YtbbanmifdbeneaaDoor
namespace Go.Proofs.YtbbanmifdbeneaaDoor
open Go.RowKit Go.Con Go.Conc
theorem zqJ {t:Array Value} (h:t.size=82) {v8 v45 v46 v47:Value} (h8:t[8]?=some v8) (h45:t[45]?=some v45) (h46:t[46]?=some v46) (h47:t[47]?=some v47):∃ a0 a1 a2 a3 a4 a5 a6 a7 a9 a10 a11 a12 a13 a14 a15 a16 a17 a18 a19 a20 a21 a22 a23 a24 a25 a26 a27 a28 a29 a30 a31 a32 a33 a34 a35 a36 a37 a38 a39 a40 a41 a42 a43 a44 a48 a49 a50 a51 a52 a53 a54 a55 a56 a57 a58 a59 a60 a61 a62 a63 a64 a65 a66 a67 a68 a69 a70 a71 a72 a73 a74 a75 a76 a77 a78 a79 a80 a81,t=#[a0,a1,a2,a3,a4,a5,a6,a7,v8,a9,a10,a11,a12,a13,a14,a15,a16,a17,a18,a19,a20,a21,a22,a23,a24,a25,a26,a27,a28,a29,a30,a31,a32,a33,a34,a35,a36,a37,a38,a39,a40,a41,a42,a43,a44,v45,v46,v47,a48,a49,a50,a51,a52,a53,a54,a55,a56,a57,a58,a59,a60,a61,a62,a63,a64,a65,a66,a67,a68,a69,a70,a71,a72,a73,a74,a75,a76,a77,a78,a79,a80,a81]:=by
 obtain⟨l⟩:=t;simp only [List.size_toArray] at h;obtain⟨a0,a1,a2,a3,a4,a5,a6,a7,l,rfl,h901⟩:=len8 h;obtain⟨a8,a9,a10,a11,a12,a13,a14,a15,l,rfl,h902⟩:=len8 h901;obtain⟨a16,a17,a18,a19,a20,a21,a22,a23,l,rfl,h903⟩:=len8 h902;obtain⟨a24,a25,a26,a27,a28,a29,a30,a31,l,rfl,h904⟩:=len8 h903;obtain⟨a32,a33,a34,a35,a36,a37,a38,a39,l,rfl,h905⟩:=len8 h904;obtain⟨a40,a41,a42,a43,a44,a45,a46,a47,l,rfl,h906⟩:=len8 h905;obtain⟨a48,a49,a50,a51,a52,a53,a54,a55,l,rfl,h907⟩:=len8 h906;obtain⟨a56,a57,a58,a59,a60,a61,a62,a63,l,rfl,h908⟩:=len8 h907;obtain⟨a64,a65,a66,a67,a68,a69,a70,a71,l,rfl,h909⟩:=len8 h908;obtain⟨a72,a73,a74,a75,a76,a77,a78,a79,l,rfl,h910⟩:=len8 h909;obtain⟨a80,l,rfl,h911⟩:=len1 h910;obtain⟨a81,l,rfl,h912⟩:=len1 h911;rcases l with _ | ⟨b,l⟩
 rotate_left
 ·cases h912
 obtain rfl:a8=v8:=Option.some.inj h8;obtain rfl:a45=v45:=Option.some.inj h45;obtain rfl:a46=v46:=Option.some.inj h46;obtain rfl:a47=v47:=Option.some.inj h47;exact⟨_,_,_,_,_,_,_,_,_,_,_,_,_,_,_,_,_,_,_,_,_,_,_,_,_,_,_,_,_,_,_,_,_,_,_,_,_,_,_,_,_,_,_,_,_,_,_,_,_,_,_,_,_,_,_,_,_,_,_,_,_,_,_,_,_,_,_,_,_,_,_,_,_,_,_,_,_,_,rfl⟩
theorem zqN {t:Array Value} (h:t.size=82) {v8 v9 v13:Value} (h8:t[8]?=some v8) (h9:t[9]?=some v9) (h13:t[13]?=some v13):∃ a0 a1 a2 a3 a4 a5 a6 a7 a10 a11 a12 a14 a15 a16 a17 a18 a19 a20 a21 a22 a23 a24 a25 a26 a27 a28 a29 a30 a31 a32 a33 a34 a35 a36 a37 a38 a39 a40 a41 a42 a43 a44 a45 a46 a47 a48 a49 a50 a51 a52 a53 a54 a55 a56 a57 a58 a59 a60 a61 a62 a63 a64 a65 a66 a67 a68 a69 a70 a71 a72 a73 a74 a75 a76 a77 a78 a79 a80 a81,t=#[a0,a1,a2,a3,a4,a5,a6,a7,v8,v9,a10,a11,a12,v13,a14,a15,a16,a17,a18,a19,a20,a21,a22,a23,a24,a25,a26,a27,a28,a29,a30,a31,a32,a33,a34,a35,a36,a37,a38,a39,a40,a41,a42,a43,a44,a45,a46,a47,a48,a49,a50,a51,a52,a53,a54,a55,a56,a57,a58,a59,a60,a61,a62,a63,a64,a65,a66,a67,a68,a69,a70,a71,a72,a73,a74,a75,a76,a77,a78,a79,a80,a81]:=by
 obtain⟨l⟩:=t;simp only [List.size_toArray] at h;obtain⟨a0,a1,a2,a3,a4,a5,a6,a7,l,rfl,h901⟩:=len8 h;obtain⟨a8,a9,a10,a11,a12,a13,a14,a15,l,rfl,h902⟩:=len8 h901;obtain⟨a16,a17,a18,a19,a20,a21,a22,a23,l,rfl,h903⟩:=len8 h902;obtain⟨a24,a25,a26,a27,a28,a29,a30,a31,l,rfl,h904⟩:=len8 h903;obtain⟨a32,a33,a34,a35,a36,a37,a38,a39,l,rfl,h905⟩:=len8 h904;obtain⟨a40,a41,a42,a43,a44,a45,a46,a47,l,rfl,h906⟩:=len8 h905;obtain⟨a48,a49,a50,a51,a52,a53,a54,a55,l,rfl,h907⟩:=len8 h906;obtain⟨a56,a57,a58,a59,a60,a61,a62,a63,l,rfl,h908⟩:=len8 h907;obtain⟨a64,a65,a66,a67,a68,a69,a70,a71,l,rfl,h909⟩:=len8 h908;obtain⟨a72,a73,a74,a75,a76,a77,a78,a79,l,rfl,h910⟩:=len8 h909;obtain⟨a80,l,rfl,h911⟩:=len1 h910;obtain⟨a81,l,rfl,h912⟩:=len1 h911;rcases l with _ | ⟨b,l⟩
 rotate_left
 ·cases h912
 obtain rfl:a8=v8:=Option.some.inj h8;obtain rfl:a9=v9:=Option.some.inj h9;obtain rfl:a13=v13:=Option.some.inj h13;exact⟨_,_,_,_,_,_,_,_,_,_,_,_,_,_,_,_,_,_,_,_,_,_,_,_,_,_,_,_,_,_,_,_,_,_,_,_,_,_,_,_,_,_,_,_,_,_,_,_,_,_,_,_,_,_,_,_,_,_,_,_,_,_,_,_,_,_,_,_,_,_,_,_,_,_,_,_,_,_,_,rfl⟩
end Go.Proofs.YtbbanmifdbeneaaDoor
