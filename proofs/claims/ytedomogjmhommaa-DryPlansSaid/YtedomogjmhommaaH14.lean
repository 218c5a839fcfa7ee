import Derived.Test.YtedomogjmhommaaH10
import Derived.Test.YtedomogjmhommaaH11
set_option linter.all false
set_option maxRecDepth 100000
set_option maxHeartbeats 8000000
namespace Go
open Go.RowKit
def Hd (o:Obj):Prop:=∀ cs fz,o≠.cells cs 45 fz∧o≠.cells cs 50 fz
theorem Hd.non {o:Obj} (h:o.isCells=false):Hd o:=fun cs fz=>⟨fun e=>(by subst e;cases h),fun e=>(by subst e;cases h)⟩
def AbQ {β:Type} (B:Nat) (J:β→World→Prop):Prop:=∀ s W W' row,J s W→W.grownBy W' row→(∀ r,row=some r→B≤r∧∃ o:Obj,W.heap[r]?=some o∧Hd o)→J s W'
def Hx (o:Obj):Prop:=o.isCells=false∨∃ cs fz,o=.cells cs 4 fz
def AbX {β:Type} (B:Nat) (J:β→World→Prop):Prop:=∀ s W W' row,J s W→W.grownBy W' row→(∀ r,row=some r→B≤r∧∃ o:Obj,W.heap[r]?=some o∧Hx o)→J s W'
def ziU {α:Type} (F:Fence) (n:Nat) (P:Program) (g:Nat) (lb:Array Value) (encs:α→Array Value) (Kp:World→World→Prop) (Rv:α→World→Prop) (N0:Nat) (S Sp:List α→Prop) (w:World):Prop :=
 ∀ (l:Nat) (J Jx:List α→World→Prop) (W:World),Below w.heap.size w W→W.heap.size=N0→AbQ N0 J→AbX N0 Jx →
  (∀ pre x W1,J pre W1→Rv x W1→YieldAt F (n-1) P l (encs x) W1 fun e W' =>
   (e=.returned (.bool true)∧J (pre++[x]) W'∧Kp W1 W')∨(e=.returned (.bool false)∧Jx (pre++[x]) W'∧Kp W1 W')) →
  J [] W →
  CallsIn F n P g (#[.func (.yield l) #[] #[]]++lb) W fun e W'=>(∃ v,e=.returned v)∧((∃ xs,S xs∧J xs W')∨(∃ pre,Sp pre∧Jx pre W'))
def zoZ {α:Type} (B:Nat) (Kp:World→World→Prop) (I:List α→World→Prop) (Ix:Code→List α→World→Prop) (xs:List α) (W:World):Exit→Act→World→Prop
 | .normal,_,W'=>KeepsFrom B W W'∧Kp W W'∧I xs W'
 | .ret,_,W'=>KeepsFrom B W W'∧Kp W W'∧Ix .ret xs W'
 | .exit id,_,W'=>KeepsFrom B W W'∧Kp W W'∧Ix (.exit id) xs W'
 | .goto t,_,W'=>KeepsFrom B W W'∧Kp W W'∧Ix (.goto t) xs W'
 | .panic _,_,_=>False
 | .outgrown,_,_=>False
section
variable {F:Fence} {n:Nat} {P:Program}
theorem AbQ.putObj {β:Type} {B:Nat} {I:β→World→Prop} (h:AbQ B I) {s:β} {W:World} {l:Nat} {o:Obj} (o' : Obj) (hs:I s W) (hB:B≤l) (hl:W.heap[l]?=some o) (ho:o.isCells=false):I s (W.putObj l o') :=
 h s W _ (some l) hs (grownBy_putObj' W l o') (fun r e=>by cases e;exact⟨hB,o,hl,Hd.non ho⟩)
theorem AbQ.alloc {β:Type} {B:Nat} {I:β→World→Prop} (h:AbQ B I) {s:β} {W:World} (o:Obj) (hs:I s W):I s (W.alloc o) :=
 h s W _ none hs (World.grownBy_alloc W o none) (fun r e=>by cases e)
theorem AbX.putObj {β:Type} {B:Nat} {I:β→World→Prop} (h:AbX B I) {s:β} {W:World} {l:Nat} {o:Obj} (o' : Obj) (hs:I s W) (hB:B≤l) (hl:W.heap[l]?=some o) (ho:o.isCells=false):I s (W.putObj l o') :=
 h s W _ (some l) hs (grownBy_putObj' W l o') (fun r e=>by cases e;exact⟨hB,o,hl,.inl ho⟩)
theorem wpIn_rangeFunc_ownR {α:Type} {g:Operand} {ps:Array Tmp} {assign body:Code} {Q:Exit→Act→World→Prop} {a:Act} {w:World}
  (hro:F.round=none) (h1:1≤n) {gf:Nat} {lb:Array Value} (hg:a.eval g=.func (.func gf) #[] lb) (hFg:F.fn gf) (eg:∀ args w,(callFunc gf args).run P w=.ok (.enter gf args) w)
  {encs:α→Array Value} {Kp:World→World→Prop} {Rv:α→World→Prop} {S Sp:List α→Prop} (hseq:ziU F (n-1) P gf lb encs Kp Rv (w.heap.size+2) S Sp w)
  (hKt:∀ {A B C:World},Kp A B→Kp B C→Kp A C) (hKb:∀ (W:World) (r:Loop) (o' : Obj),W.heap[w.heap.size+1]?=some (.loop r)→Kp W (W.putObj (w.heap.size+1) o')) (hRb:∀ x W (r:Loop) (o' : Obj),W.heap[w.heap.size+1]?=some (.loop r)→Rv x W→Rv x (W.putObj (w.heap.size+1) o')) (hps:∀ x,(encs x).size=ps.size)
  (I:List α→World→Prop) (Ix:Code→List α→World→Prop) (hI:AbQ w.heap.size I) (hIx:∀ c,AbX w.heap.size (Ix c)) (h0:I [] w) (a₁:α→Act)
  (hassign:∀ (l:Nat) (x:α) (W:World) (K:Act→World→Prop),K (a₁ x) W →
   assign.wpIn (F.inRound l) (n-1-1) P (Exit.then K (fun _ _ _=>False)) { tmps:=(ps.zip (encs x)).foldl (fun t (p,v)=>t.setIfInBounds p v) a.tmps,defers:=[] } W)
  (hbody:∀ (l:Nat) (pre:List α) (x:α) (W:World),I pre W→Rv x W→body.wpIn (F.inRound l) (n-1-1) P (zoZ w.heap.size Kp I Ix (pre++[x]) W) (a₁ x) W)
  (hdone:∀ (D:Nat) (xs:List α) (W:World),w.heap.size≤D→S xs→I xs W→W.heap[D]?=some (.deferred (some []))→Q .normal { a with defers:={ target:=.collected D,args:=#[] } :: a.defers } W)
  (hstop:∀ (D:Nat) (c:Code) (pre:List α) (W:World),w.heap.size≤D→Sp pre→Ix c pre W→W.heap[D]?=some (.deferred (some []))→c.wpIn F n P Q { a with defers:={ target:=.collected D,args:=#[] } :: a.defers } W) :
  (Code.rangeFunc g ps assign body).wpIn F n P Q a w:=by
 refine wpIn_rangeFunc ?_
 intro fn hfn
 rw [hro]
 obtain⟨rec,hrec⟩:∃ rec:LoopState→Option Code→Loop,rec=fun st pe=>{ state:=st,pending:=pe,fn,tmps:=a.tmps,params:=ps,assign,body,defers:=w.heap.size }:=⟨_,rfl⟩
 obtain⟨W1,hW1⟩:∃ W1,(w.alloc (.deferred (some []))).alloc (.loop (rec .ready none))=W1:=⟨_,rfl⟩
 have hL1:W1.heap[w.heap.size+1]?=some (.loop (rec .ready none)):=by
  rw [← hW1];have:=World.alloc_heap_new (w.alloc (.deferred (some []))) (.loop (rec .ready none));rwa [World.size_alloc] at this
 have hK1:W1.heap[w.heap.size]?=some (.deferred (some [])):=by
  rw [← hW1];exact (Below.heap_alloc _ _ _ (by simp)).trans (World.alloc_heap_new w _)
 have hs1:W1.heap.size=w.heap.size+2:=by rw [← hW1];simp
 have hI1:I [] W1:=by rw [← hW1];exact hI.alloc _ (hI.alloc _ h0)
 have hb1:Below w.heap.size w W1:=by
  rw [← hW1];exact (((Below.refl _ w).alloc (Nat.le_refl _) _).alloc (by simp) _)
 refine⟨w.heap.size+1,[{ target:=.collected w.heap.size,args:=#[] }],W1,{ target:=.fn (.func gf) lb,args:=#[.func (.yield (w.heap.size+1)) #[] #[]] },W1,gf,
  #[.func (.yield (w.heap.size+1)) #[] #[]]++lb,W1,?_,?_,?_,?_,fun _=>h1,?_⟩
 ·rw [← hW1,hrec];exact run_enterLoop_outer _ _ _ _ _
 ·simp only [resolve,hg]
  simp [go_sem]
 ·intro f' hf';simp [Target.leads] at hf';subst hf';exact hFg
 ·simp [invoke,go_sem,eg]
 ·have farx:∀ {A B:World} {row:Option Nat},(∀ r,row=some r→w.heap.size+2≤r∧∃ o:Obj,A.heap[r]?=some o∧Hx o)→(∀ r,row=some r→w.heap.size≤r∧∃ o:Obj,A.heap[r]?=some o∧Hx o) :=
   fun hr r e=>⟨by have:=(hr r e).1;omega,(hr r e).2⟩
  have blkx:∀ {A B:World} {row:Option Nat} {k:Nat} {o:Obj},A.grownBy B row→(∀ r,row=some r→w.heap.size+2≤r∧∃ o:Obj,A.heap[r]?=some o∧Hx o)→k<w.heap.size+2→A.heap[k]?=some o→B.heap[k]?=some o :=
   fun hg' hr hk ho=>(hg'.block _ (Array.getElem?_eq_some_iff.1 ho).1 (fun e=>by have:=(hr _ e.symm).1;omega)).trans ho
  have far:∀ {A B:World} {row:Option Nat},(∀ r,row=some r→w.heap.size+2≤r∧∃ o:Obj,A.heap[r]?=some o∧Hd o)→(∀ r,row=some r→w.heap.size≤r∧∃ o:Obj,A.heap[r]?=some o∧Hd o) :=
   fun hr r e=>⟨by have:=(hr r e).1;omega,(hr r e).2⟩
  have blk:∀ {A B:World} {row:Option Nat} {k:Nat} {o:Obj},A.grownBy B row→(∀ r,row=some r→w.heap.size+2≤r∧∃ o:Obj,A.heap[r]?=some o∧Hd o)→k<w.heap.size+2→A.heap[k]?=some o→B.heap[k]?=some o :=
   fun hg' hr hk ho=>(hg'.block _ (Array.getElem?_eq_some_iff.1 ho).1 (fun e=>by have:=(hr _ e.symm).1;omega)).trans ho
  refine (hseq (w.heap.size+1)
   (fun pre W=>I pre W∧W.heap[w.heap.size+1]?=some (.loop (rec .ready none))∧W.heap[w.heap.size]?=some (.deferred (some [])))
   (fun pre W=>∃ c,Ix c pre W∧W.heap[w.heap.size+1]?=some (.loop (rec .done (some c)))∧W.heap[w.heap.size]?=some (.deferred (some [])))
   W1 hb1 hs1
   (fun s A B row hs hg' hr=>⟨hI s A B row hs.1 hg' (far (B:=B) hr),blk hg' hr (by omega) hs.2.1,blk hg' hr (by omega) hs.2.2⟩)
   (fun s A B row hs hg' hr=>by
    obtain⟨c,hc,hl,hk⟩:=hs
    exact⟨c,hIx c s A B row hc hg' (farx (B:=B) hr),blkx hg' hr (by omega) hl,blkx hg' hr (by omega) hk⟩)
   ?_ ⟨hI1,hL1,hK1⟩).mono ?_
  ·rintro pre x W ⟨hi,hl,hk⟩ hRx
   have hlt:w.heap.size+1<W.heap.size:=(Array.getElem?_eq_some_iff.1 hl).1
   have hy:=run_yield (P:=P) (args:=encs x) hl (by rw [hrec];exact hps x)
   rw [hrec] at hy
   refine⟨fn,_,assign,body,hy,roundIn_of_wpIn hfn (hassign _ x W _ ⟨_,run_beginRound hl (by rw [hrec]),?_⟩)⟩
   have hl2:(W.putObj (w.heap.size+1) (.loop { rec .ready none with state:=.busy })).heap[w.heap.size+1]?=some (.loop { rec .ready none with state:=.busy }):=World.putObj_heap_same hlt
   have hk2:(W.putObj (w.heap.size+1) (.loop { rec .ready none with state:=.busy })).heap[w.heap.size]?=some (.deferred (some [])):=(World.putObj_heap_other (by omega)).trans hk
   have hw2:Kp W (W.putObj (w.heap.size+1) (.loop { rec .ready none with state:=.busy })):=hKb _ _ _ hl
   refine wpIn_mono (hbody _ pre x _ (hI.putObj _ hi (by omega) hl rfl) (hRb _ _ _ _ hl hRx)) ?_
   have fin:∀ (jump:Option Code) (W3:World),KeepsFrom w.heap.size (W.putObj (w.heap.size+1) (.loop { rec .ready none with state:=.busy })) W3 →
     (Instr.endRound (w.heap.size+1) jump).run P W3=.ok (.bool jump.isNone) (W3.putObj (w.heap.size+1) (.loop (rec (if jump.isNone then .ready else .done) jump))) ∧
     W3.heap[w.heap.size+1]?=some (.loop { rec .ready none with state:=.busy }) ∧
     (W3.putObj (w.heap.size+1) (.loop (rec (if jump.isNone then .ready else .done) jump))).heap[w.heap.size+1]?=some (.loop (rec (if jump.isNone then .ready else .done) jump)) ∧
     (W3.putObj (w.heap.size+1) (.loop (rec (if jump.isNone then .ready else .done) jump))).heap[w.heap.size]?=some (.deferred (some [])):=fun jump W3 hk3=>by
    have hl3:=hk3.same _ _ (by omega) hl2 rfl
    have:=run_endRound (P:=P) jump hl3
    rw [hrec] at this ⊢
    exact⟨this,by rw [hrec] at hl3;exact hl3,World.putObj_heap_same (Array.getElem?_eq_some_iff.1 hl3).1,(World.putObj_heap_other (by omega)).trans (hk3.same _ _ (Nat.le_refl _) hk2 rfl)⟩
   rintro e a3 W3 hp
   cases e with
   | normal =>
    obtain⟨hk3,hkp3,hi3⟩:=hp
    obtain⟨hr,hl3,hl4,hk4⟩:=fin none W3 hk3
    exact⟨_,_,hr,.inl ⟨rfl,⟨hI.putObj _ hi3 (by omega) hl3 rfl,hl4,hk4⟩,hKt (hKt hw2 hkp3) (hKb _ _ _ hl3)⟩⟩
   | ret =>
    obtain⟨hk3,hkp3,hi3⟩:=hp
    obtain⟨hr,hl3,hl4,hk4⟩:=fin (some .ret) W3 hk3
    exact⟨_,_,hr,.inr ⟨rfl,⟨.ret,(hIx _).putObj _ hi3 (by omega) hl3 rfl,hl4,hk4⟩,hKt (hKt hw2 hkp3) (hKb _ _ _ hl3)⟩⟩
   | exit id =>
    obtain⟨hk3,hkp3,hi3⟩:=hp
    obtain⟨hr,hl3,hl4,hk4⟩:=fin (some (.exit id)) W3 hk3
    exact⟨_,_,hr,.inr ⟨rfl,⟨.exit id,(hIx _).putObj _ hi3 (by omega) hl3 rfl,hl4,hk4⟩,hKt (hKt hw2 hkp3) (hKb _ _ _ hl3)⟩⟩
   | goto t =>
    obtain⟨hk3,hkp3,hi3⟩:=hp
    obtain⟨hr,hl3,hl4,hk4⟩:=fin (some (.goto t)) W3 hk3
    exact⟨_,_,hr,.inr ⟨rfl,⟨.goto t,(hIx _).putObj _ hi3 (by omega) hl3 rfl,hl4,hk4⟩,hKt (hKt hw2 hkp3) (hKb _ _ _ hl3)⟩⟩
   | panic ch=>exact hp.elim
   | outgrown=>exact hp.elim
  ·rintro e W2 ⟨⟨v,rfl⟩,(⟨xs,hS,hi,hl,hk⟩ | ⟨pre,hSp,c,hi,hl,hk⟩)⟩
   ·exact⟨none,_,by have:=run_endLoop (P:=P) hl (by rw [hrec];simp);rw [hrec] at this;exact this,hdone _ xs _ (Nat.le_refl _) hS (hI.putObj _ hi (by omega) hl rfl) ((World.putObj_heap_other (by omega)).trans hk)⟩
   ·exact⟨some c,_,by have:=run_endLoop (P:=P) hl (by rw [hrec];simp);rw [hrec] at this;exact this,hstop _ c pre _ (Nat.le_refl _) hSp ((hIx c).putObj _ hi (by omega) hl rfl) ((World.putObj_heap_other (by omega)).trans hk)⟩
end
end Go
namespace Go.Proofs.Ytedomogjmhommaa
open Go.RowKit Go.Shelf
def zaH:List Stp→List (List Int)
 | []=>[[]]
 | x :: xs=>x.damps.flatMap fun a=>(zaH xs).map (a :: ·)
structure KpR (N0:Nat) (T:World→Prop) (qx:Option Nat) (W W' : World):Prop where
 size:W.heap.size≤W'.heap.size
 st:T W→T W'
 kp:∀ r o,N0≤r→some r≠qx→W.heap[r]?=some o→Hd o→W'.heap[r]?=some o
theorem KpR.refl (N0:Nat) (T:World→Prop) (qx:Option Nat) (W:World):KpR N0 T qx W W:=⟨Nat.le_refl _,id,fun _ _ _ _ h _=>h⟩
theorem KpR.trans {N0:Nat} {T:World→Prop} {qx:Option Nat} {A B C:World} (h:KpR N0 T qx A B) (k:KpR N0 T qx B C):KpR N0 T qx A C :=
 ⟨Nat.le_trans h.size k.size,fun t=>k.st (h.st t),fun r o h1 h2 h3 h4=>k.kp r o h1 h2 (h.kp r o h1 h2 h3 h4) h4⟩
theorem KpR.weak {N0:Nat} {T:World→Prop} {qx:Option Nat} {A B:World} (h:KpR N0 T none A B):KpR N0 T qx A B:=⟨h.size,h.st,fun r o h1 _ h3 h4=>h.kp r o h1 (by simp) h3 h4⟩
def cutW (N:Nat) (W:World):World:={ W with heap:=W.heap.take N }
theorem zhC {N b:Nat} {W:World} (h:b<N):(cutW N W).heap[b]?=W.heap[b]?:=by
 simp [cutW,Array.getElem?_extract]
 omega
theorem zm2 {N b:Nat} {W:World} (h:N≤b):(cutW N W).heap[b]?=none:=by
 simp [cutW,Array.getElem?_extract]
 omega
theorem zcq {N:Nat} {W:World}:(cutW N W).heap.size=min N W.heap.size:=by simp [cutW]
theorem zf4 {N:Nat} {W:World} {a:Addr} (h:a.block<N):(cutW N W).cell? a=W.cell? a:=World.cell?_of_block (zhC h)
theorem zpA (N:Nat) (W:World):Kc (cutW N W) W:=⟨by rw [zcq];omega,fun {a v} h=>by
 obtain⟨o,ho,_⟩:=cells_of_cell h
 by_cases hb:a.block<N
 ·rw [← h,zf4 hb]
 ·rw [zm2 (by omega)] at ho;cases ho⟩
theorem znn {N:Nat} {W W' : World} (hs:W.heap.size≤W'.heap.size) (hb:∀ b,b<N→W'.heap[b]?=W.heap[b]?):Kc (cutW N W) (cutW N W'):=⟨by rw [zcq,zcq];omega,fun {a v} h=>by
 obtain⟨o,ho,_⟩:=cells_of_cell h
 by_cases hbl:a.block<N
 ·rw [zf4 hbl] at h ⊢
  rw [← h]
  exact World.cell?_of_block (hb _ hbl)
 ·rw [zm2 (by omega)] at ho;cases ho⟩
def Tw (N0 B Co:Nat) (d:Dry) (W:World):Prop:=StoveAt (cutW N0 W) B d∧(cutW N0 W).cell? ⟨Co,0,none⟩=some (ptr B)
theorem Tw.same {N0 B Co:Nat} {d:Dry} {W W' : World} (h:Tw N0 B Co d W) (hs:W.heap.size≤W'.heap.size) (hb:∀ b,b<N0→W'.heap[b]?=W.heap[b]?):Tw N0 B Co d W' :=
 ⟨h.1.kc (znn hs hb),(znn hs hb).cell h.2⟩
theorem Tw.one' {N B Co:Nat} {d:Dry} {W:World} {r:Loop} {o' : Obj} (h:Tw (N+2) B Co d W) (hr:W.heap[N+1]?=some (.loop r)):Tw (N+2) B Co d (W.putObj (N+1) o'):=by
 have hk:Kc (cutW (N+2) W) (cutW (N+2) (W.putObj (N+1) o')):=⟨by rw [zcq,zcq];simp,fun {a v} h=>by
  obtain⟨o,ho,hc⟩:=cells_of_cell h
  by_cases hb:a.block<N+2
  ·rw [zf4 hb] at h ⊢
   rw [← h]
   refine World.cell?_of_block (World.putObj_heap_other (fun e=>?_))
   rw [zhC hb,e,hr] at ho
   cases ho
   cases hc
  ·rw [zm2 (by omega)] at ho;cases ho⟩
 exact⟨h.1.kc hk,hk.cell h.2⟩
theorem Tw.stove {N0 B Co:Nat} {d:Dry} {W:World} (h:Tw N0 B Co d W):StoveAt W B d:=h.1.kc (zpA N0 W)
theorem Tw.box {N0 B Co:Nat} {d:Dry} {W:World} (h:Tw N0 B Co d W):W.cell? ⟨Co,0,none⟩=some (ptr B):=(zpA N0 W).cell h.2
theorem KpR.nx {N0 B Co:Nat} {d:Dry} {qx:Option Nat} {A C:World} (h:Nx A C) (hN:N0≤A.heap.size):KpR N0 (Tw N0 B Co d) qx A C :=
 ⟨h.size,fun t=>t.same h.size (fun b hb=>h.block b (by omega)),fun r o _ _ h3 _=>(h.block r (Array.getElem?_eq_some_iff.1 h3).1).trans h3⟩
theorem anyY {m m' l:Nat} {args:Array Value} {W:World} {R:Ending→World→Prop} (h:YieldAt FW m Try.prog l args W R):YieldAt FW m' Try.prog l args W R:=by
 obtain⟨fn,tmps,assign,body,hy,hR⟩:=h
 exact⟨fn,tmps,assign,body,hy,hR.1,fun c cs _=>hR.2 c cs (fun d hd=>by cases hd)⟩
end Go.Proofs.Ytedomogjmhommaa
namespace Go.Proofs.Ytedomogjmhommaa
open Go.RowKit Go.Shelf
attribute [local go_sem] Oper.semAt_some
structure Wl (W:World) (d:Dry) (B Co N0 l:Nat):Prop where
 t:Tw N0 B Co d W
 c2:W.heap[N0]?=some (.cells #[.func (.yield l) #[] #[]] 152 (0,0))
 c1:W.heap[N0+2]?=some (.cells #[.slice (some ⟨N0+1,0,none⟩) d.steps.length d.steps.length] 38 (0,0))
 c4:W.heap[N0+3]?=some (.cells #[.func (.func 101) #[] #[ptr (N0+2),ptr N0,ptr Co,ptr (N0+3)]] 145 (0,0))
theorem zbf {cs:Array Value} {e:TypeId} {fz:Nat×Nat} (h1:e≠45) (h2:e≠50):Hd (.cells cs e fz):=fun _ _=>⟨fun h=>by cases h;exact h1 rfl,fun h=>by cases h;exact h2 rfl⟩
theorem Wl.kp {W W' : World} {d:Dry} {B Co N0 l:Nat} (h:Wl W d B Co N0 l) (k:KpR N0 (Tw N0 B Co d) (some (N0+1)) W W'):Wl W' d B Co N0 l :=
 ⟨k.st h.t,k.kp _ _ (Nat.le_refl _) (by simp) h.c2 (zbf (by decide) (by decide)),k.kp _ _ (by omega) (by simp) h.c1 (zbf (by decide) (by decide)),k.kp _ _ (by omega) (by simp) h.c4 (zbf (by decide) (by decide))⟩
def Rv (d:Dry) (N0:Nat) (x:List Int) (W:World):Prop:=x∈zaH d.steps∧W.heap[N0+1]?=some (.cells (x.map num).toArray 3 (0,0))
section
variable (d:Dry) (B Co N0 l:Nat) (J Jx:List (List Int)→World→Prop)
abbrev HY2:Prop:=∀ pre x W1,J pre W1→Rv d N0 x W1→YieldAt FW 0 Try.prog l #[.slice (some ⟨N0+1,0,none⟩) d.steps.length d.steps.length] W1 fun e W' =>
   (e=.returned (.bool true)∧J (pre++[x]) W'∧KpR N0 (Tw N0 B Co d) none W1 W')∨(e=.returned (.bool false)∧Jx (pre++[x]) W'∧KpR N0 (Tw N0 B Co d) none W1 W')
abbrev WkC (k j:Nat):Prop:=∀ (p rest:List Int) (pre:List (List Int)) (W:World),p.length=k→rest.length=j→Wl W d B Co N0 l→W.heap[N0+1]?=some (.cells ((p++rest).map num).toArray 3 (0,0))→J pre W→(∀ t∈zaH (d.steps.drop k),p++t∈zaH d.steps) →
 CallsIn FW 0 Try.prog 101 #[num k,ptr (N0+2),ptr N0,ptr Co,ptr (N0+3)] W fun e W' =>
  (e=.returned (.bool true)∧J (pre++(zaH (d.steps.drop k)).map (p++·)) W'∧KpR N0 (Tw N0 B Co d) (some (N0+1)) W W'∧∃ rest',rest'.length=j∧W'.heap[N0+1]?=some (.cells ((p++rest').map num).toArray 3 (0,0))) ∨
  (e=.returned (.bool false)∧KpR N0 (Tw N0 B Co d) (some (N0+1)) W W'∧∃ qs,qs <+: (zaH (d.steps.drop k)).map (p++·)∧Jx (pre++qs) W')
end
theorem zlu {t:Array Value} {W:World} {b:Nat} {v:Value} {fz:Nat×Nat} {e:TypeId} (h6:t[6]?=some (ptr b)) (g1:W.heap[b]?=some (.cells #[v] e fz)):(results Try.f101 t).run Try.prog W=.ok v W:=by
 have c0:=zaa (i:=0) g1 rfl
 simp [results,Try.results101,go_sem,h6,c0]
theorem zh9 {J:List (List Int)→World→Prop} {N0:Nat} (hJ:AbQ N0 J) {s:List (List Int)} {W:World} {b i:Nat} {v:Value} {cs:Array Value} {e:TypeId} {fz:Nat×Nat} (hj:J s W) (hb:N0≤b) (hg:W.heap[b]?=some (.cells cs e fz)) (h1:e≠45) (h2:e≠50):J s (W.setCell ⟨b,i,none⟩ v) :=
 hJ s W _ (some b) hj ⟨rfl,rfl,rfl,by rw [zay];exact Nat.le_refl _,fun k _ hk=>zae (fun e=>hk (by rw [e]))⟩ (fun r e=>by cases e;exact⟨hb,_,hg,zbf h1 h2⟩)
theorem zmM {J:List (List Int)→World→Prop} {N0:Nat} (hJ:AbX N0 J) {s:List (List Int)} {W:World} {b i:Nat} {v:Value} {cs:Array Value} {fz:Nat×Nat} (hj:J s W) (hb:N0≤b) (hg:W.heap[b]?=some (.cells cs 4 fz)):J s (W.setCell ⟨b,i,none⟩ v) :=
 hJ s W _ (some b) hj ⟨rfl,rfl,rfl,by rw [zay];exact Nat.le_refl _,fun k _ hk=>zae (fun e=>hk (by rw [e]))⟩ (fun r e=>by cases e;exact⟨hb,_,hg,.inr ⟨_,_,rfl⟩⟩)
theorem zkv {N0 B Co:Nat} {d:Dry} {qx:Option Nat} {W W' : World} {b i:Nat} {v:Value} (h:KpR N0 (Tw N0 B Co d) qx W W') (hb:W.heap.size≤b) (hN:N0≤W.heap.size):KpR N0 (Tw N0 B Co d) qx W (W'.setCell ⟨b,i,none⟩ v) :=
 ⟨by rw [zay];exact h.size,fun t=>(h.st t).same (by rw [zay];exact Nat.le_refl _) (fun b' hb'=>zae (by omega)),fun r o h1 h2 h3 h4=>(zae (by have:=zav h3;omega)).trans (h.kp r o h1 h2 h3 h4)⟩
theorem zpu (d:Dry) (hO:d.Ok) (B Co N0 l:Nat) (J Jx:List (List Int)→World→Prop) (hJ:AbQ N0 J) (hJx:AbX N0 Jx) (hY:HY2 d B Co N0 l J Jx):WkC d B Co N0 l J Jx d.steps.length 0:=by
 intro p rest pre W hp hr hW hq hj hval
 obtain rfl:rest=[]:=List.eq_nil_of_length_eq_zero hr
 rw [List.append_nil] at hq
 rw [List.drop_length] at hval ⊢
 have hpa:p∈zaH d.steps:=by simpa using hval [] (by simp [zaH])
 have hs5:=hO.s5
 have hN:N0+3<W.heap.size:=zav hW.c4
 apply anyN (n:=4)
 refine callsIn_of_wp_marks Try.func101 rfl trivial ?_ rfl
 simp only [Try.ntmps101,List.size_toArray,List.length_cons,List.length_nil,Nat.reduceAdd,Nat.reduceSub,Array.replicate_succ,Array.replicate_zero,List.push_toArray,List.append_toArray,List.nil_append,List.cons_append]
 gi_upto_region 1 with fail
 generalize hVn:(W.alloc _).alloc _=V
 obtain⟨nV,sV,g5,g6⟩:=al2 hVn
 have hjV:J pre V:=by rw [← hVn];exact hJ.alloc _ (hJ.alloc _ hj)
 clear hVn
 have c1:=zaa (i:=0) ((nV.block _ (by omega)).trans hW.c1) rfl
 have c2:=zaa (i:=0) ((nV.block _ (by omega)).trans hW.c2) rfl
 have c5:=zaa (i:=0) g5 rfl
 have hqV:=(nV.block (N0+1) (by omega)).trans hq
 obtain⟨fn,tmps,assign,body,hy,hR⟩:=anyY (m':=4-1) (hY pre p V hjV ⟨hpa,hqV⟩)
 have kV:KpR N0 (Tw N0 B Co d) (some (N0+1)) W V:=KpR.nx nV (by omega)
 have g6N:N0≤W.heap.size+1:=by omega
 generalize hSg:W.heap.size=S at *
 gi_wp2
 refine hR.mono ?_
 rintro e W3 (⟨rfl,hJ3,hk3⟩ | ⟨rfl,hJ3,hk3⟩)
 ·have h63:=hk3.kp (S+1) _ g6N (by simp) g6 (zbf (by decide) (by decide))
  have c63:=zaa (i:=0) h63 rfl
  have f63:=zac (i:=0) h63
  have hsF:=zaA (i:=0) (v:=.bool true) h63
  gi_wp2
  have hq3:=hk3.kp (N0+1) _ (by omega) (by simp) hqV (zbf (by decide) (by decide))
  exact⟨_,zlu rfl hsF,.inl ⟨rfl,by simpa [zaH] using zh9 hJ hJ3 g6N h63 (by decide) (by decide),zkv (kV.trans hk3.weak) (by omega) (by omega),[],rfl,by rw [List.append_nil];exact (zae (by omega)).trans hq3⟩⟩
 ·have h63:=hk3.kp (S+1) _ g6N (by simp) g6 (zbf (by decide) (by decide))
  have c63:=zaa (i:=0) h63 rfl
  have f63:=zac (i:=0) h63
  have hsF:=zaA (i:=0) (v:=.bool false) h63
  gi_wp2
  exact⟨_,zlu rfl hsF,.inr ⟨rfl,zkv (kV.trans hk3.weak) (by omega) (by omega),[p],by simp [zaH],zmM hJx hJ3 g6N h63⟩⟩
end Go.Proofs.Ytedomogjmhommaa
