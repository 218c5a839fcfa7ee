import Derived.Test.YtbbanmifdbeneaaDoorF25
set_option linter.all false
namespace Go.Con
open Go Go.Conc
variable [Lone]
theorem EmptyDef.setCell {W:World} (h:EmptyDef W) (a:Addr) (v:Value):EmptyDef (W.setCell a v):=by
 intro b o ho;unfold World.setCell at ho;dsimp only at ho;rw [Array.getElem?_modify] at ho
 split at ho
 ·cases hb:W.heap[b]? with
  | none=>rw [hb] at ho;cases ho
  | some o1 =>
   rw [hb] at ho;simp only [Option.map_some,Option.some.injEq] at ho;have:=h b o1 hb;subst ho
   cases o1<;>first | rfl | exact this
 ·exact h b o ho
theorem EmptyDef.alloc {W:World} (h:EmptyDef W) {o:Obj} (ho:zjK o=true):EmptyDef (W.alloc o):=h.push ho
section
variable {P:Program} {maps:Bool} {E Fz Arg:Nat→Prop} {W0:World} {f:FuncId} {t:Array Value} {k:List Item} {cs:List Frame} {W:World}
variable {Q:(Nat→Prop)→(Nat→Prop)→Goroutine→World→Prop} {φ:Ph} {pend:List Nat}
theorem Gm.skipOp {ops:Array Oper} {i:Nat} {rest:List Nat} {o:Oper} (W1:World) (ho:ops[i]?=some o) (hw:Region.wanted o (yielded ops t)=true) (hop:okOp P maps o.op=true) (hv:zgZ P (Fr f t []).eval o.op=true)
  (hrun:∀ τ:Tape,(execOp (Fr f t []).eval o).run P { W with tape:=τ }=.ok .skip { W1 with tape:=τ }) (hed:EmptyDef W→EmptyDef W1)
  (hg:GoM P maps E Fz Arg W0 Q φ pend (Fr f (putD t o.dst undef) (.inRegion ops rest :: k)) cs W1):GoM P maps E Fz Arg W0 Q φ pend (Fr f t (.inRegion ops (i :: rest) :: k)) cs W:=by
 have he:(Fr f t (.inRegion ops (i :: rest) :: k)).eval=(Fr f t []).eval:=funext fun x=>by cases x<;>rfl
 refine GoM.step (zlM rfl rfl ho hop (by rw [he];exact hv)) ⟨fun it t' e=>?_,.inl rfl,fun d hdm=>(List.not_mem_nil hdm).elim,.inl rfl⟩ fun τ hτ=>?_
 ·cases e
  simp only [zex,ho,Option.all_some];exact hop
 ·refine⟨(Fr f t (.inRegion ops (i :: rest) :: k)).finish undef,cs,{ W1 with tape:=τ },?_,fun h=>hed h,?_⟩
  ·unfold zao
   dsimp only;unfold zcD;dsimp only;rw [ho];simp only [Option.map_some,Option.getD_some,hw,if_true];rw [Sem.run_bind,he,hrun τ];rfl
  ·rw [zbs ho]
   exact Gm.tape hg
theorem Gm.mkchan {ops:Array Oper} {i:Nat} {rest:List Nat} {o:Oper} {cap:Nat} (posts:Nat→Hand) (ho:ops[i]?=some o) (hw:Region.wanted o (yielded ops t)=true)
  (hrun:∀ (e:Operand→Value) (w:World),(∀ j n,t[j]?=some (.int .i64 n)→e (.tmp j)=.int .i64 n)→(execOp e o).run P w=.ok (.value (.chan (some w.heap.size))) { w with heap:=w.heap.push (.chan cap #[] false 0 0 false) }∧(execOp e o).events P w #[]=#[])
  (hg:∀ c,GoM P maps E Fz Arg W0 Q ⟨true,c,cap,posts⟩ [] (Fr f (putD t o.dst (.chan (some (2 * c)))) (.inRegion ops rest :: k)) cs W):GoM P maps E Fz Arg W0 Q φ [] (Fr f t (.inRegion ops (i :: rest) :: k)) cs W:=by
 refine GoM.mkchan (cap:=cap) (posts:=posts) rfl rfl rfl rfl ho hw (fun σ w _=>hrun _ w fun j n hj=>?_) fun c=>by rw [zbs ho];exact hg c
 show (t.map (ren σ)).getD j undef=_;simp [hj,ren]
theorem Gm.recv {ops:Array Oper} {i:Nat} {rest:List Nat} {o:Oper} {x:Operand} {z:Value} {K:Nat→(Nat→Value)→Option (Array Value×TypeId×(Nat×Nat))→Prop} (ho:ops[i]?=some o) (hw:Region.wanted o (yielded ops t)=true) (hx:za2 P x=true) (hev:(Fr f t []).eval x=.chan (some (2 * φ.c))) (hon:φ.on=true) (hpend:pend≠[])
  (hrun:∀ (e:Operand→Value) (w:World),e x=.chan (some φ.c)→(execOp e o).run P w=.ok (.comm #[rcase φ.c z] true (.recv false)) w∧(execOp e o).events P w #[]=#[])
  (hposts:∀ kk own A v W,φ.posts kk own A v W→zc3 W0.heap.size (K kk) own A v W)
  (hg1:∀ kk,kk∈pend→∀ h:Nat→Value,K kk h none→(∀ n m,h n=h m)→GoM P maps E Fz Arg W0 Q φ (pend.erase kk) (Fr f (putD t o.dst (h 0)) (.inRegion ops rest :: k)) cs W)
  (hg2:∀ kk,kk∈pend→∀ (h:Nat→Value) (cells:Array Value) (e:TypeId) (fz:Nat×Nat),K kk h (some (cells,e,fz))→GoM P maps E Fz Arg W0 Q φ (pend.erase kk) (Fr f (putD t o.dst (h W.heap.size)) (.inRegion ops rest :: k)) cs { W with heap:=W.heap.push (.cells cells e fz) }) :
  GoM P maps E Fz Arg W0 Q φ pend (Fr f t (.inRegion ops (i :: rest) :: k)) cs W:=by
 have he:(Fr f t (.inRegion ops (i :: rest) :: k)).eval=(Fr f t []).eval:=funext fun x=>by cases x<;>rfl
 exact GoM.recv rfl rfl rfl rfl ho hw hx (by rw [he];exact hev) hon hpend hrun hposts (fun kk hk h h1 h2=>by rw [zbs ho];exact hg1 kk hk h h1 h2) (fun kk hk h cells e fz h1=>by rw [zbs ho];exact hg2 kk hk h cells e fz h1)
end
end Go.Con
