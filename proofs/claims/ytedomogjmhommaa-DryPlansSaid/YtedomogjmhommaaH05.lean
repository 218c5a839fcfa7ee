import Derived.Test.YtedomogjmhommaaH04
set_option linter.all false
set_option maxRecDepth 100000
set_option maxHeartbeats 8000000
namespace Go.Proofs.Ytedomogjmhommaa
open Go.RowKit Go.Shelf
attribute [local go_sem] Oper.semAt_some
structure Kc (w w' : World):Prop where
 size:w.heap.size≤w'.heap.size
 cell:∀ {a:Addr} {v:Value},w.cell? a=some v→w'.cell? a=some v
theorem Kc.refl (w:World):Kc w w:=⟨Nat.le_refl _,fun h=>h⟩
theorem Kc.trans {a b c:World} (h:Kc a b) (k:Kc b c):Kc a c:=⟨Nat.le_trans h.size k.size,fun x=>k.cell (h.cell x)⟩
theorem Kc.nx {w w' : World} (n:Nx w w'):Kc w w':=⟨n.size,fun {a v} h=>by
 obtain⟨o,ho,_⟩:=cells_of_cell h
 exact (World.cell?_of_block (n.block _ (Array.getElem?_eq_some_iff.1 ho).1)).trans h⟩
theorem Kc.map {w w' : World} {M:Nat} {es:Array MapEntry} {cl:Nat} (hg:w.grownBy w' (some M)) (hm:w.heap[M]?=some (.map es cl)):Kc w w' :=
 ⟨hg.size,fun h=>cell_kept h hg (fun r e=>by cases e;exact⟨_,hm,rfl⟩)⟩
theorem Sl.kc {w w' : World} {v:Value} {sz:Nat} {xs:List (List Value)} (h:Sl w v sz xs) (n:Kc w w'):Sl w' v sz xs:=by
 obtain⟨cap,h | ⟨b,off,h1,h2,h3⟩⟩:=h
 ·exact⟨cap,.inl h⟩
 ·exact⟨cap,.inr ⟨b,off,h1,Nat.lt_of_lt_of_le h2 n.size,fun j k l x hj hk=>n.cell (h3 j k l x hj hk)⟩⟩
theorem StoveAt.kc {w w' : World} {B:Nat} {d:Dry} (h:StoveAt w B d) (n:Kc w w'):StoveAt w' B d :=
 ⟨Nat.lt_of_lt_of_le h.lt n.size,h.heats.imp fun _ x=>⟨n.cell x.1,x.2.kc n⟩,n.cell h.soak,n.cell h.brittle,n.cell h.s0,n.cell h.s1,n.cell h.s2,h.steps.imp fun _ x=>⟨n.cell x.1,x.2.kc n⟩,h.stages.imp fun _ x=>⟨n.cell x.1,x.2.kc n⟩⟩
abbrev ptr (b:Nat):Value:=.pointer (some ⟨b,0,none⟩)
structure Ch (w:World) (d:Dry) (Bo Bk Bc B M:Nat):Prop where
 st:StoveAt w B d
 o:w.cell? ⟨Bo,0,none⟩=some (ptr B)
 k:w.cell? ⟨Bk,0,none⟩=some (.map (some M))
 c:w.cell? ⟨Bc,0,none⟩=some (.func (.func 90) #[] #[ptr Bo,ptr Bk,ptr Bc])
theorem Ch.kc {w w' : World} {d:Dry} {Bo Bk Bc B M:Nat} (h:Ch w d Bo Bk Bc B M) (n:Kc w w'):Ch w' d Bo Bk Bc B M:=⟨h.st.kc n,n.cell h.o,n.cell h.k,n.cell h.c⟩
theorem Memo.map {w:World} {M:Nat} {d:Dry} {n:Nat} (h:Memo w M d n):∃ es cl,w.heap[M]?=some (.map es cl):=by
 obtain⟨D,⟨es,cl,h1,_⟩,_⟩:=h
 exact⟨es,cl,h1⟩
theorem Nx.grown {w w' : World} (n:Nx w w') (row:Option Nat):w.grownBy w' row:=⟨n.os,n.tape,n.output,n.size,fun i hi _=>n.block i hi⟩
theorem zca {a b c:World} {r:Nat} (h:a.grownBy b (some r)) (k:b.grownBy c (some r)):a.grownBy c (some r):=World.grownBy.andThen h k fun j e=>.inr e
theorem zil {a b c:World} {r:Option Nat} (h:a.grownBy b r) (k:Nx b c):a.grownBy c r:=World.grownBy.andThen h (k.grown none) fun j e=>by cases e
theorem ziu {a b c:World} {r:Option Nat} (h:Nx a b) (k:b.grownBy c r):a.grownBy c r:=World.grownBy.andThen (h.grown r) k fun j e=>.inr e
theorem zhK {w a b:World} {row:Option Nat} {n:Nat} (h:w.grownBy a row) (hb:Below n a b) (hn:w.heap.size≤n):w.grownBy b row :=
 ⟨hb.os.trans h.os,hb.tape.trans h.tape,hb.output.trans h.output,Nat.le_trans h.size hb.size,fun i hi hr=>(hb.block i (by omega)).trans (h.block i hi hr)⟩
theorem Memo.blk {w w' : World} {M:Nat} {d:Dry} {n:Nat} (h:Memo w M d n) (hb:w'.heap[M]?=w.heap[M]?):Memo w' M d n:=by
 obtain⟨D,⟨es,cl,h1,h2⟩,h3⟩:=h
 exact⟨D,⟨es,cl,hb.trans h1,h2⟩,h3⟩
theorem zqU (w:World):(zeroValue 3).run Try.prog w=.ok (.int .i64 0) w:=by kernel_rfl
abbrev HY (d:Dry) (Bo Bk Bc B M:Nat) (k j:Nat):Prop:=∀ (s:St) (w:World) (n:Nat),s.Ok d.heats.length→Ch w d Bo Bk Bc B M→Memo w M d n→n+calls j≤1000000000000 →
 CallsIn FW 0 Try.prog 90 #[plV k s,ptr Bo,ptr Bk,ptr Bc] w fun e w'=>e=.returned (num (chooseS d (d.steps.drop k) s))∧w.grownBy w' (some M)∧∃ n',n'≤n+calls j∧Memo w' M d n'
theorem zlP (d:Dry) (hO:d.Ok) (Bo Bk Bc B M:Nat):HY d Bo Bk Bc B M d.steps.length 0:=by
 intro s w n hs hc hM hn
 rw [List.drop_length]
 obtain⟨v,c7,hsl⟩:=hc.st.stages
 obtain⟨a,cap,rfl⟩:=hsl.cases
 rw [List.length_map] at c7
 have co:=hc.o
 have hs5:=hO.s5
 apply anyN (n:=4)
 refine callsIn_of_wp_marks Try.func90 rfl trivial ?_ rfl
 simp only [Try.ntmps90,List.size_toArray,List.length_cons,List.length_nil,Nat.reduceAdd,Nat.reduceSub,Array.replicate_succ,Array.replicate_zero,List.push_toArray,List.append_toArray,List.nil_append,List.cons_append]
 gi_upto_region 1 with fail
 refine zh8 (fun _ _ _ h=>h) ?_
 generalize hW:w.alloc _=W
 obtain⟨nW,sW,g0⟩:=al1 hW
 have k:=Kc.nx nW
 have c7:=k.cell c7
 have co:=k.cell co
 have p0:W.cell? ⟨w.heap.size,0,none⟩=some (num d.steps.length):=zaa g0 rfl
 clear hW g0
 gi_upto_region 1 with fail
 gi_big_quiet_th (fail)
 gi_wp2
 have nq':=nW.drewN nq
 exact⟨_,results_tmp rfl _ _ _,rfl,nq'.grown _,n,by simp [calls],hM.nx nq'⟩
end Go.Proofs.Ytedomogjmhommaa
