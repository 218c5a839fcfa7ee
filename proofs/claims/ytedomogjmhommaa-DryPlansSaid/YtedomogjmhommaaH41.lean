import Derived.Test.YtedomogjmhommaaH40
set_option linter.all false
set_option maxRecDepth 100000
set_option maxHeartbeats 8000000
namespace Go.Con
open Go Go.Conc
theorem zlN (v:Value):cellV (cellV v)=cellV v:=by
 rcases zdb v with ⟨_,h⟩ | ⟨_,_,_,h⟩ | ⟨_,h⟩ | ⟨f,_,_,h,hn⟩ | ⟨_,h⟩
 all_goals rw [h]
 all_goals first
  | rfl
  | (cases f<;>first | rfl | exact (hn _ rfl).elim)
def named:Value→Bool
 | .pointer (some _) | .slice (some _) _ _ | .map (some _) | .chan (some _) | .func ..=>true
 | _=>false
theorem znQ {ρ:Rn} {v:Value} (h:named v=true):cellV (ren ρ v)=ren ρ v∨∃ s a b,ren ρ v=.func (.method s) a b:=by
 cases v with
 | pointer a=>cases a with | none=>cases h | some a=>exact .inl (by simp [ren,cellV])
 | slice a n c=>cases a with | none=>cases h | some a=>exact .inl (by simp [ren,cellV])
 | map a=>cases a with | none=>cases h | some a=>exact .inl (by simp [ren,cellV])
 | chan a=>cases a with | none=>cases h | some a=>exact .inl (by simp only [ren];exact zlN _)
 | func fn a b =>
  obtain⟨f,a',b',e⟩:=zaV ρ fn a b
  rw [e]
  cases f<;>first
   | exact .inl rfl
   | exact .inr ⟨_,_,_,rfl⟩
 | _=>cases h
open Classical in
noncomputable def tok (ρ:Rn) (ix:Value→Nat) (v:Value):Value:=if ∃ s a b,ren ρ v=.func (.method s) a b then .func (.method "") #[.nilIface] #[.chan (some (ix v))] else .chan (some (ix v))
open Classical in
mutual
noncomputable def cut (keep:Value→Prop) (ρ:Rn) (ix:Value→Nat):Value→Value
 | .iface t v=>.iface t (cut keep ρ ix v)
 | .agg cs=>.agg (cutA keep ρ ix cs)
 | .tuple vs=>.tuple (cutA keep ρ ix vs)
 | v=>if keep v then v else tok ρ ix v
noncomputable def cutA (keep:Value→Prop) (ρ:Rn) (ix:Value→Nat):Array Value→Array Value
 | ⟨l⟩=>⟨cutL keep ρ ix l⟩
noncomputable def cutL (keep:Value→Prop) (ρ:Rn) (ix:Value→Nat):List Value→List Value
 | []=>[]
 | v :: l=>cut keep ρ ix v :: cutL keep ρ ix l
end
theorem zm1 (keep:Value→Prop) (ρ:Rn) (ix:Value→Nat):∀ l,cutL keep ρ ix l=l.map (cut keep ρ ix)
 | []=>by simp [cutL]
 | v :: l=>by simp [cutL,zm1 keep ρ ix l]
theorem zpO (keep:Value→Prop) (ρ:Rn) (ix:Value→Nat) (a:Array Value):cutA keep ρ ix a=a.map (cut keep ρ ix):=by
 obtain⟨l⟩:=a
 simp [cutA,zm1]
section
variable [Lone] {P:Program} {S E:Nat→Prop} {ρ ρ' : Rn} {ix:Value→Nat}
def Keep (P:Program) (S E:Nat→Prop) (ρ ρ' : Rn) (v:Value):Prop:=ren ρ' v=ren ρ v∧supV (gd P) S E v
theorem zp1 {v:Value} (hc:ρ'.c (ix v)=ren ρ v) (hn:named v=true):ren ρ' (tok ρ ix v)=ren ρ v∧supV (gd P) S E (tok ρ ix v):=by
 unfold tok
 split
 ·rename_i h
  obtain⟨s,a,b,h⟩:=h
  refine⟨?_,by simp [supV,ren,zem,zl6,RA,RB]⟩
  simp only [ren,zem,hc,h,zl6]
 ·rename_i h
  refine⟨?_,by simp [supV,ren,RA,RB]⟩
  simp only [ren,hc]
  exact (znQ hn).resolve_right h
theorem zeR {v:Value} (hc:ρ'.c (ix v)=ren ρ v) (hn:named v=true) (he:cut (Keep P S E ρ ρ') ρ ix v=(open Classical in if Keep P S E ρ ρ' v then v else tok ρ ix v)):ren ρ' (cut (Keep P S E ρ ρ') ρ ix v)=ren ρ v∧supV (gd P) S E (cut (Keep P S E ρ ρ') ρ ix v):=by
 rw [he]
 by_cases hk:Keep P S E ρ ρ' v
 ·rw [if_pos hk];exact hk
 ·rw [if_neg hk];exact zp1 hc hn
theorem zbv {v:Value} (h1:∀ σ:Rn,ren σ v=v) (he:cut (Keep P S E ρ ρ') ρ ix v=(open Classical in if Keep P S E ρ ρ' v then v else tok ρ ix v)):ren ρ' (cut (Keep P S E ρ ρ') ρ ix v)=ren ρ v∧supV (gd P) S E (cut (Keep P S E ρ ρ') ρ ix v):=by
 have hk:Keep P S E ρ ρ' v:=⟨by rw [h1,h1],by unfold supV;rw [h1,h1]⟩
 rw [he,if_pos hk];exact hk
mutual
theorem ziA:∀ v,(∀ x∈leaves v,named x=true→ρ'.c (ix x)=ren ρ x)→ren ρ' (cut (Keep P S E ρ ρ') ρ ix v)=ren ρ v∧supV (gd P) S E (cut (Keep P S E ρ ρ') ρ ix v)
 | .pointer none,_=>zbv (fun _=>by simp [ren]) (by simp only [cut])
 | .slice none _ _,_=>zbv (fun _=>by simp [ren]) (by simp only [cut])
 | .map none,_=>zbv (fun _=>by simp [ren]) (by simp only [cut])
 | .chan none,_=>zbv (fun _=>by simp [ren]) (by simp only [cut])
 | .pointer (some a),h=>zeR (h _ (by simp [leaves]) rfl) rfl (by simp only [cut])
 | .slice (some a) n k,h=>zeR (h _ (by simp [leaves]) rfl) rfl (by simp only [cut])
 | .map (some a),h=>zeR (h _ (by simp [leaves]) rfl) rfl (by simp only [cut])
 | .chan (some a),h=>zeR (h _ (by simp [leaves]) rfl) rfl (by simp only [cut])
 | .func fn a b,h=>zeR (h _ (by simp [leaves]) rfl) rfl (by simp only [cut])
 | .iface t v,h=>by
  have:=ziA v (fun x hx=>h x (by simpa [leaves] using hx))
  simp only [cut,ren,supV,this.1,true_and]
  exact congrArg _ this.2
 | .agg cs,h=>by
  have:=ziB cs (fun x hx=>h x (by simpa [leaves] using hx))
  simp only [cut,ren,supV,this.1,true_and]
  exact congrArg _ this.2
 | .tuple cs,h=>by
  have:=ziB cs (fun x hx=>h x (by simpa [leaves] using hx))
  simp only [cut,ren,supV,this.1,true_and]
  exact congrArg _ this.2
 | .bool _,_=>zbv (fun _=>by simp [ren]) (by simp only [cut])
 | .int ..,_=>zbv (fun _=>by simp [ren]) (by simp only [cut])
 | .float ..,_=>zbv (fun _=>by simp [ren]) (by simp only [cut])
 | .complex ..,_=>zbv (fun _=>by simp [ren]) (by simp only [cut])
 | .string _,_=>zbv (fun _=>by simp [ren]) (by simp only [cut])
 | .nilFunc,_=>zbv (fun _=>by simp [ren]) (by simp only [cut])
 | .nilIface,_=>zbv (fun _=>by simp [ren]) (by simp only [cut])
theorem ziB:∀ a,(∀ x∈zdj a,named x=true→ρ'.c (ix x)=ren ρ x)→renA ρ' (cutA (Keep P S E ρ ρ') ρ ix a)=renA ρ a∧renA (RA (gd P)) (cutA (Keep P S E ρ ρ') ρ ix a)=renA (RB (gd P) S E) (cutA (Keep P S E ρ ρ') ρ ix a)
 | ⟨l⟩,h=>by
  have:=zls l (fun x hx=>h x (by simpa [zdj] using hx))
  simp only [cutA,renA,this.1,this.2,and_self]
theorem zls:∀ l,(∀ x∈zdC l,named x=true→ρ'.c (ix x)=ren ρ x)→renL ρ' (cutL (Keep P S E ρ ρ') ρ ix l)=renL ρ l∧renL (RA (gd P)) (cutL (Keep P S E ρ ρ') ρ ix l)=renL (RB (gd P) S E) (cutL (Keep P S E ρ ρ') ρ ix l)
 | [],_=>by simp [cutL,renL]
 | v :: l,h=>by
  have h1:=ziA v (fun x hx=>h x (by simp [zdC,hx]))
  have h2:=zls l (fun x hx=>h x (by simp [zdC,hx]))
  simp only [cutL,renL,h1.1,h2.1,h2.2,true_and]
  rw [show ren (RA (gd P)) (cut (Keep P S E ρ ρ') ρ ix v)=ren (RB (gd P) S E) (cut (Keep P S E ρ ρ') ρ ix v) from h1.2]
end
end
end Go.Con
namespace Go.Con
open Go Go.Conc
def Nice (S:Nat→Prop):Value→Prop
 | .pointer (some a)=>S a.block
 | .slice (some a) _ _=>S a.block
 | .map (some r)=>S r
 | .chan (some x)=>x % 2=0
 | .func .. | .iface .. | .agg _ | .tuple _=>False
 | _=>True
section
variable [Lone] {P:Program} {S E:Nat→Prop} {ρ ρ' : Rn} {ix:Value→Nat}
theorem zoV (hp:ρ'.p=ρ.p) (h1:∀ x,ρ.c (2 * x)=.chan (some x)) (h2:∀ x,ρ'.c (2 * x)=.chan (some x)) {v:Value} (hv:Nice S v):cut (Keep P S E ρ ρ') ρ ix v=v:=by
 have key:Keep P S E ρ ρ' v→cut (Keep P S E ρ ρ') ρ ix v=(open Classical in if Keep P S E ρ ρ' v then v else tok ρ ix v)→cut (Keep P S E ρ ρ') ρ ix v=v:=fun hk he=>by rw [he,if_pos hk]
 have pl:(∀ σ:Rn,ren σ v=v)→Keep P S E ρ ρ' v:=fun h=>⟨by rw [h,h],by unfold supV;rw [h,h]⟩
 cases v with
 | pointer a =>
  cases a with
  | none=>exact key (pl fun _=>by simp [ren]) (by simp only [cut])
  | some a =>
   refine key ⟨by simp [ren,zak,hp],?_⟩ (by simp only [cut])
   simp only [supV,ren,Option.map_some,Value.pointer.injEq,Option.some.injEq,renAddr_eq]
   exact dbl_eq.2 (.inr hv)
 | slice a n c =>
  cases a with
  | none=>exact key (pl fun _=>by simp [ren]) (by simp only [cut])
  | some a =>
   refine key ⟨by simp [ren,zak,hp],?_⟩ (by simp only [cut])
   simp only [supV,ren,Option.map_some,Value.slice.injEq,Option.some.injEq,renAddr_eq,and_true]
   exact dbl_eq.2 (.inr hv)
 | map a =>
  cases a with
  | none=>exact key (pl fun _=>by simp [ren]) (by simp only [cut])
  | some a =>
   refine key ⟨by simp [ren,hp],?_⟩ (by simp only [cut])
   simp only [supV,ren,Option.map_some,Value.map.injEq,Option.some.injEq]
   exact dbl_eq.2 (.inr hv)
 | chan a =>
  cases a with
  | none=>exact key (pl fun _=>by simp [ren]) (by simp only [cut])
  | some x =>
   have hx:x=2 * (x / 2):=by have:x % 2=0:=hv;omega
   refine key ⟨?_,by simp [supV,ren,RA,RB]⟩ (by simp only [cut])
   simp only [ren]
   rw [hx,h1,h2]
 | func fn a b=>exact hv.elim
 | iface t v=>exact hv.elim
 | agg cs=>exact hv.elim
 | tuple cs=>exact hv.elim
 | bool _=>exact key (pl fun _=>by simp [ren]) (by simp only [cut])
 | int _ _=>exact key (pl fun _=>by simp [ren]) (by simp only [cut])
 | float _ _=>exact key (pl fun _=>by simp [ren]) (by simp only [cut])
 | complex _ _ _=>exact key (pl fun _=>by simp [ren]) (by simp only [cut])
 | string _=>exact key (pl fun _=>by simp [ren]) (by simp only [cut])
 | nilFunc=>exact key (pl fun _=>by simp [ren]) (by simp only [cut])
 | nilIface=>exact key (pl fun _=>by simp [ren]) (by simp only [cut])
end
def cutE (f:Value→Value) (e:MapEntry):MapEntry:={ key:=f e.key,val:=f e.val,born:=e.born }
def cutO (f:Value→Value):Obj→Obj
 | .cells c e _=>.cells (c.map f) e (0,c.size)
 | .map es k=>.map (es.map (cutE f)) k
 | o=>o
open Classical in
noncomputable def cutW (S:Nat→Prop) (f:Value→Value) (W:World):World:={ W with heap:=W.heap.mapIdx fun b o=>if S b then cutO f o else .cells #[] 0 (0,0) }
open Classical in
theorem zeF (S:Nat→Prop) (f:Value→Value) (W:World) (b:Nat):(cutW S f W).heap[b]?=(W.heap[b]?).map fun o=>if S b then cutO f o else .cells #[] 0 (0,0):=by
 simp [cutW,Array.getElem?_mapIdx]
theorem zgw (S:Nat→Prop) (f:Value→Value) (W:World):(cutW S f W).heap.size=W.heap.size:=by simp [cutW]
structure CutOf (S:Nat→Prop) (W Wc:World):Prop where
 size:Wc.heap.size=W.heap.size
 cell:∀ b i v,S b→W.cell? ⟨b,i,none⟩=some v→Nice S v→Wc.cell? ⟨b,i,none⟩=some v
 map:∀ b es k,S b→W.heap[b]?=some (.map es k)→(∀ e∈es,Nice S e.key∧Nice S e.val)→Wc.heap[b]?=some (.map es k)
 kind:∀ b,S b→(∃ c e fz,W.heap[b]?=some (.cells c e fz))→∃ c e fz,Wc.heap[b]?=some (.cells c e fz)
theorem zq6 {S:Nat→Prop} {f:Value→Value} {W:World} (hf:∀ v,Nice S v→f v=v):CutOf S W (cutW S f W):=by
 refine⟨zgw S f W,fun b i v hb hv hn=>?_,fun b es k hb ho he=>?_,fun b hb ⟨c,e,fz,ho⟩=>⟨c.map f,e,(0,c.size),by rw [zeF,ho];simp only [Option.map_some,if_pos hb,cutO]⟩⟩
 ·unfold World.cell? at hv ⊢
  dsimp only at hv ⊢
  rw [zeF]
  cases ho:W.heap[b]? with
  | none=>rw [ho] at hv;cases hv
  | some o =>
   rw [ho] at hv
   cases o with
   | cells c e fz =>
    simp only [Option.map_some,if_pos hb,cutO]
    dsimp only at hv ⊢
    simp only [Option.isSome_none,Bool.false_eq_true,if_false] at hv ⊢
    rw [Array.getElem?_map,hv,Option.map_some,hf v hn]
   | _=>cases hv
 ·rw [zeF,ho]
  simp only [Option.map_some,if_pos hb,cutO,Option.some.injEq,Obj.map.injEq,and_true]
  conv=>rhs;rw [← Array.map_id es]
  apply Array.map_congr_left
  intro e hem
  obtain⟨h1,h2⟩:=he e hem
  simp only [cutE,id,hf _ h1,hf _ h2]
def znu:Obj→List Value
 | .cells c _ _=>zdj c
 | .map es _=>es.toList.flatMap fun e=>leaves e.key++leaves e.val
 | _=>[]
theorem zh7 {P:Program} {maps:Bool} (T:Two) (hv:∀ f,T.work.v f=true→T.main.v f=true) {E E2 Fz Arg:Nat→Prop} {W0:World} {ρ:Rn} {D own A:Nat→Prop} {fr:Frame} {cs:List Frame} {W W' : World} (h:@Here T.main P maps E Fz Arg W0 ρ D own A fr cs W W')
  {S:Nat→Prop} (hS:∀ b,S b→D b) (hkind:∀ b o,S b→W.heap[b]?=some o→(∃ c e fz,o=.cells c e fz)∨(maps=false∧∃ es k,o=.map es k)) (hG:∀ b,b<P.globals.size→S b) {g:FuncId} {cap:Array Value} (hcap:∀ v∈cap,∃ b,v=.pointer (some ⟨b,0,none⟩)∧S b) :
  ∃ (ρ' : Rn) (Wc:World),CutOf S W Wc∧cap.map (ren ρ')=cap.map (ren ρ)∧ρ'.p=ρ.p∧@HereW T.work P maps E2 S W0.heap.size ρ' S (fun _=>False) (fun x=>∃ b,S b∧ρ.p b=x) (Frame.enter P g cap .normal) Wc W':=by
 have R:@RenOk T.work P ρ:=zo4 T hv (letI:=T.main;h.sim.rok)
 have htok:∀ x,ρ.c (2 * x)=.chan (some x):=letI:=T.main;h.tok
 have hlt:∀ b,S b→b<W.heap.size:=fun b hb=>letI:=T.main;h.sim.lt b (hS b hb)
 have hbd:∀ b,b<W.heap.size→ρ.p b<W'.heap.size:=letI:=T.main;h.sim.bd
 have hos:W'.os=W.os:=letI:=T.main;h.sim.os
 have hout:W'.output=W.output:=letI:=T.main;h.sim.output
 have hsz:W0.heap.size≤W'.heap.size:=letI:=T.main;h.far.1
 have hobj:∀ b o,S b→W.heap[b]?=some o→(∃ c e fz fz',o=.cells c e fz∧W'.heap[ρ.p b]?=some (.cells (c.map (ren ρ)) e fz'))∨∃ es k,maps=false∧o=.map es k∧W'.heap[ρ.p b]?=some (.map (es.map (zaz ρ)) k):=by
  letI:=T.main
  intro b o hb ho
  obtain⟨o',h1,h2⟩:=h.sim.obj b o (hS b hb) ho
  rcases hkind b o hb ho with ⟨c,e,fz,rfl⟩ | ⟨hm,es,k,rfl⟩
  ·cases h2 with
   | frozen hf c e fz'=>exact .inl ⟨_,_,_,fz',rfl,h1⟩
   | still hf h3 h4=>cases h3
   | own hf=>exact .inl ⟨_,_,_,fz,rfl,h1⟩
  ·cases h2 with
   | still hf h3 h4=>exact .inr ⟨_,_,hm,rfl,h1⟩
   | own hf=>exact .inr ⟨_,_,hm,rfl,h1⟩
 letI:=T.work
 obtain⟨c',ht',hc'⟩:=zj4 ((W.heap.toList.flatMap znu).map (ren ρ))
 generalize hρ:(⟨ρ.p,c',ρ.o⟩:Rn)=ρ'
 have hp:ρ'.p=ρ.p:=by rw [← hρ]
 have hcc:ρ'.c=c':=by rw [← hρ]
 have hoo:ρ'.o=ρ.o:=by rw [← hρ]
 generalize hix:(fun v=>ixOf c' (ren ρ v))=ix
 have hleaf:∀ (b:Nat) (o:Obj),W.heap[b]?=some o→∀ x∈znu o,ρ'.c (ix x)=ren ρ x:=by
  intro b o ho x hx
  rw [hcc,← hix]
  refine znm (hc' _ (List.mem_map_of_mem (List.mem_flatMap.2 ⟨o,?_,hx⟩)))
  exact Array.mem_toList_iff.2 (Array.mem_of_getElem? ho)
 generalize hf:cut (Keep P S E2 ρ ρ') ρ ix=f
 have hA:∀ (b:Nat) (c:Array Value) (e:TypeId) (fz:Nat×Nat),W.heap[b]?=some (.cells c e fz)→(c.map f).map (ren ρ')=c.map (ren ρ)∧(c.map f).map (ren (RA (gd P)))=(c.map f).map (ren (RB (gd P) S E2)):=by
  intro b c e fz ho
  have:=ziB (P:=P) (S:=S) (E:=E2) (ρ:=ρ) (ρ':=ρ') (ix:=ix) c (fun x hx _=>hleaf b _ ho x hx)
  rw [zaD,zaD,zaD,zaD,zpO,hf] at this
  exact this
 have hV:∀ (b:Nat) (es:Array MapEntry) (k:Nat),W.heap[b]?=some (.map es k)→∀ e∈es,(ren ρ' (f e.key)=ren ρ e.key∧supV (gd P) S E2 (f e.key))∧(ren ρ' (f e.val)=ren ρ e.val∧supV (gd P) S E2 (f e.val)):=by
  intro b es k ho e he
  have hl:∀ x,x∈leaves e.key∨x∈leaves e.val→ρ'.c (ix x)=ren ρ x:=fun x hx=>hleaf b _ ho x (by
   show x∈es.toList.flatMap _
   exact List.mem_flatMap.2 ⟨e,Array.mem_toList_iff.2 he,by simpa using hx⟩)
  rw [← hf]
  exact⟨ziA _ fun x hx _=>hl x (.inl hx),ziA _ fun x hx _=>hl x (.inr hx)⟩
 have hcapS:∀ v∈cap,supV (gd P) S E2 v:=by
  intro v hvm
  obtain⟨b,rfl,hb⟩:=hcap v hvm
  simp only [supV,ren,Option.map_some,Value.pointer.injEq,Option.some.injEq,renAddr_eq]
  exact dbl_eq.2 (.inr hb)
 have hR' : RenOk P ρ':=⟨fun x y hxy=>R.inj x y (by rw [hp] at hxy;exact hxy),fun b hb=>by rw [hp];exact R.fix b hb,fun g hg=>by rw [hoo];exact R.fixo g hg⟩
 have hget:∀ b o,S b→(cutW S f W).heap[b]?=some o→∃ o1,W.heap[b]?=some o1∧o=cutO f o1:=by
  intro b o hb ho
  rw [zeF] at ho
  cases h1:W.heap[b]? with
  | none=>rw [h1] at ho;cases ho
  | some o1 =>
   rw [h1] at ho
   simp only [Option.map_some,if_pos hb,Option.some.injEq] at ho
   exact⟨o1,rfl,ho.symm⟩
 refine⟨ρ',cutW S f W,zq6 fun v hv=>by rw [← hf];exact zoV hp htok (by rw [hcc];exact ht') hv,Array.map_congr_left fun v hvm=>?_,hp,⟨hR',hG,fun b hb=>by rw [zgw];exact hlt b hb,fun b hb=>by rw [hp];rw [zgw] at hb;exact hbd b hb,fun _ h=>h,zmH hcapS,fun _ hc=>(List.not_mem_nil hc).elim,hos,hout,fun b o hb ho=>?_,fun b o hb ho=>?_⟩,
  fun b hb hn=>(hn hb).elim,fun b hb=>⟨b,hb,by rw [hp]⟩,fun x hx=>hx.elim,hsz,fun b o ho=>?_,by rw [hcc];exact ht'⟩
 ·obtain⟨b,rfl,hb⟩:=hcap v hvm
  simp [ren,zak,hp]
 ·obtain⟨o1,h1,rfl⟩:=hget b o hb ho
  rw [hp]
  rcases hobj b o1 hb h1 with ⟨c,e,fz,fz',rfl,h2⟩ | ⟨es,k,hm,rfl,h2⟩
  ·refine⟨_,h2,?_⟩
   have:=ObjR.frozen (ρ:=ρ') (Fz:=S) (mf:=mdOf P maps) hb (c.map f) e fz'
   rw [(hA b c e fz h1).1,Array.size_map] at this
   exact this
  ·refine⟨_,h2,?_⟩
   have:=ObjR.still (ρ:=ρ') (Fz:=S) (mf:=mdOf P maps) (b:=b) (o:=.map (es.map (cutE f)) k) hb rfl (by rw [hm];rfl)
   have e1:zau ρ' (.map (es.map (cutE f)) k)=.map (es.map (zaz ρ)) k:=by
    simp only [zau,Array.map_map,Obj.map.injEq,and_true]
    apply Array.map_congr_left
    intro e he
    obtain⟨h3,h4⟩:=hV b es k h1 e he
    simp only [Function.comp_apply,zaz,cutE,h3.1,h4.1]
   rw [e1] at this
   exact this
 ·obtain⟨o1,h1,rfl⟩:=hget b o hb ho
  rcases hobj b o1 hb h1 with ⟨c,e,fz,fz',rfl,h2⟩ | ⟨es,k,hm,rfl,h2⟩
  ·refine⟨?_,rfl,rfl⟩
   simp only [cutO,za8,zau,(hA b c e fz h1).2]
  ·refine⟨?_,rfl,rfl⟩
   simp only [cutO,za8,zau,Array.map_map,Obj.map.injEq,and_true]
   apply Array.map_congr_left
   intro e he
   obtain⟨h3,h4⟩:=hV b es k h1 e he
   simp only [Function.comp_apply,zaz,cutE,show ren (RA (gd P)) (f e.key)=ren (RB (gd P) S E2) (f e.key) from h3.2,show ren (RA (gd P)) (f e.val)=ren (RB (gd P) S E2) (f e.val) from h4.2]
 ·rw [zeF] at ho
  cases h1:W.heap[b]? with
  | none=>rw [h1] at ho;cases ho
  | some o1 =>
   rw [h1] at ho
   simp only [Option.map_some,Option.some.injEq] at ho
   split at ho
   ·rename_i hb
    rcases hkind b o1 hb h1 with ⟨c,e,fz,rfl⟩ | ⟨_,es,k,rfl⟩<;>(subst ho;rfl)
   ·subst ho;rfl
end Go.Con
namespace Go.Con
open Go Go.Conc
def refd (v:Value) (b:Nat):Prop:=(∃ a,v=.pointer (some a)∧a.block=b)∨(∃ a n c,v=.slice (some a) n c∧a.block=b)∨v=.map (some b)
def zns (W:World) (b:Nat):Prop:=(∃ c e fz,W.heap[b]?=some (.cells c e fz))∨∃ es k,W.heap[b]?=some (.map es k)
def zql (maps:Bool) (W:World) (b:Nat):Prop:=(∃ c e fz,W.heap[b]?=some (.cells c e fz))∨(maps=false∧∃ es k,W.heap[b]?=some (.map es k))
inductive Rch (W:World) (n:Nat) (roots X:Nat→Prop):Nat→Prop
 | glob {b:Nat} (h:b<n):Rch W n roots X b
 | root {b:Nat} (h:roots b):Rch W n roots X b
 | cell {r i b:Nat} {v:Value} (hr:Rch W n roots X r) (hc:W.cell? ⟨r,i,none⟩=some v) (hv:refd v b) (hk:zns W b) (hx:X b):Rch W n roots X b
 | entry {r b k:Nat} {es:Array MapEntry} {e:MapEntry} (hr:Rch W n roots X r) (hm:W.heap[r]?=some (.map es k)) (he:e∈es) (hv:refd e.val b) (hk:zns W b) (hx:X b):Rch W n roots X b
theorem Rch.kind {W:World} {n:Nat} {roots X:Nat→Prop} (hg:∀ b,b<n→zns W b) (hr:∀ b,roots b→zns W b) {b:Nat} (h:Rch W n roots X b):zns W b:=by
 cases h with
 | glob h=>exact hg _ h
 | root h=>exact hr _ h
 | cell _ _ _ hk _=>exact hk
 | entry _ _ _ _ hk _=>exact hk
section
variable [Lone] {P:Program} {E D:Nat→Prop}
theorem zhf {v:Value} {b:Nat} (h:supV (gd P) D E v) (hv:refd v b):b<P.globals.size∨D b:=by
 rcases hv with ⟨a,rfl,rfl⟩ | ⟨a,n,c,rfl,rfl⟩ | rfl
 ·simp only [supV,ren,Option.map_some,Value.pointer.injEq,Option.some.injEq,renAddr_eq] at h
  exact dbl_eq.1 h
 ·simp only [supV,ren,Option.map_some,Value.slice.injEq,Option.some.injEq,renAddr_eq,and_true] at h
  exact dbl_eq.1 h
 ·simp only [supV,ren,Option.map_some,Value.map.injEq,Option.some.injEq] at h
  exact dbl_eq.1 h
theorem zlD {fr:Frame} (h:supF P D E fr) {j:Nat} {v:Value} (hv:fr.tmps[j]?=some v):supV (gd P) D E v:=by
 have h1:=congrArg (fun f:Frame=>f.tmps[j]?) (show zab (RA (gd P)) fr=zab (RB (gd P) D E) fr from h)
 simp only [zab,Array.getElem?_map,hv,Option.map_some,Option.some.injEq] at h1
 exact h1
theorem zn7 {c:Array Value} {e:TypeId} {fz:Nat×Nat} (h:za8 (gd P) D E (.cells c e fz)) {i:Nat} {v:Value} (hv:c[i]?=some v):supV (gd P) D E v:=by
 simp only [za8,zau,Obj.cells.injEq,and_true] at h
 have h1:=congrArg (fun a:Array Value=>a[i]?) h
 simp only [Array.getElem?_map,hv,Option.map_some,Option.some.injEq] at h1
 exact h1
theorem zmI {es:Array MapEntry} {k:Nat} (h:za8 (gd P) D E (.map es k)) {e:MapEntry} (he:e∈es):supV (gd P) D E e.val:=by
 simp only [za8,zau,Obj.map.injEq,and_true] at h
 obtain⟨i,hi⟩:=Array.getElem?_of_mem he
 have h1:=congrArg (fun a:Array MapEntry=>a[i]?) h
 simp only [Array.getElem?_map,hi,Option.map_some,Option.some.injEq] at h1
 exact congrArg MapEntry.val h1
variable {maps:Bool} {Fz Arg:Nat→Prop} {W0:World} {ρ:Rn} {own A:Nat→Prop} {fr:Frame} {cs:List Frame} {W W' : World}
theorem Here.reach (h:Here P maps E Fz Arg W0 ρ D own A fr cs W W') {roots X:Nat→Prop} (hr:∀ b,roots b→∃ (j o:Nat) (s:Option Nat),fr.tmps[j]?=some (Value.pointer (some (⟨b,o,s⟩:Addr)))) {b:Nat} (hb:Rch W P.globals.size roots X b):D b:=by
 have fin:∀ {b:Nat},b<P.globals.size∨D b→D b:=fun hx=>hx.elim (h.sim.hG _) id
 induction hb with
 | glob hb=>exact h.sim.hG _ hb
 | root hb =>
  obtain⟨j,o,s,e⟩:=hr _ hb
  exact fin (zhf (zlD h.sim.sup e) (.inl ⟨_,rfl,rfl⟩))
 | @cell r i b v _ hc hv _ _ ih =>
  unfold World.cell? at hc
  dsimp only at hc
  cases ho:W.heap[r]? with
  | none=>rw [ho] at hc;cases hc
  | some o =>
   rw [ho] at hc
   cases o with
   | cells c e fz =>
    simp only [Option.isSome_none,Bool.false_eq_true,if_false] at hc
    exact fin (zhf (zn7 (h.sim.supo r _ ih ho).1 hc) hv)
   | _=>cases hc
 | @entry r b k es e _ hm he hv _ _ ih=>exact fin (zhf (zmI (h.sim.supo r _ ih hm).1 he) hv)
end
theorem CutOf.num {W Wc:World} {n:Nat} {roots X:Nat→Prop} (h:CutOf (Rch W n roots X) W Wc) {b i:Nat} {v:Value} (hb:Rch W n roots X b) (hc:W.cell? ⟨b,i,none⟩=some v) (hv:∀ S,Nice S v):Wc.cell? ⟨b,i,none⟩=some v:=h.cell b i v hb hc (hv _)
theorem zbU {W:World} {b i:Nat} {v:Value} (hc:W.cell? ⟨b,i,none⟩=some v):∃ c e fz,W.heap[b]?=some (.cells c e fz):=by
 unfold World.cell? at hc
 dsimp only at hc
 cases ho:W.heap[b]? with
 | none=>rw [ho] at hc;cases hc
 | some o =>
  rw [ho] at hc
  cases o with
  | cells c e fz=>exact⟨c,e,fz,rfl⟩
  | _=>cases hc
theorem Gm.spawn {P:Program} {maps:Bool} (T:Two) (hv:∀ f,T.work.v f=true→T.main.v f=true) {E Fz Arg roots X:Nat→Prop} {W0 W:World} {Q:(Nat→Prop)→(Nat→Prop)→Goroutine→World→Prop} {φ:Ph} {pend:List Nat} {f:FuncId} {t:Array Value} {k:List Item} {cs:List Frame}
  {ops:Array Oper} {i:Nat} {rest:List Nat} {o:Oper} {c:Call} {x:Operand} {g:FuncId} {fn:Func} {body:Code} {captured:Array Value} (kk:Nat) (ho:ops[i]?=some o) (hw:Region.wanted o (yielded ops t)=true) (hop:o.op=.go c) (hc:c.callee=.value x) (hx:@zaS T.main P x=true) (hargs:c.args=#[])
  (hev:(Fr f t []).eval x=.func (.func g) #[] captured) (hon:φ.on=true) (hcap:φ.cap=0∨pend.length<φ.cap)
  (hcapt:∀ v∈captured,∃ b,v=.pointer (some ⟨b,0,none⟩)∧roots b) (hroot:∀ b,roots b→∃ (j o:Nat) (s:Option Nat),t[j]?=some (Value.pointer (some (⟨b,o,s⟩:Addr)))) (hkd:∀ b,Rch W P.globals.size roots X b→zql maps W b)
  (hf:P.funcs[g]?=some fn) (hb:fn.body=some body) (hn:(fn.name == "runtime.NumGoroutine")=false)
  (hwork:∀ Wc,CutOf (Rch W P.globals.size roots X) W Wc→@GoW T.work P maps (fun _=>False) (Rch W P.globals.size roots X) W0.heap.size φ.c (φ.posts kk) (Fr g (captured++Array.replicate (fn.ntmps-captured.size) undef) [.code body]) Wc)
  (hg:@GoM T.main P maps E (fun b=>Fz b∨Rch W P.globals.size roots X b) Arg W0 Q φ (kk :: pend) (Fr f (putD t o.dst undef) (.inRegion ops rest :: k)) cs (zb9 (Rch W P.globals.size roots X) W)) :
  @GoM T.main P maps E Fz Arg W0 Q φ pend (Fr f t (.inRegion ops (i :: rest) :: k)) cs W:=by
 have hD:∀ ρ D own A W',@Here T.main P maps E Fz Arg W0 ρ D own A (Fr f t (.inRegion ops (i :: rest) :: k)) cs W W'→∀ b,Rch W P.globals.size roots X b→D b:=fun ρ D own A W' h b hb=>letI:=T.main;h.reach hroot hb
 have hev' : (Fr f t (.inRegion ops (i :: rest) :: k)).eval x=.func (.func g) #[] captured:=by
  rw [← hev];cases x<;>rfl
 have hent:=zez (args:=captured) hf hb
 refine @GoM.spawn T.main P maps E Fz Arg W0 (Fr f t (.inRegion ops (i :: rest) :: k)) cs W Q φ pend ops i rest k o c x g captured (Rch W P.globals.size roots X) kk rfl rfl rfl rfl ho hw hop hc hx hargs hev' hon hcap hD (fun b o hb hbo=>?_) (fun ρ D own A W' h=>?_) ?_
 ·rcases hkd b hb with ⟨c,e,fz,h1⟩ | ⟨hm,es,k,h1⟩<;>(rw [hbo] at h1;cases h1;first | rfl | exact hm)
 ·obtain⟨ρ',Wc,h1,h2,h3,h4⟩:=zh7 T hv (E2:=fun _=>False) h (hD _ _ _ _ _ h) (fun b o hb hbo=>by
   rcases hkd b hb with ⟨c,e,fz,h1⟩ | ⟨hm,es,k,h1⟩
   ·rw [hbo] at h1;cases h1;exact .inl ⟨_,_,_,rfl⟩
   ·rw [hbo] at h1;cases h1;exact .inr ⟨hm,_,_,rfl⟩) (fun b hb=>.glob hb) (g:=g) (cap:=captured) (fun v hvm=>by
   obtain⟨b,e,hr⟩:=hcapt v hvm
   exact⟨b,e,.root hr⟩)
  rw [← h2]
  letI:=T.work
  refine GoW.born hf (by simp [hb]) hn h4 ?_
  rw [hent]
  exact hwork Wc h1
 ·rw [@zbg f t ops i rest k o undef ho]
  exact hg
end Go.Con
namespace Go.Con
open Go Go.Conc
variable [Lone]
section
variable {P:Program} {maps:Bool} {E Fz:Nat→Prop} {B:Nat} {f:FuncId} {t:Array Value} {k:List Item} {W:World} {c:Nat} {Post:Hand}
theorem Gw.tape {fr:Frame} {τ:Tape} (h:GoW P maps E Fz B c Post fr W):GoW P maps E Fz B c Post fr { W with tape:=τ } :=
 fun ρ D own A W' hh=>h ρ D own A W' ⟨⟨hh.sim.rok,hh.sim.hG,hh.sim.lt,hh.sim.bd,hh.sim.fz,hh.sim.sup,hh.sim.sups,hh.sim.os,hh.sim.output,hh.sim.obj,hh.sim.supo⟩,hh.hown,hh.hA,hh.low,hh.size,hh.ed,hh.tok⟩
theorem Gw.seq {x y:Code} (hg:GoW P maps E Fz B c Post (Fr f t (.code x :: .code y :: k)) W):GoW P maps E Fz B c Post (Fr f t (.code (.seq x y) :: k)) W:=GoW.seq rfl rfl rfl hg
theorem Gw.region {id:Nat} {ops:Array Oper} (hg:GoW P maps E Fz B c Post (Fr f t (.inRegion ops (List.range ops.size) :: k)) W):GoW P maps E Fz B c Post (Fr f t (.code (.region id ops false) :: k)) W:=GoW.region rfl rfl rfl hg
theorem Gw.lone {F:Fence} {x:Code} (R:Array Value→World→Prop) (hdep:F.depth=none) (hro:F.round=none) (hfn:F.fn f) (hF:∀ f,F.fn f→zaR P (.func f)=true→okFn P maps f) (hin:P.inits.idxOf? f=none) (hok:za6 P maps x=true)
  (hp:∀ τ:Tape,x.wpIn F 0 P (fun e a w'=>e=.normal∧a.defers=[]∧R a.tmps w') ⟨t,[]⟩ { W with tape:=τ })
  (hq:∀ t1 W1,R t1 W1→GoW P maps E Fz B c Post (Fr f t1 k) W1):GoW P maps E Fz B c Post (Fr f t (.code x :: k)) W:=by
 refine GoW.seg (F:=F) hF (t0:=[.code x]) (k:=k) rfl ⟨?_,.inl rfl,fun d hd=>(List.not_mem_nil hd).elim,rfl⟩ ⟨rfl,hin⟩ (R:=fun fr W=>∃ a,fr=(Fr f t []).atR a []∧(a.defers=[]∧R a.tmps W)) ?_ (fun τ _=>?_) ?_
 ·simp [za3,hok]
 ·rintro fr W ⟨a,rfl,_⟩;rfl
 ·obtain⟨e,a,w',⟨rfl,h1,h2⟩,h3⟩:=hp τ (Fr f t []) [] [bot P] (by rw [hro]) hfn (fun d hd=>by rw [hdep] at hd;cases hd)
  exact zdy (Q:=fun a w'=>a.defers=[]∧R a.tmps w') h3 ⟨h1,h2⟩
 ·rintro fr1 W1 ⟨a,rfl,h1,h2⟩ _ _
  have:=hq _ _ h2
  simp only [Frame.atR,List.nil_append,h1]
  exact this
theorem Gw.op {ops:Array Oper} {i:Nat} {rest:List Nat} {o:Oper} (v:Value) (W1:World) (ho:ops[i]?=some o) (hw:Region.wanted o (yielded ops t)=true) (hop:okOp P maps o.op=true) (hv:zhp P (Fr f t []).eval o.op=true)
  (hrun:∀ τ:Tape,(execOp (Fr f t []).eval o).run P { W with tape:=τ }=.ok (.value v) { W1 with tape:=τ }) (hed:EmptyDef W→EmptyDef W1)
  (hg:GoW P maps E Fz B c Post (Fr f (putD t o.dst v) (.inRegion ops rest :: k)) W1):GoW P maps E Fz B c Post (Fr f t (.inRegion ops (i :: rest) :: k)) W:=by
 have he:(Fr f t (.inRegion ops (i :: rest) :: k)).eval=(Fr f t []).eval:=funext fun x=>by cases x<;>rfl
 refine GoW.op rfl rfl rfl rfl rfl ho hw hop (by rw [he];exact hv) fun τ _=>⟨v,{ W1 with tape:=τ },by rw [he];exact hrun τ,fun h=>(hed h),?_⟩
 rw [zbg ho]
 exact Gw.tape hg
theorem Gw.send {ops:Array Oper} {i:Nat} {o:Oper} {x y:Operand} {v z:Value} {fn:Func} (ho:ops[i]?=some o) (hw:Region.wanted o (yielded ops t)=true) (hx:zaS P x=true) (hy:zaS P y=true)
  (hev:(Fr f t []).eval x=.chan (some (2 * c))) (hvy:(Fr f t []).eval y=v)
  (hrun:∀ (e:Operand→Value) (w:World),e x=.chan (some c)→(execOp e o).run P w=.ok (.comm #[scase c (e y) z] true .send) w∧(execOp e o).events P w #[]=#[])
  (hf:P.funcs[f]?=some fn) (hres:fn.results=#[])
  (hp:∀ ρ D own A W',HereW P maps E Fz B ρ D own A (Fr f t [.inRegion ops [i]]) W W'→Post own A (ren ρ v) W'):GoW P maps E Fz B c Post (Fr f t [.inRegion ops [i]]) W:=by
 have he:(Fr f t [.inRegion ops [i]]).eval=(Fr f t []).eval:=funext fun x=>by cases x<;>rfl
 exact GoW.send (fr:=Fr f t [.inRegion ops [i]]) rfl rfl rfl ho hw rfl hx hy (by rw [he];exact hev) (by rw [he];exact hvy) hrun hf hres hp
theorem HereW.flat {ρ:Rn} {D own A:Nat→Prop} {fr:Frame} {W W' : World} (h:HereW P maps E Fz B ρ D own A fr W W') {N g j:Nat} (hN:∀ b,Fz b→b<N) (hg:N≤g) (hgl:P.globals.size≤N) {v:Value} (hv:fr.tmps[j]?=some v) {h0:Nat→Value} (hvh:v=h0 g) (href:∀ D',supV (gd P) D' E v→g<P.globals.size∨D' g)
  (hren:∀ (σ:Rn) (n:Nat),ren σ (h0 n)=h0 (σ.p n)) {cells:Array Value} {e:TypeId} {fz:Nat×Nat} (hc:W.heap[g]?=some (.cells cells e fz)) (hflat:∀ σ:Rn,cells.map (ren σ)=cells) {K:(Nat→Value)→Option (Array Value×TypeId×(Nat×Nat))→Prop} (hK:K h0 (some (cells,e,fz))) :
  zdR B K own A (ren ρ v) W':=by
 have hD:D g:=(href D (zlD h.sim.sup hv)).elim (fun hl=>by omega) id
 have hnf:¬ Fz g:=fun hf=>by have:=hN g hf;omega
 refine⟨h.low,.inr ⟨h0,ρ.p g,cells,e,fz,by rw [hvh,hren],hren,hflat,h.hown g hD hnf,h.hA g hD,?_,hK⟩⟩
 obtain⟨o',h1,h2⟩:=h.sim.obj g _ hD hc
 cases h2 with
 | frozen hf c e fz=>exact (hnf hf).elim
 | still hf h3 h4=>cases h3
 | own hf =>
  rw [h1]
  simp only [zau,hflat]
end
end Go.Con
namespace Go.Con
open Go Go.Conc
variable [Lone]
theorem EmptyDef.setCell {W:World} (h:EmptyDef W) (a:Addr) (v:Value):EmptyDef (W.setCell a v):=by
 intro b o ho
 unfold World.setCell at ho
 dsimp only at ho
 rw [Array.getElem?_modify] at ho
 split at ho
 ·cases hb:W.heap[b]? with
  | none=>rw [hb] at ho;cases ho
  | some o1 =>
   rw [hb] at ho
   simp only [Option.map_some,Option.some.injEq] at ho
   have:=h b o1 hb
   subst ho
   cases o1<;>first | rfl | exact this
 ·exact h b o ho
theorem EmptyDef.alloc {W:World} (h:EmptyDef W) {o:Obj} (ho:zkB o=true):EmptyDef (W.alloc o):=h.push ho
section
variable {P:Program} {maps:Bool} {E Fz Arg:Nat→Prop} {W0:World} {f:FuncId} {t:Array Value} {k:List Item} {cs:List Frame} {W:World}
variable {Q:(Nat→Prop)→(Nat→Prop)→Goroutine→World→Prop} {φ:Ph} {pend:List Nat}
theorem Gm.skipOp {ops:Array Oper} {i:Nat} {rest:List Nat} {o:Oper} (W1:World) (ho:ops[i]?=some o) (hw:Region.wanted o (yielded ops t)=true) (hop:okOp P maps o.op=true) (hv:zhp P (Fr f t []).eval o.op=true)
  (hrun:∀ τ:Tape,(execOp (Fr f t []).eval o).run P { W with tape:=τ }=.ok .skip { W1 with tape:=τ }) (hed:EmptyDef W→EmptyDef W1)
  (hg:GoM P maps E Fz Arg W0 Q φ pend (Fr f (putD t o.dst undef) (.inRegion ops rest :: k)) cs W1):GoM P maps E Fz Arg W0 Q φ pend (Fr f t (.inRegion ops (i :: rest) :: k)) cs W:=by
 have he:(Fr f t (.inRegion ops (i :: rest) :: k)).eval=(Fr f t []).eval:=funext fun x=>by cases x<;>rfl
 refine GoM.step (zn5 rfl rfl ho hop (by rw [he];exact hv)) ⟨fun it t' e=>?_,.inl rfl,fun d hdm=>(List.not_mem_nil hdm).elim,.inl rfl⟩ fun τ hτ=>?_
 ·cases e
  simp only [zeq,ho,Option.all_some]
  exact hop
 ·refine⟨(Fr f t (.inRegion ops (i :: rest) :: k)).finish undef,cs,{ W1 with tape:=τ },?_,fun h=>hed h,?_⟩
  ·unfold zan
   dsimp only
   unfold zb3
   dsimp only
   rw [ho]
   simp only [Option.map_some,Option.getD_some,hw,if_true]
   rw [Sem.run_bind,he,hrun τ]
   rfl
  ·rw [zbg ho]
   exact Gm.tape hg
theorem Gm.mkchan {ops:Array Oper} {i:Nat} {rest:List Nat} {o:Oper} {cap:Nat} (posts:Nat→Hand) (ho:ops[i]?=some o) (hw:Region.wanted o (yielded ops t)=true)
  (hrun:∀ (e:Operand→Value) (w:World),(∀ j n,t[j]?=some (.int .i64 n)→e (.tmp j)=.int .i64 n)→(execOp e o).run P w=.ok (.value (.chan (some w.heap.size))) { w with heap:=w.heap.push (.chan cap #[] false 0 0 false) }∧(execOp e o).events P w #[]=#[])
  (hg:∀ c,GoM P maps E Fz Arg W0 Q ⟨true,c,cap,posts⟩ [] (Fr f (putD t o.dst (.chan (some (2 * c)))) (.inRegion ops rest :: k)) cs W):GoM P maps E Fz Arg W0 Q φ [] (Fr f t (.inRegion ops (i :: rest) :: k)) cs W:=by
 refine GoM.mkchan (cap:=cap) (posts:=posts) rfl rfl rfl rfl ho hw (fun σ w _=>hrun _ w fun j n hj=>?_) fun c=>by rw [zbg ho];exact hg c
 show (t.map (ren σ)).getD j undef=_
 simp [hj,ren]
theorem Gm.recv {ops:Array Oper} {i:Nat} {rest:List Nat} {o:Oper} {x:Operand} {z:Value} {K:Nat→(Nat→Value)→Option (Array Value×TypeId×(Nat×Nat))→Prop} (ho:ops[i]?=some o) (hw:Region.wanted o (yielded ops t)=true) (hx:zaS P x=true) (hev:(Fr f t []).eval x=.chan (some (2 * φ.c))) (hon:φ.on=true) (hpend:pend≠[])
  (hrun:∀ (e:Operand→Value) (w:World),e x=.chan (some φ.c)→(execOp e o).run P w=.ok (.comm #[rcase φ.c z] true (.recv false)) w∧(execOp e o).events P w #[]=#[])
  (hposts:∀ kk own A v W,φ.posts kk own A v W→zdR W0.heap.size (K kk) own A v W)
  (hg1:∀ kk,kk∈pend→∀ h:Nat→Value,K kk h none→(∀ n m,h n=h m)→GoM P maps E Fz Arg W0 Q φ (pend.erase kk) (Fr f (putD t o.dst (h 0)) (.inRegion ops rest :: k)) cs W)
  (hg2:∀ kk,kk∈pend→∀ (h:Nat→Value) (cells:Array Value) (e:TypeId) (fz:Nat×Nat),K kk h (some (cells,e,fz))→GoM P maps E Fz Arg W0 Q φ (pend.erase kk) (Fr f (putD t o.dst (h W.heap.size)) (.inRegion ops rest :: k)) cs { W with heap:=W.heap.push (.cells cells e fz) }) :
  GoM P maps E Fz Arg W0 Q φ pend (Fr f t (.inRegion ops (i :: rest) :: k)) cs W:=by
 have he:(Fr f t (.inRegion ops (i :: rest) :: k)).eval=(Fr f t []).eval:=funext fun x=>by cases x<;>rfl
 exact GoM.recv rfl rfl rfl rfl ho hw hx (by rw [he];exact hev) hon hpend hrun hposts (fun kk hk h h1 h2=>by rw [zbg ho];exact hg1 kk hk h h1 h2) (fun kk hk h cells e fz h1=>by rw [zbg ho];exact hg2 kk hk h cells e fz h1)
end
end Go.Con
