import Derived.Test.YtbbanmifdbeneaaDoorF19
import Derived.Conc.Beside
import Derived.Conc.CrowdComm
set_option linter.all false
open Array renaming getElem?_push → jqa, getElem?_eq_some_iff → jqc
open Nat renaming lt_of_lt_of_le → jqb
namespace Go.Con
open Go
variable [Lone]
section
variable {P:Program} {maps:Bool} {D E:Nat→Prop}
theorem zdL {F:Fence} {fr:Frame} {b:Frame} {a:Go.Act} {w w' : World} {Q:Go.Act→World→Prop} (h:ArrivesIn (Machine.fenced P F) P (lone fr [] w) b [] [] .normal a w') (hq:Q a w') :
  Ends P F zc5 (fun fr W=>∃ a,fr=b.atR a []∧Q a W) fr [] w:=by
 have hm:(b.atR a []).mode=.run:=rfl;exact⟨b.atR a [],w',h,⟨rfl,.inr rfl⟩,.inl hm,a,rfl,hq⟩
end
mutual
def inv (P:Program) (ix:Value→Nat):Value→Value
 | .pointer (some a)=>.chan (some (ix (.pointer (some a))))
 | .slice (some a) n c=>.chan (some (ix (.slice (some a) n c)))
 | .map (some r)=>.chan (some (ix (.map (some r))))
 | .chan (some r)=>.chan (some (ix (.chan (some r))))
 | .func fn a b=>if zaL P fn && a.isEmpty && b.isEmpty then .func fn a b else match fn with
  | .method s=>.func (.method "") #[.nilIface] #[.chan (some (ix (.func (.method s) a b)))]
  | fn=>.chan (some (ix (.func fn a b)))
 | .iface t v=>.iface t (inv P ix v)
 | .agg cs=>.agg (invA P ix cs)
 | .tuple vs=>.tuple (invA P ix vs)
 | v=>v
def invA (P:Program) (ix:Value→Nat):Array Value→Array Value
 | ⟨l⟩=>⟨invL P ix l⟩
def invL (P:Program) (ix:Value→Nat):List Value→List Value
 | []=>[]
 | v :: l=>inv P ix v :: invL P ix l
end
theorem zlP (P:Program) (ix:Value→Nat):∀ l,invL P ix l=l.map (inv P ix)
 | []=>by simp [invL]
 | v :: l=>by simp [invL,zlP P ix l]
theorem zmn (P:Program) (ix:Value→Nat) (a:Array Value):invA P ix a=a.map (inv P ix):=by
 obtain⟨l⟩:=a;simp [invA,zlP]
mutual
def leaves:Value→List Value
 | .iface _ v=>leaves v
 | .agg cs=>zdn cs
 | .tuple vs=>zdn vs
 | v=>[v]
def zdn:Array Value→List Value
 | ⟨l⟩=>zdV l
def zdV:List Value→List Value
 | []=>[]
 | v :: l=>leaves v++zdV l
end
def zcI (c:Nat→Value):Rn:=⟨id,c,id⟩
section
variable {P:Program} {D E:Nat→Prop} {c:Nat→Value} {ix:Value→Nat}
mutual
theorem zmy:∀ v,(∀ x∈leaves v,c (ix x)=x)→ren (zcI c) (inv P ix v)=v∧supV (gd P) D E (inv P ix v)
 | .pointer none,_ | .slice none _ _,_ | .map none,_ | .chan none,_=>by simp [inv,ren,supV]
 | .pointer (some a),h=>by
  have:=h (.pointer (some a)) (by simp [leaves]);simp [inv,ren,supV,zcI,this,cellV,RA,RB]
 | .slice (some a) n k,h=>by
  have:=h (.slice (some a) n k) (by simp [leaves]);simp [inv,ren,supV,zcI,this,cellV,RA,RB]
 | .map (some a),h=>by
  have:=h (.map (some a)) (by simp [leaves]);simp [inv,ren,supV,zcI,this,cellV,RA,RB]
 | .chan (some a),h=>by
  have:=h (.chan (some a)) (by simp [leaves]);simp [inv,ren,supV,zcI,this,cellV,RA,RB]
 | .func fn a b,h=>by
  have hh:=h (.func fn a b) (by simp [leaves]);simp only [inv];split
  ·rename_i hg
   simp only [Bool.and_eq_true,Array.isEmpty_iff] at hg;obtain⟨⟨hg,rfl⟩,rfl⟩:=hg
   cases fn<;>first | (cases hg;done) | skip
   rename_i g;refine⟨by simp [ren,zeN,zfi,zcI,renA,renL],?_⟩;simp only [supV,ren,zeN,zfi,RA,RB,gd,renA,renL,id,ziR,hg,if_true]
  ·split
   ·simp [ren,zeN,supV,zcI,hh,zla,RA,RB]
   ·rename_i hm
    have hcv:cellV (.func fn a b)=.func fn a b:=by
     cases fn<;>first | rfl | exact (hm _ rfl).elim
    simp [ren,supV,zcI,hh,hcv,RA,RB]
 | .iface t v,h=>by
  have:=zmy v (fun x hx=>h x (by simpa [leaves] using hx));simp only [inv,ren,supV,this.1,true_and];exact congrArg _ this.2
 | .agg cs,h=>by
  have:=zh8 cs (fun x hx=>h x (by simpa [leaves] using hx));simp only [inv,ren,supV,this.1,true_and];exact congrArg _ this.2
 | .tuple cs,h=>by
  have:=zh8 cs (fun x hx=>h x (by simpa [leaves] using hx));simp only [inv,ren,supV,this.1,true_and];exact congrArg _ this.2
 | .bool _,_ | .int ..,_ | .float ..,_ | .complex ..,_ | .string _,_ | .nilFunc,_ | .nilIface,_=>by simp [inv,ren,supV]
theorem zh8:∀ a,(∀ x∈zdn a,c (ix x)=x)→renA (zcI c) (invA P ix a)=a∧renA (RA (gd P)) (invA P ix a)=renA (RB (gd P) D E) (invA P ix a)
 | ⟨l⟩,h=>by
  have:=zkt l (fun x hx=>h x (by simpa [zdn] using hx));simp only [invA,renA,this.1,this.2,and_self]
theorem zkt:∀ l,(∀ x∈zdV l,c (ix x)=x)→renL (zcI c) (invL P ix l)=l∧renL (RA (gd P)) (invL P ix l)=renL (RB (gd P) D E) (invL P ix l)
 | [],_=>by simp [invL,renL]
 | v :: l,h=>by
  have h1:=zmy v (fun x hx=>h x (by simp [zdV,hx]));have h2:=zkt l (fun x hx=>h x (by simp [zdV,hx]));simp only [invL,renL,h1.1,h2.1,h2.2,true_and];rw [show ren (RA (gd P)) (inv P ix v)=ren (RB (gd P) D E) (inv P ix v) from h1.2]
end
end
theorem zjb (l:List Value):∃ c:Nat→Value,(∀ x,c (2 * x)=.chan (some x))∧∀ v∈l,∃ x,c x=v:=by
 refine⟨fun n=>if n % 2=0 then .chan (some (n / 2)) else l.getD (n / 2) (.chan none),fun x=>?_,fun v hv=>?_⟩
 ·simp
 ·obtain⟨i,hi⟩:=List.getElem?_of_mem hv
  refine⟨2 * i+1,?_⟩;have h1:¬ (2 * i+1) % 2=0:=by omega
  have h2:(2 * i+1) / 2=i:=by omega
  simp only [h1,if_false,h2];rw [List.getD_eq_getElem?_getD,hi];rfl
def zdh (W:World):List Value:=W.heap.toList.flatMap fun o=>match o with | .cells c _ _=>zdn c | _=>[]
open Classical in
noncomputable def ixOf (c:Nat→Value) (v:Value):Nat:=if h:∃ x,c x=v then h.choose else 0
theorem zmW {c:Nat→Value} {v:Value} (h:∃ x,c x=v):c (ixOf c v)=v:=by
 unfold ixOf;rw [dif_pos h];exact h.choose_spec
open Classical in
noncomputable def zci (P:Program) (c:Nat→Value) (D:Nat→Prop) (W:World):World :=
 { W with heap:=W.heap.mapIdx fun b o=>if D b then (match o with | .cells cs e _=>.cells (invA P (ixOf c) cs) e (0,cs.size) | o=>o) else .cells #[] 0 (0,0) }
theorem zcL (P:Program) (c:Nat→Value) (D:Nat→Prop) (W:World):(zci P c D W).heap.size=W.heap.size:=by simp [zci]
open Classical in
theorem zge (P:Program) (c:Nat→Value) (D:Nat→Prop) (W:World) (b:Nat):(zci P c D W).heap[b]?=(W.heap[b]?).map fun o=>if D b then (match o with | .cells cs e _=>.cells (invA P (ixOf c) cs) e (0,cs.size) | o=>o) else .cells #[] 0 (0,0):=by
 simp [zci,Array.getElem?_mapIdx]
section
variable {P:Program} {maps:Bool} {D E:Nat→Prop} {c:Nat→Value}
theorem zld {W:World} {b:Nat} {cs:Array Value} {e:TypeId} {fz:Nat×Nat} (h:W.heap[b]?=some (.cells cs e fz)):∀ x∈zdn cs,x∈zdh W:=by
 intro x hx;unfold zdh;rw [List.mem_flatMap];exact⟨_,Array.mem_toList_iff.2 (Array.mem_of_getElem? h),hx⟩
theorem zi3 {fr:Frame} {W:World} (hk:∀ t,zbM P t=true) (hG:∀ b,b<P.globals.size→D b) (hD:∀ b,D b→∃ cs e fz,W.heap[b]?=some (.cells cs e fz))
  (hc:∀ v∈zdh W,∃ x,c x=v) (hs:supF P D E fr):Sim P maps E (zcI c) D D fr [] (zci P c D W) W:=by
 have hinv:∀ (b:Nat) (cs:Array Value) (e:TypeId) (fz:Nat×Nat),W.heap[b]?=some (Obj.cells cs e fz)→renA (zcI c) (invA P (ixOf c) cs)=cs∧renA (RA (gd P)) (invA P (ixOf c) cs)=renA (RB (gd P) D E) (invA P (ixOf c) cs) :=
  fun b cs e fz h=>zh8 cs fun x hx=>zmW (hc x (zld h x hx))
 have key:∀ b o,D b→(zci P c D W).heap[b]?=some o→∃ cs e fz,W.heap[b]?=some (Obj.cells cs e fz)∧o=Obj.cells (invA P (ixOf c) cs) e (0,cs.size):=by
  intro b o hb ho;obtain⟨cs,e,fz,h⟩:=hD b hb;rw [zge,h] at ho;simp only [Option.map_some,Option.some.injEq,if_pos hb] at ho;exact⟨cs,e,fz,h,ho.symm⟩
 refine⟨⟨.inl hk,fun _ _ h=>h,fun _ _=>rfl,fun _ _=>rfl⟩,hG,fun b hb=>?_,fun b hb=>?_,fun _ h=>h,hs,fun x hx=>(List.not_mem_nil hx).elim,rfl,rfl,fun b o hb ho=>?_,fun b o hb ho=>?_⟩
 ·obtain⟨cs,e,fz,h⟩:=hD b hb
  rw [zcL];exact (jqc.1 h).1
 ·rw [zcL] at hb;exact hb
 ·obtain⟨cs,e,fz,h,rfl⟩:=key b o hb ho
  refine⟨_,h,?_⟩;have h1:=(hinv b cs e fz h).1;have:=ObjR.frozen (ρ:=zcI c) (Fz:=D) (mf:=mdOf P maps) hb (invA P (ixOf c) cs) e fz;rw [← zaE,h1] at this;have hsz:(invA P (ixOf c) cs).size=cs.size:=by simp [zmn]
  rw [hsz] at this;exact this
 ·obtain⟨cs,e,fz,h,rfl⟩:=key b o hb ho
  refine⟨?_,rfl,rfl⟩;have h2:=(hinv b cs e fz h).2;rw [zaE,zaE] at h2;simp only [zba,zaz,h2]
end
end Go.Con
namespace Go.Con
open Go Go.Conc
variable [Lone]
def zbj:Loc→Option Nat
 | .cell a=>some a.block
 | .obj b=>some b
 | _=>none
structure Zone where
 own:Nat→Prop
 A:Nat→Prop
def Sep (z:Zone) (x:Touch):Prop:=∀ b,zbj x.loc=some b→¬ z.own b∧(x.write=true→¬ z.A b)
def Lets (z:Zone) (x:Touch):Prop:=∃ b,zbj x.loc=some b∧z.A b∧(x.write=true→z.own b)
structure TI (t:Trace) (Z:Nat→Option Zone):Prop where
 clean:∀ said,¬ Race said t
 word:Wordless t
 sep:∀ i x g z,touchAt t i=some x→x.loc.isMemory=true→Z g=some z→Knows t g i∨Sep z x
 mine:∀ i op x z,t[i]?=some op→op.act.touch?=some x→x.loc.isMemory=true→op.g≠0→Z op.g=some z→Lets z x∨Knows t 0 i
 gone:∀ i op x,t[i]?=some op→op.act.touch?=some x→x.loc.isMemory=true→op.g≠0→Z op.g=none→Knows t 0 i
def Below (t:Trace) (B:Nat):Prop:=∀ (i:Nat) (x:Touch) (b:Nat),touchAt t i=some x→zbj x.loc=some b→b<B
def setZ (Z:Nat→Option Zone) (g:Nat) (z:Option Zone):Nat→Option Zone:=fun h=>if h=g then z else Z h
theorem zam (Z:Nat→Option Zone) (g:Nat) (z:Option Zone):setZ Z g z g=z:=by simp [setZ]
theorem zan (Z:Nat→Option Zone) {g h:Nat} (z:Option Zone) (hn:h≠g):setZ Z g z h=Z h:=by simp [setZ,hn]
theorem zmh {own A:Nat→Prop} {e:Event} (h:EvA own A e) {x:Touch} (hx:(MemAct.ofEvent e).touch?=some x):∃ b,zbj x.loc=some b∧A b∧(x.write=true→own b):=by
 rcases h with ⟨a,h1,h2,h3,h4⟩ | ⟨b,h1,h2,h3,h4⟩ | rfl
 ·obtain⟨loc,wr,sy⟩:=e
  dsimp only at h1 h2 h4;subst h1 h2;simp only [MemAct.ofEvent,MemAct.touch?,Option.some.injEq] at hx;subst hx;exact⟨a.block,rfl,h3,h4⟩
 ·obtain⟨loc,wr,sy⟩:=e
  dsimp only at h1 h2 h4;subst h1 h2;simp only [MemAct.ofEvent,MemAct.touch?,Option.some.injEq] at hx;subst hx;exact⟨b,rfl,h3,h4⟩
 ·simp [MemAct.ofEvent,MemAct.touch?] at hx
theorem znA {own A:Nat→Prop} {e:Event} (h:EvA own A e) (m:Mark) (hm:MemAct.ofEvent e=.mark m):m=.noRoom:=by
 obtain⟨loc,wr,sy⟩:=e;rcases h with ⟨a,h1,h2,_⟩ | ⟨b,h1,h2,_⟩ | h
 ·dsimp only at h1 h2;subst h1 h2;simp [MemAct.ofEvent] at hm
 ·dsimp only at h1 h2;subst h1 h2;simp [MemAct.ofEvent] at hm
 ·cases h;simp [MemAct.ofEvent] at hm;exact hm.symm
theorem zmk:Neutral .noRoom:=by
 unfold Neutral;simp
theorem zeB {own A:Nat→Prop} {g:Nat} {fn:FuncId} {pos:String} {es:Array Event} (hev:∀ e∈es,EvA own A e) {op:MemOp} (ho:op∈MemOp.ofEvents g fn pos es) {x:Touch} (hx:op.act.touch?=some x) :
  ∃ b,zbj x.loc=some b∧A b∧(x.write=true→own b):=by
 obtain⟨e,he,rfl⟩:=Go.Conc.mem_ofEvents ho;exact zmh (hev e he) hx
theorem TI.go {t:Trace} {Z:Nat→Option Zone} (h:TI t Z) {g:Nat} {z:Zone} (hz:Z g=some z) {W W1:World} (hlow:Below t W.heap.size)
  (hoth:∀ g' z2,g'≠g→Z g'=some z2→(∀ b,grow z.own W W1 b→¬ z2.A b)∧(∀ b,grow z.A W W1 b→¬ z2.own b)) {fn:FuncId} {pos:String} {es:Array Event}
  (hev:∀ e∈es,EvA (grow z.own W W1) (grow z.A W W1) e):TI (t++MemOp.ofEvents g fn pos es) (setZ Z g (some ⟨grow z.own W W1,grow z.A W W1⟩)):=by
 have hg:∀ op∈MemOp.ofEvents g fn pos es,op.g=g:=fun op hop=>by obtain⟨e,_,rfl⟩:=Go.Conc.mem_ofEvents hop;rfl
 have grown:∀ {x:Touch} {i:Nat},touchAt t i=some x→Sep z x→Sep ⟨grow z.own W W1,grow z.A W W1⟩ x:=by
  intro x i hx hs b hb;have hlt:=hlow i x b hx hb;obtain⟨h1,h2⟩:=hs b hb;refine⟨fun ho=>ho.elim h1 fun hf=>by omega,fun hw hA=>hA.elim (h2 hw) fun hf=>by omega⟩
 refine⟨fun said=>noRace_append (h.clean said) hg fun i a ha op hop b hb hc=>?_,h.word.append fun op hop m hm=>?_,fun i x g' z2 hx hm hz2=>?_,fun i op x z2 ho hx hm hne hz2=>?_,fun i op x ho hx hm hne hz2=>?_⟩
 ·
  rcases h.sep i a g z ha hc.2.1 hz with hk | hs
  ·exact hk
  ·exfalso
   obtain⟨bb,hbb,hA,hw⟩:=zeB hev hop hb;have hba:zbj a.loc=some bb:=by rw [hc.1];exact hbb
   have hlt:=hlow i a bb ha hba;obtain⟨h1,h2⟩:=hs bb hba;rcases hc.2.2.1 with hwa | hwb
   ·exact hA.elim (h2 hwa) fun hf=>by omega
   ·exact (hw hwb).elim h1 fun hf=>by omega
 ·obtain⟨e,he,rfl⟩:=Go.Conc.mem_ofEvents hop
  rw [znA (hev e he) m hm];exact zmk
 ·obtain⟨op,ho,hox⟩:=touch_of hx
  rcases getElem?_append_cases ho with ⟨hi,ho'⟩ | ⟨hi,hou⟩
  ·have hx' : touchAt t i=some x:=by rw [touchAt_of ho'];exact hox
   by_cases e:g'=g
   ·subst e
    rw [zam] at hz2;cases hz2
    rcases h.sep i x g' z hx' hm hz with hk | hs
    ·exact .inl (hk.app _)
    ·exact .inr (grown hx' hs)
   ·rw [zan _ _ e] at hz2
    rcases h.sep i x g' z2 hx' hm hz2 with hk | hs
    ·exact .inl (hk.app _)
    ·exact .inr hs
  ·by_cases e:g'=g
   ·subst e
    have:=knows_own ho;rw [hg op hou] at this;exact .inl this
   ·rw [zan _ _ e] at hz2
    obtain⟨h1,h2⟩:=hoth g' z2 e hz2;obtain⟨bb,hbb,hA,hw⟩:=zeB hev hou hox;refine .inr fun b hb=>?_;rw [hbb] at hb;cases hb
    exact⟨h2 _ hA,fun hwx=>h1 _ (hw hwx)⟩
 ·rcases getElem?_append_cases ho with ⟨hi,ho'⟩ | ⟨hi,hou⟩
  ·by_cases e:op.g=g
   ·rw [e,zam] at hz2
    cases hz2
    rcases h.mine i op x z ho' hx hm hne (by rw [e];exact hz) with ⟨b,hb,hA,hw⟩ | hk
    ·exact .inl ⟨b,hb,.inl hA,fun hwx=>.inl (hw hwx)⟩
    ·exact .inr (hk.app _)
   ·rw [zan _ _ e] at hz2
    exact (h.mine i op x z2 ho' hx hm hne hz2).imp id fun hk=>hk.app _
  ·rw [hg op hou,zam] at hz2
   cases hz2
   exact .inl (zeB hev hou hx)
 ·rcases getElem?_append_cases ho with ⟨hi,ho'⟩ | ⟨hi,hou⟩
  ·have e:op.g≠g:=by
    intro e;rw [e,zam] at hz2;cases hz2
   rw [zan _ _ e] at hz2;exact (h.gone i op x ho' hx hm hne hz2).app _
  ·rw [hg op hou,zam] at hz2
   cases hz2
end Go.Con
namespace Go.Con
open Go Go.Conc
variable [Lone]
def Mute (op:MemOp):Prop:=op.act.touch?=none∧∀ m,op.act=.mark m→Neutral m
theorem TI.mute {t:Trace} {Z:Nat→Option Zone} (h:TI t Z) {op:MemOp} (ho:Mute op):TI (t.push op) Z:=by
 have e:t.push op=t++#[op]:=by simp
 rw [e];have hu:∀ o∈(#[op]:Trace),o=op:=fun o ho=>by simpa using ho
 refine⟨fun said=>noRace_append (g:=op.g) (h.clean said) (fun o hm=>by rw [hu o hm]) fun i a ha o hm b hb hc=>?_,h.word.append fun o hm m hmm=>?_,fun i x g z hx hm hz=>?_,fun i o x z ho2 hx hm hne hz=>?_,fun i o x ho2 hx hm hne hz=>?_⟩
 ·rw [hu o hm,ho.1] at hb;cases hb
 ·rw [hu o hm] at hmm;exact ho.2 m hmm
 ·obtain⟨o,ho2,hox⟩:=touch_of hx
  rcases getElem?_append_cases ho2 with ⟨_,ho'⟩ | ⟨_,hou⟩
  ·exact (h.sep i x g z (by rw [touchAt_of ho'];exact hox) hm hz).imp (fun hk=>hk.app _) id
  ·rw [hu o hou,ho.1] at hox;cases hox
 ·rcases getElem?_append_cases ho2 with ⟨_,ho'⟩ | ⟨_,hou⟩
  ·exact (h.mine i o x z ho' hx hm hne hz).imp id fun hk=>hk.app _
  ·rw [hu o hou,ho.1] at hx;cases hx
 ·rcases getElem?_append_cases ho2 with ⟨_,ho'⟩ | ⟨_,hou⟩
  ·exact (h.gone i o x ho' hx hm hne hz).app _
  ·rw [hu o hou,ho.1] at hx;cases hx
theorem zha {t:Trace} (hw:Wordless t) {i j:Nat} {x y:MemOp} (hx:t[i]?=some x) (hy:t[j]?=some y) (h:Notices t i j):HappensBefore t i j :=
 Relation.TransGen.single (.inr ⟨h,hw.heard hx,hw.heard hy⟩)
theorem TI.take {t:Trace} {Z:Nat→Option Zone} (h:TI t Z) {z0 zj:Zone} {j p q c k:Nat} (h0:Z 0=some z0)
  (hoth:∀ l zl,l≠0→l≠j→Z l=some zl→(∀ b,zj.own b→¬ zl.A b)∧(∀ b,zl.own b→¬ zj.A b))
  {x y:MemOp} (hp:t[p]?=some x) (hxg:x.g=j) (hxa:x.act=.send c k) (hq:t[q]?=some y) (hyg:y.g=0) (hya:y.act=.recvDone c k)
  (hlast:∀ (i:Nat) (op:MemOp),t[i]?=some op→op.g=j→op.act.touch?.isSome=true→i<p) :
  TI t (setZ (setZ Z j none) 0 (some ⟨fun b=>z0.own b∨zj.own b,fun b=>z0.A b∨zj.A b⟩)):=by
 have hpq:HappensBefore t p q:=zha h.word hp hq (.handOver (c:=c) (k:=k) (by simp [Trace.act?,hp,hxa]) (by simp [Trace.act?,hq,hya]));have known:∀ i op tx,t[i]?=some op→op.act.touch?=some tx→op.g=j→Knows t 0 i:=by
  intro i op tx ho hx hg;have hlt:=hlast i op ho hg (by rw [hx];rfl);exact⟨q,y,hq,hyg,.inr ((hb_po hlt ho hp (hg.trans hxg.symm)).trans hpq)⟩
 refine⟨h.clean,h.word,fun i tx g z hx hm hz=>?_,fun i op tx z ho hx hm hne hz=>?_,fun i op tx ho hx hm hne hz=>?_⟩
 ·by_cases e:g=0
  ·subst e
   rw [zam] at hz;cases hz
   rcases h.sep i tx 0 z0 hx hm h0 with hk | hs
   ·exact .inl hk
   ·obtain⟨op,ho,hox⟩:=touch_of hx
    by_cases e0:op.g=0
    ·have:=knows_own ho;rw [e0] at this;exact .inl this
    by_cases ej:op.g=j
    ·exact .inl (known i op tx ho hox ej)
    cases hzl:Z op.g with
    | none=>exact .inl (h.gone i op tx ho hox hm e0 hzl)
    | some zl =>
     rcases h.mine i op tx zl ho hox hm e0 hzl with ⟨b,hb,hA,hw⟩ | hk
     ·obtain⟨g1,g2⟩:=hoth op.g zl e0 ej hzl
      refine .inr fun b' hb'=>?_;obtain⟨s1,s2⟩:=hs b' hb';rw [hb] at hb'
      cases hb'
      exact⟨fun ho=>ho.elim s1 fun ho=>g1 b ho hA,fun hwx hA'=>hA'.elim (s2 hwx) (g2 b (hw hwx))⟩
     ·exact .inl hk
  ·rw [zan _ _ e] at hz
   by_cases ej:g=j
   ·subst ej;rw [zam] at hz;cases hz
   ·rw [zan _ _ ej] at hz
    exact h.sep i tx g z hx hm hz
 ·rw [zan _ _ hne] at hz
  by_cases ej:op.g=j
  ·rw [ej,zam] at hz;cases hz
  ·rw [zan _ _ ej] at hz
   exact h.mine i op tx z ho hx hm hne hz
 ·rw [zan _ _ hne] at hz
  by_cases ej:op.g=j
  ·exact known i op tx ho hx ej
  ·rw [zan _ _ ej] at hz
   exact h.gone i op tx ho hx hm hne hz
theorem TI.start {t:Trace} {Z:Nat→Option Zone} (h:TI t Z) {z0:Zone} {n p q:Nat} {Ac:Nat→Prop} (h0:Z 0=some z0) (hAc:∀ b,Ac b→z0.A b)
  (hoth:∀ l zl,l≠0→Z l=some zl→∀ b,zl.own b→¬ z0.A b)
  {x y:MemOp} (hp:t[p]?=some x) (hxa:x.act=.go n) (hq:t[q]?=some y) (hyg:y.g=n) (hya:y.act=.start)
  (hnone:∀ (i:Nat) (op:MemOp),t[i]?=some op→op.g=n→op.act.touch?=none)
  (hknow:∀ (i:Nat) (op:MemOp),t[i]?=some op→op.act.touch?.isSome=true→Knows t 0 i→HappensBefore t i p) :
  TI t (setZ (setZ Z n (some ⟨fun _=>False,Ac⟩)) 0 (some ⟨fun b=>z0.own b∧¬ Ac b,z0.A⟩)):=by
 have hb:HappensBefore t p q:=zha h.word hp hq (.spawn (child:=n) (by simp [Trace.act?,hp,hxa]) (by simp [Trace.act?,hq,hya]) (by simp [Trace.g?,hq,hyg]));refine⟨h.clean,h.word,fun i tx g z hx hm hz=>?_,fun i op tx z ho hx hm hne hz=>?_,fun i op tx ho hx hm hne hz=>?_⟩
 ·by_cases e:g=0
  ·subst e
   rw [zam] at hz;cases hz
   exact (h.sep i tx 0 z0 hx hm h0).imp id fun hs b hb=>⟨fun ho=>(hs b hb).1 ho.1,(hs b hb).2⟩
  ·rw [zan _ _ e] at hz
   by_cases en:g=n
   ·subst en
    rw [zam] at hz;cases hz
    obtain⟨op,ho,hox⟩:=touch_of hx;have hs0:op.act.touch?.isSome=true:=by rw [hox];rfl
    have viaMain:Knows t 0 i→Knows t g i:=fun hk=>⟨q,y,hq,hyg,.inr ((hknow i op ho hs0 hk).trans hb)⟩;by_cases e0:op.g=0
    ·have:=knows_own ho;rw [e0] at this;exact .inl (viaMain this)
    cases hzl:Z op.g with
    | none=>exact .inl (viaMain (h.gone i op tx ho hox hm e0 hzl))
    | some zl =>
     rcases h.mine i op tx zl ho hox hm e0 hzl with ⟨b,hb2,hA,hw⟩ | hk
     ·refine .inr fun b' hb'=>⟨id,fun hwx hA'=>?_⟩
      rw [hb2] at hb'
      cases hb'
      exact hoth op.g zl e0 hzl b (hw hwx) (hAc b hA')
     ·exact .inl (viaMain hk)
   ·rw [zan _ _ en] at hz
    exact h.sep i tx g z hx hm hz
 ·rw [zan _ _ hne] at hz
  by_cases en:op.g=n
  ·rw [hnone i op ho en] at hx;cases hx
  ·rw [zan _ _ en] at hz
   exact h.mine i op tx z ho hx hm hne hz
 ·rw [zan _ _ hne] at hz
  by_cases en:op.g=n
  ·rw [en,zam] at hz;cases hz
  ·rw [zan _ _ en] at hz
   exact h.gone i op tx ho hx hm hne hz
end Go.Con
namespace Go.Con
open Go Go.Conc
variable [Lone]
abbrev Hand:=(Nat→Prop)→(Nat→Prop)→Value→World→Prop
inductive Wk (P:Program) (c:Nat) (Post:Hand):(Nat→Prop)→(Nat→Prop)→Goroutine→World→Prop
 | step {own A:Nat→Prop} {g:Goroutine} {W:World} (hr:g.status=.running)
   (h1:∀ W',Env A W W'→∃ g' W1 es,stepG P false g W'=.go g' W1 es∧Does own A W' W1 es∧g'.status=.running)
   (h2:∀ W' g' W1 es,Env A W W'→stepG P false g W'=.go g' W1 es→Wk P c Post (grow own W' W1) (grow A W' W1) g' W1):Wk P c Post own A g W
 | send {own A:Nat→Prop} {g:Goroutine} {W:World} (hr:g.status=.running) (v z:Value)
   (h:∀ W',Env A W W'→Post own A v W'∧∃ g2 q,stepG P false g W'=.comm g2 #[scase c v z] true .send W' #[]∧QuitsIn P q (g2.finishComm P #[scase c v z] .send 0 undef false)):Wk P c Post own A g W
section
variable {P:Program} {c:Nat} {Post:Hand}
theorem Wk.running {own A:Nat→Prop} {g:Goroutine} {W:World} (h:Wk P c Post own A g W):g.status=.running:=by
 cases h with
 | step hr _ _=>exact hr
 | send hr _ _ _=>exact hr
theorem Wk.env {own A:Nat→Prop} {g:Goroutine} {W W' : World} (h:Wk P c Post own A g W) (he:Env A W W'):Wk P c Post own A g W':=by
 cases h with
 | step hr h1 h2=>exact .step hr (fun W'' h''=>h1 W'' (he.trans h'')) fun W'' g' W1 es h''=>h2 W'' g' W1 es (he.trans h'')
 | send hr v z h=>exact .send hr v z fun W'' h''=>h W'' (he.trans h'')
theorem Wk.of_act {Q:(Nat→Prop)→(Nat→Prop)→Frame→List Frame→World→Prop} {own A:Nat→Prop} {fr:Frame} {cs:List Frame} {W:World} (h:Act P Q own A fr cs W)
  (hq:∀ own A fr cs W,Q own A fr cs W→Wk P c Post own A { frame:=fr,callers:=cs,status:=.running,dying:=none } W) :
  Wk P c Post own A { frame:=fr,callers:=cs,status:=.running,dying:=none } W:=by
 induction h with
 | done h=>exact hq _ _ _ _ _ h
 | step h1 _ ih =>
  refine .step rfl (fun W' he=>?_) fun W' g' W1 es he hs=>?_
  ·obtain⟨fr',cs',W1,es,h,hd⟩:=h1 W' false .running none he
   exact⟨_,W1,es,h,hd,rfl⟩
  ·obtain⟨fr',cs',W2,es2,h,hd⟩:=h1 W' false .running none he
   rw [h] at hs;cases hs
   exact ih W' false .running none fr' cs' W1 es he h
end
structure Ph where
 on:Bool
 c:Nat
 cap:Nat
 posts:Nat→Hand
inductive Mn (P:Program) (Q:(Nat→Prop)→(Nat→Prop)→Goroutine→World→Prop):Ph→List Nat→(Nat→Prop)→(Nat→Prop)→Goroutine→World→Prop
 | done {ph:Ph} {own A:Nat→Prop} {g:Goroutine} {W:World} (hr:g.status=.running) (h:∀ W',Env A W W'→Q own A g W'):Mn P Q ph [] own A g W
 | step {ph:Ph} {pend:List Nat} {own A:Nat→Prop} {g:Goroutine} {W:World} (hr:g.status=.running)
   (h1:∀ W',Env A W W'→∃ g' W1 es,stepG P true g W'=.go g' W1 es∧Does own A W' W1 es∧g'.status=.running)
   (h2:∀ W' g' W1 es,Env A W W'→stepG P true g W'=.go g' W1 es→Mn P Q ph pend (grow own W' W1) (grow A W' W1) g' W1):Mn P Q ph pend own A g W
 | phase {ph:Ph} {own A:Nat→Prop} {g:Goroutine} {W:World} (hr:g.status=.running) (ph' : Ph) (hon:ph'.on=true) (ho:own ph'.c) (hc:∀ W',Env A W W'→W'.heap[ph'.c]?=some (.chan ph'.cap #[] false 0 0 false))
   (h:Mn P Q ph' [] (fun b=>own b∧b≠ph'.c) (fun b=>A b∧b≠ph'.c) g W):Mn P Q ph [] own A g W
 | reclaim {ph:Ph} {own A:Nat→Prop} {g:Goroutine} {W:World} (hr:g.status=.running) (own2:Nat→Prop) (h2:∀ b,own2 b→A b) (h:Mn P Q ph [] own2 A g W):Mn P Q ph [] own A g W
 | spawn {ph:Ph} {pend:List Nat} {own A:Nat→Prop} {g:Goroutine} {W:World} (hr:g.status=.running) (hon:ph.on=true) (k:Nat) (Ac:Nat→Prop) (hAc:∀ b,Ac b→A b) (hcap:ph.cap=0∨pend.length<ph.cap)
   (h1:∀ W',Env A W W'→∃ g' ch,stepG P true g W'=.spawn g' ch W' #[]∧g'.status=.running∧Wk P ph.c (ph.posts k) (fun _=>False) Ac ch W')
   (h2:∀ W' g' ch,Env A W W'→stepG P true g W'=.spawn g' ch W' #[]→Mn P Q ph (k :: pend) (fun b=>own b∧¬ Ac b) A g' W'):Mn P Q ph pend own A g W
 | recv {ph:Ph} {pend:List Nat} {own A:Nat→Prop} {g:Goroutine} {W:World} (hr:g.status=.running) (hon:ph.on=true) (hp:pend≠[]) (z:Value) (ok:Bool)
   (h1:∀ W',Env A W W'→∃ g2,stepG P true g W'=.comm g2 #[rcase ph.c z] true (.recv ok) W' #[])
   (h2:∀ W' W'' g2 k ownk Ak v Wk,Env A W W'→stepG P true g W'=.comm g2 #[rcase ph.c z] true (.recv ok) W' #[]→Env A W' W''→k∈pend→ph.posts k ownk Ak v Wk→Env Ak Wk W''→(∀ x,ownk x→¬ A x) →
    Mn P Q ph (pend.erase k) (fun b=>own b∨ownk b) (fun b=>A b∨Ak b) (g2.finishComm P #[rcase ph.c z] (.recv ok) 0 v true) W''):Mn P Q ph pend own A g W
section
variable {P:Program} {Q:(Nat→Prop)→(Nat→Prop)→Goroutine→World→Prop}
theorem Mn.running {ph:Ph} {pend:List Nat} {own A:Nat→Prop} {g:Goroutine} {W:World} (h:Mn P Q ph pend own A g W):g.status=.running:=by
 cases h<;>assumption
theorem Mn.env {ph:Ph} {pend:List Nat} {own A:Nat→Prop} {g:Goroutine} {W:World} (h:Mn P Q ph pend own A g W):∀ {W' : World},Env A W W'→Mn P Q ph pend own A g W':=by
 induction h with
 | done hr h=>exact fun he=>.done hr fun W'' h''=>h W'' (he.trans h'')
 | step hr h1 h2=>exact fun he=>.step hr (fun W'' h''=>h1 W'' (he.trans h'')) fun W'' g' W1 es h''=>h2 W'' g' W1 es (he.trans h'')
 | phase hr ph' hon ho hc _ ih=>exact fun he=>.phase hr ph' hon ho (fun W'' h''=>hc W'' (he.trans h'')) (ih ⟨fun x hx=>he.heap x hx.1,he.size,he.os,he.output⟩)
 | reclaim hr own2 h2 _ ih=>exact fun he=>.reclaim hr own2 h2 (ih he)
 | spawn hr hon k Ac hAc hcap h1 h2=>exact fun he=>.spawn hr hon k Ac hAc hcap (fun W'' h''=>h1 W'' (he.trans h'')) fun W'' g' ch h''=>h2 W'' g' ch (he.trans h'')
 | recv hr hon hp z ok h1 h2=>exact fun he=>.recv hr hon hp z ok (fun W'' h''=>h1 W'' (he.trans h'')) fun W2 W3 g2 k ownk Ak v Wk h''=>h2 W2 W3 g2 k ownk Ak v Wk (he.trans h'')
theorem zeY (S:Nat→Prop) (W:World):grow S W W=S:=by
 funext x
 unfold grow;exact propext ⟨fun h=>h.elim id fun h=>by omega,.inl⟩
theorem Mn.ctl {ph:Ph} {pend:List Nat} {own A:Nat→Prop} {g g' : Goroutine} {W:World} (hr:g.status=.running) (hr' : g'.status=.running) (h:∀ W',stepG P true g W'=.go g' W' #[]) (hm:Mn P Q ph pend own A g' W):Mn P Q ph pend own A g W:=by
 refine .step hr (fun W' _=>⟨g',W',#[],h W',⟨fun e he=>(Array.not_mem_empty e he).elim,Nat.le_refl _,fun _ _ _=>rfl,rfl,rfl⟩,hr'⟩) fun W' g2 W1 es he hs=>?_;rw [h W'] at hs;cases hs
 rw [zeY,zeY];exact hm.env he
theorem Mn.of_act {ph:Ph} {pend:List Nat} {Q' : (Nat→Prop)→(Nat→Prop)→Frame→List Frame→World→Prop} {own A:Nat→Prop} {fr:Frame} {cs:List Frame} {W:World} (h:Act P Q' own A fr cs W)
  (hq:∀ own A fr cs W,Q' own A fr cs W→Mn P Q ph pend own A { frame:=fr,callers:=cs,status:=.running,dying:=none } W) :
  Mn P Q ph pend own A { frame:=fr,callers:=cs,status:=.running,dying:=none } W:=by
 induction h with
 | done h=>exact hq _ _ _ _ _ h
 | step h1 _ ih =>
  refine .step rfl (fun W' he=>?_) fun W' g' W1 es he hs=>?_
  ·obtain⟨fr',cs',W1,es,h,hd⟩:=h1 W' true .running none he
   exact⟨_,W1,es,h,hd,rfl⟩
  ·obtain⟨fr',cs',W2,es2,h,hd⟩:=h1 W' true .running none he
   rw [h] at hs;cases hs
   exact ih W' true .running none fr' cs' W1 es he h
end
end Go.Con
namespace Go.Con
open Go Go.Conc
variable [Lone]
structure ZC (ph:Ph) (n:Nat) (W:World) (t:Trace) (Z:Nat→Option Zone):Prop where
 out:∀ j,n≤j→Z j=none
 sub:∀ j z b,Z j=some z→z.own b→z.A b
 low:∀ j z b,Z j=some z→z.A b→b<W.heap.size∧(ph.on=true→b≠ph.c)
 dis:∀ i j zi zj b,i≠j→Z i=some zi→Z j=some zj→zi.own b→¬ zj.A b
 ti:TI t Z
 below:Below t W.heap.size
 new:∀ (i:Nat) (op:MemOp),t[i]?=some op→op.g<n
 chan:ph.on=true→ph.c<W.heap.size
theorem ZC.env {ph:Ph} {n:Nat} {W:World} {t:Trace} {Z:Nat→Option Zone} (h:ZC ph n W t Z) {i j:Nat} {z zj:Zone} (hij:j≠i) (hz:Z i=some z) (hzj:Z j=some zj) {W1:World} {es:Array Event}
  (hd:Does z.own z.A W W1 es):Env zj.A W W1 :=
 ⟨fun x hx=>hd.keep x (h.low j zj x hzj hx).1 fun ho=>h.dis i j z zj x (Ne.symm hij) hz hzj ho hx,hd.size,hd.os,hd.output⟩
theorem ZC.go {ph:Ph} {n:Nat} {W:World} {t:Trace} {Z:Nat→Option Zone} (h:ZC ph n W t Z) {i:Nat} (hi:i<n) {z:Zone} (hz:Z i=some z) {W1:World} {es:Array Event} (hd:Does z.own z.A W W1 es) {fn:FuncId} {pos:String} :
  ZC ph n W1 (t++MemOp.ofEvents i fn pos es) (setZ Z i (some ⟨grow z.own W W1,grow z.A W W1⟩)):=by
 have hfresh:∀ (j:Nat) (zj:Zone) (b:Nat),Z j=some zj→zj.A b→¬ (W.heap.size≤b∧b<W1.heap.size):=fun j zj b hj hb hx=>by
  have:=(h.low j zj b hj hb).1;omega
 refine⟨fun j hj=>?_,fun j z2 b hz2 hb=>?_,fun j z2 b hz2 hb=>?_,fun a j za zj b haj hza hzj hb hA=>?_,?_,fun a x b ha hb=>?_,fun a op ha=>?_,fun hon=>jqb (h.chan hon) hd.size⟩
 ·rw [zan _ _ (by omega)];exact h.out j hj
 ·by_cases e:j=i
  ·subst e
   rw [zam] at hz2;cases hz2
   exact hb.imp (h.sub j z b hz) id
  ·rw [zan _ _ e] at hz2
   exact h.sub j z2 b hz2 hb
 ·by_cases e:j=i
  ·subst e
   rw [zam] at hz2;cases hz2
   rcases hb with hb | hb
   ·exact⟨jqb (h.low j z b hz hb).1 hd.size,(h.low j z b hz hb).2⟩
   ·exact⟨hb.2,fun hon e=>by have:=h.chan hon;omega⟩
  ·rw [zan _ _ e] at hz2
   exact⟨jqb (h.low j z2 b hz2 hb).1 hd.size,(h.low j z2 b hz2 hb).2⟩
 ·by_cases ea:a=i
  ·subst ea
   rw [zam] at hza;cases hza
   rw [zan _ _ (Ne.symm haj)] at hzj;rcases hb with hb | hb
   ·exact h.dis a j z zj b haj hz hzj hb hA
   ·exact hfresh j zj b hzj hA hb
  ·rw [zan _ _ ea] at hza
   by_cases ej:j=i
   ·subst ej
    rw [zam] at hzj;cases hzj
    rcases hA with hA | hA
    ·exact h.dis a j za z b haj hza hz hb hA
    ·exact hfresh a za b hza (h.sub a za b hza hb) hA
   ·rw [zan _ _ ej] at hzj
    exact h.dis a j za zj b haj hza hzj hb hA
 ·refine h.ti.go hz h.below (fun g' z2 hg' hz2=>⟨fun b hb hA=>?_,fun b hA hb=>?_⟩) hd.ev
  ·rcases hb with hb | hb
   ·exact h.dis i g' z z2 b (Ne.symm hg') hz hz2 hb hA
   ·exact hfresh g' z2 b hz2 hA hb
  ·rcases hA with hA | hA
   ·exact h.dis g' i z2 z b hg' hz2 hz hb hA
   ·exact hfresh g' z2 b hz2 (h.sub g' z2 b hz2 hb) hA
 ·obtain⟨op,ho,hox⟩:=touch_of ha
  rcases getElem?_append_cases ho with ⟨_,ho'⟩ | ⟨_,hou⟩
  ·exact jqb (h.below a x b (by rw [touchAt_of ho'];exact hox) hb) hd.size
  ·obtain⟨bb,hbb,hA,_⟩:=zeB hd.ev hou hox
   have hbe:bb=b:=Option.some.inj (hbb.symm.trans hb);subst hbe;rcases hA with hA | hA
   ·exact jqb (h.low i z bb hz hA).1 hd.size
   ·exact hA.2
 ·rcases getElem?_append_cases ha with ⟨_,ho'⟩ | ⟨_,hou⟩
  ·exact h.new a op ho'
  ·obtain⟨e,_,rfl⟩:=Go.Conc.mem_ofEvents hou
   exact hi
theorem ZC.mute {ph:Ph} {n:Nat} {W:World} {t:Trace} {Z:Nat→Option Zone} (h:ZC ph n W t Z) {op:MemOp} (ho:Mute op) (hg:op.g<n):ZC ph n W (t.push op) Z:=by
 refine⟨h.out,h.sub,h.low,h.dis,h.ti.mute ho,fun a x b ha hb=>?_,fun a o ha=>?_,h.chan⟩
 ·obtain⟨o,h1,h2⟩:=touch_of ha
  rw [jqa] at h1
  split at h1
  ·cases h1;rw [ho.1] at h2;cases h2
  ·exact h.below a x b (by rw [touchAt_of h1];exact h2) hb
 ·rw [jqa] at ha
  split at ha
  ·cases ha;exact hg
  ·exact h.new a o ha
theorem ZC.world {ph:Ph} {n:Nat} {W W1:World} {t:Trace} {Z:Nat→Option Zone} (h:ZC ph n W t Z) (hs:W1.heap.size=W.heap.size):ZC ph n W1 t Z :=
 ⟨h.out,h.sub,fun j z b hz hb=>by rw [hs];exact h.low j z b hz hb,h.dis,h.ti,by rw [hs];exact h.below,h.new,by rw [hs];exact h.chan⟩
theorem ZC.take {ph:Ph} {n:Nat} {W:World} {t:Trace} {Z:Nat→Option Zone} (h:ZC ph n W t Z) {z0 zj:Zone} {j p q c k:Nat} (h0:Z 0=some z0) (hj:Z j=some zj) (hj0:j≠0) (hn:0<n)
  {x y:MemOp} (hp:t[p]?=some x) (hxg:x.g=j) (hxa:x.act=.send c k) (hq:t[q]?=some y) (hyg:y.g=0) (hya:y.act=.recvDone c k)
  (hlast:∀ (i:Nat) (op:MemOp),t[i]?=some op→op.g=j→op.act.touch?.isSome=true→i<p) :
  ZC ph n W t (setZ (setZ Z j none) 0 (some ⟨fun b=>z0.own b∨zj.own b,fun b=>z0.A b∨zj.A b⟩)):=by
 refine⟨fun i hi=>?_,fun i z b hz hb=>?_,fun i z b hz hb=>?_,fun a i za zi b hai hza hzi hb hA=>?_,?_,h.below,h.new,h.chan⟩
 ·rw [zan _ _ (by omega)]
  by_cases e:i=j
  ·subst e;exact zam ..
  ·rw [zan _ _ e];exact h.out i hi
 ·by_cases e:i=0
  ·subst e;rw [zam] at hz;cases hz
   exact hb.imp (h.sub 0 z0 b h0) (h.sub j zj b hj)
  ·rw [zan _ _ e] at hz
   by_cases e2:i=j
   ·subst e2;rw [zam] at hz;cases hz
   ·rw [zan _ _ e2] at hz;exact h.sub i z b hz hb
 ·by_cases e:i=0
  ·subst e;rw [zam] at hz;cases hz
   exact hb.elim (h.low 0 z0 b h0) (h.low j zj b hj)
  ·rw [zan _ _ e] at hz
   by_cases e2:i=j
   ·subst e2;rw [zam] at hz;cases hz
   ·rw [zan _ _ e2] at hz;exact h.low i z b hz hb
 ·by_cases ea:a=0
  ·subst ea
   rw [zam] at hza;cases hza
   rw [zan _ _ (Ne.symm hai)] at hzi;by_cases e2:i=j
   ·subst e2;rw [zam] at hzi;cases hzi
   ·rw [zan _ _ e2] at hzi
    rcases hb with hb | hb
    ·exact h.dis 0 i z0 zi b hai h0 hzi hb hA
    ·exact h.dis j i zj zi b (Ne.symm e2) hj hzi hb hA
  ·rw [zan _ _ ea] at hza
   by_cases e2:a=j
   ·subst e2;rw [zam] at hza;cases hza
   ·rw [zan _ _ e2] at hza
    by_cases ei:i=0
    ·subst ei
     rw [zam] at hzi;cases hzi
     rcases hA with hA | hA
     ·exact h.dis a 0 za z0 b ea hza h0 hb hA
     ·exact h.dis a j za zj b e2 hza hj hb hA
    ·rw [zan _ _ ei] at hzi
     by_cases e3:i=j
     ·subst e3;rw [zam] at hzi;cases hzi
     ·rw [zan _ _ e3] at hzi
      exact h.dis a i za zi b hai hza hzi hb hA
 ·exact h.ti.take h0 (fun l zl hl0 hlj hzl=>⟨fun b hb hA=>h.dis j l zj zl b (Ne.symm hlj) hj hzl hb hA,fun b hb hA=>h.dis l j zl zj b hlj hzl hj hb hA⟩) hp hxg hxa hq hyg hya hlast
theorem ZC.spawn {ph:Ph} {n:Nat} {W:World} {t:Trace} {Z:Nat→Option Zone} (h:ZC ph n W t Z) {z0:Zone} {Ac:Nat→Prop} (h0:Z 0=some z0) (hn:0<n) (hAc:∀ b,Ac b→z0.A b) {x y:MemOp}
  (hxg:x.g=0) (hxa:x.act=.go n) (hyg:y.g=n) (hya:y.act=.start) :
  ZC ph (n+1) W ((t.push x).push y) (setZ (setZ Z n (some ⟨fun _=>False,Ac⟩)) 0 (some ⟨fun b=>z0.own b∧¬ Ac b,z0.A⟩)):=by
 have mx:Mute x:=⟨by rw [hxa];rfl,fun m hm=>by rw [hxa] at hm;cases hm⟩;have my:Mute y:=⟨by rw [hya];rfl,fun m hm=>by rw [hya] at hm;cases hm⟩;have hpx:((t.push x).push y)[t.size]?=some x:=by simp [jqa]
 have hpy:((t.push x).push y)[t.size+1]?=some y:=by
  rw [jqa,if_pos (by simp)]
 have old:∀ (i:Nat) (op:MemOp),((t.push x).push y)[i]?=some op→t[i]?=some op∨(i=t.size∧op=x)∨(i=t.size+1∧op=y):=by
  intro i op hi;rw [jqa] at hi
  split at hi
  ·rename_i e;cases hi;exact .inr (.inr ⟨by simpa using e,rfl⟩)
  ·rw [jqa] at hi
   split at hi
   ·rename_i e;cases hi;exact .inr (.inl ⟨e,rfl⟩)
   ·exact .inl hi
 have hnz:n≠0:=by omega
 refine⟨fun i hi=>?_,fun i z b hz hb=>?_,fun i z b hz hb=>?_,fun a i za zi b hai hza hzi hb hA=>?_,?_,fun i z b hi hb=>?_,fun i op hi=>?_,h.chan⟩
 ·rw [zan _ _ (by omega),zan _ _ (by omega)];exact h.out i (by omega)
 ·by_cases e:i=0
  ·subst e;rw [zam] at hz;cases hz
   exact h.sub 0 z0 b h0 hb.1
  ·rw [zan _ _ e] at hz
   by_cases e2:i=n
   ·subst e2;rw [zam] at hz;cases hz;exact hb.elim
   ·rw [zan _ _ e2] at hz;exact h.sub i z b hz hb
 ·by_cases e:i=0
  ·subst e;rw [zam] at hz;cases hz
   exact h.low 0 z0 b h0 hb
  ·rw [zan _ _ e] at hz
   by_cases e2:i=n
   ·subst e2;rw [zam] at hz;cases hz;exact h.low 0 z0 b h0 (hAc b hb)
   ·rw [zan _ _ e2] at hz;exact h.low i z b hz hb
 ·by_cases ea:a=0
  ·subst ea
   rw [zam] at hza;cases hza
   rw [zan _ _ (Ne.symm hai)] at hzi;by_cases e2:i=n
   ·subst e2;rw [zam] at hzi;cases hzi;exact hb.2 hA
   ·rw [zan _ _ e2] at hzi
    exact h.dis 0 i z0 zi b hai h0 hzi hb.1 hA
  ·rw [zan _ _ ea] at hza
   by_cases e2:a=n
   ·subst e2;rw [zam] at hza;cases hza;exact hb.elim
   ·rw [zan _ _ e2] at hza
    by_cases ei:i=0
    ·subst ei
     rw [zam] at hzi;cases hzi
     exact h.dis a 0 za z0 b ea hza h0 hb hA
    ·rw [zan _ _ ei] at hzi
     by_cases e3:i=n
     ·subst e3;rw [zam] at hzi;cases hzi
      exact h.dis a 0 za z0 b ea hza h0 hb (hAc b hA)
     ·rw [zan _ _ e3] at hzi
      exact h.dis a i za zi b hai hza hzi hb hA
 ·refine ((h.ti.mute mx).mute my).start h0 hAc (fun l zl hl hzl b hb hA=>h.dis l 0 zl z0 b hl hzl h0 hb hA) hpx hxa hpy hyg hya (fun i op hi hg=>?_) (fun i op hi hs hk=>?_)
  ·rcases old i op hi with h1 | ⟨_,rfl⟩ | ⟨_,rfl⟩
   ·have:=h.new i op h1;omega
   ·exact mx.1
   ·exact my.1
  ·obtain⟨q,zq,hq,hqg,hb⟩:=hk
   have hqt:q<t.size∨q=t.size:=by
    rcases old q zq hq with h1 | ⟨rfl,_⟩ | ⟨_,rfl⟩
    ·exact .inl (jqc.1 h1).1
    ·exact .inr rfl
    ·omega
   have hit:i<t.size:=by
    rcases old i op hi with h1 | ⟨_,rfl⟩ | ⟨_,rfl⟩
    ·exact (jqc.1 h1).1
    ·rw [mx.1] at hs;cases hs
    ·rw [my.1] at hs;cases hs
   rcases hqt with hqt | rfl
   ·exact hb.hb (hb_po hqt hq hpx (hqg.trans hxg.symm))
   ·rcases hb with rfl | hb
    ·omega
    ·exact hb
 ·obtain⟨op,h1,h2⟩:=touch_of hi
  rcases old i op h1 with h3 | ⟨_,rfl⟩ | ⟨_,rfl⟩
  ·exact h.below i z b (by rw [touchAt_of h3];exact h2) hb
  ·rw [mx.1] at h2;cases h2
  ·rw [my.1] at h2;cases h2
 ·rcases old i op hi with h1 | ⟨_,rfl⟩ | ⟨_,rfl⟩
  ·have:=h.new i op h1;omega
  ·omega
  ·omega
theorem ZC.phase {ph ph' : Ph} {n:Nat} {W:World} {t:Trace} {Z:Nat→Option Zone} (h:ZC ph n W t Z) {z0:Zone} (h0:Z 0=some z0) (ho:z0.own ph'.c) (hnone:∀ j,j≠0→Z j=none) :
  ZC ph' n W t (setZ Z 0 (some ⟨fun b=>z0.own b∧b≠ph'.c,fun b=>z0.A b∧b≠ph'.c⟩)):=by
 have only:∀ j z,setZ Z 0 (some ⟨fun b=>z0.own b∧b≠ph'.c,fun b=>z0.A b∧b≠ph'.c⟩) j=some z→j=0∧z=⟨fun b=>z0.own b∧b≠ph'.c,fun b=>z0.A b∧b≠ph'.c⟩:=by
  intro j z hz;by_cases e:j=0
  ·subst e;rw [zam] at hz;cases hz;exact⟨rfl,rfl⟩
  ·rw [zan _ _ e,hnone j e] at hz;cases hz
 have hn:0<n:=by
  rcases Nat.eq_zero_or_pos n with e | e
  ·have:=h.out 0 (by omega);rw [this] at h0;cases h0
  ·exact e
 refine⟨fun j hj=>?_,fun j z b hz hb=>?_,fun j z b hz hb=>?_,fun a j za zj b haj hza hzj=>?_,?_,h.below,h.new,fun _=>(h.low 0 z0 _ h0 (h.sub 0 z0 _ h0 ho)).1⟩
 ·rw [zan _ _ (by omega)];exact h.out j hj
 ·obtain⟨rfl,rfl⟩:=only j z hz;exact⟨h.sub 0 z0 b h0 hb.1,hb.2⟩
 ·obtain⟨rfl,rfl⟩:=only j z hz;exact⟨(h.low 0 z0 b h0 hb.1).1,fun _=>hb.2⟩
 ·obtain⟨rfl,_⟩:=only a za hza;obtain⟨rfl,_⟩:=only j zj hzj;exact (haj rfl).elim
 ·refine⟨h.ti.clean,h.ti.word,fun i x g z hx hm hz=>?_,fun i op x z hi hx hm hne hz=>?_,fun i op x hi hx hm hne hz=>?_⟩
  ·obtain⟨rfl,rfl⟩:=only g z hz
   exact (h.ti.sep i x 0 z0 hx hm h0).imp id fun hs b hb=>⟨fun ho=>(hs b hb).1 ho.1,fun hw hA=>(hs b hb).2 hw hA.1⟩
  ·exact (hne (only _ _ hz).1).elim
  ·rw [zan _ _ hne] at hz;exact h.ti.gone i op x hi hx hm hne hz
theorem ZC.reclaim {ph:Ph} {n:Nat} {W:World} {t:Trace} {Z:Nat→Option Zone} (h:ZC ph n W t Z) {z0:Zone} {own2:Nat→Prop} (h0:Z 0=some z0) (h2:∀ b,own2 b→z0.A b) (hnone:∀ j,j≠0→Z j=none) :
  ZC ph n W t (setZ Z 0 (some ⟨own2,z0.A⟩)):=by
 have only:∀ j z,setZ Z 0 (some ⟨own2,z0.A⟩) j=some z→j=0∧z=⟨own2,z0.A⟩:=by
  intro j z hz;by_cases e:j=0
  ·subst e;rw [zam] at hz;cases hz;exact⟨rfl,rfl⟩
  ·rw [zan _ _ e,hnone j e] at hz;cases hz
 refine⟨fun j hj=>?_,fun j z b hz hb=>?_,fun j z b hz hb=>?_,fun a j za zj b haj hza hzj=>?_,?_,h.below,h.new,h.chan⟩
 ·have hn:j≠0:=by
   rintro rfl;rw [h.out 0 hj] at h0;cases h0
  rw [zan _ _ hn];exact h.out j hj
 ·obtain⟨rfl,rfl⟩:=only j z hz;exact h2 b hb
 ·obtain⟨rfl,rfl⟩:=only j z hz;exact h.low 0 z0 b h0 hb
 ·obtain⟨rfl,_⟩:=only a za hza;obtain⟨rfl,_⟩:=only j zj hzj;exact (haj rfl).elim
 ·refine⟨h.ti.clean,h.ti.word,fun i x g z hx hm hz=>?_,fun i op x z hi hx hm hne hz=>?_,fun i op x hi hx hm hne hz=>?_⟩
  ·obtain⟨rfl,rfl⟩:=only g z hz
   obtain⟨op,ho,hox⟩:=touch_of hx;by_cases e0:op.g=0
   ·have:=knows_own ho;rw [e0] at this;exact .inl this
   ·exact .inl (h.ti.gone i op x ho hox hm e0 (hnone _ e0))
  ·exact (hne (only _ _ hz).1).elim
  ·rw [zan _ _ hne] at hz;exact h.ti.gone i op x hi hx hm hne hz
end Go.Con
namespace Go.Con
open Go Go.Conc
variable [Lone]
inductive Ws
 | live (k:Nat) (own A:Nat→Prop) (g:Goroutine) (W:World)
 | parked (k:Nat) (own A:Nat→Prop) (v:Value) (W:World)
 | sent (n k:Nat) (own A:Nat→Prop) (v:Value) (W:World)
 | gone (n:Nat)
def Ws.key:Ws→Option Nat
 | .live k .. | .parked k .. | .sent _ k ..=>some k
 | .gone _=>none
def WOk (P:Program) (ph:Ph) (W:World) (x:Ws) (g:Goroutine) (z:Option Zone):Prop:=match x with
 | .live k own A g0 W0=>g=g0∧z=some ⟨own,A⟩∧Env A W0 W∧ph.on=true∧Wk P ph.c (ph.posts k) own A g0 W0
 | .parked k own A v W0=>z=some ⟨own,A⟩∧Env A W0 W∧ph.posts k own A v W0∧ph.on=true∧∃ g2 zz n,g=parked g2 #[scase ph.c v zz] .send∧QuitsIn P n (g2.finishComm P #[scase ph.c v zz] .send 0 undef false)
 | .sent n k own A v W0=>QuitsIn P n g∧z=some ⟨own,A⟩∧Env A W0 W∧ph.posts k own A v W0
 | .gone n=>QuitsIn P n g∧z=none
inductive WLt (P:Program):Ws→Ws→Prop
 | step {k:Nat} {own A:Nat→Prop} {g g' : Goroutine} {W W' W1:World} {es:Array Event} (he:Env A W W') (hs:stepG P false g W'=.go g' W1 es):WLt P (.live k (grow own W' W1) (grow A W' W1) g' W1) (.live k own A g W)
 | park {k k' : Nat} {own A own' A' : Nat→Prop} {g:Goroutine} {W W' : World} {v:Value}:WLt P (.parked k' own' A' v W') (.live k own A g W)
 | send {n k k' : Nat} {own A own' A' : Nat→Prop} {g:Goroutine} {W W' : World} {v:Value}:WLt P (.sent n k' own' A' v W') (.live k own A g W)
 | quitS {m n k:Nat} {own A:Nat→Prop} {W:World} {v:Value} (h:m<n):WLt P (.sent m k own A v W) (.sent n k own A v W)
 | quitG {m n:Nat} (h:m<n):WLt P (.gone m) (.gone n)
inductive LLt (P:Program):List Ws→List Ws→Prop
 | mk {l:List Ws} {j:Nat} {x y:Ws} (hx:l[j]?=some x) (h:WLt P y x):LLt P (l.set j y) l
section
variable {P:Program}
theorem ze9 {k:Nat} {own A:Nat→Prop} {v:Value} {W:World}:Acc (WLt P) (.parked k own A v W):=.intro _ fun y hy=>by cases hy
theorem zj7 (n:Nat):Acc (WLt P) (.gone n):=by
 induction n using Nat.strongRecOn with
 | _ n ih =>
  refine .intro _ fun y hy=>?_
  cases hy with
  | quitG h=>exact ih _ h
theorem zh5 {k:Nat} {own A:Nat→Prop} {v:Value} {W:World} (n:Nat):Acc (WLt P) (.sent n k own A v W):=by
 induction n using Nat.strongRecOn with
 | _ n ih =>
  refine .intro _ fun y hy=>?_
  cases hy with
  | quitS h=>exact ih _ h
theorem znP {c k:Nat} {Post:Hand} {own A:Nat→Prop} {g:Goroutine} {W:World} (h:Wk P c Post own A g W):Acc (WLt P) (.live k own A g W):=by
 induction h with
 | step hr h1 h2 ih =>
  refine .intro _ fun y hy=>?_
  cases hy with
  | step he hs=>exact ih _ _ _ _ he hs
  | park=>exact ze9
  | send=>exact zh5 _
 | send hr v z h =>
  refine .intro _ fun y hy=>?_
  cases hy with
  | step he hs =>
   obtain⟨_,g2,q,hst,_⟩:=h _ he;rw [hst] at hs;cases hs
  | park=>exact ze9
  | send=>exact zh5 _
theorem zn1 {x:Ws} (hx:Acc (WLt P) x):∀ {l:List Ws},Acc (LLt P) l→Acc (LLt P) (x :: l):=by
 induction hx with
 | intro x hx ihx =>
  intro l hl
  induction hl with
  | intro l hl ihl =>
   refine .intro _ fun y hy=>?_;generalize hl0:x :: l=l0 at hy
   cases hy with
   | @mk _ j x' y' hxj hlt =>
    subst hl0
    cases j with
    | zero =>
     simp only [List.getElem?_cons_zero,Option.some.injEq] at hxj;subst hxj;exact ihx _ hlt (.intro l hl)
    | succ j =>
     simp only [List.getElem?_cons_succ] at hxj;exact ihl _ ⟨hxj,hlt⟩
theorem zj8:∀ {l:List Ws},(∀ x∈l,Acc (WLt P) x)→Acc (LLt P) l
 | [],_=>.intro _ fun y hy=>by
  generalize hl0:([]:List Ws)=l0 at hy
  cases hy with
  | mk hx _=>subst hl0;cases hx
 | x :: l,h=>zn1 (h x (List.mem_cons_self ..)) (zj8 fun y hy=>h y (List.mem_cons_of_mem _ hy))
theorem WOk.acc {ph:Ph} {W:World} {x:Ws} {g:Goroutine} {z:Option Zone} (h:WOk P ph W x g z):Acc (WLt P) x:=by
 cases x with
 | live k own A g0 W0=>exact znP h.2.2.2.2
 | parked=>exact ze9
 | sent n=>exact zh5 n
 | gone n=>exact zj7 n
theorem WOk.env {ph:Ph} {W W1:World} {x:Ws} {g:Goroutine} {z:Option Zone} (h:WOk P ph W x g z) (he:∀ zz,z=some zz→Env zz.A W W1):WOk P ph W1 x g z:=by
 cases x with
 | live k own A g0 W0=>exact⟨h.1,h.2.1,h.2.2.1.trans (he _ h.2.1),h.2.2.2⟩
 | parked k own A v W0=>exact⟨h.1,h.2.1.trans (he _ h.1),h.2.2⟩
 | sent n k own A v W0=>exact⟨h.1,h.2.1,h.2.2.1.trans (he _ h.2.1),h.2.2.2⟩
 | gone n=>exact h
theorem WOk.status {ph:Ph} {W:World} {x:Ws} {g:Goroutine} {z:Option Zone} (h:WOk P ph W x g z):g.status=.running∨g.status=.blocked∨g.status=.finished:=by
 have q:∀ {n:Nat} {g:Goroutine},QuitsIn P n g→g.status=.running∨g.status=.blocked∨g.status=.finished:=by
  intro n g h
  cases n with
  | zero=>exact .inr (.inr h)
  | succ n=>exact h.elim (fun h=>.inr (.inr h)) fun h=>.inl h.1
 cases x with
 | live k own A g0 W0=>rw [h.1];exact .inl h.2.2.2.2.running
 | parked k own A v W0=>obtain⟨_,_,_,_,g2,zz,n,rfl,_⟩:=h;exact .inr (.inl rfl)
 | sent n k own A v W0=>exact q h.1
 | gone n=>exact q h.1
theorem WOk.woken {ph:Ph} {W W' : World} {x:Ws} {g a a' : Goroutine} {z:Option Zone} {cap s r:Nat} {buf:Array Value} {tm:Bool} (h:WOk P ph W x g z) (hc:ph.on=true→W'.heap[ph.c]?=some (.chan cap buf false s r tm)):Go.Conc.woken P a a' W' g=g:=by
 have q:∀ {n:Nat} {g:Goroutine},QuitsIn P n g→g.status=.running∨g.status=.finished:=by
  intro n g h
  cases n with
  | zero=>exact .inr h
  | succ n=>exact h.elim .inr fun h=>.inl h.1
 have w:∀ {g:Goroutine},g.status=.running∨g.status=.finished→Go.Conc.woken P a a' W' g=g:=by
  intro g hg;unfold Go.Conc.woken;split
  ·exact again_running _ hg
  ·rfl
 cases x with
 | live k own A g0 W0=>rw [h.1];exact w (.inl h.2.2.2.2.running)
 | parked k own A v W0=>obtain⟨_,_,_,hon,g2,zz,n,rfl,_⟩:=h;exact woken_send_open _ _ (hc hon)
 | sent n k own A v W0=>exact w (q h.1)
 | gone n=>exact w (q h.1)
end
end Go.Con
