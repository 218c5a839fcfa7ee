import Derived.Test.YtedomogjmhommaaC25
set_option linter.all false
set_option maxRecDepth 100000
set_option maxHeartbeats 8000000
namespace Go.Con
open Go
variable [Lone]
section
variable {P:Program} {mf:Md} {nc:Bool} {ρ:Rn} {K:Nat→Prop}
theorem sr_getObj_k {α β:Type} {q:α→β→Prop} {b:Nat} {f:Obj→Sem α} {f' : Obj→Sem β}
  (h:∀ o,isChanB o=false→plainObj mf o=true→SR P mf nc ρ q (fun x=>K x∨(x=b∧freeObj mf o=true)) (f o) (f' (renObj ρ o))):SR P mf nc ρ q K (getObj b >>= f) (getObj (ρ.p b) >>= f'):=.getObj h
theorem sr_setObj_k {b:Nat} {o:Obj} (hK:K b) (ho:plainObj mf o=true) (hc:isChanB o=false):SI P mf nc ρ K (setObj b o) (setObj (ρ.p b) (renObj ρ o)):=.setObj hK ho hc (.pure rfl)
theorem sameBits_ren (R:RenOk P ρ) (hi:chanInj ρ):∀ (n:Nat) (a b:Value),Instr.sameBits n (ren ρ a) (ren ρ b)=Instr.sameBits n a b:=by
 intro n
 have hp:∀ a b:Option Addr,(a.map (renAddr ρ) == b.map (renAddr ρ))=(a == b):=by
  intro a b
  cases a<;>cases b<;>try rfl
  rename_i a b
  simp only [Option.map_some,Option.some_beq_some]
  rw [Bool.eq_iff_iff]
  simp only [beq_iff_eq]
  refine⟨fun e=>?_,fun e=>by rw [e]⟩
  obtain⟨a1,a2,a3⟩:=a
  obtain⟨b1,b2,b3⟩:=b
  simp only [renAddr,Addr.mk.injEq] at e ⊢
  exact⟨R.inj _ _ e.1,e.2⟩
 obtain⟨f,hf,hinj⟩:=hi
 have hch:∀ a:Option Nat,ren ρ (.chan a)=.chan (a.map f):=by
  intro a
  cases a with
  | none=>simp only [ren];rfl
  | some a=>simp only [ren,hf,cellV];rfl
 have hc:∀ a b:Option Nat,(a.map f == b.map f)=(a == b):=by
  intro a b
  cases a<;>cases b<;>try rfl
  rename_i a b
  simp only [Option.map_some,Option.some_beq_some]
  rw [Bool.eq_iff_iff]
  simp only [beq_iff_eq]
  exact⟨fun e=>hinj _ _ e,fun e=>by rw [e]⟩
 have hfu:∀ (n:Nat) (f:Fn) (x y:Array Value) (v:Value),Instr.sameBits n (.func f x y) v=false∧Instr.sameBits n v (.func f x y)=false:=by
  intro n f x y v
  cases n<;>cases v<;>exact⟨rfl,rfl⟩
 induction n with
 | zero =>
  intro a b
  cases a with
  | func f x y=>obtain⟨_,_,_,e⟩:=ren_func ρ f x y;rw [e,(hfu _ _ _ _ _).1,(hfu _ _ _ _ _).1]
  | _ =>
   cases b with
   | func f x y=>obtain⟨_,_,_,e⟩:=ren_func ρ f x y;rw [e,(hfu _ _ _ _ _).2,(hfu _ _ _ _ _).2]
   | _=>first | rfl | exact hp _ _ | (simp only [hch];first | rfl | exact hc _ _)
 | succ n ih =>
  intro a b
  cases a with
  | func f x y=>obtain⟨_,_,_,e⟩:=ren_func ρ f x y;rw [e,(hfu _ _ _ _ _).1,(hfu _ _ _ _ _).1]
  | _ =>
   cases b with
   | func f x y=>obtain⟨_,_,_,e⟩:=ren_func ρ f x y;rw [e,(hfu _ _ _ _ _).2,(hfu _ _ _ _ _).2]
   | _=>first
    | rfl
    | exact hp _ _
    | (simp only [hch];first | rfl | exact hc _ _;done)
    | (simp only [ren,Instr.sameBits,ih];done)
    | (simp only [ren,Instr.sameBits,renA_eq,Array.size_map,Array.toList_map,List.zip_map,List.all_map,Function.comp_def,Prod.map,ih];done)
theorem bytes_eq {a b:ByteArray} (h:(a == b)=true):a=b:=by
 obtain⟨a⟩:=a
 obtain⟨b⟩:=b
 rw [eq_of_beq (show (a == b)=true from h)]
theorem sameBits_eq:∀ (n:Nat) (a b:Value),Instr.sameBits n a b=true→a=b:=by
 intro n
 induction n with
 | zero=>intro a b h;cases a<;>cases b<;>first | (cases h;done) | (simp [Instr.sameBits] at h;simp [h];done) | (rw [bytes_eq h];done) | rfl
 | succ n ih =>
  intro a b h
  cases a with
  | iface t v =>
   cases b with
   | iface u w =>
    simp only [Instr.sameBits,Bool.and_eq_true,beq_iff_eq] at h
    rw [h.1,ih _ _ h.2]
   | _=>cases h
  | agg x =>
   cases b with
   | agg y =>
    obtain⟨x⟩:=x
    obtain⟨y⟩:=y
    simp only [Instr.sameBits,Bool.and_eq_true,beq_iff_eq,List.size_toArray] at h
    obtain⟨hl,h⟩:=h
    have:∀ (x y:List Value),x.length=y.length→((x.zip y).all fun p=>Instr.sameBits n p.1 p.2)=true→x=y:=by
     intro x
     induction x with
     | nil=>intro y hl _;cases y with | nil=>rfl | cons _ _=>cases hl
     | cons a x ihx =>
      intro y hl h
      cases y with
      | nil=>cases hl
      | cons b y =>
       simp only [List.zip_cons_cons,List.all_cons,Bool.and_eq_true] at h
       rw [ih _ _ h.1,ihx y (by simpa using hl) h.2]
    rw [this x y hl h]
   | _=>cases h
  | _=>cases b<;>first | (cases h;done) | (simp [Instr.sameBits] at h;simp [h];done) | (rw [bytes_eq h];done) | rfl
theorem sr_keyThatStays (R:RenOk P ρ) {a b:Value}:SV P mf nc ρ K (Instr.keyThatStays a b) (Instr.keyThatStays (ren ρ a) (ren ρ b)):=by
 unfold Instr.keyThatStays
 by_cases hi:chanInj ρ
 ·rw [sameBits_ren R hi]
  split
  ·exact sr_pure rfl
  ·refine sr_bind (info_choose _).sr ?_
   rintro _ n rfl
   refine sr_pure ?_
   split<;>rfl
 ·cases h1:Instr.sameBits 10000 a b
  ·cases h2:Instr.sameBits 10000 (ren ρ a) (ren ρ b)
   ·refine sr_bind (info_choose _).sr ?_
    rintro _ n rfl
    refine sr_pure ?_
    split<;>rfl
   ·exact .chooseL hi rfl (.pure rfl)
  ·have:=sameBits_eq _ _ _ h1
   subst this
   cases h2:Instr.sameBits 10000 (ren ρ a) (ren ρ a)
   ·exact .chooseR hi fun n=>.pure (by split<;>rfl)
   ·exact sr_pure rfl
theorem getD_key {es:Array MapEntry} {i:Nat} {k:Value}:(((es.map (renEntry ρ))[i]?).map (·.key)).getD (ren ρ k)=ren ρ (((es[i]?).map (·.key)).getD k):=by
 rw [Array.getElem?_map]
 cases es[i]?<;>rfl
theorem sr_mapUpdate (hm:mf.maps=true) (R:RenOk P ρ) {t:TypeId} (h:keyOk P t=true) {x k v:Value}:SI P mf nc ρ K (Instr.mapUpdate t x k v) (Instr.mapUpdate t (ren ρ x) (ren ρ k) (ren ρ v)):=by
 unfold Instr.mapUpdate
 refine sr_bind (underlying_at t) ?_
 rintro _ d ⟨rfl,hd⟩
 cases d with
 | map key elem =>
  have hkt:t<P.types.size∧eqOk P Op.maxDepth key=true:=by have h:=h;simpa [keyOk,hd] using h
  have hk:=hkt.2
  cases x with
  | map r =>
   cases r with
   | none=>exact sr_runtimePanic
   | some r =>
    refine sr_getObj_k fun o ho _=>?_
    cases o with
    | map es cl =>
     refine sr_bind (sr_checkKey _ _ _ _) ?_
     rintro _ _ rfl
     rw [Array.toList_map]
     refine sr_bind (sr_findKeyAt R hk) ?_
     rintro f _ ⟨rfl,hfa⟩
     cases f with
     | some f =>
      obtain⟨i,w⟩:=f
      dsimp only [Option.map_some]
      rw [getD_key]
      refine sr_bind (sr_keyThatStays R) ?_
      rintro key' _ rfl
      have e:Array.modify (es.map (renEntry ρ)) i (fun e=>{ e with key:=ren ρ key',val:=ren ρ v })=(es.modify i fun e=>{ e with key:=key',val:=v }).map (renEntry ρ):=by
       apply Array.ext
       ·simp
       ·intro j h1 h2
        simp only [Array.getElem_modify,Array.getElem_map]
        split<;>rfl
      rw [e]
      exact sr_setObj_k (o:=.map (es.modify i fun e=>{ e with key:=key',val:=v }) cl) (.inr ⟨rfl,by simp [freeObj,hm]⟩) rfl rfl
     | none =>
      have e:(es.map (renEntry ρ)).push { key:=ren ρ k,val:=ren ρ v,born:=cl }=(es.push { key:=k,val:=v,born:=cl }).map (renEntry ρ):=by simp [renEntry]
      dsimp only [Option.map_none]
      rw [e]
      exact sr_setObj_k (o:=.map (es.push { key:=k,val:=v,born:=cl }) (cl+1)) (.inr ⟨rfl,by simp [freeObj,hm]⟩) rfl rfl
    | _=>exact sr_stuck
  | _=>exact sr_stuck
 | _=>exact sr_stuck
theorem sr_range {t:TypeId} {x:Value}:SV P mf nc ρ K (Instr.range t x) (Instr.range t (ren ρ x)):=by
 unfold Instr.range
 refine sr_bind (info_underlying t).sr ?_
 rintro _ d rfl
 have fin:∀ {K} (o:Obj),plainObj mf o=true→isChanB o=false→SV P mf nc ρ K (do pure (.pointer (some ⟨← newObj o,0,none⟩))) (do pure (.pointer (some ⟨← newObj (renObj ρ o),0,none⟩))):=fun o h1 h2 =>
  sr_bind (sr_newObj h1 h2) (by rintro b _ rfl;exact sr_pure rfl)
 cases d with
 | string =>
  cases x with
  | string s=>exact fin (.stringIter s 0) rfl rfl
  | _=>exact .dead trivial
 | map k e =>
  cases x with
  | map r =>
   cases r with
   | none=>exact fin (.mapIter none 0 #[] 0) rfl rfl
   | some r =>
    refine sr_bind sr_getObj ?_
    rintro o _ rfl
    cases o with
    | map es cl=>exact fin (.mapIter (some r) cl #[] cl) rfl rfl
    | _=>exact .dead trivial
  | _=>exact .dead trivial
 | _=>exact .dead trivial
theorem sr_next {t:TypeId} {x:Value} {b:Bool}:SV P mf nc ρ K (Instr.next x b t) (Instr.next (ren ρ x) b t):=by
 unfold Instr.next
 cases x with
 | pointer a =>
  cases a with
  | none=>exact sr_stuck
  | some a =>
   obtain⟨r,off,spot⟩:=a
   cases off with
   | succ n=>exact sr_stuck
   | zero =>
    refine sr_getObj_k fun o ho _=>?_
    cases o with
    | stringIter s p =>
     cases b with
     | false=>exact sr_stuck
     | true =>
      dsimp only [renObj]
      split
      ·exact sr_bind (sr_setObj_k (o:=.stringIter s _) (.inr ⟨rfl,rfl⟩) rfl rfl) (by rintro _ _ rfl;exact sr_pure rfl)
      ·exact sr_pure rfl
    | mapIter m since seen last =>
     cases b with
     | true=>cases m<;>exact sr_stuck
     | false =>
      cases m with
      | none=>exact sr_pure rfl
      | some m =>
       refine sr_bind sr_getObj ?_
       rintro o _ rfl
       cases o with
       | map es cl =>
        dsimp only [renObj,Option.map_some]
        have hf:∀ p:Nat→Bool,(es.map (renEntry ρ)).filter (fun e=>p e.born)=(es.filter fun e=>p e.born).map (renEntry ρ):=by
         intro p
         rw [Array.filter_map]
         rfl
        have hf2:∀ (p q:Nat→Bool),((es.filter fun e=>q e.born).map (renEntry ρ)).filter (fun e=>p e.born)=((es.filter fun e=>q e.born).filter fun e=>p e.born).map (renEntry ρ):=by
         intro p q
         rw [Array.filter_map]
         rfl
        have ha:(es.map (renEntry ρ)).all (fun e=>decide (e.born≥last))=es.all (fun e=>decide (e.born≥last)):=by
         rw [Array.all_map]
         rfl
        have he:(es.map (renEntry ρ)).isEmpty=es.isEmpty:=by simp [Array.isEmpty]
        rw [he,ha]
        split
        ·exact .dead (dead_bind trivial)
        ·rw [hf (fun n=>!seen.contains n),hf2 (fun n=>decide (n<since)) (fun n=>!seen.contains n),hf2 (fun n=>decide (n≥since)) (fun n=>!seen.contains n)]
         generalize (es.filter fun e=>!seen.contains e.born).filter (fun e=>decide (e.born<since))=old
         generalize (es.filter fun e=>!seen.contains e.born).filter (fun e=>decide (e.born≥since))=new
         have hc:((if (old.map (renEntry ρ)).isEmpty then #[none] else #[])++((old.map (renEntry ρ)++new.map (renEntry ρ)).map some):Array (Option MapEntry)) =
           ((if old.isEmpty then #[none] else #[])++(old++new).map some:Array (Option MapEntry)).map (Option.map (renEntry ρ)):=by
          have:(old.map (renEntry ρ)).isEmpty=old.isEmpty:=by simp [Array.isEmpty]
          rw [this]
          by_cases h:old.isEmpty=true<;>simp [h]<;>rfl
         rw [hc]
         generalize ((if old.isEmpty then #[none] else #[])++(old++new).map some:Array (Option MapEntry))=cand
         rw [Array.size_map]
         refine sr_bind (info_choose _).sr ?_
         rintro _ n rfl
         rw [Array.getElem?_map]
         cases cand[n]? with
         | none=>exact sr_stuck
         | some c =>
          cases c with
          | none=>exact sr_pure rfl
          | some e=>exact sr_bind (sr_setObj_k (o:=.mapIter (some m) since (seen.push e.born) cl) (.inr ⟨rfl,rfl⟩) rfl rfl) (by rintro _ _ rfl;exact sr_pure rfl)
       | _=>exact .dead trivial
    | _=>cases b<;>exact sr_stuck
 | _=>exact sr_stuck
theorem sr_entry {x:Value}:SV P mf nc ρ K (Instr.entry x) (Instr.entry (ren ρ x)):=by
 unfold Instr.entry
 cases x with
 | pointer a =>
  cases a with
  | none=>exact sr_stuck
  | some a =>
   obtain⟨r,off,spot⟩:=a
   cases off with
   | succ n=>exact sr_stuck
   | zero =>
    refine sr_bind sr_getObj ?_
    rintro o _ rfl
    cases o with
    | mapIter m since seen last =>
     cases m with
     | none=>exact sr_stuck
     | some m =>
      dsimp only [renObj,Option.map_some]
      cases seen.back? with
      | none=>exact sr_stuck
      | some st =>
       refine sr_bind sr_getObj ?_
       rintro o _ rfl
       cases o with
       | map es cl =>
        dsimp only [renObj]
        split
        ·exact .dead (dead_bind trivial)
        ·have e:(es.map (renEntry ρ)).find? (fun e=>e.born == st)=(es.find? fun e=>e.born == st).map (renEntry ρ):=by
          rw [Array.find?_map]
          rfl
         rw [e]
         cases es.find? (fun e=>e.born == st) with
         | none=>exact sr_unsupported
         | some e=>exact sr_pure rfl
       | _=>exact sr_stuck
    | _=>exact sr_stuck
 | _=>exact sr_stuck
theorem sr_lenOf {x:Value}:SI P mf nc ρ K (Builtin.lenOf x) (Builtin.lenOf (ren ρ x)):=by
 unfold Builtin.lenOf
 cases x<;>first | exact sr_pure rfl | exact sr_stuck
variable (P) in
def lenOk (ats:Array TypeId):Bool:=match ats[0]? with
 | some t=>(match P.underlying t with | some (.chan ..)=>false | _=>true)
 | none=>true
theorem sr_len {ats:Array TypeId} (h:lenOk P ats=true) {t:TypeId} {args:Array Value}:SV P mf nc ρ K (Builtin.len_ ats t args) (Builtin.len_ ats t (args.map (ren ρ))):=by
 unfold Builtin.len_
 rw [Array.getElem?_map]
 cases h0:ats[0]? with
 | none=>exact sr_stuck
 | some t0 =>
  cases args[0]? with
  | none=>exact sr_stuck
  | some x =>
   refine sr_bind (underlying_at t0) ?_
   rintro _ d ⟨rfl,hd⟩
   simp only [lenOk,h0,hd] at h
   cases d with
   | chan=>cases h
   | string=>cases x<;>first | exact sr_pure rfl | exact sr_stuck
   | array n e=>exact sr_pure rfl
   | pointer arr =>
    refine sr_bind (info_underlying _).sr ?_
    rintro _ d rfl
    cases d<;>first | exact sr_pure rfl | exact sr_stuck
   | slice e=>cases x<;>first | exact sr_pure rfl | exact sr_stuck
   | map k e =>
    cases x with
    | map r =>
     cases r with
     | none=>exact sr_pure rfl
     | some r =>
      refine sr_bind sr_getObj ?_
      rintro o _ rfl
      cases o<;>first | exact sr_stuck | exact sr_pure (by simp [ren,goInt])
    | _=>exact sr_stuck
   | _=>exact sr_stuck
theorem sr_foldlM {f:Value→Value→Sem Value} (hf:∀ a b,SV P mf nc ρ K (f a b) (f (ren ρ a) (ren ρ b))):∀ (l:List Value) (a:Value),SV P mf nc ρ K (l.foldlM f a) ((l.map (ren ρ)).foldlM f (ren ρ a))
 | [],_=>sr_pure rfl
 | x :: l,a=>by
  rw [List.map_cons,List.foldlM_cons,List.foldlM_cons]
  refine sr_bind (hf a x) ?_
  rintro b _ rfl
  exact sr_foldlM hf l b
theorem sr_max2 (a b:Value):SV P mf nc ρ K (Builtin.max2 a b) (Builtin.max2 (ren ρ a) (ren ρ b)):=by
 unfold Builtin.max2
 cases a with
 | int k x=>cases b<;>first | exact sr_pure rfl | exact sr_stuck | (rename_i c;cases c<;>first | exact sr_unsupported | exact sr_stuck)
 | float k x =>
  cases b with
  | float k' y =>
   dsimp only [ren]
   cases k.format.order x y with
   | none=>exact sr_bind (info_choose _).sr (by rintro _ n rfl;exact sr_pure rfl)
   | some o=>cases o<;>exact sr_pure rfl
  | pointer c=>cases c<;>first | exact sr_unsupported | exact sr_stuck
  | _=>exact sr_stuck
 | string s =>
  cases b with
  | string r =>
   refine sr_bind sr_stringOp ?_
   rintro v _ rfl
   refine sr_bind sr_asBool ?_
   rintro _ b rfl
   cases b<;>exact sr_pure rfl
  | pointer c=>cases c<;>first | exact sr_unsupported | exact sr_stuck
  | _=>exact sr_stuck
 | pointer c=>cases c<;>cases b<;>first | exact sr_unsupported | exact sr_stuck | (rename_i c;cases c<;>first | exact sr_unsupported | exact sr_stuck)
 | _=>cases b<;>first | exact sr_stuck | (rename_i c;cases c<;>first | exact sr_unsupported | exact sr_stuck)
theorem sr_min2 (a b:Value):SV P mf nc ρ K (Builtin.min2 a b) (Builtin.min2 (ren ρ a) (ren ρ b)):=by
 unfold Builtin.min2
 cases a with
 | int k x=>cases b<;>first | exact sr_pure rfl | exact sr_stuck | (rename_i c;cases c<;>first | exact sr_unsupported | exact sr_stuck)
 | float k x =>
  cases b with
  | float k' y =>
   dsimp only [ren]
   cases k.format.order x y with
   | none=>exact sr_bind (info_choose _).sr (by rintro _ n rfl;exact sr_pure rfl)
   | some o=>cases o<;>exact sr_pure rfl
  | pointer c=>cases c<;>first | exact sr_unsupported | exact sr_stuck
  | _=>exact sr_stuck
 | string s =>
  cases b with
  | string r =>
   refine sr_bind sr_stringOp ?_
   rintro v _ rfl
   refine sr_bind sr_asBool ?_
   rintro _ b rfl
   cases b<;>exact sr_pure rfl
  | pointer c=>cases c<;>first | exact sr_unsupported | exact sr_stuck
  | _=>exact sr_stuck
 | pointer c=>cases c<;>cases b<;>first | exact sr_unsupported | exact sr_stuck | (rename_i c;cases c<;>first | exact sr_unsupported | exact sr_stuck)
 | _=>cases b<;>first | exact sr_stuck | (rename_i c;cases c<;>first | exact sr_unsupported | exact sr_stuck)
theorem sr_max {ats:Array TypeId} {t:TypeId} {args:Array Value}:SV P mf nc ρ K (Builtin.max_ ats t args) (Builtin.max_ ats t (args.map (ren ρ))):=by
 unfold Builtin.max_
 rw [Array.toList_map]
 cases args.toList with
 | nil=>exact sr_stuck
 | cons x l=>exact sr_foldlM sr_max2 l x
theorem sr_min {ats:Array TypeId} {t:TypeId} {args:Array Value}:SV P mf nc ρ K (Builtin.min_ ats t args) (Builtin.min_ ats t (args.map (ren ρ))):=by
 unfold Builtin.min_
 rw [Array.toList_map]
 cases args.toList with
 | nil=>exact sr_stuck
 | cons x l=>exact sr_foldlM sr_min2 l x
end
end Go.Con
namespace Go.Con
open Go
variable [Lone]
section
variable {P:Program} {mf:Md} {nc:Bool} {ρ:Rn} {K:Nat→Prop}
theorem sr_firstCells {size n:Nat} {x:Value}:SR P mf nc ρ (fun a b=>b=a.map (ren ρ)) K (Builtin.firstCells size n x) (Builtin.firstCells size n (ren ρ x)):=by
 unfold Builtin.firstCells
 cases x with
 | slice a _ _ =>
  cases a with
  | none=>exact sr_pure (by simp)
  | some a=>exact sr_loadCells
 | string s=>exact sr_pure (by rw [Array.map_map];rfl)
 | _=>exact sr_stuck
theorem zeroCells_ren {z:Array Value} {n:Nat} (h:z.map (ren ρ)=z):(Builtin.zeroCells z n).map (ren ρ)=Builtin.zeroCells z n:=by
 have:=zero_map (ρ:=ρ) (zero:=z) (n:=n * z.size)
 rw [h] at this
 exact this.symm
theorem cells_noAddr {v:Value} (h:ren ρ v=v):v.cells.map (ren ρ)=v.cells:=by
 rw [← ren_agg_inv,h]
theorem sr_zeroOf {t:TypeId} (h:zOk P t=true):SR P mf nc ρ (fun a b=>b=a∧ren ρ a=a) K (zeroValue t) (zeroValue t):=by
 unfold zeroValue
 have h1:SR P mf nc ρ (fun a b=>b=a∧P.info? t=some a) K (typeInfo t) (typeInfo t):=by
  unfold typeInfo
  refine .program ?_
  show SR _ _ _ _ _ _ (match P.info? t with | some i=>pure i | none=>stuck "no such type") (match P.info? t with | some i=>pure i | none=>stuck "no such type")
  cases P.info? t with
  | none=>exact sr_stuck
  | some i=>exact sr_pure ⟨rfl,rfl⟩
 refine sr_bind h1 ?_
 rintro _ i ⟨rfl,hi⟩
 simp only [zOk,hi] at h
 cases hz:i.zero with
 | none=>exact sr_unsupported
 | some v=>rw [hz] at h;exact sr_pure ⟨rfl,ren_noAddr ρ v h⟩
theorem calm_holdsCells (a:Addr) (n:Nat):Calm P (Builtin.holdsCells a n):=by
 unfold Builtin.holdsCells
 refine calm_bind (fun _=>trivial) fun x=>?_
 split<;>trivial
theorem calm_mayShare {size sLen n:Nat} {b:Option Addr} {x:Value}:Calm P (Builtin.mayShare size sLen n b x):=by
 unfold Builtin.mayShare
 have h2:∀ there:Bool,Calm P (if (!there)=true then pure true else match x with | .slice (some c) _ _=>do pure (!(← Builtin.holdsCells c (n * size)) || b.any (·.block == c.block)) | _=>pure false:Sem Bool):=by
  intro there
  cases there
  ·exact trivial
  ·cases x with
   | slice a _ _ =>
    cases a with
    | none=>exact trivial
    | some c=>exact calm_bind (calm_holdsCells _ _) fun _=>trivial
   | _=>exact trivial
 cases b with
 | none=>exact h2 true
 | some a=>exact calm_bind (calm_holdsCells _ _) fun a=>calm_bind (fun _=>trivial) fun b=>calm_bind trivial h2
variable (P) in
def appendOk (ats:Array TypeId):Bool:=(match ats[0]? with
 | some t=>ezOk P t
 | none=>true) && (match ats[1]? with
 | some t=>(match P.underlying t with | some (.int _)=>false | _=>true)
 | none=>true)
theorem sr_append {ats:Array TypeId} (h:appendOk P ats=true) {t:TypeId} {args:Array Value}:SV P mf nc ρ K (Builtin.append_ ats t args) (Builtin.append_ ats t (args.map (ren ρ))):=by
 unfold Builtin.append_
 rw [Array.getElem?_map,Array.getElem?_map]
 simp only [appendOk,Bool.and_eq_true] at h
 obtain⟨h0,h1⟩:=h
 cases a0:ats[0]? with
 | none=>exact sr_stuck
 | some st =>
 simp only [a0] at h0
 cases args[0]? with
 | none=>exact sr_stuck
 | some s =>
 cases args[1]? with
 | none=>exact sr_stuck
 | some x =>
 dsimp only [Option.map_some]
 refine sr_bind (underlying_at st) ?_
 rintro _ d ⟨rfl,hd⟩
 cases d with
 | slice elem =>
  simp only [ezOk,hd] at h0
  cases s with
  | slice base sLen sCap =>
   dsimp only [ren]
   refine sr_bind (info_sizeOf elem).sr ?_
   rintro _ size rfl
   cases a1:ats[1]? with
   | none =>
    simp only [pure_bind]
    refine sr_bind sr_lenOf ?_
    rintro _ n rfl
    try dsimp only [Bool.not_false]
    try simp only [if_true]
    by_cases hcap:sLen+n≤sCap
    ·rw [if_pos hcap,if_pos hcap]
     refine sr_bind sr_firstCells ?_
     rintro new _ rfl
     cases base with
     | none=>exact sr_pure rfl
     | some a =>
      refine sr_bind (by rw [renAddr_add,Array.toList_map];exact sr_storeCells) ?_
      rintro _ _ rfl
      exact sr_pure rfl
    ·rw [if_neg hcap,if_neg hcap]
     refine sr_bind (info_typeInfo elem).sr ?_
     rintro _ ti rfl
     split
     ·exact .dead (dead_bind (dead_runtimePanic _))
     ·refine sr_bind (info_typeInfo elem).sr ?_
      rintro _ ti2 rfl
      split
      ·refine .dead (dead_bind ?_)
       simp only [Bool.false_eq_true,if_false]
       refine dead_after calm_mayShare fun b=>?_
       cases b
       ·exact dead_after (by first | exact trivial | exact fun _=>trivial) fun _=>trivial
       ·exact trivial
      ·refine sr_bind (info_choose _).sr ?_
       rintro _ nc2 rfl
       refine sr_bind (info_typeInfo elem).sr ?_
       rintro _ ti3 rfl
       refine sr_bind sr_askRoom ?_
       rintro _ _ rfl
       refine sr_bind (sr_firstCells (x:=.slice base sLen sCap)) ?_
       rintro old _ rfl
       refine sr_bind sr_firstCells ?_
       rintro new _ rfl
       refine sr_bind (sr_zeroOf h0) ?_
       rintro _ z ⟨rfl,hz⟩
       refine sr_bind (r:=fun a b=>b=renAddr ρ a) ?_ (by rintro a _ rfl;exact sr_pure rfl)
       have fin:=sr_newRow (P:=P) (mf:=mf) (nc:=nc) (ρ:=ρ) (K:=K) (e:=elem) (cs:=old++new++Builtin.zeroCells z.cells (nc2-(sLen+n)))
       rw [Array.map_append,Array.map_append,zeroCells_ren (cells_noAddr hz)] at fin
       exact fin
   | some xt =>
    simp only [a1] at h1
    refine sr_bind (underlying_at xt) ?_
    rintro _ d ⟨rfl,hd1⟩
    rw [hd1] at h1
    simp only [pure_bind]
    cases d<;>first
    | (cases h1;done)
    | skip
    all_goals
     refine sr_bind sr_lenOf ?_
     rintro _ n rfl
     try dsimp only [Bool.not_false]
     try simp only [if_true]
     by_cases hcap:sLen+n≤sCap
     ·rw [if_pos hcap,if_pos hcap]
      refine sr_bind sr_firstCells ?_
      rintro new _ rfl
      cases base with
      | none=>exact sr_pure rfl
      | some a =>
       refine sr_bind (by rw [renAddr_add,Array.toList_map];exact sr_storeCells) ?_
       rintro _ _ rfl
       exact sr_pure rfl
     ·rw [if_neg hcap,if_neg hcap]
      refine sr_bind (info_typeInfo elem).sr ?_
      rintro _ ti rfl
      split
      ·exact .dead (dead_bind (dead_runtimePanic _))
      ·refine sr_bind (info_typeInfo elem).sr ?_
       rintro _ ti2 rfl
       split
       ·refine .dead (dead_bind ?_)
        simp only [Bool.false_eq_true,if_false]
        refine dead_after calm_mayShare fun b=>?_
        cases b
        ·exact dead_after (by first | exact trivial | exact fun _=>trivial) fun _=>trivial
        ·exact trivial
       ·refine sr_bind (info_choose _).sr ?_
        rintro _ nc2 rfl
        refine sr_bind (info_typeInfo elem).sr ?_
        rintro _ ti3 rfl
        refine sr_bind sr_askRoom ?_
        rintro _ _ rfl
        refine sr_bind (sr_firstCells (x:=.slice base sLen sCap)) ?_
        rintro old _ rfl
        refine sr_bind sr_firstCells ?_
        rintro new _ rfl
        refine sr_bind (sr_zeroOf h0) ?_
        rintro _ z ⟨rfl,hz⟩
        refine sr_bind (r:=fun a b=>b=renAddr ρ a) ?_ (by rintro a _ rfl;exact sr_pure rfl)
        have fin:=sr_newRow (P:=P) (mf:=mf) (nc:=nc) (ρ:=ρ) (K:=K) (e:=elem) (cs:=old++new++Builtin.zeroCells z.cells (nc2-(sLen+n)))
        rw [Array.map_append,Array.map_append,zeroCells_ren (cells_noAddr hz)] at fin
        exact fin
  | _=>exact sr_stuck
 | _=>exact sr_stuck
end
end Go.Con
namespace Go.Con
open Go
variable [Lone]
section
variable {P:Program} {mf:Md} {nc:Bool} {ρ:Rn} {K:Nat→Prop}
theorem sr_stringToBytes {e:TypeId} {b:ByteArray}:SV P mf nc ρ K (Conv.stringToBytes e b) (Conv.stringToBytes e b):=by
 unfold Conv.stringToBytes
 refine sr_bind (info_choose _).sr ?_
 rintro _ cap rfl
 have he:∀ (x:Array Value),(∀ v∈x,ren ρ v=v)→x.map (ren ρ)=x:=by
  intro x h
  apply Array.ext
  ·simp
  ·intro i h1 h2
   simp only [Array.getElem_map]
   exact h _ (Array.getElem_mem _)
 have h0:renObj ρ (.cells ((b.data.map fun b=>Value.int .u8 b.toNat)++Array.replicate (cap-b.size) (.int .u8 0)) e (0,0))=.cells ((b.data.map fun b=>Value.int .u8 b.toNat)++Array.replicate (cap-b.size) (.int .u8 0)) e (0,0):=by
  simp only [renObj,Obj.cells.injEq,and_true]
  refine he _ fun v hv=>?_
  simp only [Array.mem_append,Array.mem_map,Array.mem_replicate] at hv
  rcases hv with ⟨_,_,rfl⟩ | ⟨_,rfl⟩<;>rfl
 have hn:SR P mf nc ρ (fun a b=>b=ren ρ a) K (Sem.new (.cells ((b.data.map fun b=>Value.int .u8 b.toNat)++Array.replicate (cap-b.size) (.int .u8 0)) e (0,0)) fun r=>(markStringish ⟨r,0,none⟩ >>= fun _=>pure (Value.slice (some ⟨r,0,none⟩) b.size cap)))
   (Sem.new (renObj ρ (.cells ((b.data.map fun b=>Value.int .u8 b.toNat)++Array.replicate (cap-b.size) (.int .u8 0)) e (0,0))) fun r=>(markStringish ⟨r,0,none⟩ >>= fun _=>pure (Value.slice (some ⟨r,0,none⟩) b.size cap))):=by
  refine .new rfl rfl fun r=>?_
  refine sr_bind (r:=fun _ _=>True) ?_ (by rintro _ _ _;exact sr_pure rfl)
  unfold markStringish
  refine sr_bind sr_shape ?_
  rintro _ x rfl
  cases x with
  | none=>exact sr_pure trivial
  | some x=>exact .freeze (.inr rfl) (.pure trivial)
 rw [h0] at hn
 exact hn
variable (P) in
def convOk (src dst:TypeId):Bool:=match P.underlying src,P.underlying dst with
 | some (.int _),some (.int _)=>true
 | some .string,some .string=>true
 | some .string,some (.slice e)=>(match P.underlying e with | some (.int .u8)=>true | _=>false)
 | _,_=>false
theorem sr_floatToInt {s:FloatKind} {b:Nat} {k:IntKind}:SV P mf nc ρ K (Conv.floatToInt s b k) (Conv.floatToInt s b k):=by
 unfold Conv.floatToInt
 dsimp only
 split
 ·split
  ·exact sr_pure rfl
  ·exact sr_bind (info_choose _).sr (by rintro _ n rfl;exact sr_pure rfl)
 ·exact sr_bind (info_choose _).sr (by rintro _ n rfl;exact sr_pure rfl)
theorem sr_convert {src dst:TypeId} (h:convOk P src dst=true) {x:Value}:SV P mf nc ρ K (convert src dst x) (convert src dst (ren ρ x)):=by
 unfold convert
 refine sr_bind (underlying_at src) ?_
 rintro _ d ⟨rfl,hd⟩
 refine sr_bind (underlying_at dst) ?_
 rintro _ d' ⟨rfl,hd'⟩
 simp only [convOk,hd,hd'] at h
 cases d<;>first | (cases h;done) | skip
 ·cases d'<;>first | (cases h;done) | skip
  cases x with
  | float s b=>exact sr_floatToInt
  | pointer a=>cases a<;>exact sr_unsupported
  | slice a=>cases a<;>exact sr_unsupported
  | _=>first | exact sr_pure rfl | exact sr_unsupported
 ·cases d'<;>first | (cases h;done) | skip
  ·cases x with
   | pointer a=>cases a<;>exact sr_unsupported
   | slice a=>cases a<;>exact sr_unsupported
   | _=>first | exact sr_pure rfl | exact sr_unsupported
  ·rename_i e
   cases x with
   | string s =>
    refine sr_bind (underlying_at e) ?_
    rintro _ d2 ⟨rfl,hd2⟩
    simp only [hd2] at h
    cases d2 with
    | int k=>cases k<;>first | (cases h;done) | exact sr_stringToBytes
    | _=>cases h
   | pointer a=>cases a<;>exact sr_unsupported
   | slice a=>cases a<;>exact sr_unsupported
   | _=>first | exact sr_pure rfl | exact sr_unsupported
variable (P) in
def okCallee:Value→Bool
 | .func (.yield _) _ _=>true
 | .func (.method s) a b=>(isTok (.method s) a b).isSome
 | .func fn _ _=>goodFn P fn
 | _=>true
theorem okCallee_method {s:String} {a b:Array Value} (h:okCallee P (.func (.method s) a b)=true):∃ x,a=#[.nilIface]∧b=#[.chan (some x)]:=by
 obtain⟨x,hx⟩:=Option.isSome_iff_exists.1 (show (isTok (.method s) a b).isSome=true from h)
 obtain⟨_,_,h1,h2⟩:=isTok_some hx
 exact⟨x,h1,h2⟩
theorem sr_callFunc {f:FuncId} (h:goodFn P (.func f)=true) {args args' : Array Value} (ha:args'=args.map (ren ρ)):SR P mf nc ρ (NextR P mf ρ) K (callFunc f args) (callFunc f args'):=by
 subst ha
 have h0:=h
 unfold callFunc
 refine sr_bind sr_program ?_
 rintro P1 P2 ⟨e1,e2⟩
 rw [e1,e2]
 simp only [goodFn] at h
 cases hf:P.funcs[f]? with
 | none=>exact sr_stuck
 | some fn =>
  simp only [hf,Bool.and_eq_true] at h
  have h1:(fn.name == "runtime.NumGoroutine")=false:=by
   have:=h.1.2
   simpa [bne] using this
  have h2:fn.body.isNone=false:=by
   cases hb:fn.body<;>simp_all
  simp only [h1,h2,Bool.false_eq_true,if_false]
  exact sr_pure (NextR.enter f args h0)
theorem foldl_set (l:List (Tmp×Value)):∀ (tmps:Array Value),(l.map fun x=>(x.1,ren ρ x.2)).foldl (fun tmps x=>tmps.setIfInBounds x.1 x.2) (tmps.map (ren ρ))=(l.foldl (fun tmps x=>tmps.setIfInBounds x.1 x.2) tmps).map (ren ρ):=by
 induction l with
 | nil=>intro tmps;rfl
 | cons a l ih =>
  intro tmps
  simp only [List.map_cons,List.foldl_cons]
  rw [← Array.map_setIfInBounds,ih]
theorem sr_getLoop {l:Nat} {α β:Type} {q:α→β→Prop} {f:Loop→Sem α} {f' : Loop→Sem β} (h:∀ r,mf.okl r=true→SR P mf nc ρ q (fun x=>K x∨x=l) (f r) (f' (renLoop ρ r))) :
  SR P mf nc ρ q K (Instr.getLoop l >>= f) (Instr.getLoop (ρ.p l) >>= f'):=by
 unfold Instr.getLoop
 rw [bind_assoc,bind_assoc]
 refine sr_getObj_k fun o ho hp=>?_
 cases o with
 | loop r=>exact (h r hp).weaken fun x hx=>hx.imp id fun e=>⟨e,rfl⟩
 | _=>exact .dead trivial
theorem sr_yield {l:Nat} {args:Array Value}:SR P mf nc ρ (NextR P mf ρ) K (Instr.yield l args) (Instr.yield (ρ.p l) (args.map (ren ρ))):=by
 unfold Instr.yield
 refine sr_getLoop fun r hr=>?_
 simp only [Array.size_map]
 show SR _ _ _ _ _ _ (if args.size≠r.params.size then _ else _) (if args.size≠(renLoop ρ r).params.size then _ else _)
 have e:(renLoop ρ r).params=r.params:=rfl
 rw [e]
 split
 ·exact .dead (dead_bind trivial)
 ·refine sr_pure ?_
  have hz:(r.params.zip (args.map (ren ρ))).foldl (fun tmps x=>tmps.setIfInBounds x.1 x.2) (renLoop ρ r).tmps=((r.params.zip args).foldl (fun tmps x=>tmps.setIfInBounds x.1 x.2) r.tmps).map (ren ρ):=by
   rw [← Array.foldl_toList,← Array.foldl_toList]
   have:=foldl_set (ρ:=ρ) (r.params.zip args).toList r.tmps
   rw [← this]
   congr 1
   simp only [Array.toList_zip,Array.toList_map]
   rw [List.zip_map_right]
   apply List.map_congr_left
   rintro ⟨a,b⟩ _
   rfl
  have:=NextR.round (P:=P) (mf:=mf) (ρ:=ρ) l r.fn ((r.params.zip args).foldl (fun tmps x=>tmps.setIfInBounds x.1 x.2) r.tmps) r.assign r.body ⟨r,hr,rfl,rfl,rfl⟩
  rw [← hz] at this
  exact this
end
end Go.Con
