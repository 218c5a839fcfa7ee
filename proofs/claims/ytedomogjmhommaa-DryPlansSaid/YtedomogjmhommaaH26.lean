import Derived.Test.YtedomogjmhommaaH25
set_option linter.all false
set_option maxRecDepth 100000
set_option maxHeartbeats 8000000
namespace Go.Con
open Go
variable [Lone]
section
variable {P:Program} {mf:Md} {nc:Bool} {ρ:Rn} {K:Nat→Prop}
theorem zdn {α β:Type} {q:α→β→Prop} {b:Nat} {f:Obj→Sem α} {f' : Obj→Sem β}
  (h:∀ o,zbm o=false→zaG mf o=true→SR P mf nc ρ q (fun x=>K x∨(x=b∧zdh mf o=true)) (f o) (f' (zau ρ o))):SR P mf nc ρ q K (getObj b >>= f) (getObj (ρ.p b) >>= f'):=.getObj h
theorem zbA {b:Nat} {o:Obj} (hK:K b) (ho:zaG mf o=true) (hc:zbm o=false):SI P mf nc ρ K (setObj b o) (setObj (ρ.p b) (zau ρ o)):=.setObj hK ho hc (.pure rfl)
theorem zjF (R:RenOk P ρ) (hi:zgp ρ):∀ (n:Nat) (a b:Value),Instr.sameBits n (ren ρ a) (ren ρ b)=Instr.sameBits n a b:=by
 intro n
 have hp:∀ a b:Option Addr,(a.map (zak ρ) == b.map (zak ρ))=(a == b):=by
  intro a b
  cases a<;>cases b<;>try rfl
  rename_i a b
  simp only [Option.map_some,Option.some_beq_some]
  rw [Bool.eq_iff_iff]
  simp only [beq_iff_eq]
  refine⟨fun e=>?_,fun e=>by rw [e]⟩
  obtain⟨a1,a2,a3⟩:=a
  obtain⟨b1,b2,b3⟩:=b
  simp only [zak,Addr.mk.injEq] at e ⊢
  exact⟨R.inj _ _ e.1,e.2⟩
 obtain⟨f,hf,hinj⟩:=hi
 have hch:∀ a:Option Nat,ren ρ (.chan a)=.chan (a.map f):=by
  intro a
  cases a with
  | none=>simp only [ren];rfl
  | some a=>simp only [ren,hf,cellV];rfl
 have hc:∀ a b:Option Nat,(a.map f == b.map f)=(a == b):=by
  intro a b
  cases a<;>cases b<;>try rfl
  rename_i a b
  simp only [Option.map_some,Option.some_beq_some]
  rw [Bool.eq_iff_iff]
  simp only [beq_iff_eq]
  exact⟨fun e=>hinj _ _ e,fun e=>by rw [e]⟩
 have hfu:∀ (n:Nat) (f:Fn) (x y:Array Value) (v:Value),Instr.sameBits n (.func f x y) v=false∧Instr.sameBits n v (.func f x y)=false:=by
  intro n f x y v
  cases n<;>cases v<;>exact⟨rfl,rfl⟩
 induction n with
 | zero =>
  intro a b
  cases a with
  | func f x y=>obtain⟨_,_,_,e⟩:=zaV ρ f x y;rw [e,(hfu _ _ _ _ _).1,(hfu _ _ _ _ _).1]
  | _ =>
   cases b with
   | func f x y=>obtain⟨_,_,_,e⟩:=zaV ρ f x y;rw [e,(hfu _ _ _ _ _).2,(hfu _ _ _ _ _).2]
   | _=>first | rfl | exact hp _ _ | (simp only [hch];first | rfl | exact hc _ _)
 | succ n ih =>
  intro a b
  cases a with
  | func f x y=>obtain⟨_,_,_,e⟩:=zaV ρ f x y;rw [e,(hfu _ _ _ _ _).1,(hfu _ _ _ _ _).1]
  | _ =>
   cases b with
   | func f x y=>obtain⟨_,_,_,e⟩:=zaV ρ f x y;rw [e,(hfu _ _ _ _ _).2,(hfu _ _ _ _ _).2]
   | _=>first
    | rfl
    | exact hp _ _
    | (simp only [hch];first | rfl | exact hc _ _;done)
    | (simp only [ren,Instr.sameBits,ih];done)
    | (simp only [ren,Instr.sameBits,zaD,Array.size_map,Array.toList_map,List.zip_map,List.all_map,Function.comp_def,Prod.map,ih];done)
theorem zk3 {a b:ByteArray} (h:(a == b)=true):a=b:=by
 obtain⟨a⟩:=a
 obtain⟨b⟩:=b
 rw [eq_of_beq (show (a == b)=true from h)]
theorem zkG:∀ (n:Nat) (a b:Value),Instr.sameBits n a b=true→a=b:=by
 intro n
 induction n with
 | zero=>intro a b h;cases a<;>cases b<;>first | (cases h;done) | (simp [Instr.sameBits] at h;simp [h];done) | (rw [zk3 h];done) | rfl
 | succ n ih =>
  intro a b h
  cases a with
  | iface t v =>
   cases b with
   | iface u w =>
    simp only [Instr.sameBits,Bool.and_eq_true,beq_iff_eq] at h
    rw [h.1,ih _ _ h.2]
   | _=>cases h
  | agg x =>
   cases b with
   | agg y =>
    obtain⟨x⟩:=x
    obtain⟨y⟩:=y
    simp only [Instr.sameBits,Bool.and_eq_true,beq_iff_eq,List.size_toArray] at h
    obtain⟨hl,h⟩:=h
    have:∀ (x y:List Value),x.length=y.length→((x.zip y).all fun p=>Instr.sameBits n p.1 p.2)=true→x=y:=by
     intro x
     induction x with
     | nil=>intro y hl _;cases y with | nil=>rfl | cons _ _=>cases hl
     | cons a x ihx =>
      intro y hl h
      cases y with
      | nil=>cases hl
      | cons b y =>
       simp only [List.zip_cons_cons,List.all_cons,Bool.and_eq_true] at h
       rw [ih _ _ h.1,ihx y (by simpa using hl) h.2]
    rw [this x y hl h]
   | _=>cases h
  | _=>cases b<;>first | (cases h;done) | (simp [Instr.sameBits] at h;simp [h];done) | (rw [zk3 h];done) | rfl
theorem zg8 (R:RenOk P ρ) {a b:Value}:SV P mf nc ρ K (Instr.keyThatStays a b) (Instr.keyThatStays (ren ρ a) (ren ρ b)):=by
 unfold Instr.keyThatStays
 by_cases hi:zgp ρ
 ·rw [zjF R hi]
  split
  ·exact zaf rfl
  ·refine zad (zaL _).sr ?_
   rintro _ n rfl
   refine zaf ?_
   split<;>rfl
 ·cases h1:Instr.sameBits 10000 a b
  ·cases h2:Instr.sameBits 10000 (ren ρ a) (ren ρ b)
   ·refine zad (zaL _).sr ?_
    rintro _ n rfl
    refine zaf ?_
    split<;>rfl
   ·exact .chooseL hi rfl (.pure rfl)
  ·have:=zkG _ _ _ h1
   subst this
   cases h2:Instr.sameBits 10000 (ren ρ a) (ren ρ a)
   ·exact .chooseR hi fun n=>.pure (by split<;>rfl)
   ·exact zaf rfl
theorem zoL {es:Array MapEntry} {i:Nat} {k:Value}:(((es.map (zaz ρ))[i]?).map (·.key)).getD (ren ρ k)=ren ρ (((es[i]?).map (·.key)).getD k):=by
 rw [Array.getElem?_map]
 cases es[i]?<;>rfl
theorem zfJ (hm:mf.maps=true) (R:RenOk P ρ) {t:TypeId} (h:zl2 P t=true) {x k v:Value}:SI P mf nc ρ K (Instr.mapUpdate t x k v) (Instr.mapUpdate t (ren ρ x) (ren ρ k) (ren ρ v)):=by
 unfold Instr.mapUpdate
 refine zad (zaJ t) ?_
 rintro _ d ⟨rfl,hd⟩
 cases d with
 | map key elem =>
  have hkt:t<P.types.size∧eqOk P Op.maxDepth key=true:=by have h:=h;simpa [zl2,hd] using h
  have hk:=hkt.2
  cases x with
  | map r =>
   cases r with
   | none=>exact zaO
   | some r =>
    refine zdn fun o ho _=>?_
    cases o with
    | map es cl =>
     refine zad (zet _ _ _ _) ?_
     rintro _ _ rfl
     rw [Array.toList_map]
     refine zad (zfH R hk) ?_
     rintro f _ ⟨rfl,hfa⟩
     cases f with
     | some f =>
      obtain⟨i,w⟩:=f
      dsimp only [Option.map_some]
      rw [zoL]
      refine zad (zg8 R) ?_
      rintro key' _ rfl
      have e:Array.modify (es.map (zaz ρ)) i (fun e=>{ e with key:=ren ρ key',val:=ren ρ v })=(es.modify i fun e=>{ e with key:=key',val:=v }).map (zaz ρ):=by
       apply Array.ext
       ·simp
       ·intro j h1 h2
        simp only [Array.getElem_modify,Array.getElem_map]
        split<;>rfl
      rw [e]
      exact zbA (o:=.map (es.modify i fun e=>{ e with key:=key',val:=v }) cl) (.inr ⟨rfl,by simp [zdh,hm]⟩) rfl rfl
     | none =>
      have e:(es.map (zaz ρ)).push { key:=ren ρ k,val:=ren ρ v,born:=cl }=(es.push { key:=k,val:=v,born:=cl }).map (zaz ρ):=by simp [zaz]
      dsimp only [Option.map_none]
      rw [e]
      exact zbA (o:=.map (es.push { key:=k,val:=v,born:=cl }) (cl+1)) (.inr ⟨rfl,by simp [zdh,hm]⟩) rfl rfl
    | _=>exact zah
  | _=>exact zah
 | _=>exact zah
theorem zph {t:TypeId} {x:Value}:SV P mf nc ρ K (Instr.range t x) (Instr.range t (ren ρ x)):=by
 unfold Instr.range
 refine zad (zaw t).sr ?_
 rintro _ d rfl
 have fin:∀ {K} (o:Obj),zaG mf o=true→zbm o=false→SV P mf nc ρ K (do pure (.pointer (some ⟨← newObj o,0,none⟩))) (do pure (.pointer (some ⟨← newObj (zau ρ o),0,none⟩))):=fun o h1 h2 =>
  zad (zc8 h1 h2) (by rintro b _ rfl;exact zaf rfl)
 cases d with
 | string =>
  cases x with
  | string s=>exact fin (.stringIter s 0) rfl rfl
  | _=>exact .dead trivial
 | map k e =>
  cases x with
  | map r =>
   cases r with
   | none=>exact fin (.mapIter none 0 #[] 0) rfl rfl
   | some r =>
    refine zad zcl ?_
    rintro o _ rfl
    cases o with
    | map es cl=>exact fin (.mapIter (some r) cl #[] cl) rfl rfl
    | _=>exact .dead trivial
  | _=>exact .dead trivial
 | _=>exact .dead trivial
theorem zqc {t:TypeId} {x:Value} {b:Bool}:SV P mf nc ρ K (Instr.next x b t) (Instr.next (ren ρ x) b t):=by
 unfold Instr.next
 cases x with
 | pointer a =>
  cases a with
  | none=>exact zah
  | some a =>
   obtain⟨r,off,spot⟩:=a
   cases off with
   | succ n=>exact zah
   | zero =>
    refine zdn fun o ho _=>?_
    cases o with
    | stringIter s p =>
     cases b with
     | false=>exact zah
     | true =>
      dsimp only [zau]
      split
      ·exact zad (zbA (o:=.stringIter s _) (.inr ⟨rfl,rfl⟩) rfl rfl) (by rintro _ _ rfl;exact zaf rfl)
      ·exact zaf rfl
    | mapIter m since seen last =>
     cases b with
     | true=>cases m<;>exact zah
     | false =>
      cases m with
      | none=>exact zaf rfl
      | some m =>
       refine zad zcl ?_
       rintro o _ rfl
       cases o with
       | map es cl =>
        dsimp only [zau,Option.map_some]
        have hf:∀ p:Nat→Bool,(es.map (zaz ρ)).filter (fun e=>p e.born)=(es.filter fun e=>p e.born).map (zaz ρ):=by
         intro p
         rw [Array.filter_map]
         rfl
        have hf2:∀ (p q:Nat→Bool),((es.filter fun e=>q e.born).map (zaz ρ)).filter (fun e=>p e.born)=((es.filter fun e=>q e.born).filter fun e=>p e.born).map (zaz ρ):=by
         intro p q
         rw [Array.filter_map]
         rfl
        have ha:(es.map (zaz ρ)).all (fun e=>decide (e.born≥last))=es.all (fun e=>decide (e.born≥last)):=by
         rw [Array.all_map]
         rfl
        have he:(es.map (zaz ρ)).isEmpty=es.isEmpty:=by simp [Array.isEmpty]
        rw [he,ha]
        split
        ·exact .dead (zba trivial)
        ·rw [hf (fun n=>!seen.contains n),hf2 (fun n=>decide (n<since)) (fun n=>!seen.contains n),hf2 (fun n=>decide (n≥since)) (fun n=>!seen.contains n)]
         generalize (es.filter fun e=>!seen.contains e.born).filter (fun e=>decide (e.born<since))=old
         generalize (es.filter fun e=>!seen.contains e.born).filter (fun e=>decide (e.born≥since))=new
         have hc:((if (old.map (zaz ρ)).isEmpty then #[none] else #[])++((old.map (zaz ρ)++new.map (zaz ρ)).map some):Array (Option MapEntry)) =
           ((if old.isEmpty then #[none] else #[])++(old++new).map some:Array (Option MapEntry)).map (Option.map (zaz ρ)):=by
          have:(old.map (zaz ρ)).isEmpty=old.isEmpty:=by simp [Array.isEmpty]
          rw [this]
          by_cases h:old.isEmpty=true<;>simp [h]<;>rfl
         rw [hc]
         generalize ((if old.isEmpty then #[none] else #[])++(old++new).map some:Array (Option MapEntry))=cand
         rw [Array.size_map]
         refine zad (zaL _).sr ?_
         rintro _ n rfl
         rw [Array.getElem?_map]
         cases cand[n]? with
         | none=>exact zah
         | some c =>
          cases c with
          | none=>exact zaf rfl
          | some e=>exact zad (zbA (o:=.mapIter (some m) since (seen.push e.born) cl) (.inr ⟨rfl,rfl⟩) rfl rfl) (by rintro _ _ rfl;exact zaf rfl)
       | _=>exact .dead trivial
    | _=>cases b<;>exact zah
 | _=>exact zah
theorem zpe {x:Value}:SV P mf nc ρ K (Instr.entry x) (Instr.entry (ren ρ x)):=by
 unfold Instr.entry
 cases x with
 | pointer a =>
  cases a with
  | none=>exact zah
  | some a =>
   obtain⟨r,off,spot⟩:=a
   cases off with
   | succ n=>exact zah
   | zero =>
    refine zad zcl ?_
    rintro o _ rfl
    cases o with
    | mapIter m since seen last =>
     cases m with
     | none=>exact zah
     | some m =>
      dsimp only [zau,Option.map_some]
      cases seen.back? with
      | none=>exact zah
      | some st =>
       refine zad zcl ?_
       rintro o _ rfl
       cases o with
       | map es cl =>
        dsimp only [zau]
        split
        ·exact .dead (zba trivial)
        ·have e:(es.map (zaz ρ)).find? (fun e=>e.born == st)=(es.find? fun e=>e.born == st).map (zaz ρ):=by
          rw [Array.find?_map]
          rfl
         rw [e]
         cases es.find? (fun e=>e.born == st) with
         | none=>exact zai
         | some e=>exact zaf rfl
       | _=>exact zah
    | _=>exact zah
 | _=>exact zah
theorem zlx {x:Value}:SI P mf nc ρ K (Builtin.lenOf x) (Builtin.lenOf (ren ρ x)):=by
 unfold Builtin.lenOf
 cases x<;>first | exact zaf rfl | exact zah
variable (P) in
def zpX (ats:Array TypeId):Bool:=match ats[0]? with
 | some t=>(match P.underlying t with | some (.chan ..)=>false | _=>true)
 | none=>true
theorem zqK {ats:Array TypeId} (h:zpX P ats=true) {t:TypeId} {args:Array Value}:SV P mf nc ρ K (Builtin.len_ ats t args) (Builtin.len_ ats t (args.map (ren ρ))):=by
 unfold Builtin.len_
 rw [Array.getElem?_map]
 cases h0:ats[0]? with
 | none=>exact zah
 | some t0 =>
  cases args[0]? with
  | none=>exact zah
  | some x =>
   refine zad (zaJ t0) ?_
   rintro _ d ⟨rfl,hd⟩
   simp only [zpX,h0,hd] at h
   cases d with
   | chan=>cases h
   | string=>cases x<;>first | exact zaf rfl | exact zah
   | array n e=>exact zaf rfl
   | pointer arr =>
    refine zad (zaw _).sr ?_
    rintro _ d rfl
    cases d<;>first | exact zaf rfl | exact zah
   | slice e=>cases x<;>first | exact zaf rfl | exact zah
   | map k e =>
    cases x with
    | map r =>
     cases r with
     | none=>exact zaf rfl
     | some r =>
      refine zad zcl ?_
      rintro o _ rfl
      cases o<;>first | exact zah | exact zaf (by simp [ren,goInt])
    | _=>exact zah
   | _=>exact zah
theorem zg6 {f:Value→Value→Sem Value} (hf:∀ a b,SV P mf nc ρ K (f a b) (f (ren ρ a) (ren ρ b))):∀ (l:List Value) (a:Value),SV P mf nc ρ K (l.foldlM f a) ((l.map (ren ρ)).foldlM f (ren ρ a))
 | [],_=>zaf rfl
 | x :: l,a=>by
  rw [List.map_cons,List.foldlM_cons,List.foldlM_cons]
  refine zad (hf a x) ?_
  rintro b _ rfl
  exact zg6 hf l b
theorem zqa (a b:Value):SV P mf nc ρ K (Builtin.max2 a b) (Builtin.max2 (ren ρ a) (ren ρ b)):=by
 unfold Builtin.max2
 cases a with
 | int k x=>cases b<;>first | exact zaf rfl | exact zah | (rename_i c;cases c<;>first | exact zai | exact zah)
 | float k x =>
  cases b with
  | float k' y =>
   dsimp only [ren]
   cases k.format.order x y with
   | none=>exact zad (zaL _).sr (by rintro _ n rfl;exact zaf rfl)
   | some o=>cases o<;>exact zaf rfl
  | pointer c=>cases c<;>first | exact zai | exact zah
  | _=>exact zah
 | string s =>
  cases b with
  | string r =>
   refine zad zew ?_
   rintro v _ rfl
   refine zad zg5 ?_
   rintro _ b rfl
   cases b<;>exact zaf rfl
  | pointer c=>cases c<;>first | exact zai | exact zah
  | _=>exact zah
 | pointer c=>cases c<;>cases b<;>first | exact zai | exact zah | (rename_i c;cases c<;>first | exact zai | exact zah)
 | _=>cases b<;>first | exact zah | (rename_i c;cases c<;>first | exact zai | exact zah)
theorem zqb (a b:Value):SV P mf nc ρ K (Builtin.min2 a b) (Builtin.min2 (ren ρ a) (ren ρ b)):=by
 unfold Builtin.min2
 cases a with
 | int k x=>cases b<;>first | exact zaf rfl | exact zah | (rename_i c;cases c<;>first | exact zai | exact zah)
 | float k x =>
  cases b with
  | float k' y =>
   dsimp only [ren]
   cases k.format.order x y with
   | none=>exact zad (zaL _).sr (by rintro _ n rfl;exact zaf rfl)
   | some o=>cases o<;>exact zaf rfl
  | pointer c=>cases c<;>first | exact zai | exact zah
  | _=>exact zah
 | string s =>
  cases b with
  | string r =>
   refine zad zew ?_
   rintro v _ rfl
   refine zad zg5 ?_
   rintro _ b rfl
   cases b<;>exact zaf rfl
  | pointer c=>cases c<;>first | exact zai | exact zah
  | _=>exact zah
 | pointer c=>cases c<;>cases b<;>first | exact zai | exact zah | (rename_i c;cases c<;>first | exact zai | exact zah)
 | _=>cases b<;>first | exact zah | (rename_i c;cases c<;>first | exact zai | exact zah)
theorem zqL {ats:Array TypeId} {t:TypeId} {args:Array Value}:SV P mf nc ρ K (Builtin.max_ ats t args) (Builtin.max_ ats t (args.map (ren ρ))):=by
 unfold Builtin.max_
 rw [Array.toList_map]
 cases args.toList with
 | nil=>exact zah
 | cons x l=>exact zg6 zqa l x
theorem zqM {ats:Array TypeId} {t:TypeId} {args:Array Value}:SV P mf nc ρ K (Builtin.min_ ats t args) (Builtin.min_ ats t (args.map (ren ρ))):=by
 unfold Builtin.min_
 rw [Array.toList_map]
 cases args.toList with
 | nil=>exact zah
 | cons x l=>exact zg6 zqb l x
end
end Go.Con
namespace Go.Con
open Go
variable [Lone]
section
variable {P:Program} {mf:Md} {nc:Bool} {ρ:Rn} {K:Nat→Prop}
theorem zbG {size n:Nat} {x:Value}:SR P mf nc ρ (fun a b=>b=a.map (ren ρ)) K (Builtin.firstCells size n x) (Builtin.firstCells size n (ren ρ x)):=by
 unfold Builtin.firstCells
 cases x with
 | slice a _ _ =>
  cases a with
  | none=>exact zaf (by simp)
  | some a=>exact zfI
 | string s=>exact zaf (by rw [Array.map_map];rfl)
 | _=>exact zah
theorem ze7 {z:Array Value} {n:Nat} (h:z.map (ren ρ)=z):(Builtin.zeroCells z n).map (ren ρ)=Builtin.zeroCells z n:=by
 have:=ze8 (ρ:=ρ) (zero:=z) (n:=n * z.size)
 rw [h] at this
 exact this.symm
theorem zfy {v:Value} (h:ren ρ v=v):v.cells.map (ren ρ)=v.cells:=by
 rw [← zbQ,h]
theorem zjS {t:TypeId} (h:zOk P t=true):SR P mf nc ρ (fun a b=>b=a∧ren ρ a=a) K (zeroValue t) (zeroValue t):=by
 unfold zeroValue
 have h1:SR P mf nc ρ (fun a b=>b=a∧P.info? t=some a) K (typeInfo t) (typeInfo t):=by
  unfold typeInfo
  refine .program ?_
  show SR _ _ _ _ _ _ (match P.info? t with | some i=>pure i | none=>stuck "no such type") (match P.info? t with | some i=>pure i | none=>stuck "no such type")
  cases P.info? t with
  | none=>exact zah
  | some i=>exact zaf ⟨rfl,rfl⟩
 refine zad h1 ?_
 rintro _ i ⟨rfl,hi⟩
 simp only [zOk,hi] at h
 cases hz:i.zero with
 | none=>exact zai
 | some v=>rw [hz] at h;exact zaf ⟨rfl,zc4 ρ v h⟩
theorem zdv (a:Addr) (n:Nat):Calm P (Builtin.holdsCells a n):=by
 unfold Builtin.holdsCells
 refine zbT (fun _=>trivial) fun x=>?_
 split<;>trivial
theorem zeE {size sLen n:Nat} {b:Option Addr} {x:Value}:Calm P (Builtin.mayShare size sLen n b x):=by
 unfold Builtin.mayShare
 have h2:∀ there:Bool,Calm P (if (!there)=true then pure true else match x with | .slice (some c) _ _=>do pure (!(← Builtin.holdsCells c (n * size)) || b.any (·.block == c.block)) | _=>pure false:Sem Bool):=by
  intro there
  cases there
  ·exact trivial
  ·cases x with
   | slice a _ _ =>
    cases a with
    | none=>exact trivial
    | some c=>exact zbT (zdv _ _) fun _=>trivial
   | _=>exact trivial
 cases b with
 | none=>exact h2 true
 | some a=>exact zbT (zdv _ _) fun a=>zbT (fun _=>trivial) fun b=>zbT trivial h2
variable (P) in
def zib (ats:Array TypeId):Bool:=(match ats[0]? with
 | some t=>ezOk P t
 | none=>true) && (match ats[1]? with
 | some t=>(match P.underlying t with | some (.int _)=>false | _=>true)
 | none=>true)
theorem znW {ats:Array TypeId} (h:zib P ats=true) {t:TypeId} {args:Array Value}:SV P mf nc ρ K (Builtin.append_ ats t args) (Builtin.append_ ats t (args.map (ren ρ))):=by
 unfold Builtin.append_
 rw [Array.getElem?_map,Array.getElem?_map]
 simp only [zib,Bool.and_eq_true] at h
 obtain⟨h0,h1⟩:=h
 cases a0:ats[0]? with
 | none=>exact zah
 | some st =>
 simp only [a0] at h0
 cases args[0]? with
 | none=>exact zah
 | some s =>
 cases args[1]? with
 | none=>exact zah
 | some x =>
 dsimp only [Option.map_some]
 refine zad (zaJ st) ?_
 rintro _ d ⟨rfl,hd⟩
 cases d with
 | slice elem =>
  simp only [ezOk,hd] at h0
  cases s with
  | slice base sLen sCap =>
   dsimp only [ren]
   refine zad (zaI elem).sr ?_
   rintro _ size rfl
   cases a1:ats[1]? with
   | none =>
    simp only [pure_bind]
    refine zad zlx ?_
    rintro _ n rfl
    try dsimp only [Bool.not_false]
    try simp only [if_true]
    by_cases hcap:sLen+n≤sCap
    ·rw [if_pos hcap,if_pos hcap]
     refine zad zbG ?_
     rintro new _ rfl
     cases base with
     | none=>exact zaf rfl
     | some a =>
      refine zad (by rw [zbd,Array.toList_map];exact zcu) ?_
      rintro _ _ rfl
      exact zaf rfl
    ·rw [if_neg hcap,if_neg hcap]
     refine zad (zaN elem).sr ?_
     rintro _ ti rfl
     split
     ·exact .dead (zba (zax _))
     ·refine zad (zaN elem).sr ?_
      rintro _ ti2 rfl
      split
      ·refine .dead (zba ?_)
       simp only [Bool.false_eq_true,if_false]
       refine zbh zeE fun b=>?_
       cases b
       ·exact zbh (by first | exact trivial | exact fun _=>trivial) fun _=>trivial
       ·exact trivial
      ·refine zad (zaL _).sr ?_
       rintro _ nc2 rfl
       refine zad (zaN elem).sr ?_
       rintro _ ti3 rfl
       refine zad zfq ?_
       rintro _ _ rfl
       refine zad (zbG (x:=.slice base sLen sCap)) ?_
       rintro old _ rfl
       refine zad zbG ?_
       rintro new _ rfl
       refine zad (zjS h0) ?_
       rintro _ z ⟨rfl,hz⟩
       refine zad (r:=fun a b=>b=zak ρ a) ?_ (by rintro a _ rfl;exact zaf rfl)
       have fin:=zcH (P:=P) (mf:=mf) (nc:=nc) (ρ:=ρ) (K:=K) (e:=elem) (cs:=old++new++Builtin.zeroCells z.cells (nc2-(sLen+n)))
       rw [Array.map_append,Array.map_append,ze7 (zfy hz)] at fin
       exact fin
   | some xt =>
    simp only [a1] at h1
    refine zad (zaJ xt) ?_
    rintro _ d ⟨rfl,hd1⟩
    rw [hd1] at h1
    simp only [pure_bind]
    cases d<;>first
    | (cases h1;done)
    | skip
    all_goals
     refine zad zlx ?_
     rintro _ n rfl
     try dsimp only [Bool.not_false]
     try simp only [if_true]
     by_cases hcap:sLen+n≤sCap
     ·rw [if_pos hcap,if_pos hcap]
      refine zad zbG ?_
      rintro new _ rfl
      cases base with
      | none=>exact zaf rfl
      | some a =>
       refine zad (by rw [zbd,Array.toList_map];exact zcu) ?_
       rintro _ _ rfl
       exact zaf rfl
     ·rw [if_neg hcap,if_neg hcap]
      refine zad (zaN elem).sr ?_
      rintro _ ti rfl
      split
      ·exact .dead (zba (zax _))
      ·refine zad (zaN elem).sr ?_
       rintro _ ti2 rfl
       split
       ·refine .dead (zba ?_)
        simp only [Bool.false_eq_true,if_false]
        refine zbh zeE fun b=>?_
        cases b
        ·exact zbh (by first | exact trivial | exact fun _=>trivial) fun _=>trivial
        ·exact trivial
       ·refine zad (zaL _).sr ?_
        rintro _ nc2 rfl
        refine zad (zaN elem).sr ?_
        rintro _ ti3 rfl
        refine zad zfq ?_
        rintro _ _ rfl
        refine zad (zbG (x:=.slice base sLen sCap)) ?_
        rintro old _ rfl
        refine zad zbG ?_
        rintro new _ rfl
        refine zad (zjS h0) ?_
        rintro _ z ⟨rfl,hz⟩
        refine zad (r:=fun a b=>b=zak ρ a) ?_ (by rintro a _ rfl;exact zaf rfl)
        have fin:=zcH (P:=P) (mf:=mf) (nc:=nc) (ρ:=ρ) (K:=K) (e:=elem) (cs:=old++new++Builtin.zeroCells z.cells (nc2-(sLen+n)))
        rw [Array.map_append,Array.map_append,ze7 (zfy hz)] at fin
        exact fin
  | _=>exact zah
 | _=>exact zah
end
end Go.Con
namespace Go.Con
open Go
variable [Lone]
section
variable {P:Program} {mf:Md} {nc:Bool} {ρ:Rn} {K:Nat→Prop}
theorem zf0 {e:TypeId} {b:ByteArray}:SV P mf nc ρ K (Conv.stringToBytes e b) (Conv.stringToBytes e b):=by
 unfold Conv.stringToBytes
 refine zad (zaL _).sr ?_
 rintro _ cap rfl
 have he:∀ (x:Array Value),(∀ v∈x,ren ρ v=v)→x.map (ren ρ)=x:=by
  intro x h
  apply Array.ext
  ·simp
  ·intro i h1 h2
   simp only [Array.getElem_map]
   exact h _ (Array.getElem_mem _)
 have h0:zau ρ (.cells ((b.data.map fun b=>Value.int .u8 b.toNat)++Array.replicate (cap-b.size) (.int .u8 0)) e (0,0))=.cells ((b.data.map fun b=>Value.int .u8 b.toNat)++Array.replicate (cap-b.size) (.int .u8 0)) e (0,0):=by
  simp only [zau,Obj.cells.injEq,and_true]
  refine he _ fun v hv=>?_
  simp only [Array.mem_append,Array.mem_map,Array.mem_replicate] at hv
  rcases hv with ⟨_,_,rfl⟩ | ⟨_,rfl⟩<;>rfl
 have hn:SR P mf nc ρ (fun a b=>b=ren ρ a) K (Sem.new (.cells ((b.data.map fun b=>Value.int .u8 b.toNat)++Array.replicate (cap-b.size) (.int .u8 0)) e (0,0)) fun r=>(markStringish ⟨r,0,none⟩ >>= fun _=>pure (Value.slice (some ⟨r,0,none⟩) b.size cap)))
   (Sem.new (zau ρ (.cells ((b.data.map fun b=>Value.int .u8 b.toNat)++Array.replicate (cap-b.size) (.int .u8 0)) e (0,0))) fun r=>(markStringish ⟨r,0,none⟩ >>= fun _=>pure (Value.slice (some ⟨r,0,none⟩) b.size cap))):=by
  refine .new rfl rfl fun r=>?_
  refine zad (r:=fun _ _=>True) ?_ (by rintro _ _ _;exact zaf rfl)
  unfold markStringish
  refine zad zd4 ?_
  rintro _ x rfl
  cases x with
  | none=>exact zaf trivial
  | some x=>exact .freeze (.inr rfl) (.pure trivial)
 rw [h0] at hn
 exact hn
variable (P) in
def zm0 (src dst:TypeId):Bool:=match P.underlying src,P.underlying dst with
 | some (.int _),some (.int _)=>true
 | some .string,some .string=>true
 | some .string,some (.slice e)=>(match P.underlying e with | some (.int .u8)=>true | _=>false)
 | _,_=>false
theorem ziM {s:FloatKind} {b:Nat} {k:IntKind}:SV P mf nc ρ K (Conv.floatToInt s b k) (Conv.floatToInt s b k):=by
 unfold Conv.floatToInt
 dsimp only
 split
 ·split
  ·exact zaf rfl
  ·exact zad (zaL _).sr (by rintro _ n rfl;exact zaf rfl)
 ·exact zad (zaL _).sr (by rintro _ n rfl;exact zaf rfl)
theorem zmq {src dst:TypeId} (h:zm0 P src dst=true) {x:Value}:SV P mf nc ρ K (convert src dst x) (convert src dst (ren ρ x)):=by
 unfold convert
 refine zad (zaJ src) ?_
 rintro _ d ⟨rfl,hd⟩
 refine zad (zaJ dst) ?_
 rintro _ d' ⟨rfl,hd'⟩
 simp only [zm0,hd,hd'] at h
 cases d<;>first | (cases h;done) | skip
 ·cases d'<;>first | (cases h;done) | skip
  cases x with
  | float s b=>exact ziM
  | pointer a=>cases a<;>exact zai
  | slice a=>cases a<;>exact zai
  | _=>first | exact zaf rfl | exact zai
 ·cases d'<;>first | (cases h;done) | skip
  ·cases x with
   | pointer a=>cases a<;>exact zai
   | slice a=>cases a<;>exact zai
   | _=>first | exact zaf rfl | exact zai
  ·rename_i e
   cases x with
   | string s =>
    refine zad (zaJ e) ?_
    rintro _ d2 ⟨rfl,hd2⟩
    simp only [hd2] at h
    cases d2 with
    | int k=>cases k<;>first | (cases h;done) | exact zf0
    | _=>cases h
   | pointer a=>cases a<;>exact zai
   | slice a=>cases a<;>exact zai
   | _=>first | exact zaf rfl | exact zai
variable (P) in
def zcs:Value→Bool
 | .func (.yield _) _ _=>true
 | .func (.method s) a b=>(zem (.method s) a b).isSome
 | .func fn _ _=>zaR P fn
 | _=>true
theorem zbW {s:String} {a b:Array Value} (h:zcs P (.func (.method s) a b)=true):∃ x,a=#[.nilIface]∧b=#[.chan (some x)]:=by
 obtain⟨x,hx⟩:=Option.isSome_iff_exists.1 (show (zem (.method s) a b).isSome=true from h)
 obtain⟨_,_,h1,h2⟩:=zhO hx
 exact⟨x,h1,h2⟩
theorem zkM {f:FuncId} (h:zaR P (.func f)=true) {args args' : Array Value} (ha:args'=args.map (ren ρ)):SR P mf nc ρ (NextR P mf ρ) K (callFunc f args) (callFunc f args'):=by
 subst ha
 have h0:=h
 unfold callFunc
 refine zad zbR ?_
 rintro P1 P2 ⟨e1,e2⟩
 rw [e1,e2]
 simp only [zaR] at h
 cases hf:P.funcs[f]? with
 | none=>exact zah
 | some fn =>
  simp only [hf,Bool.and_eq_true] at h
  have h1:(fn.name == "runtime.NumGoroutine")=false:=by
   have:=h.1.2
   simpa [bne] using this
  have h2:fn.body.isNone=false:=by
   cases hb:fn.body<;>simp_all
  simp only [h1,h2,Bool.false_eq_true,if_false]
  exact zaf (NextR.enter f args h0)
theorem foldl_set (l:List (Tmp×Value)):∀ (tmps:Array Value),(l.map fun x=>(x.1,ren ρ x.2)).foldl (fun tmps x=>tmps.setIfInBounds x.1 x.2) (tmps.map (ren ρ))=(l.foldl (fun tmps x=>tmps.setIfInBounds x.1 x.2) tmps).map (ren ρ):=by
 induction l with
 | nil=>intro tmps;rfl
 | cons a l ih =>
  intro tmps
  simp only [List.map_cons,List.foldl_cons]
  rw [← Array.map_setIfInBounds,ih]
theorem zc7 {l:Nat} {α β:Type} {q:α→β→Prop} {f:Loop→Sem α} {f' : Loop→Sem β} (h:∀ r,mf.okl r=true→SR P mf nc ρ q (fun x=>K x∨x=l) (f r) (f' (zcU ρ r))) :
  SR P mf nc ρ q K (Instr.getLoop l >>= f) (Instr.getLoop (ρ.p l) >>= f'):=by
 unfold Instr.getLoop
 rw [bind_assoc,bind_assoc]
 refine zdn fun o ho hp=>?_
 cases o with
 | loop r=>exact (h r hp).weaken fun x hx=>hx.imp id fun e=>⟨e,rfl⟩
 | _=>exact .dead trivial
theorem zpm {l:Nat} {args:Array Value}:SR P mf nc ρ (NextR P mf ρ) K (Instr.yield l args) (Instr.yield (ρ.p l) (args.map (ren ρ))):=by
 unfold Instr.yield
 refine zc7 fun r hr=>?_
 simp only [Array.size_map]
 show SR _ _ _ _ _ _ (if args.size≠r.params.size then _ else _) (if args.size≠(zcU ρ r).params.size then _ else _)
 have e:(zcU ρ r).params=r.params:=rfl
 rw [e]
 split
 ·exact .dead (zba trivial)
 ·refine zaf ?_
  have hz:(r.params.zip (args.map (ren ρ))).foldl (fun tmps x=>tmps.setIfInBounds x.1 x.2) (zcU ρ r).tmps=((r.params.zip args).foldl (fun tmps x=>tmps.setIfInBounds x.1 x.2) r.tmps).map (ren ρ):=by
   rw [← Array.foldl_toList,← Array.foldl_toList]
   have:=foldl_set (ρ:=ρ) (r.params.zip args).toList r.tmps
   rw [← this]
   congr 1
   simp only [Array.toList_zip,Array.toList_map]
   rw [List.zip_map_right]
   apply List.map_congr_left
   rintro ⟨a,b⟩ _
   rfl
  have:=NextR.round (P:=P) (mf:=mf) (ρ:=ρ) l r.fn ((r.params.zip args).foldl (fun tmps x=>tmps.setIfInBounds x.1 x.2) r.tmps) r.assign r.body ⟨r,hr,rfl,rfl,rfl⟩
  rw [← hz] at this
  exact this
end
end Go.Con
