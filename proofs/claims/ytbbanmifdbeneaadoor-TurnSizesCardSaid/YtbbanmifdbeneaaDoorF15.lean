import Derived.Test.YtbbanmifdbeneaaDoorF14
set_option linter.all false
set_option maxRecDepth 100000
set_option maxHeartbeats 4000000
open Bool renaming and_eq_true → jqa
open Go.Instr renaming sameBits → jqb, yield → jqg
open Option renaming map_some → jqc, some_beq_some → jqi
open Array renaming toList_map → jqd, getElem?_map → jqe, map_append → jqf, replicate → jqh
namespace Go.Con
open Go
variable [Lone]
section
variable {P:Program} {mf:Md} {nc:Bool} {ρ:Rn} {K:Nat→Prop}
theorem zdA {α β:Type} {q:α→β→Prop} {b:Nat} {f:Obj→Sem α} {f' : Obj→Sem β}
  (h:∀ o,zbv o=false→zaK mf o=true→SR P mf nc ρ q (fun x=>K x∨(x=b∧zcA mf o=true)) (f o) (f' (zaz ρ o))):SR P mf nc ρ q K (getObj b >>= f) (getObj (ρ.p b) >>= f'):=.getObj h
theorem zbJ {b:Nat} {o:Obj} (hK:K b) (ho:zaK mf o=true) (hc:zbv o=false):SI P mf nc ρ K (setObj b o) (setObj (ρ.p b) (zaz ρ o)):=.setObj hK ho hc (.pure rfl)
theorem zij (R:RenOk P ρ) (hi:ze8 ρ):∀ (n:Nat) (a b:Value),jqb n (ren ρ a) (ren ρ b)=jqb n a b:=by
 intro n;have hp:∀ a b:Option Addr,(a.map (zak ρ) == b.map (zak ρ))=(a == b):=by
  intro a b
  cases a<;>cases b<;>try rfl
  rename_i a b;simp only [jqc,jqi];rw [Bool.eq_iff_iff];simp only [beq_iff_eq];refine⟨fun e=>?_,fun e=>by rw [e]⟩;obtain⟨a1,a2,a3⟩:=a;obtain⟨b1,b2,b3⟩:=b;simp only [zak,Addr.mk.injEq] at e ⊢;exact⟨R.inj _ _ e.1,e.2⟩
 obtain⟨f,hf,hinj⟩:=hi;have hch:∀ a:Option Nat,ren ρ (.chan a)=.chan (a.map f):=by
  intro a
  cases a with
  | none=>simp only [ren];rfl
  | some a=>simp only [ren,hf,cellV];rfl
 have hc:∀ a b:Option Nat,(a.map f == b.map f)=(a == b):=by
  intro a b
  cases a<;>cases b<;>try rfl
  rename_i a b;simp only [jqc,jqi];rw [Bool.eq_iff_iff];simp only [beq_iff_eq];exact⟨fun e=>hinj _ _ e,fun e=>by rw [e]⟩
 have hfu:∀ (n:Nat) (f:Fn) (x y:Array Value) (v:Value),jqb n (.func f x y) v=false∧jqb n v (.func f x y)=false:=by
  intro n f x y v
  cases n<;>cases v<;>exact⟨rfl,rfl⟩
 induction n with
 | zero =>
  intro a b
  cases a with
  | func f x y=>obtain⟨_,_,_,e⟩:=za5 ρ f x y;rw [e,(hfu _ _ _ _ _).1,(hfu _ _ _ _ _).1]
  | _ =>
   cases b with
   | func f x y=>obtain⟨_,_,_,e⟩:=za5 ρ f x y;rw [e,(hfu _ _ _ _ _).2,(hfu _ _ _ _ _).2]
   | _=>first | rfl | exact hp _ _ | (simp only [hch];first | rfl | exact hc _ _)
 | succ n ih =>
  intro a b
  cases a with
  | func f x y=>obtain⟨_,_,_,e⟩:=za5 ρ f x y;rw [e,(hfu _ _ _ _ _).1,(hfu _ _ _ _ _).1]
  | _ =>
   cases b with
   | func f x y=>obtain⟨_,_,_,e⟩:=za5 ρ f x y;rw [e,(hfu _ _ _ _ _).2,(hfu _ _ _ _ _).2]
   | _=>first
    | rfl
    | exact hp _ _
    | (simp only [hch];first | rfl | exact hc _ _;done)
    | (simp only [ren,jqb,ih];done)
    | (simp only [ren,jqb,zaE,Array.size_map,jqd,List.zip_map,List.all_map,Function.comp_def,Prod.map,ih];done)
theorem zgx (R:RenOk P ρ) {n:Nat} {a b:Value} (ha:zcy a=true) (hb:zcy b=true):jqb n (ren ρ a) (ren ρ b)=jqb n a b:=by
 have hp:∀ a b:Option Addr,(a.map (zak ρ) == b.map (zak ρ))=(a == b):=by
  intro a b
  cases a<;>cases b<;>try rfl
  rename_i a b;simp only [jqc,jqi];rw [Bool.eq_iff_iff];simp only [beq_iff_eq];refine⟨fun e=>?_,fun e=>by rw [e]⟩;obtain⟨a1,a2,a3⟩:=a;obtain⟨b1,b2,b3⟩:=b;simp only [zak,Addr.mk.injEq] at e ⊢;exact⟨R.inj _ _ e.1,e.2⟩
 cases n<;>cases a<;>first
  | (cases ha;done)
  | (cases b<;>first
    | (cases hb;done)
    | rfl
    | exact hp _ _)
theorem zgl (R:RenOk P ρ) {a b:Value} (h:ze8 ρ∨(zcy a=true∧zcy b=true)):SV P mf nc ρ K (Instr.keyThatStays a b) (Instr.keyThatStays (ren ρ a) (ren ρ b)):=by
 unfold Instr.keyThatStays;have e:jqb 10000 (ren ρ a) (ren ρ b)=jqb 10000 a b:=h.elim (fun h=>zij R h _ _ _) fun h=>zgx R h.1 h.2;rw [e];split
 ·exact zac rfl
 ·refine zab (za1 _).sr ?_
  rintro _ n rfl;refine zac ?_
  split<;>rfl
theorem znV {es:Array MapEntry} {i:Nat} {k:Value}:(((es.map (zaB ρ))[i]?).map (·.key)).getD (ren ρ k)=ren ρ (((es[i]?).map (·.key)).getD k):=by
 rw [jqe]
 cases es[i]?<;>rfl
theorem zir (hm:mf.maps=true) (R:RenOk P ρ) {t:TypeId} (h:zk0 P t=true) {x k v:Value}:SI P mf nc ρ K (Instr.mapUpdate t x k v) (Instr.mapUpdate t (ren ρ x) (ren ρ k) (ren ρ v)):=by
 unfold Instr.mapUpdate;refine zab (zaT t) ?_;rintro _ d ⟨rfl,hd⟩
 cases d with
 | map key elem =>
  have hkt:t<P.types.size∧eqOk P Op.maxDepth key=true:=by have h:=h;simpa [zk0,hd] using h
  have hk:=hkt.2
  cases x with
  | map r =>
   cases r with
   | none=>exact zaX
   | some r =>
    refine zdA fun o ho _=>?_
    cases o with
    | map es cl =>
     refine zab (zey _ _ _ _) ?_;rintro _ _ rfl;rw [jqd];refine zab (zfu R hk) ?_;rintro f _ ⟨rfl,hfa⟩
     cases f with
     | some f =>
      obtain⟨i,w⟩:=f;dsimp only [jqc];rw [znV];refine zab (zgl R ?_) ?_
      ·rcases R.keys with hs | hs
       ·have hsk:=hs t
        unfold zbM at hsk;rw [if_pos hkt.1,hd] at hsk;obtain⟨j,e,h1,h2,h3,h4⟩:=hfa hsk i w rfl;rw [Nat.zero_add] at h2;subst h2;refine .inr ⟨?_,h3⟩;rw [Array.getElem?_toList] at h1;rw [h1];exact h4
       ·exact .inl hs
      rintro key' _ rfl;have e:Array.modify (es.map (zaB ρ)) i (fun e=>{ e with key:=ren ρ key',val:=ren ρ v })=(es.modify i fun e=>{ e with key:=key',val:=v }).map (zaB ρ):=by
       apply Array.ext
       ·simp
       ·intro j h1 h2
        simp only [Array.getElem_modify,Array.getElem_map]
        split<;>rfl
      rw [e];exact zbJ (o:=.map (es.modify i fun e=>{ e with key:=key',val:=v }) cl) (.inr ⟨rfl,by simp [zcA,hm]⟩) rfl rfl
     | none =>
      have e:(es.map (zaB ρ)).push { key:=ren ρ k,val:=ren ρ v,born:=cl }=(es.push { key:=k,val:=v,born:=cl }).map (zaB ρ):=by simp [zaB]
      dsimp only [Option.map_none];rw [e];exact zbJ (o:=.map (es.push { key:=k,val:=v,born:=cl }) (cl+1)) (.inr ⟨rfl,by simp [zcA,hm]⟩) rfl rfl
    | _=>exact zad
  | _=>exact zad
 | _=>exact zad
theorem zn3 {t:TypeId} {x:Value}:SV P mf nc ρ K (Instr.range t x) (Instr.range t (ren ρ x)):=by
 unfold Instr.range;refine zab (zar t).sr ?_;rintro _ d rfl;have fin:∀ {K} (o:Obj),zaK mf o=true→zbv o=false→SV P mf nc ρ K (do pure (.pointer (some ⟨← newObj o,0,none⟩))) (do pure (.pointer (some ⟨← newObj (zaz ρ o),0,none⟩))):=fun o h1 h2 =>
  zab (zc7 h1 h2) (by rintro b _ rfl;exact zac rfl)
 cases d with
 | string =>
  cases x with
  | string s=>exact fin (.stringIter s 0) rfl rfl
  | _=>exact .dead trivial
 | map k e =>
  cases x with
  | map r =>
   cases r with
   | none=>exact fin (.mapIter none 0 #[] 0) rfl rfl
   | some r =>
    refine zab zcw ?_;rintro o _ rfl
    cases o with
    | map es cl=>exact fin (.mapIter (some r) cl #[] cl) rfl rfl
    | _=>exact .dead trivial
  | _=>exact .dead trivial
 | _=>exact .dead trivial
theorem zo3 {t:TypeId} {x:Value} {b:Bool}:SV P mf nc ρ K (Instr.next x b t) (Instr.next (ren ρ x) b t):=by
 unfold Instr.next
 cases x with
 | pointer a =>
  cases a with
  | none=>exact zad
  | some a =>
   obtain⟨r,off,spot⟩:=a
   cases off with
   | succ n=>exact zad
   | zero =>
    refine zdA fun o ho _=>?_
    cases o with
    | stringIter s p =>
     cases b with
     | false=>exact zad
     | true =>
      dsimp only [zaz];split
      ·exact zab (zbJ (o:=.stringIter s _) (.inr ⟨rfl,rfl⟩) rfl rfl) (by rintro _ _ rfl;exact zac rfl)
      ·exact zac rfl
    | mapIter m since seen last =>
     cases b with
     | true=>cases m<;>exact zad
     | false =>
      cases m with
      | none=>exact zac rfl
      | some m =>
       refine zab zcw ?_;rintro o _ rfl
       cases o with
       | map es cl =>
        dsimp only [zaz,jqc];have hf:∀ p:Nat→Bool,(es.map (zaB ρ)).filter (fun e=>p e.born)=(es.filter fun e=>p e.born).map (zaB ρ):=by
         intro p;rw [Array.filter_map];rfl
        have hf2:∀ (p q:Nat→Bool),((es.filter fun e=>q e.born).map (zaB ρ)).filter (fun e=>p e.born)=((es.filter fun e=>q e.born).filter fun e=>p e.born).map (zaB ρ):=by
         intro p q;rw [Array.filter_map];rfl
        have ha:(es.map (zaB ρ)).all (fun e=>decide (e.born≥last))=es.all (fun e=>decide (e.born≥last)):=by
         rw [Array.all_map];rfl
        have he:(es.map (zaB ρ)).isEmpty=es.isEmpty:=by simp [Array.isEmpty]
        rw [he,ha];split
        ·exact .dead (zbh trivial)
        ·rw [hf (fun n=>!seen.contains n),hf2 (fun n=>decide (n<since)) (fun n=>!seen.contains n),hf2 (fun n=>decide (n≥since)) (fun n=>!seen.contains n)]
         generalize (es.filter fun e=>!seen.contains e.born).filter (fun e=>decide (e.born<since))=old;generalize (es.filter fun e=>!seen.contains e.born).filter (fun e=>decide (e.born≥since))=new;have hc:((if (old.map (zaB ρ)).isEmpty then #[none] else #[])++((old.map (zaB ρ)++new.map (zaB ρ)).map some):Array (Option MapEntry)) =
           ((if old.isEmpty then #[none] else #[])++(old++new).map some:Array (Option MapEntry)).map (Option.map (zaB ρ)):=by
          have:(old.map (zaB ρ)).isEmpty=old.isEmpty:=by simp [Array.isEmpty]
          rw [this];by_cases h:old.isEmpty=true<;>simp [h]<;>rfl
         rw [hc];generalize ((if old.isEmpty then #[none] else #[])++(old++new).map some:Array (Option MapEntry))=cand;rw [Array.size_map];refine zab (za1 _).sr ?_;rintro _ n rfl;rw [jqe]
         cases cand[n]? with
         | none=>exact zad
         | some c =>
          cases c with
          | none=>exact zac rfl
          | some e=>exact zab (zbJ (o:=.mapIter (some m) since (seen.push e.born) cl) (.inr ⟨rfl,rfl⟩) rfl rfl) (by rintro _ _ rfl;exact zac rfl)
       | _=>exact .dead trivial
    | _=>cases b<;>exact zad
 | _=>exact zad
theorem zok {x:Value}:SV P mf nc ρ K (Instr.entry x) (Instr.entry (ren ρ x)):=by
 unfold Instr.entry
 cases x with
 | pointer a =>
  cases a with
  | none=>exact zad
  | some a =>
   obtain⟨r,off,spot⟩:=a
   cases off with
   | succ n=>exact zad
   | zero =>
    refine zab zcw ?_;rintro o _ rfl
    cases o with
    | mapIter m since seen last =>
     cases m with
     | none=>exact zad
     | some m =>
      dsimp only [zaz,jqc]
      cases seen.back? with
      | none=>exact zad
      | some st =>
       refine zab zcw ?_;rintro o _ rfl
       cases o with
       | map es cl =>
        dsimp only [zaz];split
        ·exact .dead (zbh trivial)
        ·have e:(es.map (zaB ρ)).find? (fun e=>e.born == st)=(es.find? fun e=>e.born == st).map (zaB ρ):=by
          rw [Array.find?_map];rfl
         rw [e]
         cases es.find? (fun e=>e.born == st) with
         | none=>exact zai
         | some e=>exact zac rfl
       | _=>exact zad
    | _=>exact zad
 | _=>exact zad
theorem zkd {x:Value}:SI P mf nc ρ K (Builtin.lenOf x) (Builtin.lenOf (ren ρ x)):=by
 unfold Builtin.lenOf
 cases x<;>first | exact zac rfl | exact zad
variable (P) in
def zoM (ats:Array TypeId):Bool:=match ats[0]? with
 | some t=>(match P.underlying t with | some (.chan ..)=>false | _=>true)
 | none=>true
theorem zpT {ats:Array TypeId} (h:zoM P ats=true) {t:TypeId} {args:Array Value}:SV P mf nc ρ K (Builtin.len_ ats t args) (Builtin.len_ ats t (args.map (ren ρ))):=by
 unfold Builtin.len_;rw [jqe]
 cases h0:ats[0]? with
 | none=>exact zad
 | some t0 =>
  cases args[0]? with
  | none=>exact zad
  | some x =>
   refine zab (zaT t0) ?_;rintro _ d ⟨rfl,hd⟩;simp only [zoM,h0,hd] at h
   cases d with
   | chan=>cases h
   | string=>cases x<;>first | exact zac rfl | exact zad
   | array n e=>exact zac rfl
   | pointer arr =>
    refine zab (zar _).sr ?_;rintro _ d rfl
    cases d<;>first | exact zac rfl | exact zad
   | slice e=>cases x<;>first | exact zac rfl | exact zad
   | map k e =>
    cases x with
    | map r =>
     cases r with
     | none=>exact zac rfl
     | some r =>
      refine zab zcw ?_;rintro o _ rfl
      cases o<;>first | exact zad | exact zac (by simp [ren,goInt])
    | _=>exact zad
   | _=>exact zad
theorem zgG {f:Value→Value→Sem Value} (hf:∀ a b,SV P mf nc ρ K (f a b) (f (ren ρ a) (ren ρ b))):∀ (l:List Value) (a:Value),SV P mf nc ρ K (l.foldlM f a) ((l.map (ren ρ)).foldlM f (ren ρ a))
 | [],_=>zac rfl
 | x :: l,a=>by
  rw [List.map_cons,List.foldlM_cons,List.foldlM_cons];refine zab (hf a x) ?_;rintro b _ rfl;exact zgG hf l b
theorem zpe (a b:Value):SV P mf nc ρ K (Builtin.max2 a b) (Builtin.max2 (ren ρ a) (ren ρ b)):=by
 unfold Builtin.max2
 cases a with
 | int k x=>cases b<;>first | exact zac rfl | exact zad | (rename_i c;cases c<;>first | exact zai | exact zad)
 | float k x =>
  cases b with
  | float k' y =>
   dsimp only [ren]
   cases k.format.order x y with
   | none=>exact zab (za1 _).sr (by rintro _ n rfl;exact zac rfl)
   | some o=>cases o<;>exact zac rfl
  | pointer c=>cases c<;>first | exact zai | exact zad
  | _=>exact zad
 | string s =>
  cases b with
  | string r =>
   refine zab zeA ?_;rintro v _ rfl;refine zab zgh ?_;rintro _ b rfl
   cases b<;>exact zac rfl
  | pointer c=>cases c<;>first | exact zai | exact zad
  | _=>exact zad
 | pointer c=>cases c<;>cases b<;>first | exact zai | exact zad | (rename_i c;cases c<;>first | exact zai | exact zad)
 | _=>cases b<;>first | exact zad | (rename_i c;cases c<;>first | exact zai | exact zad)
theorem zpb (a b:Value):SV P mf nc ρ K (Builtin.min2 a b) (Builtin.min2 (ren ρ a) (ren ρ b)):=by
 unfold Builtin.min2
 cases a with
 | int k x=>cases b<;>first | exact zac rfl | exact zad | (rename_i c;cases c<;>first | exact zai | exact zad)
 | float k x =>
  cases b with
  | float k' y =>
   dsimp only [ren]
   cases k.format.order x y with
   | none=>exact zab (za1 _).sr (by rintro _ n rfl;exact zac rfl)
   | some o=>cases o<;>exact zac rfl
  | pointer c=>cases c<;>first | exact zai | exact zad
  | _=>exact zad
 | string s =>
  cases b with
  | string r =>
   refine zab zeA ?_;rintro v _ rfl;refine zab zgh ?_;rintro _ b rfl
   cases b<;>exact zac rfl
  | pointer c=>cases c<;>first | exact zai | exact zad
  | _=>exact zad
 | pointer c=>cases c<;>cases b<;>first | exact zai | exact zad | (rename_i c;cases c<;>first | exact zai | exact zad)
 | _=>cases b<;>first | exact zad | (rename_i c;cases c<;>first | exact zai | exact zad)
theorem zpR {ats:Array TypeId} {t:TypeId} {args:Array Value}:SV P mf nc ρ K (Builtin.max_ ats t args) (Builtin.max_ ats t (args.map (ren ρ))):=by
 unfold Builtin.max_;rw [jqd]
 cases args.toList with
 | nil=>exact zad
 | cons x l=>exact zgG zpe l x
theorem zqb {ats:Array TypeId} {t:TypeId} {args:Array Value}:SV P mf nc ρ K (Builtin.min_ ats t args) (Builtin.min_ ats t (args.map (ren ρ))):=by
 unfold Builtin.min_;rw [jqd]
 cases args.toList with
 | nil=>exact zad
 | cons x l=>exact zgG zpb l x
end
end Go.Con
namespace Go.Con
open Go
variable [Lone]
section
variable {P:Program} {mf:Md} {nc:Bool} {ρ:Rn} {K:Nat→Prop}
theorem zbT {size n:Nat} {x:Value}:SR P mf nc ρ (fun a b=>b=a.map (ren ρ)) K (Builtin.firstCells size n x) (Builtin.firstCells size n (ren ρ x)):=by
 unfold Builtin.firstCells
 cases x with
 | slice a _ _ =>
  cases a with
  | none=>exact zac (by simp)
  | some a=>exact zfv
 | string s=>exact zac (by rw [Array.map_map];rfl)
 | _=>exact zad
theorem zeO {z:Array Value} {n:Nat} (h:z.map (ren ρ)=z):(Builtin.zeroCells z n).map (ren ρ)=Builtin.zeroCells z n:=by
 have:=zeZ (ρ:=ρ) (zero:=z) (n:=n * z.size);rw [h] at this;exact this.symm
theorem zfH {v:Value} (h:ren ρ v=v):v.cells.map (ren ρ)=v.cells:=by
 rw [← zb1,h]
theorem zi5 {t:TypeId} (h:zOk P t=true):SR P mf nc ρ (fun a b=>b=a∧ren ρ a=a) K (zeroValue t) (zeroValue t):=by
 unfold zeroValue;have h1:SR P mf nc ρ (fun a b=>b=a∧P.info? t=some a) K (typeInfo t) (typeInfo t):=by
  unfold typeInfo;refine .program ?_;show SR _ _ _ _ _ _ (match P.info? t with | some i=>pure i | none=>stuck "no such type") (match P.info? t with | some i=>pure i | none=>stuck "no such type")
  cases P.info? t with
  | none=>exact zad
  | some i=>exact zac ⟨rfl,rfl⟩
 refine zab h1 ?_;rintro _ i ⟨rfl,hi⟩;simp only [zOk,hi] at h
 cases hz:i.zero with
 | none=>exact zai
 | some v=>rw [hz] at h;exact zac ⟨rfl,zde ρ v h⟩
theorem zdM (a:Addr) (n:Nat):Calm P (Builtin.holdsCells a n):=by
 unfold Builtin.holdsCells;refine zce (fun _=>trivial) fun x=>?_
 split<;>trivial
theorem zeC {size sLen n:Nat} {b:Option Addr} {x:Value}:Calm P (Builtin.mayShare size sLen n b x):=by
 unfold Builtin.mayShare;have h2:∀ there:Bool,Calm P (if (!there)=true then pure true else match x with | .slice (some c) _ _=>do pure (!(← Builtin.holdsCells c (n * size)) || b.any (·.block == c.block)) | _=>pure false:Sem Bool):=by
  intro there;cases there
  ·exact trivial
  ·cases x with
   | slice a _ _ =>
    cases a with
    | none=>exact trivial
    | some c=>exact zce (zdM _ _) fun _=>trivial
   | _=>exact trivial
 cases b with
 | none=>exact h2 true
 | some a=>exact zce (zdM _ _) fun a=>zce (fun _=>trivial) fun b=>zce trivial h2
variable (P) in
def zhZ (ats:Array TypeId):Bool:=(match ats[0]? with
 | some t=>ezOk P t
 | none=>true) && (match ats[1]? with
 | some t=>(match P.underlying t with | some (.int _)=>false | _=>true)
 | none=>true)
theorem zmp {ats:Array TypeId} (h:zhZ P ats=true) {t:TypeId} {args:Array Value}:SV P mf nc ρ K (Builtin.append_ ats t args) (Builtin.append_ ats t (args.map (ren ρ))):=by
 unfold Builtin.append_;rw [jqe,jqe];simp only [zhZ,jqa] at h;obtain⟨h0,h1⟩:=h
 cases a0:ats[0]? with
 | none=>exact zad
 | some st =>
 simp only [a0] at h0
 cases args[0]? with
 | none=>exact zad
 | some s =>
 cases args[1]? with
 | none=>exact zad
 | some x =>
 dsimp only [jqc];refine zab (zaT st) ?_;rintro _ d ⟨rfl,hd⟩
 cases d with
 | slice elem =>
  simp only [ezOk,hd] at h0
  cases s with
  | slice base sLen sCap =>
   dsimp only [ren];refine zab (zaP elem).sr ?_;rintro _ size rfl
   cases a1:ats[1]? with
   | none =>
    simp only [pure_bind];refine zab zkd ?_;rintro _ n rfl
    try dsimp only [Bool.not_false]
    try simp only [if_true]
    by_cases hcap:sLen+n≤sCap
    ·rw [if_pos hcap,if_pos hcap]
     refine zab zbT ?_;rintro new _ rfl
     cases base with
     | none=>exact zac rfl
     | some a =>
      refine zab (by rw [zbm,jqd];exact zcE) ?_;rintro _ _ rfl;exact zac rfl
    ·rw [if_neg hcap,if_neg hcap]
     refine zab (zaV elem).sr ?_;rintro _ ti rfl;split
     ·exact .dead (zbh (zas _))
     ·refine zab (zaV elem).sr ?_
      rintro _ ti2 rfl;split
      ·refine .dead (zbh ?_)
       simp only [Bool.false_eq_true,if_false];refine zbt zeC fun b=>?_;cases b
       ·exact zbt (by first | exact trivial | exact fun _=>trivial) fun _=>trivial
       ·exact trivial
      ·refine zab (za1 _).sr ?_
       rintro _ nc2 rfl;refine zab (zaV elem).sr ?_;rintro _ ti3 rfl;refine zab zfg ?_;rintro _ _ rfl;refine zab (zbT (x:=.slice base sLen sCap)) ?_;rintro old _ rfl;refine zab zbT ?_;rintro new _ rfl;refine zab (zi5 h0) ?_;rintro _ z ⟨rfl,hz⟩;refine zab (r:=fun a b=>b=zak ρ a) ?_ (by rintro a _ rfl;exact zac rfl);have fin:=zcY (P:=P) (mf:=mf) (nc:=nc) (ρ:=ρ) (K:=K) (e:=elem) (cs:=old++new++Builtin.zeroCells z.cells (nc2-(sLen+n)));rw [jqf,jqf,zeO (zfH hz)] at fin;exact fin
   | some xt =>
    simp only [a1] at h1;refine zab (zaT xt) ?_;rintro _ d ⟨rfl,hd1⟩;rw [hd1] at h1;simp only [pure_bind]
    cases d<;>first
    | (cases h1;done)
    | skip
    all_goals
     refine zab zkd ?_;rintro _ n rfl
     try dsimp only [Bool.not_false]
     try simp only [if_true]
     by_cases hcap:sLen+n≤sCap
     ·rw [if_pos hcap,if_pos hcap]
      refine zab zbT ?_;rintro new _ rfl
      cases base with
      | none=>exact zac rfl
      | some a =>
       refine zab (by rw [zbm,jqd];exact zcE) ?_;rintro _ _ rfl;exact zac rfl
     ·rw [if_neg hcap,if_neg hcap]
      refine zab (zaV elem).sr ?_;rintro _ ti rfl;split
      ·exact .dead (zbh (zas _))
      ·refine zab (zaV elem).sr ?_
       rintro _ ti2 rfl;split
       ·refine .dead (zbh ?_)
        simp only [Bool.false_eq_true,if_false];refine zbt zeC fun b=>?_;cases b
        ·exact zbt (by first | exact trivial | exact fun _=>trivial) fun _=>trivial
        ·exact trivial
       ·refine zab (za1 _).sr ?_
        rintro _ nc2 rfl;refine zab (zaV elem).sr ?_;rintro _ ti3 rfl;refine zab zfg ?_;rintro _ _ rfl;refine zab (zbT (x:=.slice base sLen sCap)) ?_;rintro old _ rfl;refine zab zbT ?_;rintro new _ rfl;refine zab (zi5 h0) ?_;rintro _ z ⟨rfl,hz⟩;refine zab (r:=fun a b=>b=zak ρ a) ?_ (by rintro a _ rfl;exact zac rfl);have fin:=zcY (P:=P) (mf:=mf) (nc:=nc) (ρ:=ρ) (K:=K) (e:=elem) (cs:=old++new++Builtin.zeroCells z.cells (nc2-(sLen+n)));rw [jqf,jqf,zeO (zfH hz)] at fin;exact fin
  | _=>exact zad
 | _=>exact zad
end
end Go.Con
namespace Go.Con
open Go
variable [Lone]
section
variable {P:Program} {mf:Md} {nc:Bool} {ρ:Rn} {K:Nat→Prop}
theorem zfM {e:TypeId} {b:ByteArray}:SV P mf nc ρ K (Conv.stringToBytes e b) (Conv.stringToBytes e b):=by
 unfold Conv.stringToBytes;refine zab (za1 _).sr ?_;rintro _ cap rfl;have he:∀ (x:Array Value),(∀ v∈x,ren ρ v=v)→x.map (ren ρ)=x:=by
  intro x h;apply Array.ext
  ·simp
  ·intro i h1 h2
   simp only [Array.getElem_map];exact h _ (Array.getElem_mem _)
 have h0:zaz ρ (.cells ((b.data.map fun b=>Value.int .u8 b.toNat)++jqh (cap-b.size) (.int .u8 0)) e (0,0))=.cells ((b.data.map fun b=>Value.int .u8 b.toNat)++jqh (cap-b.size) (.int .u8 0)) e (0,0):=by
  simp only [zaz,Obj.cells.injEq,and_true];refine he _ fun v hv=>?_;simp only [Array.mem_append,Array.mem_map,Array.mem_replicate] at hv;rcases hv with ⟨_,_,rfl⟩ | ⟨_,rfl⟩<;>rfl
 have hn:SR P mf nc ρ (fun a b=>b=ren ρ a) K (Sem.new (.cells ((b.data.map fun b=>Value.int .u8 b.toNat)++jqh (cap-b.size) (.int .u8 0)) e (0,0)) fun r=>(markStringish ⟨r,0,none⟩ >>= fun _=>pure (Value.slice (some ⟨r,0,none⟩) b.size cap)))
   (Sem.new (zaz ρ (.cells ((b.data.map fun b=>Value.int .u8 b.toNat)++jqh (cap-b.size) (.int .u8 0)) e (0,0))) fun r=>(markStringish ⟨r,0,none⟩ >>= fun _=>pure (Value.slice (some ⟨r,0,none⟩) b.size cap))):=by
  refine .new rfl rfl fun r=>?_;refine zab (r:=fun _ _=>True) ?_ (by rintro _ _ _;exact zac rfl);unfold markStringish;refine zab zee ?_;rintro _ x rfl
  cases x with
  | none=>exact zac trivial
  | some x=>exact .freeze (.inr rfl) (.pure trivial)
 rw [h0] at hn;exact hn
variable (P) in
def zlL (src dst:TypeId):Bool:=match P.underlying src,P.underlying dst with
 | some (.int _),some (.int _)=>true
 | some .string,some .string=>true
 | some .string,some (.slice e)=>(match P.underlying e with | some (.int .u8)=>true | _=>false)
 | _,_=>false
theorem zhY {s:FloatKind} {b:Nat} {k:IntKind}:SV P mf nc ρ K (Conv.floatToInt s b k) (Conv.floatToInt s b k):=by
 unfold Conv.floatToInt;dsimp only;split
 ·split
  ·exact zac rfl
  ·exact zab (za1 _).sr (by rintro _ n rfl;exact zac rfl)
 ·exact zab (za1 _).sr (by rintro _ n rfl;exact zac rfl)
theorem zkC {src dst:TypeId} (h:zlL P src dst=true) {x:Value}:SV P mf nc ρ K (convert src dst x) (convert src dst (ren ρ x)):=by
 unfold convert;refine zab (zaT src) ?_;rintro _ d ⟨rfl,hd⟩;refine zab (zaT dst) ?_;rintro _ d' ⟨rfl,hd'⟩;simp only [zlL,hd,hd'] at h
 cases d<;>first | (cases h;done) | skip
 ·cases d'<;>first | (cases h;done) | skip
  cases x with
  | float s b=>exact zhY
  | pointer a=>cases a<;>exact zai
  | slice a=>cases a<;>exact zai
  | _=>first | exact zac rfl | exact zai
 ·cases d'<;>first | (cases h;done) | skip
  ·cases x with
   | pointer a=>cases a<;>exact zai
   | slice a=>cases a<;>exact zai
   | _=>first | exact zac rfl | exact zai
  ·rename_i e
   cases x with
   | string s =>
    refine zab (zaT e) ?_;rintro _ d2 ⟨rfl,hd2⟩;simp only [hd2] at h
    cases d2 with
    | int k=>cases k<;>first | (cases h;done) | exact zfM
    | _=>cases h
   | pointer a=>cases a<;>exact zai
   | slice a=>cases a<;>exact zai
   | _=>first | exact zac rfl | exact zai
variable (P) in
def zcF:Value→Bool
 | .func (.yield _) _ _=>true
 | .func (.method s) a b=>(zeN (.method s) a b).isSome
 | .func fn _ _=>zaL P fn
 | _=>true
theorem zcb {s:String} {a b:Array Value} (h:zcF P (.func (.method s) a b)=true):∃ x,a=#[.nilIface]∧b=#[.chan (some x)]:=by
 obtain⟨x,hx⟩:=Option.isSome_iff_exists.1 (show (zeN (.method s) a b).isSome=true from h);obtain⟨_,_,h1,h2⟩:=zhv hx;exact⟨x,h1,h2⟩
theorem zjW {f:FuncId} (h:zaL P (.func f)=true) {args args' : Array Value} (ha:args'=args.map (ren ρ)):SR P mf nc ρ (NextR P mf ρ) K (callFunc f args) (callFunc f args'):=by
 subst ha;have h0:=h;unfold callFunc;refine zab zb8 ?_;rintro P1 P2 ⟨e1,e2⟩;rw [e1,e2];simp only [zaL] at h
 cases hf:P.funcs[f]? with
 | none=>exact zad
 | some fn =>
  simp only [hf,jqa] at h;have h1:(fn.name == "runtime.NumGoroutine")=false:=by
   have:=h.1.2
   simpa [bne] using this
  have h2:fn.body.isNone=false:=by
   cases hb:fn.body<;>simp_all
  simp only [h1,h2,Bool.false_eq_true,if_false];exact zac (NextR.enter f args h0)
theorem foldl_set (l:List (Tmp×Value)):∀ (tmps:Array Value),(l.map fun x=>(x.1,ren ρ x.2)).foldl (fun tmps x=>tmps.setIfInBounds x.1 x.2) (tmps.map (ren ρ))=(l.foldl (fun tmps x=>tmps.setIfInBounds x.1 x.2) tmps).map (ren ρ):=by
 induction l with
 | nil=>intro tmps;rfl
 | cons a l ih =>
  intro tmps;simp only [List.map_cons,List.foldl_cons];rw [← Array.map_setIfInBounds,ih]
theorem zdj {l:Nat} {α β:Type} {q:α→β→Prop} {f:Loop→Sem α} {f' : Loop→Sem β} (h:∀ r,mf.okl r=true→SR P mf nc ρ q (fun x=>K x∨x=l) (f r) (f' (zdt ρ r))) :
  SR P mf nc ρ q K (Instr.getLoop l >>= f) (Instr.getLoop (ρ.p l) >>= f'):=by
 unfold Instr.getLoop;rw [bind_assoc,bind_assoc];refine zdA fun o ho hp=>?_
 cases o with
 | loop r=>exact (h r hp).weaken fun x hx=>hx.imp id fun e=>⟨e,rfl⟩
 | _=>exact .dead trivial
theorem znn {l:Nat} {args:Array Value}:SR P mf nc ρ (NextR P mf ρ) K (jqg l args) (jqg (ρ.p l) (args.map (ren ρ))):=by
 unfold jqg;refine zdj fun r hr=>?_;simp only [Array.size_map];show SR _ _ _ _ _ _ (if args.size≠r.params.size then _ else _) (if args.size≠(zdt ρ r).params.size then _ else _);have e:(zdt ρ r).params=r.params:=rfl;rw [e];split
 ·exact .dead (zbh trivial)
 ·refine zac ?_
  have hz:(r.params.zip (args.map (ren ρ))).foldl (fun tmps x=>tmps.setIfInBounds x.1 x.2) (zdt ρ r).tmps=((r.params.zip args).foldl (fun tmps x=>tmps.setIfInBounds x.1 x.2) r.tmps).map (ren ρ):=by
   rw [← Array.foldl_toList,← Array.foldl_toList];have:=foldl_set (ρ:=ρ) (r.params.zip args).toList r.tmps;rw [← this];congr 1;simp only [Array.toList_zip,jqd];rw [List.zip_map_right];apply List.map_congr_left;rintro ⟨a,b⟩ _;rfl
  have:=NextR.round (P:=P) (mf:=mf) (ρ:=ρ) l r.fn ((r.params.zip args).foldl (fun tmps x=>tmps.setIfInBounds x.1 x.2) r.tmps) r.assign r.body ⟨r,hr,rfl,rfl,rfl⟩;rw [← hz] at this;exact this
end
end Go.Con
namespace Go.Con
open Go
variable [Lone]
section
variable {P:Program} {mf:Md} {nc:Bool} {ρ:Rn} {K:Nat→Prop}
theorem ren_undef:ren ρ undef=undef:=by simp [undef,ren,zaE]
theorem ziO {fn:FuncId} {tmps:Array Value} {params:Array Tmp} {assign body:Code} {around:Option Nat} (h1:mf.okc assign=true) (h2:mf.okc body=true) :
  SR P mf nc ρ (fun a b=>b=(ρ.p a.1,a.2.map (zaM ρ))∧∀ d∈a.2,∃ r,d={ target:=.collected r,args:=#[] }) K
   (Instr.enterLoop fn tmps params assign body around) (Instr.enterLoop fn (tmps.map (ren ρ)) params assign body (around.map ρ.p)):=by
 unfold Instr.enterLoop;have fin:∀ {K} (d:Nat) (mk:List Deferred),(∀ d∈mk,∃ r,d={ target:=.collected r,args:=#[] }) →
   SR P mf nc ρ (fun a b=>b=(ρ.p a.1,a.2.map (zaM ρ))∧∀ d∈a.2,∃ r,d={ target:=.collected r,args:=#[] }) K
   (do pure (← newObj (.loop { state:=.ready,pending:=none,fn,tmps,params,assign,body,defers:=d }),mk))
   (do pure (← newObj (.loop { state:=.ready,pending:=none,fn,tmps:=tmps.map (ren ρ),params,assign,body,defers:=ρ.p d }),mk.map (zaM ρ))):=by
  intro K d mk hm;refine zab (zc7 (o:=.loop { state:=.ready,pending:=none,fn,tmps,params,assign,body,defers:=d }) ?_ rfl) ?_
  ·simp [zaK,Md.okl,h1,h2]
  ·rintro l _ rfl
   exact zac ⟨rfl,hm⟩
 cases around with
 | some l =>
  dsimp only [jqc];refine zdj fun r hr=>?_;exact fin r.defers [] (by simp)
 | none =>
  dsimp only [Option.map_none];refine zab (zc7 (o:=.deferred (some [])) rfl rfl) ?_;rintro d _ rfl;have:=fin (K:=K) d [{ target:=.collected d,args:=#[] }] (fun x hx=>⟨d,List.mem_singleton.1 hx⟩);simp only [List.map_cons,List.map_nil,zaM,zdf,Array.map_empty] at this;exact this
theorem sr_beginRound {l:Nat}:SI P mf nc ρ K (Instr.beginRound l) (Instr.beginRound (ρ.p l)):=by
 unfold Instr.beginRound;refine zdj fun r hr=>?_;refine zab (zbJ (o:=.loop { r with state:=.busy }) (.inr rfl) hr rfl) ?_;rintro _ _ rfl;have e:(zdt ρ r).state=r.state:=rfl;rw [e]
 cases r.state<;>first | exact zac rfl | exact zaX
theorem zjY {l:Nat} {jump:Option Code} (h:jump.all mf.okc=true):SV P mf nc ρ K (Instr.endRound l jump) (Instr.endRound (ρ.p l) jump):=by
 unfold Instr.endRound;refine zdj fun r hr=>?_;refine zab (zbJ (o:=.loop { r with state:=if jump.isNone then .ready else .done,pending:=jump }) (.inr rfl) ?_ rfl) ?_
 ·simp only [zaK,Md.okl,jqa] at hr ⊢
  exact⟨hr.1,h⟩
 ·rintro _ _ rfl
  exact zac rfl
theorem zlj {l:Nat}:SR P mf nc ρ (fun a b=>b=a∧a.all mf.okc=true) K (Instr.endLoop l) (Instr.endLoop (ρ.p l)):=by
 unfold Instr.endLoop;refine zdj fun r hr=>?_;have e:(zdt ρ r).state=r.state:=rfl;have e2:(zdt ρ r).pending=r.pending:=rfl;rw [e,e2];split
 ·exact .dead (zbh (zas _))
 ·refine zab (zbJ (o:=.loop { r with state:=.exhausted }) (.inr rfl) hr rfl) ?_
  rintro _ _ rfl;refine zac ⟨rfl,?_⟩;simp only [Md.okl,jqa] at hr;exact hr.2
theorem zgr {b:Nat}:SR P mf nc ρ (fun x y=>x=[]∧y=[]) K (Instr.takeDeferred b) (Instr.takeDeferred (ρ.p b)):=by
 unfold Instr.takeDeferred;refine zdA fun o ho hp=>?_
 cases o with
 | deferred c =>
  cases c with
  | none=>exact zad
  | some l =>
   cases l with
   | nil=>exact zab (zbJ (o:=.deferred none) (.inr ⟨rfl,rfl⟩) rfl rfl) (by rintro _ _ rfl;exact zac ⟨rfl,rfl⟩)
   | cons=>cases hp
 | _=>exact zad
theorem zlI {α β:Type} {q:α→β→Prop} {γ:Type} {f:γ→Sem α} {f' : γ→Sem β} (h:∀ c,SR P mf nc ρ q K (f c) (f' c)):∀ (l:List γ),
  SR P mf nc ρ (fun (a:List α) (b:List β)=>a.length=b.length∧∀ (i:Nat) (x:α),a[i]?=some x→∃ y,b[i]?=some y∧q x y) K (l.mapM f) (l.mapM f')
 | []=>by
  rw [List.mapM_nil,List.mapM_nil];exact zac ⟨rfl,fun i x h=>by simp at h⟩
 | c :: l=>by
  rw [List.mapM_cons,List.mapM_cons];refine zab (h c) fun a b hab=>?_;refine zab (zlI h l) fun as bs hs=>?_;refine zac ⟨by simp [hs.1],fun i x hx=>?_⟩
  cases i with
  | zero=>simp only [List.getElem?_cons_zero,Option.some.injEq] at hx;subst hx;exact⟨b,rfl,hab⟩
  | succ i=>simp only [List.getElem?_cons_succ] at hx ⊢;exact hs.2 i x hx
theorem zly {fn:Func} {tmps:Array Value}:SV P mf nc ρ K (results fn tmps) (results fn (tmps.map (ren ρ))):=by
 unfold results;have hm:SR P mf nc ρ (fun a b=>b=a.map (ren ρ)) K
   (fn.results.mapM fun | .tmp t=>pure (tmps.getD t undef) | .cell a t=>do loadVar t (← asAddr (tmps.getD a undef)))
   (fn.results.mapM fun | .tmp t=>pure ((tmps.map (ren ρ)).getD t undef) | .cell a t=>do loadVar t (← asAddr ((tmps.map (ren ρ)).getD a undef))):=by
  have hg:∀ t,(tmps.map (ren ρ)).getD t undef=ren ρ (tmps.getD t undef):=by
   intro t;simp only [Array.getD_eq_getD_getElem?,jqe]
   cases tmps[t]? with
   | none=>exact ren_undef.symm
   | some v=>rfl
  rw [Array.mapM_eq_mapM_toList,Array.mapM_eq_mapM_toList];refine zab (zlI (q:=fun a b=>b=ren ρ a) (fun c=>?_) fn.results.toList) ?_
  ·cases c with
   | tmp t=>exact zac (hg t)
   | cell a t =>
    dsimp only;rw [hg];refine zab zii ?_;rintro a _ rfl;exact zhe
  ·intro as bs h
   refine zac ?_;have:bs=as.map (ren ρ):=by
    apply List.ext_getElem?;intro i;rw [List.getElem?_map]
    cases ha:as[i]? with
    | none =>
     have:=List.getElem?_eq_none_iff.1 ha;rw [Option.map_none,List.getElem?_eq_none_iff];omega
    | some x =>
     obtain⟨y,hy,e⟩:=h.2 i x ha;rw [hy,e];rfl
   rw [this];simp
 refine zab hm ?_;rintro vs _ rfl;refine zac ?_;by_cases h:vs.size=1
 ·simp [h]
 ·simp [h,ren,zaE]
end
end Go.Con
namespace Go.Con
open Go
variable [Lone]
section
variable (P:Program) (maps:Bool)
def za2:Operand→Bool
 | .tmp _=>true
 | .const v=>zdD v
 | .global g=>decide (g<P.globals.size)
 | .func f=>zaL P (.func f)
def zis (b:Builtin) (ats:Array TypeId):Bool:=match b with
 | .append=>zhZ P ats
 | .len=>zoM P ats
 | .max | .min=>true
 | _=>false
def zj0 (c:Call):Bool:=c.args.all (za2 P) && match c.callee with
 | .value f=>za2 P f
 | .builtin b=>zis P b c.argTypes
 | .invoke ..=>false
def okOp:Op→Bool
 | .move x | .assign x | .box _ x | .load _ x | .nilCheck x | .unOp _ _ x | .fieldAddr _ x _ | .field _ x _ | .range _ x | .next x _ | .entry x | .extract x _=>za2 P x
 | .pick c a b=>za2 P c && za2 P a && za2 P b
 | .alloc e=>zOk P e
 | .build t ps=>zOk P t && ps.all fun p=>za2 P p.2
 | .buildSlice t _ ps=>ezOk P t && ps.all fun p=>za2 P p.2
 | .store _ a x | .indexAddr _ a x | .index _ a x=>za2 P a && za2 P x
 | .binOp op t x y _=>ziZ P op t && za2 P x && za2 P y
 | .convert s d x=>zlL P s d && za2 P x
 | .makeFunc fn a b=>zaL P fn && a.all (za2 P) && b.all (za2 P)
 | .makeMap _ r=>r.all (za2 P)
 | .makeSlice t l c=>ezOk P t && za2 P l && za2 P c
 | .slice _ x l h m=>za2 P x && l.all (za2 P) && h.all (za2 P) && m.all (za2 P)
 | .lookup t x k _=>zk0 P t && ezOk P t && za2 P x && za2 P k
 | .mapUpdate t m k x=>maps && zk0 P t && za2 P m && za2 P k && za2 P x
 | .call c=>zj0 P c
 | _=>false
def zgZ (e:Operand→Value):Op→Bool
 | .call { callee:=.value f,.. }=>zcF P (e f)
 | .nilCheck x=>zcF P (e x)
 | _=>true
end
section
variable {P:Program} {mf:Md} {nc:Bool} {ρ:Rn} {K:Nat→Prop} {e e' : Operand→Value}
theorem zfV (he:∀ x,za2 P x=true→e' x=ren ρ (e x)) {xs:Array Operand} (h:xs.all (za2 P)=true):xs.map e'=(xs.map e).map (ren ρ):=by
 rw [Array.map_map];apply Array.map_congr_left;intro x hx;exact he x (Array.all_eq_true_iff_forall_mem.1 h x hx)
theorem zeM (he:∀ x,za2 P x=true→e' x=ren ρ (e x)) {x:Option Operand} (h:x.all (za2 P)=true):x.map e'=(x.map e).map (ren ρ):=by
 cases x with
 | none=>rfl
 | some x=>exact congrArg some (he x h)
theorem parts_eval (he:∀ x,za2 P x=true→e' x=ren ρ (e x)) {ps:Array (Nat×Operand)} (h:(ps.all fun p=>za2 P p.2)=true) :
  (ps.map fun (i,x)=>(i,e' x))=(ps.map fun (i,x)=>(i,e x)).map fun x=>(x.1,ren ρ x.2):=by
 rw [Array.map_map];apply Array.map_congr_left;rintro ⟨i,x⟩ hx;have:=Array.all_eq_true_iff_forall_mem.1 h _ hx;simp only [Function.comp_apply,he x this]
theorem sr_v {s s' : Sem Value} (h:SV P mf nc ρ K s s'):SR P mf nc ρ (NextR P mf ρ) K (do pure (.value (← s))) (do pure (.value (← s'))) :=
 zab h (by rintro v _ rfl;exact zac (NextR.value v))
theorem sr_u {s s' : Sem Unit} (h:SI P mf nc ρ K s s'):SR P mf nc ρ (NextR P mf ρ) K (do s;pure .skip) (do s';pure .skip) :=
 zab h (by rintro _ _ _;exact zac NextR.skip)
theorem zk7 {b:Builtin} {ats:Array TypeId} (h:zis P b ats=true) {t:TypeId} {cs:Array Bool} {args:Array Value} :
  SR P mf nc ρ (NextR P mf ρ) K (builtin b ats t cs args) (builtin b ats t cs (args.map (ren ρ))):=by
 unfold builtin
 cases b<;>first | (cases h;done) | skip
 ·exact sr_v (zmp h)
 ·exact sr_v (zpT h)
 ·exact sr_v zpR
 ·exact sr_v zqb
theorem zhd (R:RenOk P ρ) {fn:Fn} (h:zaL P fn=true):zfi ρ fn=fn:=by
 cases fn<;>first | (cases h;done) | exact R.fixo _ h
theorem zhj {fn:Fn} {a b:Array Value} (h:zaL P fn=true):zeN fn a b=none:=by
 cases fn<;>first | rfl | cases h
theorem zfB (R:RenOk P ρ) {f:Value} (h:zcF P f=true) {args:Array Value} :
  SR P mf nc ρ (NextR P mf ρ) K (do let d ← Deferred.ofValue f args;invoke d.target d.args) (do let d ← Deferred.ofValue (ren ρ f) (args.map (ren ρ));invoke d.target d.args):=by
 cases f with
 | func fn a b =>
  cases fn with
  | func g =>
   have hg:ρ.o (.func g)=.func g:=R.fixo _ h;show SR P mf nc ρ (NextR P mf ρ) K (callFunc g ((a++args)++b)) (invoke (.fn (ρ.o (.func g)) (renA ρ b)) (renA ρ a++args.map (ren ρ)));rw [hg];exact zjW h (by simp [zaE])
  | yield l =>
   show SR P mf nc ρ (NextR P mf ρ) K (jqg l (a++args)) (jqg (ρ.p l) (renA ρ a++args.map (ren ρ)));have:=znn (P:=P) (mf:=mf) (nc:=nc) (K:=K) (ρ:=ρ) (l:=l) (args:=a++args);rw [jqf] at this;rw [zaE];exact this
  | method s =>
   obtain⟨x,rfl,rfl⟩:=zcb h;refine .dead ?_;show Dead P (invoke (.fn (.method s) #[.chan (some x)]) (#[.nilIface]++args));have e:(#[Value.nilIface]++args)[0]?=some .nilIface:=by
    rw [Array.getElem?_append_left (by simp)];rfl
   unfold invoke;rw [e];exact zas (P:=P) (α:=Next) .nilDeref
  | _=>cases h
 | nilFunc=>exact .dead (zas (P:=P) (α:=Next) .nilDeref)
 | _=>exact zad
theorem zim (R:RenOk P ρ) (he:∀ x,za2 P x=true→e' x=ren ρ (e x)) {o:Oper} (h:okOp P mf.maps o.op=true) (hv:zgZ P e o.op=true) :
  SR P mf nc ρ (NextR P mf ρ) K (execOp e o) (execOp e' o):=by
 unfold execOp;obtain⟨dst,op,ty,pos,after,guard⟩:=o
 cases op with
 | move x=>dsimp only;rw [he x h];exact zac (NextR.value _)
 | assign x=>dsimp only;rw [he x h];exact zac (NextR.value _)
 | pick c a b =>
  simp only [okOp,jqa] at h;dsimp only;rw [he c h.1.1,he a h.1.2,he b h.2];refine zab zgh ?_;rintro _ x rfl
  cases x<;>exact zac (NextR.value _)
 | alloc t=>exact sr_v (znF h)
 | box t x=>dsimp only;rw [he x h];exact sr_v zpL
 | build t ps =>
  simp only [okOp,jqa] at h;dsimp only;rw [parts_eval he h.2];exact sr_v (znI h.1)
 | buildSlice t n ps =>
  simp only [okOp,jqa] at h;dsimp only;rw [parts_eval he h.2];exact sr_v (zhI h.1)
 | load t x =>
  dsimp only;rw [he x h];refine sr_v (zab zcQ ?_);rintro a _ rfl;exact zhe
 | store t a x =>
  simp only [okOp,jqa] at h;dsimp only;rw [he a h.1,he x h.2];refine sr_u (zab zcQ ?_);rintro a _ rfl;exact zjl
 | nilCheck x =>
  dsimp only;rw [he x h];have hv' : zcF P (e x)=true:=hv;generalize e x=v at hv'
  cases v with
  | pointer a=>cases a<;>first | exact zaX | exact zac (NextR.value _)
  | func fn a b =>
   cases fn with
   | func g =>
    have hg:ρ.o (.func g)=.func g:=R.fixo _ hv';have hn:=NextR.value (P:=P) (mf:=mf) (ρ:=ρ) (.func (.func g) a b);simp only [ren,zfi,hg] at hn ⊢;exact zac hn
   | yield l=>exact zac (NextR.value (.func (.yield l) a b))
   | method s=>obtain⟨x,rfl,rfl⟩:=zcb hv';exact zaX
   | _=>cases hv'
  | chan r =>
   have hn:=NextR.value (P:=P) (mf:=mf) (ρ:=ρ) (.chan r);rcases zcd ρ r with ⟨_,h⟩ | ⟨_,_,_,h⟩ | ⟨_,h⟩ | ⟨f,_,_,h,hf⟩ | ⟨_,h⟩
   ·rw [h] at hn ⊢;exact zac hn
   ·rw [h] at hn ⊢;exact zac hn
   ·rw [h] at hn ⊢;exact zac hn
   ·rw [h] at hn ⊢
    cases f<;>first | exact zac hn | exact (hf _ rfl).elim
   ·rw [h] at hn ⊢;exact zac hn
  | nilIface=>exact zaX
  | nilFunc=>exact zaX
  | _=>exact zac (NextR.value _)
 | binOp op t x y yt =>
  simp only [okOp,jqa] at h;dsimp only;rw [he x h.1.2,he y h.2];have hb:=h.1.1;refine sr_v (zab (zll fun ho=>?_) ?_)
  ·rcases ho with rfl | rfl<;>exact hb
  ·rintro _ _ _
   exact znG R hb
 | unOp op t x=>dsimp only;rw [he x h];exact sr_v znE
 | convert s d x =>
  simp only [okOp,jqa] at h;dsimp only;rw [he x h.2];exact sr_v (zkC h.1)
 | makeFunc fn a b =>
  simp only [okOp,jqa] at h;dsimp only;rw [zfV he h.1.2,zfV he h.2];refine sr_v (zac ?_);rw [zeR ρ (zhj h.1.1),zhd R h.1.1,zaE,zaE]
 | makeMap t r =>
  dsimp only;rw [zeM he h];exact sr_v zk3
 | makeSlice t l c =>
  simp only [okOp,jqa] at h;dsimp only;rw [he l h.1.2,he c h.2];exact sr_v (ziC h.1.1)
 | slice t x l hi m =>
  simp only [okOp,jqa] at h;dsimp only;rw [he x h.1.1.1,zeM he h.1.1.2,zeM he h.1.2,zeM he h.2];exact sr_v zkQ
 | fieldAddr t x f=>dsimp only;rw [he x h];exact sr_v zlo
 | field t x f=>dsimp only;rw [he x h];exact sr_v zor
 | indexAddr t x i =>
  simp only [okOp,jqa] at h;dsimp only;rw [he x h.1,he i h.2];exact sr_v zkN
 | index t x i =>
  simp only [okOp,jqa] at h;dsimp only;rw [he x h.1,he i h.2];exact sr_v znk
 | lookup t x k ok =>
  simp only [okOp,jqa] at h;dsimp only;rw [he x h.1.2,he k h.2];exact sr_v (znd R h.1.1.1 h.1.1.2)
 | mapUpdate t m k x =>
  simp only [okOp,jqa] at h;dsimp only;rw [he m h.1.1.2,he k h.1.2,he x h.2];exact sr_u (zir h.1.1.1.1 R h.1.1.1.2)
 | range t x=>dsimp only;rw [he x h];exact sr_v zn3
 | next x b=>dsimp only;rw [he x h];exact sr_v zo3
 | entry x=>dsimp only;rw [he x h];exact sr_v zok
 | extract x i=>dsimp only;rw [he x h];exact sr_v zlw
 | call c =>
  obtain⟨cal,args,ats⟩:=c;simp only [okOp,zj0,jqa] at h;dsimp only [resolve];rw [zfV he h.1]
  cases cal with
  | value f =>
   dsimp only;rw [show e' f=ren ρ (e f) from he f h.2];exact zfB R hv
  | builtin b=>exact zk7 h.2
  | invoke=>cases h.2
 | _=>cases h
end
end Go.Con
