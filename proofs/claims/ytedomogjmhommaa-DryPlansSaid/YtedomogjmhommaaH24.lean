import Derived.Test.YtedomogjmhommaaH23
set_option linter.all false
set_option maxRecDepth 100000
set_option maxHeartbeats 8000000
namespace Go.Con
open Go
variable [Lone]
section
variable {P:Program} {mf:Md} {nc:Bool} {ρ:Rn} {K:Nat→Prop}
theorem zcg {t:TypeId} {x y:Value}:SV P mf nc ρ K (movedNumber t x y) (movedNumber t (ren ρ x) (ren ρ y)):=by
 unfold movedNumber
 refine zad (zaw t).sr ?_
 rintro _ d rfl
 cases d with
 | unsafePointer=>exact .dead trivial
 | _ =>
  simp only [Bool.false_eq_true,if_false]
  cases x with
  | pointer a =>
   cases a with
   | none =>
    exact zcm (x:=.pointer none)
   | some n =>
    refine zad za7 ?_
    rintro ⟨a,l⟩ _ rfl
    refine zad (sr_unsafeAddP (x:=.pointer (some a))) ?_
    rintro _ _ ⟨rfl,b,rfl⟩
    cases b with
    | none=>exact zaf rfl
    | some b=>exact zkL
  | chan r=>exact zah
  | func f a b=>exact zah
  | _=>exact zcm
theorem zg9 {t:TypeId} {x y:Value}:SV P mf nc ρ K (movedPointer t x y) (movedPointer t (ren ρ x) (ren ρ y)):=by
 unfold movedPointer
 cases x<;>first | exact zcm | exact zah | skip
 rename_i a
 cases a with
 | none=>exact zcm (x:=.pointer none)
 | some a =>
  refine zad zha ?_
  rintro o _ rfl
  cases o with
  | none =>
   show SV P mf nc ρ K (Builtin.unsafeAdd_ #[] t #[.pointer (some a),y]) (Builtin.unsafeAdd_ #[] t #[ren ρ (.pointer (some a)),ren ρ y])
   exact zcm
  | some o=>exact .dead trivial
theorem zfL (R:RenOk P ρ) {a b:Addr}:SI P mf nc ρ K (Op.twoPlaces a b) (Op.twoPlaces (zak ρ a) (zak ρ b)):=by
 unfold Op.twoPlaces
 refine zad zbR ?_
 rintro _ Q ⟨rfl,hQ⟩
 subst hQ
 have e1:((zak ρ a).block != (zak ρ b).block)=(a.block != b.block):=by
  show (ρ.p a.block != ρ.p b.block)=_
  rw [Bool.eq_iff_iff]
  simp only [bne_iff_ne]
  exact⟨fun h e=>h (by rw [e]),fun h e=>h (R.inj _ _ e)⟩
 have e2:decide ((zak ρ a).block≥Q.globals.size)=decide (a.block≥Q.globals.size):=by
  have:=R.lt a.block
  rw [decide_eq_decide]
  show ρ.p a.block≥_↔_
  omega
 rw [e1,e2]
 split
 ·exact .dead trivial
 ·refine zad zcG ?_
  rintro _ x rfl
  refine zad zcG ?_
  rintro _ y rfl
  exact zaf rfl
theorem zmo (R:RenOk P ρ) {k:IntKind} {a b:Addr}:SV P mf nc ρ K (Op.addrSub k a b) (Op.addrSub k (zak ρ a) (zak ρ b)):=by
 unfold Op.addrSub
 exact zad (zfL R) (by rintro _ x rfl;exact zaf rfl)
theorem zmn (R:RenOk P ρ) {op:BinOp} {a b:Addr}:SV P mf nc ρ K (Op.addrCmp op a b) (Op.addrCmp op (zak ρ a) (zak ρ b)):=by
 unfold Op.addrCmp
 exact zad (zfL R) (by rintro _ x rfl;cases op<;>first | exact zaf rfl | exact zai)
theorem zh0 {k:IntKind} {a:Addr} {n:Int}:SV P mf nc ρ K (Op.addrMod k a n) (Op.addrMod k (zak ρ a) n):=by
 unfold Op.addrMod
 refine zad zd4 ?_
 rintro _ s rfl
 cases s with
 | none=>exact zai
 | some s =>
  refine zad (zaN _).sr ?_
  rintro _ i rfl
  dsimp only
  split
  ·exact .dead trivial
  ·exact zad zcG (by rintro _ x rfl;exact zaf rfl)
def eqOk (P:Program):Nat→TypeId→Bool
 | 0,_=>true
 | d+1,t=>match P.underlying t with
  | some (.pointer _) | some .unsafePointer | some (.interface _) | some (.array ..) | some (.chan ..)=>false
  | some (.struct fs)=>fs.toList.all fun f=>eqOk P d f.type
  | _=>true
theorem zaJ (t:TypeId):SR P mf nc ρ (fun a b=>b=a∧P.underlying t=some a) K (underlying t) (underlying t):=by
 unfold underlying
 refine .program ?_
 show SR _ _ _ _ _ _ (match P.underlying t with | some d=>pure d | none=>stuck "no such type") (match P.underlying t with | some d=>pure d | none=>stuck "no such type")
 cases P.underlying t with
 | none=>exact zah
 | some i=>exact zaf ⟨rfl,rfl⟩
theorem zb4 {α β:Type} {f f' : α→β→Sem (ForInStep β)}:∀ {l:List α} {b:β},(∀ x∈l,∀ b,SI P mf nc ρ K (f x b) (f' x b))→SI P mf nc ρ K (forIn l b f) (forIn l b f')
 | [],b,_=>zaf rfl
 | a :: l,b,h=>by
  rw [List.forIn_cons,List.forIn_cons]
  refine zad (h a (by simp) b) ?_
  rintro _ s rfl
  cases s with
  | done b=>exact zaf rfl
  | yield b=>exact zb4 fun x hx=>h x (by simp [hx])
theorem zmt (R:RenOk P ρ) (d:Nat):∀ (t:TypeId) (x y:Value),eqOk P d t=true→SI P mf nc ρ K (Op.equalIn d t x y) (Op.equalIn d t (ren ρ x) (ren ρ y)):=by
 induction d with
 | zero=>exact fun _ _ _ _=>zai
 | succ d ih =>
  intro t x y h
  unfold Op.equalIn
  refine zad (zaJ t) ?_
  rintro _ u ⟨rfl,hu⟩
  simp only [eqOk,hu] at h
  cases u with
  | bool =>
   cases x with
   | bool a=>cases y<;>first | exact zaf rfl | exact zah
   | _=>exact zah
  | int k =>
   cases x with
   | int k a =>
    cases y with
    | int k' b =>
     dsimp only [ren]
     split
     ·exact zaf rfl
     ·exact zah
    | pointer b =>
     cases b with
     | none=>exact zai
     | some b=>rcases a with (_ | a) | a<;>first | exact zaf rfl | exact zai
    | _=>exact zah
   | pointer a =>
    cases a with
    | none=>cases y<;>exact zai
    | some a =>
     cases y with
     | int k b=>rcases b with (_ | b) | b<;>first | exact zaf rfl | exact zai
     | pointer b =>
      cases b with
      | none=>exact zai
      | some b =>
       refine zad za7 ?_
       rintro ⟨a,l⟩ _ rfl
       refine zad za7 ?_
       rintro ⟨b,m⟩ _ rfl
       refine zad zbR ?_
       rintro _ Q ⟨rfl,hQ⟩
       subst hQ
       have e1:((zak ρ a).block == (zak ρ b).block)=(a.block == b.block):=by
        show (ρ.p a.block == ρ.p b.block)=_
        rw [Bool.eq_iff_iff]
        simp only [beq_iff_eq]
        exact⟨fun e=>R.inj _ _ e,fun e=>by rw [e]⟩
       have e2:decide ((zak ρ a).block<Q.globals.size)=decide (a.block<Q.globals.size):=by
        rw [decide_eq_decide];exact R.lt _
       have e3:(zak ρ a == zak ρ b)=(a == b):=by
        rw [Bool.eq_iff_iff]
        simp only [beq_iff_eq]
        refine⟨fun e=>?_,fun e=>by rw [e]⟩
        obtain⟨a1,a2,a3⟩:=a
        obtain⟨b1,b2,b3⟩:=b
        simp only [zak,Addr.mk.injEq] at e ⊢
        exact⟨R.inj _ _ e.1,e.2⟩
       dsimp only
       rw [e1,e2]
       split
       ·refine zad zcG ?_
        rintro _ x rfl
        refine zad zcG ?_
        rintro _ y rfl
        exact zaf rfl
       ·refine zad (zaN _).sr ?_
        rintro _ i rfl
        split
        ·rw [e3]
         split
         ·exact zaf rfl
         ·exact zai
        ·exact zai
     | _=>exact zai
   | _=>cases y<;>first | exact zah | exact zai
  | string =>
   cases x with
   | string a=>cases y<;>first | exact zaf rfl | exact zah
   | _=>exact zah
  | slice e =>
   cases x with
   | slice a n c =>
    cases y with
    | slice b m q=>cases a<;>cases b<;>first | exact zaf rfl | exact zah
    | _=>cases a<;>exact zah
   | _=>exact zah
  | map k e =>
   cases x with
   | map a =>
    cases y with
    | map b=>cases a<;>cases b<;>first | exact zaf rfl | exact zah
    | _=>cases a<;>exact zah
   | _=>exact zah
  | func a b c =>
   cases x with
   | func f a' b' =>
    obtain⟨_,_,_,h1⟩:=zaV ρ f a' b'
    rw [h1]
    cases y with
    | func f' a'' b''=>obtain⟨_,_,_,h2⟩:=zaV ρ f' a'' b'';rw [h2];first | exact zaf rfl | exact zah
    | _=>first | exact zaf rfl | exact zah
   | nilFunc =>
    cases y with
    | func f' a'' b''=>obtain⟨_,_,_,h2⟩:=zaV ρ f' a'' b'';rw [h2];first | exact zaf rfl | exact zah
    | _=>first | exact zaf rfl | exact zah
   | _=>exact zah
  | struct fs =>
   cases x with
   | agg xs =>
    cases y with
    | agg ys =>
     refine zad zbR ?_
     rintro _ Q ⟨rfl,hQ⟩
     subst hQ
     dsimp only [ren]
     rw [zaD,zaD]
     split
     ·exact .dead trivial
     ·refine zad (r:=fun a b=>b=a) ?_ ?_
      ·rw [← Array.forIn_toList,← Array.forIn_toList]
       refine zb4 fun f hf b=>?_
       have hfo:=List.all_eq_true.1 h f hf
       split
       ·refine zad zdL ?_
        rintro v _ rfl
        refine zad zdL ?_
        rintro v' _ rfl
        refine zad (ih f.type v v' hfo) ?_
        rintro _ b rfl
        split<;>exact zaf rfl
       ·exact zaf rfl
      ·rintro _ r rfl
       obtain⟨r,_⟩:=r
       cases r<;>exact zaf rfl
    | _=>exact zah
   | _=>exact zah
  | float k =>
   cases x with
   | float k a =>
    cases y with
    | float k' b =>
     dsimp only [ren]
     split
     ·exact zaf rfl
     ·exact zah
    | _=>exact zah
   | _=>exact zah
  | complex k =>
   cases x with
   | complex k a c =>
    cases y with
    | complex k' b e =>
     dsimp only [ren]
     split
     ·exact zaf rfl
     ·exact zah
    | _=>exact zah
   | _=>exact zah
  | _=>first | (cases h;done) | exact zah
theorem ziJ (R:RenOk P ρ) {t:TypeId} {x y:Value} (h:eqOk P Op.maxDepth t=true):SI P mf nc ρ K (Op.equal t x y) (Op.equal t (ren ρ x) (ren ρ y)):=zmt R _ _ _ _ h
theorem zfF (d:Nat):∀ (t:TypeId) (x y:Value),eqOk P d t=true→SI P mf nc ρ K (Op.eqGuardIn d t x y) (Op.eqGuardIn d t (ren ρ x) (ren ρ y)):=by
 induction d with
 | zero=>exact fun _ _ _ _=>zai
 | succ d ih =>
  intro t x y h
  unfold Op.eqGuardIn
  refine zad (zaJ t) ?_
  rintro _ u ⟨rfl,hu⟩
  simp only [eqOk,hu] at h
  cases u with
  | interface _=>cases h
  | array=>cases h
  | struct fs =>
   cases x with
   | agg xs =>
    cases y with
    | agg ys =>
     dsimp only [ren]
     rw [zaD,zaD]
     refine zad (r:=fun a b=>b=a) ?_ ?_
     ·rw [← Array.forIn_toList,← Array.forIn_toList]
      refine zb4 fun f hf b=>?_
      have hfo:=List.all_eq_true.1 h f hf
      split
      ·refine zad zdL ?_
       rintro v _ rfl
       refine zad zdL ?_
       rintro v' _ rfl
       refine zad (ih f.type v v' hfo) ?_
       rintro _ b rfl
       split<;>exact zaf rfl
      ·exact zaf rfl
     ·rintro _ r rfl
      obtain⟨r,_⟩:=r
      cases r<;>exact zaf rfl
    | chan r=>rcases zb2 ρ r with ⟨_,h⟩ | ⟨_,_,_,h⟩ | ⟨_,h⟩ | ⟨_,_,_,h,_⟩ | ⟨_,h⟩<;>rw [h]<;>exact zaf rfl
    | func f a b=>obtain⟨_,_,_,h⟩:=zaV ρ f a b;rw [h];exact zaf rfl
    | _=>exact zaf rfl
   | chan r=>rcases zb2 ρ r with ⟨_,h⟩ | ⟨_,_,_,h⟩ | ⟨_,h⟩ | ⟨_,_,_,h,_⟩ | ⟨_,h⟩<;>rw [h]<;>exact zaf rfl
   | func f a b=>obtain⟨_,_,_,h⟩:=zaV ρ f a b;rw [h];exact zaf rfl
   | _=>exact zaf rfl
  | _=>exact zaf rfl
theorem zms {op:BinOp} {t:TypeId} {x y:Operand} {a b:Value} (h:(op=.eql∨op=.neq)→eqOk P Op.maxDepth t=true):SI P mf nc ρ K (eqGuard op t x y a b) (eqGuard op t x y (ren ρ a) (ren ρ b)):=by
 unfold eqGuard
 cases op with
 | eql | neq =>
  have ho:=h (by simp)
  cases a with
  | nilIface =>
   cases b with
   | nilIface =>
    cases x<;>cases y<;>first
     | exact zaf rfl
     | (refine zad (zfF _ t .nilIface .nilIface ho) ?_
        rintro _ c rfl
        cases c
        ·exact zaf rfl
        ·exact zai)
   | chan r=>rcases zb2 ρ r with ⟨_,h⟩ | ⟨_,_,_,h⟩ | ⟨_,h⟩ | ⟨_,_,_,h,_⟩ | ⟨_,h⟩<;>rw [h]<;>exact zaf rfl
   | func f a b=>obtain⟨_,_,_,h⟩:=zaV ρ f a b;rw [h];exact zaf rfl
   | _=>exact zaf rfl
  | agg xs =>
   cases b with
   | agg ys =>
    refine zad zbR ?_
    rintro _ Q ⟨rfl,hQ⟩
    subst hQ
    refine zad zbR ?_
    rintro _ Q' ⟨rfl,hQ⟩
    subst hQ
    split
    ·exact zaf rfl
    ·refine zad (zfF _ t (.agg xs) (.agg ys) ho) ?_
     rintro _ c rfl
     split
     ·exact zai
     ·exact zaf rfl
   | chan r=>rcases zb2 ρ r with ⟨_,h⟩ | ⟨_,_,_,h⟩ | ⟨_,h⟩ | ⟨_,_,_,h,_⟩ | ⟨_,h⟩<;>rw [h]<;>exact zaf rfl
   | func f a b=>obtain⟨_,_,_,h⟩:=zaV ρ f a b;rw [h];exact zaf rfl
   | _=>exact zaf rfl
  | chan r=>rcases zb2 ρ r with ⟨_,h⟩ | ⟨_,_,_,h⟩ | ⟨_,h⟩ | ⟨_,_,_,h,_⟩ | ⟨_,h⟩<;>rw [h]<;>exact zaf rfl
  | func f a b=>obtain⟨_,_,_,h⟩:=zaV ρ f a b;rw [h];exact zaf rfl
  | _=>exact zaf rfl
 | _=>exact zaf rfl
end
end Go.Con
namespace Go.Con
open Go
variable [Lone]
section
variable {P:Program} {mf:Md} {nc:Bool} {ρ:Rn} {K:Nat→Prop}
theorem zg7 {op:BinOp} {k:IntKind} {a b:Int}:SV P mf nc ρ K (Op.intArith op k a b) (Op.intArith op k a b):=by
 unfold Op.intArith;cases op<;>first | exact zaf rfl | exact zah
theorem znY {op:BinOp} {k:IntKind} {a b:Int}:SV P mf nc ρ K (Op.intDiv op k a b) (Op.intDiv op k a b):=by
 unfold Op.intDiv;split
 ·exact zaO
 ·cases op<;>first | exact zaf rfl | exact zah
theorem zh2 {op:BinOp} {k:IntKind} {a b:Int}:SV P mf nc ρ K (Op.intBits op k a b) (Op.intBits op k a b):=by
 unfold Op.intBits;cases op<;>first | exact zaf rfl | exact zah
theorem znX {op:BinOp} {a b:Int}:SV P mf nc ρ K (Op.intCmp op a b) (Op.intCmp op a b):=by
 unfold Op.intCmp;cases op<;>first | exact zaf rfl | exact zah
theorem zpi {op:BinOp} {k k' : IntKind} {a b:Int}:SV P mf nc ρ K (Op.shift op k a k' b) (Op.shift op k a k' b):=by
 unfold Op.shift;split
 ·exact zaO
 ·cases op<;>first | exact zaf rfl | exact zah
theorem zew {op:BinOp} {a b:ByteArray}:SV P mf nc ρ K (Op.stringOp op a b) (Op.stringOp op a b):=by
 unfold Op.stringOp
 cases op<;>first | exact zaf rfl | exact zah | (dsimp only;split<;>first | exact zai | exact zaf rfl)
theorem zgL (op:BinOp) (k:FloatKind) (x y:Nat):Info P (Op.floatArith op k x y):=by
 unfold Op.floatArith
 dsimp only
 cases op
 all_goals refine Info.bind (by first | exact zaZ _ | exact zcA _) fun r=>?_
 all_goals cases r<;>first | exact zaZ _ | exact (zaL _).bind fun _=>zaZ _
theorem ziL {op:BinOp} {k:FloatKind} {x y:Nat}:SV P mf nc ρ K (Op.floatArith op k x y) (Op.floatArith op k x y):=by
 unfold Op.floatArith
 dsimp only
 cases op
 all_goals refine zad (Info.sr (by first | exact zaZ _ | exact zcA _)) ?_
 all_goals
  rintro _ r rfl
  cases r<;>first | exact zaf rfl | exact zad (zaL _).sr (by rintro _ n rfl;exact zaf rfl)
theorem zkO {op:BinOp} {k:FloatKind} {x y:Nat}:SV P mf nc ρ K (Op.floatCmp op k x y) (Op.floatCmp op k x y):=by
 unfold Op.floatCmp
 cases op<;>first | exact zaf rfl | exact zah
theorem zdX (op:BinOp) (k:FloatKind) (x y:Nat):Info P (Op.Complex.arith op k x y):=by
 unfold Op.Complex.arith
 refine (zgL _ _ _ _).bind fun v=>?_
 cases v<;>first | exact zaZ _ | exact zcA _
theorem zim (op:BinOp) (k:FloatKind) (x y:Nat):Info P (Op.Complex.cmp op k x y):=by
 unfold Op.Complex.cmp
 refine Info.bind ?_ fun v=>?_
 ·unfold Op.floatCmp;cases op<;>first | exact zaZ _ | exact zcA _
 ·unfold asBool;cases v<;>first | exact zaZ _ | exact zcA _
theorem znh (s:FloatKind) (x:Nat) (d:FloatKind):Info P (Op.Complex.conv s x d):=by
 unfold Op.Complex.conv
 split
 ·exact zaZ _
 ·refine Info.bind ?_ fun v=>?_
  ·unfold Conv.floatToFloat
   dsimp only
   repeat' (first | exact zaZ _ | exact (zaL _).bind fun _=>zaZ _ | split)
  ·cases v<;>first | exact zaZ _ | exact zcA _
theorem zjl (a b c d:Nat):Info P (Op.Complex.product a b c d):=by
 unfold Op.Complex.product Op.Complex.mul Op.Complex.add Op.Complex.sub
 repeat' (first | exact zaZ _ | refine (zdX _ _ _ _).bind fun _=>?_)
theorem zhn (s a b c d:Nat):Info P (Op.Complex.corrected s a b c d):=by
 unfold Op.Complex.corrected Op.Complex.mul Op.Complex.add Op.Complex.sub
 repeat' (first | exact zaZ _ | refine (zdX _ _ _ _).bind fun _=>?_)
theorem zin (a b c d:Nat):Info P (Op.Complex.quotient a b c d):=by
 unfold Op.Complex.quotient Op.Complex.mul Op.Complex.add Op.Complex.sub Op.Complex.quo
 dsimp only
 refine (zim _ _ _ _).bind fun _=>?_
 split
 all_goals repeat' (first | (with_reducible exact zaZ _) | (with_reducible exact zhn _ _ _ _ _) | (with_reducible refine Info.bind (zdX _ _ _ _) fun _=>?_) | (with_reducible refine Info.bind (zim _ _ _ _) fun _=>?_) | (with_reducible refine Info.bind (zaZ _) fun _=>?_) | split)
theorem zjM {op:BinOp} {k:FloatKind} {a b c d:Nat}:SV P mf nc ρ K (Op.complexOp op k a b c d) (Op.complexOp op k a b c d):=by
 unfold Op.complexOp
 cases op<;>try exact zah
 all_goals dsimp only
 all_goals repeat' (first
  | (with_reducible exact zaf rfl)
  | (with_reducible refine zad (zdX _ _ _ _).sr ?_;rintro _ x rfl)
  | (with_reducible refine zad (zim _ _ _ _).sr ?_;rintro _ x rfl)
  | (with_reducible refine zad (znh _ _ _).sr ?_;rintro _ x rfl)
  | (with_reducible refine zad (zjl _ _ _ _).sr ?_;rintro _ x rfl)
  | (with_reducible refine zad (zin _ _ _ _).sr ?_;rintro _ x rfl)
  | exact zaf rfl
  | split)
def ziZ (P:Program) (op:BinOp) (t:TypeId):Bool:=!(op matches .eql | .neq) || eqOk P Op.maxDepth t
end
end Go.Con
namespace Go.Con
open Go
variable [Lone]
section
variable {P:Program} {mf:Md} {nc:Bool} {ρ:Rn} {K:Nat→Prop}
theorem zeB {op:BinOp} {t:TypeId} (h:ziZ P op t=true):(op=.eql∨op=.neq)→eqOk P Op.maxDepth t=true:=by
 intro hop
 simp only [ziZ,Bool.or_eq_true,Bool.not_eq_true'] at h
 rcases h with h' | h'
 ·rcases hop with rfl | rfl<;>cases h'
 ·exact h'
theorem zfG (R:RenOk P ρ) {t:TypeId} {x y:Value} (h:eqOk P Op.maxDepth t=true):SV P mf nc ρ K (do pure (.bool (← Op.equal t x y))) (do pure (.bool (← Op.equal t (ren ρ x) (ren ρ y)))) :=
 zad (ziJ R h) (by rintro _ b rfl;exact zaf rfl)
theorem zfK (R:RenOk P ρ) {t:TypeId} {x y:Value} (h:eqOk P Op.maxDepth t=true):SV P mf nc ρ K (do pure (.bool (!(← Op.equal t x y)))) (do pure (.bool (!(← Op.equal t (ren ρ x) (ren ρ y))))) :=
 zad (ziJ R h) (by rintro _ b rfl;exact zaf rfl)
def dull:Value→Bool
 | .int .. | .float .. | .complex .. | .string _ | .pointer _=>false
 | _=>true
theorem zm4 {op:BinOp} {t:TypeId} {x y:Value} (hx:dull x=true) (h1:op≠.eql) (h2:op≠.neq):Dead P (binOp op t x y):=by
 cases x<;>first | (cases hx;done) | (cases y<;>cases op<;>first | trivial | (exact (h1 rfl).elim) | (exact (h2 rfl).elim))
theorem ziH (R:RenOk P ρ) {op:BinOp} {t:TypeId} {x y:Value} (h:ziZ P op t=true) (hx:dull x=true):SV P mf nc ρ K (binOp op t x y) (binOp op t (ren ρ x) (ren ρ y)):=by
 have he:=zeB h
 by_cases h1:op=.eql
 ·subst h1
  cases x with
  | chan r =>
   have e:binOp .eql t (ren ρ (.chan r)) (ren ρ y)=(do pure (.bool (← Op.equal t (ren ρ (.chan r)) (ren ρ y)))):=by
    rcases zb2 ρ r with ⟨_,h⟩ | ⟨_,_,_,h⟩ | ⟨_,h⟩ | ⟨_,_,_,h,_⟩ | ⟨_,h⟩<;>rw [h]<;>rfl
   rw [e]
   exact zfG (x:=.chan r) R (he (.inl rfl))
  | func f a b =>
   have e:binOp .eql t (ren ρ (.func f a b)) (ren ρ y)=(do pure (.bool (← Op.equal t (ren ρ (.func f a b)) (ren ρ y)))):=by
    obtain⟨_,_,_,h⟩:=zaV ρ f a b
    rw [h];rfl
   rw [e]
   exact zfG (x:=.func f a b) R (he (.inl rfl))
  | _=>first | (cases hx;done) | exact zfG R (he (.inl rfl))
 by_cases h2:op=.neq
 ·subst h2
  cases x with
  | chan r =>
   have e:binOp .neq t (ren ρ (.chan r)) (ren ρ y)=(do pure (.bool (!(← Op.equal t (ren ρ (.chan r)) (ren ρ y))))):=by
    rcases zb2 ρ r with ⟨_,h⟩ | ⟨_,_,_,h⟩ | ⟨_,h⟩ | ⟨_,_,_,h,_⟩ | ⟨_,h⟩<;>rw [h]<;>rfl
   rw [e]
   exact zfK (x:=.chan r) R (he (.inr rfl))
  | func f a b =>
   have e:binOp .neq t (ren ρ (.func f a b)) (ren ρ y)=(do pure (.bool (!(← Op.equal t (ren ρ (.func f a b)) (ren ρ y))))):=by
    obtain⟨_,_,_,h⟩:=zaV ρ f a b
    rw [h];rfl
   rw [e]
   exact zfK (x:=.func f a b) R (he (.inr rfl))
  | _=>first | (cases hx;done) | exact zfK R (he (.inr rfl))
 exact .dead (zm4 hx h1 h2)
theorem zox {op:BinOp} {t:TypeId} {k:IntKind} {a:Int} {y:Value} (hy:dull y=true∨(∃ k b,y=.float k b)∨(∃ k b c,y=.complex k b c)∨∃ s,y=.string s) (h1:op≠.eql) (h2:op≠.neq):Dead P (binOp op t (.int k a) y):=by
 rcases hy with hy | ⟨_,_,rfl⟩ | ⟨_,_,_,rfl⟩ | ⟨_,rfl⟩
 ·cases y<;>first | (cases hy;done) | (cases op<;>first | trivial | (exact (h1 rfl).elim) | (exact (h2 rfl).elim))
 all_goals cases op<;>first | trivial | (exact (h1 rfl).elim) | (exact (h2 rfl).elim)
theorem zrf (op:BinOp):op=.eql∨op=.neq∨(op≠.eql∧op≠.neq):=by
 by_cases h1:op=.eql
 ·exact .inl h1
 ·by_cases h2:op=.neq
  ·exact .inr (.inl h2)
  ·exact .inr (.inr ⟨h1,h2⟩)
theorem zmx {op:BinOp} {t:TypeId} {k k' : IntKind} {a b:Int}:SV P mf nc ρ K (binOp op t (.int k a) (.int k' b)) (binOp op t (.int k a) (.int k' b)):=by
 unfold binOp
 cases op<;>first
  | exact zpi
  | (dsimp only;split<;>first | exact zah | exact zg7 | exact znY | exact zh2 | exact znX)
theorem zmy (R:RenOk P ρ) {op:BinOp} {t:TypeId} (h:ziZ P op t=true) {k:IntKind} {a:Int} {b:Option Addr}:SV P mf nc ρ K (binOp op t (.int k a) (.pointer b)) (binOp op t (.int k a) (ren ρ (.pointer b))):=by
 have he:=zeB h
 cases b with
 | none=>cases op<;>first | exact zfG (x:=.int k a) (y:=.pointer none) R (he (by simp)) | exact zfK (x:=.int k a) (y:=.pointer none) R (he (by simp)) | exact zcg (x:=.pointer none) (y:=.int k a) | exact zai | exact zah
 | some b=>cases op<;>first | exact zfG (x:=.int k a) (y:=.pointer (some b)) R (he (by simp)) | exact zfK (x:=.int k a) (y:=.pointer (some b)) R (he (by simp)) | exact zcg (x:=.pointer (some b)) (y:=.int k a) | exact zai | exact zah | exact zad za7 (by rintro ⟨a,l⟩ _ rfl;exact zh0)
theorem zmA (R:RenOk P ρ) {op:BinOp} {t:TypeId} (h:ziZ P op t=true) {k:IntKind} {b:Int} {a:Option Addr}:SV P mf nc ρ K (binOp op t (.pointer a) (.int k b)) (binOp op t (ren ρ (.pointer a)) (.int k b)):=by
 have he:=zeB h
 cases op with
 | eql=>exact zfG (x:=.pointer a) (y:=.int k b) R (he (by simp))
 | neq=>exact zfK (x:=.pointer a) (y:=.int k b) R (he (by simp))
 | add =>
  refine zad (zaw t).sr ?_
  rintro _ d rfl
  cases d<;>simp only [Bool.false_eq_true,if_false,if_true]<;>first | exact zg9 (x:=.pointer a) (y:=.int k b) | exact zcg (x:=.pointer a) (y:=.int k b)
 | sub=>exact zcg (x:=.pointer a) (y:=.int k (-b))
 | rem | and=>cases a<;>first | exact zai | exact zad za7 (by rintro ⟨a,l⟩ _ rfl;exact zh0)
 | _=>cases a<;>first | exact zai | exact zah
theorem zmB (R:RenOk P ρ) {op:BinOp} {t:TypeId} (h:ziZ P op t=true) {a b:Option Addr}:SV P mf nc ρ K (binOp op t (.pointer a) (.pointer b)) (binOp op t (ren ρ (.pointer a)) (ren ρ (.pointer b))):=by
 have he:=zeB h
 cases op with
 | eql=>exact zfG (x:=.pointer a) (y:=.pointer b) R (he (by simp))
 | neq=>exact zfK (x:=.pointer a) (y:=.pointer b) R (he (by simp))
 | sub | lss | leq | gtr | geq =>
  cases a with
  | none=>cases b<;>exact zai
  | some a =>
   cases b with
   | none=>exact zai
   | some b =>
    refine zad za7 ?_
    rintro ⟨a,l⟩ _ rfl
    refine zad za7 ?_
    rintro ⟨b,m⟩ _ rfl
    first | exact zmo R | exact zmn R
 | _=>cases a<;>cases b<;>exact zai
def nip:Value→Bool
 | .int .. | .pointer _=>false
 | _=>true
theorem zja {op:BinOp} {t:TypeId} {a:Option Addr} {y:Value} (hy:nip y=true) (h1:op≠.eql) (h2:op≠.neq):Dead P (binOp op t (.pointer a) y):=by
 cases y<;>first | (cases hy;done) | (cases a<;>cases op<;>first | trivial | (exact (h1 rfl).elim) | (exact (h2 rfl).elim))
theorem zoy {op:BinOp} {t:TypeId} {s:ByteArray} {y:Value} (hy:∀ s,y≠.string s) (h1:op≠.eql) (h2:op≠.neq):Dead P (binOp op t (.string s) y):=by
 cases y<;>first | (exact (hy _ rfl).elim) | (cases op<;>first | trivial | (exact (h1 rfl).elim) | (exact (h2 rfl).elim))
theorem zow {op:BinOp} {t:TypeId} {k:FloatKind} {a:Nat} {y:Value} (hy:∀ k s,y≠.float k s) (h1:op≠.eql) (h2:op≠.neq):Dead P (binOp op t (.float k a) y):=by
 cases y<;>first | (exact (hy _ _ rfl).elim) | (cases op<;>first | trivial | (exact (h1 rfl).elim) | (exact (h2 rfl).elim))
theorem zov {op:BinOp} {t:TypeId} {k:FloatKind} {a b:Nat} {y:Value} (hy:∀ k s r,y≠.complex k s r) (h1:op≠.eql) (h2:op≠.neq):Dead P (binOp op t (.complex k a b) y):=by
 cases y<;>first | (exact (hy _ _ _ rfl).elim) | (cases op<;>first | trivial | (exact (h1 rfl).elim) | (exact (h2 rfl).elim))
theorem zm5 {op:BinOp} {t:TypeId} {k:IntKind} {a:Int} {y:Value} (hy:nip y=true) (h1:op≠.eql) (h2:op≠.neq):Dead P (binOp op t (.int k a) y):=by
 refine zox ?_ h1 h2
 cases y<;>first | (cases hy;done) | exact .inl rfl | exact .inr (.inl ⟨_,_,rfl⟩) | exact .inr (.inr (.inl ⟨_,_,_,rfl⟩)) | exact .inr (.inr (.inr ⟨_,rfl⟩))
theorem zpT {op:BinOp} {t:TypeId} {k k' : FloatKind} {a b:Nat}:SV P mf nc ρ K (binOp op t (.float k a) (.float k' b)) (binOp op t (.float k a) (.float k' b)):=by
 unfold binOp
 cases op<;>(dsimp only;split<;>first | exact zah | exact ziL | exact zkO)
theorem zpN {op:BinOp} {t:TypeId} {k k' : FloatKind} {a b c d:Nat}:SV P mf nc ρ K (binOp op t (.complex k a b) (.complex k' c d)) (binOp op t (.complex k a b) (.complex k' c d)):=by
 unfold binOp
 cases op<;>(dsimp only;split<;>first | exact zah | exact zjM)
theorem zqe {op:BinOp} {t:TypeId} {a b:ByteArray}:SV P mf nc ρ K (binOp op t (.string a) (.string b)) (binOp op t (.string a) (.string b)):=by
 unfold binOp
 cases op<;>(dsimp only;exact zew)
theorem zk9 {t:TypeId} {x y:Value} (hx:(∀ k a,x≠.int k a)∨∀ k a,y≠.int k a) (hs:(∀ s,x≠.string s)∨∀ s,y≠.string s) (hf:(∀ k s,x≠.float k s)∨∀ k s,y≠.float k s) (hc:(∀ k s r,x≠.complex k s r)∨∀ k s r,y≠.complex k s r) :
  binOp .eql t x y=(do pure (.bool (← Op.equal t x y)))∧binOp .neq t x y=(do pure (.bool (!(← Op.equal t x y)))):=by
 cases x with
 | int k a=>cases y<;>first | exact⟨rfl,rfl⟩ | (rcases hx with h | h<;>exact (h _ _ rfl).elim)
 | string s=>cases y<;>first | exact⟨rfl,rfl⟩ | (rcases hs with h | h<;>exact (h _ rfl).elim)
 | float k s=>cases y<;>first | exact⟨rfl,rfl⟩ | (rcases hf with h | h<;>exact (h _ _ rfl).elim)
 | complex k s r=>cases y<;>first | exact⟨rfl,rfl⟩ | (rcases hc with h | h<;>exact (h _ _ _ rfl).elim)
 | _=>exact⟨rfl,rfl⟩
theorem zpc (R:RenOk P ρ) {op:BinOp} {t:TypeId} {x y:Value} (h:ziZ P op t=true):SV P mf nc ρ K (binOp op t x y) (binOp op t (ren ρ x) (ren ρ y)):=by
 have he:=zeB h
 have eqs:∀ {x y:Value},((∀ k a,x≠.int k a)∨∀ k a,y≠.int k a)→((∀ s,x≠.string s)∨∀ s,y≠.string s)→((∀ k s,x≠.float k s)∨∀ k s,y≠.float k s)→((∀ k s r,x≠.complex k s r)∨∀ k s r,y≠.complex k s r) →
   (op≠.eql→op≠.neq→Dead P (binOp op t x y))→SV P mf nc ρ K (binOp op t x y) (binOp op t (ren ρ x) (ren ρ y)):=by
  intro x y a1 a2 a3 a4 hd
  have b1:(∀ k a,ren ρ x≠.int k a)∨∀ k a,ren ρ y≠.int k a:=a1.imp (fun g k a e=>by cases x<;>first | exact (zbx ρ _).1 _ _ e | exact (zby ρ _ _ _).1 _ _ e | simp_all [ren]) (fun g k a e=>by cases y<;>first | exact (zbx ρ _).1 _ _ e | exact (zby ρ _ _ _).1 _ _ e | simp_all [ren])
  have b2:(∀ s,ren ρ x≠.string s)∨∀ s,ren ρ y≠.string s:=a2.imp (fun g s e=>by cases x<;>first | exact (zbx ρ _).2.1 _ e | exact (zby ρ _ _ _).2.1 _ e | simp_all [ren]) (fun g s e=>by cases y<;>first | exact (zbx ρ _).2.1 _ e | exact (zby ρ _ _ _).2.1 _ e | simp_all [ren])
  have b3:(∀ k s,ren ρ x≠.float k s)∨∀ k s,ren ρ y≠.float k s:=a3.imp (fun g k a e=>by cases x<;>first | exact (zbx ρ _).2.2.1 _ _ e | exact (zby ρ _ _ _).2.2.1 _ _ e | simp_all [ren]) (fun g k a e=>by cases y<;>first | exact (zbx ρ _).2.2.1 _ _ e | exact (zby ρ _ _ _).2.2.1 _ _ e | simp_all [ren])
  have b4:(∀ k s r,ren ρ x≠.complex k s r)∨∀ k s r,ren ρ y≠.complex k s r:=a4.imp (fun g k a c e=>by cases x<;>first | exact (zbx ρ _).2.2.2 _ _ _ e | exact (zby ρ _ _ _).2.2.2 _ _ _ e | simp_all [ren]) (fun g k a c e=>by cases y<;>first | exact (zbx ρ _).2.2.2 _ _ _ e | exact (zby ρ _ _ _).2.2.2 _ _ _ e | simp_all [ren])
  rcases zrf op with rfl | rfl | ⟨h1,h2⟩
  ·rw [(zk9 a1 a2 a3 a4).1,(zk9 b1 b2 b3 b4).1];exact zfG R (he (.inl rfl))
  ·rw [(zk9 a1 a2 a3 a4).2,(zk9 b1 b2 b3 b4).2];exact zfK R (he (.inr rfl))
  ·exact .dead (hd h1 h2)
 cases x with
 | int k a =>
  cases hy:nip y with
  | true=>refine eqs (.inr ?_) (.inl ?_) (.inl ?_) (.inl ?_) (fun h1 h2=>zm5 hy h1 h2)<;>first | (intros;simp;done) | (intro k a e;subst e;cases hy)
  | false=>cases y<;>first | (cases hy;done) | exact zmx | exact zmy R h
 | pointer a =>
  cases hy:nip y with
  | true=>refine eqs (.inl ?_) (.inl ?_) (.inl ?_) (.inl ?_) (fun h1 h2=>zja hy h1 h2)<;>(intros;simp)
  | false=>cases y<;>first | (cases hy;done) | exact zmA R h | exact zmB R h
 | float k a =>
  by_cases hy:∀ k s,y≠.float k s
  ·refine eqs (.inl ?_) (.inl ?_) (.inr hy) (.inl ?_) (fun h1 h2=>zow hy h1 h2)<;>(intros;simp)
  ·cases y<;>first | exact zpT | (exact (hy (by intros;simp)).elim)
 | complex k a b =>
  by_cases hy:∀ k s r,y≠.complex k s r
  ·refine eqs (.inl ?_) (.inl ?_) (.inl ?_) (.inr hy) (fun h1 h2=>zov hy h1 h2)<;>(intros;simp)
  ·cases y<;>first | exact zpN | (exact (hy (by intros;simp)).elim)
 | string s =>
  by_cases hy:∀ s,y≠.string s
  ·refine eqs (.inl ?_) (.inr hy) (.inl ?_) (.inl ?_) (fun h1 h2=>zoy hy h1 h2)<;>(intros;simp)
  ·cases y<;>first | exact zqe | (exact (hy (by intros;simp)).elim)
 | _=>exact ziH R h rfl
end
end Go.Con
