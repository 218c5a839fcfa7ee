import Derived.Test.YtedomogjmhommaaC23
set_option linter.all false
set_option maxRecDepth 100000
set_option maxHeartbeats 8000000
namespace Go.Con
open Go
variable [Lone]
section
variable {P:Program} {mf:Md} {nc:Bool} {ρ:Rn} {K:Nat→Prop}
theorem sr_movedNumber {t:TypeId} {x y:Value}:SV P mf nc ρ K (movedNumber t x y) (movedNumber t (ren ρ x) (ren ρ y)):=by
 unfold movedNumber
 refine sr_bind (info_underlying t).sr ?_
 rintro _ d rfl
 cases d with
 | unsafePointer=>exact .dead trivial
 | _ =>
  simp only [Bool.false_eq_true,if_false]
  cases x with
  | pointer a =>
   cases a with
   | none =>
    exact sr_unsafeAdd (x:=.pointer none)
   | some n =>
    refine sr_bind sr_behindNumber ?_
    rintro ⟨a,l⟩ _ rfl
    refine sr_bind (sr_unsafeAddP (x:=.pointer (some a))) ?_
    rintro _ _ ⟨rfl,b,rfl⟩
    cases b with
    | none=>exact sr_pure rfl
    | some b=>exact sr_asNumber
  | chan r=>exact sr_stuck
  | func f a b=>exact sr_stuck
  | _=>exact sr_unsafeAdd
theorem sr_movedPointer {t:TypeId} {x y:Value}:SV P mf nc ρ K (movedPointer t x y) (movedPointer t (ren ρ x) (ren ρ y)):=by
 unfold movedPointer
 cases x<;>first | exact sr_unsafeAdd | exact sr_stuck | skip
 rename_i a
 cases a with
 | none=>exact sr_unsafeAdd (x:=.pointer none)
 | some a =>
  refine sr_bind sr_numberAt ?_
  rintro o _ rfl
  cases o with
  | none =>
   show SV P mf nc ρ K (Builtin.unsafeAdd_ #[] t #[.pointer (some a),y]) (Builtin.unsafeAdd_ #[] t #[ren ρ (.pointer (some a)),ren ρ y])
   exact sr_unsafeAdd
  | some o=>exact .dead trivial
theorem sr_twoPlaces (R:RenOk P ρ) {a b:Addr}:SI P mf nc ρ K (Op.twoPlaces a b) (Op.twoPlaces (renAddr ρ a) (renAddr ρ b)):=by
 unfold Op.twoPlaces
 refine sr_bind sr_program ?_
 rintro _ Q ⟨rfl,hQ⟩
 subst hQ
 have e1:((renAddr ρ a).block != (renAddr ρ b).block)=(a.block != b.block):=by
  show (ρ.p a.block != ρ.p b.block)=_
  rw [Bool.eq_iff_iff]
  simp only [bne_iff_ne]
  exact⟨fun h e=>h (by rw [e]),fun h e=>h (R.inj _ _ e)⟩
 have e2:decide ((renAddr ρ a).block≥Q.globals.size)=decide (a.block≥Q.globals.size):=by
  have:=R.lt a.block
  rw [decide_eq_decide]
  show ρ.p a.block≥_↔_
  omega
 rw [e1,e2]
 split
 ·exact .dead trivial
 ·refine sr_bind sr_byteOf ?_
  rintro _ x rfl
  refine sr_bind sr_byteOf ?_
  rintro _ y rfl
  exact sr_pure rfl
theorem sr_addrSub (R:RenOk P ρ) {k:IntKind} {a b:Addr}:SV P mf nc ρ K (Op.addrSub k a b) (Op.addrSub k (renAddr ρ a) (renAddr ρ b)):=by
 unfold Op.addrSub
 exact sr_bind (sr_twoPlaces R) (by rintro _ x rfl;exact sr_pure rfl)
theorem sr_addrCmp (R:RenOk P ρ) {op:BinOp} {a b:Addr}:SV P mf nc ρ K (Op.addrCmp op a b) (Op.addrCmp op (renAddr ρ a) (renAddr ρ b)):=by
 unfold Op.addrCmp
 exact sr_bind (sr_twoPlaces R) (by rintro _ x rfl;cases op<;>first | exact sr_pure rfl | exact sr_unsupported)
theorem sr_addrMod {k:IntKind} {a:Addr} {n:Int}:SV P mf nc ρ K (Op.addrMod k a n) (Op.addrMod k (renAddr ρ a) n):=by
 unfold Op.addrMod
 refine sr_bind sr_shape ?_
 rintro _ s rfl
 cases s with
 | none=>exact sr_unsupported
 | some s =>
  refine sr_bind (info_typeInfo _).sr ?_
  rintro _ i rfl
  dsimp only
  split
  ·exact .dead trivial
  ·exact sr_bind sr_byteOf (by rintro _ x rfl;exact sr_pure rfl)
def eqOk (P:Program):Nat→TypeId→Bool
 | 0,_=>true
 | d+1,t=>match P.underlying t with
  | some (.pointer _) | some .unsafePointer | some (.interface _) | some (.array ..) | some (.chan ..)=>false
  | some (.struct fs)=>fs.toList.all fun f=>eqOk P d f.type
  | _=>true
theorem underlying_at (t:TypeId):SR P mf nc ρ (fun a b=>b=a∧P.underlying t=some a) K (underlying t) (underlying t):=by
 unfold underlying
 refine .program ?_
 show SR _ _ _ _ _ _ (match P.underlying t with | some d=>pure d | none=>stuck "no such type") (match P.underlying t with | some d=>pure d | none=>stuck "no such type")
 cases P.underlying t with
 | none=>exact sr_stuck
 | some i=>exact sr_pure ⟨rfl,rfl⟩
theorem sr_forIn_list {α β:Type} {f f' : α→β→Sem (ForInStep β)}:∀ {l:List α} {b:β},(∀ x∈l,∀ b,SI P mf nc ρ K (f x b) (f' x b))→SI P mf nc ρ K (forIn l b f) (forIn l b f')
 | [],b,_=>sr_pure rfl
 | a :: l,b,h=>by
  rw [List.forIn_cons,List.forIn_cons]
  refine sr_bind (h a (by simp) b) ?_
  rintro _ s rfl
  cases s with
  | done b=>exact sr_pure rfl
  | yield b=>exact sr_forIn_list fun x hx=>h x (by simp [hx])
theorem sr_equalIn (R:RenOk P ρ) (d:Nat):∀ (t:TypeId) (x y:Value),eqOk P d t=true→SI P mf nc ρ K (Op.equalIn d t x y) (Op.equalIn d t (ren ρ x) (ren ρ y)):=by
 induction d with
 | zero=>exact fun _ _ _ _=>sr_unsupported
 | succ d ih =>
  intro t x y h
  unfold Op.equalIn
  refine sr_bind (underlying_at t) ?_
  rintro _ u ⟨rfl,hu⟩
  simp only [eqOk,hu] at h
  cases u with
  | bool =>
   cases x with
   | bool a=>cases y<;>first | exact sr_pure rfl | exact sr_stuck
   | _=>exact sr_stuck
  | int k =>
   cases x with
   | int k a =>
    cases y with
    | int k' b =>
     dsimp only [ren]
     split
     ·exact sr_pure rfl
     ·exact sr_stuck
    | pointer b =>
     cases b with
     | none=>exact sr_unsupported
     | some b=>rcases a with (_ | a) | a<;>first | exact sr_pure rfl | exact sr_unsupported
    | _=>exact sr_stuck
   | pointer a =>
    cases a with
    | none=>cases y<;>exact sr_unsupported
    | some a =>
     cases y with
     | int k b=>rcases b with (_ | b) | b<;>first | exact sr_pure rfl | exact sr_unsupported
     | pointer b =>
      cases b with
      | none=>exact sr_unsupported
      | some b =>
       refine sr_bind sr_behindNumber ?_
       rintro ⟨a,l⟩ _ rfl
       refine sr_bind sr_behindNumber ?_
       rintro ⟨b,m⟩ _ rfl
       refine sr_bind sr_program ?_
       rintro _ Q ⟨rfl,hQ⟩
       subst hQ
       have e1:((renAddr ρ a).block == (renAddr ρ b).block)=(a.block == b.block):=by
        show (ρ.p a.block == ρ.p b.block)=_
        rw [Bool.eq_iff_iff]
        simp only [beq_iff_eq]
        exact⟨fun e=>R.inj _ _ e,fun e=>by rw [e]⟩
       have e2:decide ((renAddr ρ a).block<Q.globals.size)=decide (a.block<Q.globals.size):=by
        rw [decide_eq_decide];exact R.lt _
       have e3:(renAddr ρ a == renAddr ρ b)=(a == b):=by
        rw [Bool.eq_iff_iff]
        simp only [beq_iff_eq]
        refine⟨fun e=>?_,fun e=>by rw [e]⟩
        obtain⟨a1,a2,a3⟩:=a
        obtain⟨b1,b2,b3⟩:=b
        simp only [renAddr,Addr.mk.injEq] at e ⊢
        exact⟨R.inj _ _ e.1,e.2⟩
       dsimp only
       rw [e1,e2]
       split
       ·refine sr_bind sr_byteOf ?_
        rintro _ x rfl
        refine sr_bind sr_byteOf ?_
        rintro _ y rfl
        exact sr_pure rfl
       ·refine sr_bind (info_typeInfo _).sr ?_
        rintro _ i rfl
        split
        ·rw [e3]
         split
         ·exact sr_pure rfl
         ·exact sr_unsupported
        ·exact sr_unsupported
     | _=>exact sr_unsupported
   | _=>cases y<;>first | exact sr_stuck | exact sr_unsupported
  | string =>
   cases x with
   | string a=>cases y<;>first | exact sr_pure rfl | exact sr_stuck
   | _=>exact sr_stuck
  | slice e =>
   cases x with
   | slice a n c =>
    cases y with
    | slice b m q=>cases a<;>cases b<;>first | exact sr_pure rfl | exact sr_stuck
    | _=>cases a<;>exact sr_stuck
   | _=>exact sr_stuck
  | map k e =>
   cases x with
   | map a =>
    cases y with
    | map b=>cases a<;>cases b<;>first | exact sr_pure rfl | exact sr_stuck
    | _=>cases a<;>exact sr_stuck
   | _=>exact sr_stuck
  | func a b c =>
   cases x with
   | func f a' b' =>
    obtain⟨_,_,_,h1⟩:=ren_func ρ f a' b'
    rw [h1]
    cases y with
    | func f' a'' b''=>obtain⟨_,_,_,h2⟩:=ren_func ρ f' a'' b'';rw [h2];first | exact sr_pure rfl | exact sr_stuck
    | _=>first | exact sr_pure rfl | exact sr_stuck
   | nilFunc =>
    cases y with
    | func f' a'' b''=>obtain⟨_,_,_,h2⟩:=ren_func ρ f' a'' b'';rw [h2];first | exact sr_pure rfl | exact sr_stuck
    | _=>first | exact sr_pure rfl | exact sr_stuck
   | _=>exact sr_stuck
  | struct fs =>
   cases x with
   | agg xs =>
    cases y with
    | agg ys =>
     refine sr_bind sr_program ?_
     rintro _ Q ⟨rfl,hQ⟩
     subst hQ
     dsimp only [ren]
     rw [renA_eq,renA_eq]
     split
     ·exact .dead trivial
     ·refine sr_bind (r:=fun a b=>b=a) ?_ ?_
      ·rw [← Array.forIn_toList,← Array.forIn_toList]
       refine sr_forIn_list fun f hf b=>?_
       have hfo:=List.all_eq_true.1 h f hf
       split
       ·refine sr_bind sr_part ?_
        rintro v _ rfl
        refine sr_bind sr_part ?_
        rintro v' _ rfl
        refine sr_bind (ih f.type v v' hfo) ?_
        rintro _ b rfl
        split<;>exact sr_pure rfl
       ·exact sr_pure rfl
      ·rintro _ r rfl
       obtain⟨r,_⟩:=r
       cases r<;>exact sr_pure rfl
    | _=>exact sr_stuck
   | _=>exact sr_stuck
  | float k =>
   cases x with
   | float k a =>
    cases y with
    | float k' b =>
     dsimp only [ren]
     split
     ·exact sr_pure rfl
     ·exact sr_stuck
    | _=>exact sr_stuck
   | _=>exact sr_stuck
  | complex k =>
   cases x with
   | complex k a c =>
    cases y with
    | complex k' b e =>
     dsimp only [ren]
     split
     ·exact sr_pure rfl
     ·exact sr_stuck
    | _=>exact sr_stuck
   | _=>exact sr_stuck
  | _=>first | (cases h;done) | exact sr_stuck
theorem sr_equal (R:RenOk P ρ) {t:TypeId} {x y:Value} (h:eqOk P Op.maxDepth t=true):SI P mf nc ρ K (Op.equal t x y) (Op.equal t (ren ρ x) (ren ρ y)):=sr_equalIn R _ _ _ _ h
theorem sr_eqGuardIn (d:Nat):∀ (t:TypeId) (x y:Value),eqOk P d t=true→SI P mf nc ρ K (Op.eqGuardIn d t x y) (Op.eqGuardIn d t (ren ρ x) (ren ρ y)):=by
 induction d with
 | zero=>exact fun _ _ _ _=>sr_unsupported
 | succ d ih =>
  intro t x y h
  unfold Op.eqGuardIn
  refine sr_bind (underlying_at t) ?_
  rintro _ u ⟨rfl,hu⟩
  simp only [eqOk,hu] at h
  cases u with
  | interface _=>cases h
  | array=>cases h
  | struct fs =>
   cases x with
   | agg xs =>
    cases y with
    | agg ys =>
     dsimp only [ren]
     rw [renA_eq,renA_eq]
     refine sr_bind (r:=fun a b=>b=a) ?_ ?_
     ·rw [← Array.forIn_toList,← Array.forIn_toList]
      refine sr_forIn_list fun f hf b=>?_
      have hfo:=List.all_eq_true.1 h f hf
      split
      ·refine sr_bind sr_part ?_
       rintro v _ rfl
       refine sr_bind sr_part ?_
       rintro v' _ rfl
       refine sr_bind (ih f.type v v' hfo) ?_
       rintro _ b rfl
       split<;>exact sr_pure rfl
      ·exact sr_pure rfl
     ·rintro _ r rfl
      obtain⟨r,_⟩:=r
      cases r<;>exact sr_pure rfl
    | chan r=>rcases ren_chan ρ r with ⟨_,h⟩ | ⟨_,_,_,h⟩ | ⟨_,h⟩ | ⟨_,_,_,h,_⟩ | ⟨_,h⟩<;>rw [h]<;>exact sr_pure rfl
    | func f a b=>obtain⟨_,_,_,h⟩:=ren_func ρ f a b;rw [h];exact sr_pure rfl
    | _=>exact sr_pure rfl
   | chan r=>rcases ren_chan ρ r with ⟨_,h⟩ | ⟨_,_,_,h⟩ | ⟨_,h⟩ | ⟨_,_,_,h,_⟩ | ⟨_,h⟩<;>rw [h]<;>exact sr_pure rfl
   | func f a b=>obtain⟨_,_,_,h⟩:=ren_func ρ f a b;rw [h];exact sr_pure rfl
   | _=>exact sr_pure rfl
  | _=>exact sr_pure rfl
theorem sr_eqGuard {op:BinOp} {t:TypeId} {x y:Operand} {a b:Value} (h:(op=.eql∨op=.neq)→eqOk P Op.maxDepth t=true):SI P mf nc ρ K (eqGuard op t x y a b) (eqGuard op t x y (ren ρ a) (ren ρ b)):=by
 unfold eqGuard
 cases op with
 | eql | neq =>
  have ho:=h (by simp)
  cases a with
  | nilIface =>
   cases b with
   | nilIface =>
    cases x<;>cases y<;>first
     | exact sr_pure rfl
     | (refine sr_bind (sr_eqGuardIn _ t .nilIface .nilIface ho) ?_
        rintro _ c rfl
        cases c
        ·exact sr_pure rfl
        ·exact sr_unsupported)
   | chan r=>rcases ren_chan ρ r with ⟨_,h⟩ | ⟨_,_,_,h⟩ | ⟨_,h⟩ | ⟨_,_,_,h,_⟩ | ⟨_,h⟩<;>rw [h]<;>exact sr_pure rfl
   | func f a b=>obtain⟨_,_,_,h⟩:=ren_func ρ f a b;rw [h];exact sr_pure rfl
   | _=>exact sr_pure rfl
  | agg xs =>
   cases b with
   | agg ys =>
    refine sr_bind sr_program ?_
    rintro _ Q ⟨rfl,hQ⟩
    subst hQ
    refine sr_bind sr_program ?_
    rintro _ Q' ⟨rfl,hQ⟩
    subst hQ
    split
    ·exact sr_pure rfl
    ·refine sr_bind (sr_eqGuardIn _ t (.agg xs) (.agg ys) ho) ?_
     rintro _ c rfl
     split
     ·exact sr_unsupported
     ·exact sr_pure rfl
   | chan r=>rcases ren_chan ρ r with ⟨_,h⟩ | ⟨_,_,_,h⟩ | ⟨_,h⟩ | ⟨_,_,_,h,_⟩ | ⟨_,h⟩<;>rw [h]<;>exact sr_pure rfl
   | func f a b=>obtain⟨_,_,_,h⟩:=ren_func ρ f a b;rw [h];exact sr_pure rfl
   | _=>exact sr_pure rfl
  | chan r=>rcases ren_chan ρ r with ⟨_,h⟩ | ⟨_,_,_,h⟩ | ⟨_,h⟩ | ⟨_,_,_,h,_⟩ | ⟨_,h⟩<;>rw [h]<;>exact sr_pure rfl
  | func f a b=>obtain⟨_,_,_,h⟩:=ren_func ρ f a b;rw [h];exact sr_pure rfl
  | _=>exact sr_pure rfl
 | _=>exact sr_pure rfl
end
end Go.Con
namespace Go.Con
open Go
variable [Lone]
section
variable {P:Program} {mf:Md} {nc:Bool} {ρ:Rn} {K:Nat→Prop}
theorem sr_intArith {op:BinOp} {k:IntKind} {a b:Int}:SV P mf nc ρ K (Op.intArith op k a b) (Op.intArith op k a b):=by
 unfold Op.intArith;cases op<;>first | exact sr_pure rfl | exact sr_stuck
theorem sr_intDiv {op:BinOp} {k:IntKind} {a b:Int}:SV P mf nc ρ K (Op.intDiv op k a b) (Op.intDiv op k a b):=by
 unfold Op.intDiv;split
 ·exact sr_runtimePanic
 ·cases op<;>first | exact sr_pure rfl | exact sr_stuck
theorem sr_intBits {op:BinOp} {k:IntKind} {a b:Int}:SV P mf nc ρ K (Op.intBits op k a b) (Op.intBits op k a b):=by
 unfold Op.intBits;cases op<;>first | exact sr_pure rfl | exact sr_stuck
theorem sr_intCmp {op:BinOp} {a b:Int}:SV P mf nc ρ K (Op.intCmp op a b) (Op.intCmp op a b):=by
 unfold Op.intCmp;cases op<;>first | exact sr_pure rfl | exact sr_stuck
theorem sr_shift {op:BinOp} {k k' : IntKind} {a b:Int}:SV P mf nc ρ K (Op.shift op k a k' b) (Op.shift op k a k' b):=by
 unfold Op.shift;split
 ·exact sr_runtimePanic
 ·cases op<;>first | exact sr_pure rfl | exact sr_stuck
theorem sr_stringOp {op:BinOp} {a b:ByteArray}:SV P mf nc ρ K (Op.stringOp op a b) (Op.stringOp op a b):=by
 unfold Op.stringOp
 cases op<;>first | exact sr_pure rfl | exact sr_stuck | (dsimp only;split<;>first | exact sr_unsupported | exact sr_pure rfl)
theorem info_floatArith (op:BinOp) (k:FloatKind) (x y:Nat):Info P (Op.floatArith op k x y):=by
 unfold Op.floatArith
 dsimp only
 cases op
 all_goals refine Info.bind (by first | exact info_pure _ | exact info_stuck _) fun r=>?_
 all_goals cases r<;>first | exact info_pure _ | exact (info_choose _).bind fun _=>info_pure _
theorem sr_floatArith {op:BinOp} {k:FloatKind} {x y:Nat}:SV P mf nc ρ K (Op.floatArith op k x y) (Op.floatArith op k x y):=by
 unfold Op.floatArith
 dsimp only
 cases op
 all_goals refine sr_bind (Info.sr (by first | exact info_pure _ | exact info_stuck _)) ?_
 all_goals
  rintro _ r rfl
  cases r<;>first | exact sr_pure rfl | exact sr_bind (info_choose _).sr (by rintro _ n rfl;exact sr_pure rfl)
theorem sr_floatCmp {op:BinOp} {k:FloatKind} {x y:Nat}:SV P mf nc ρ K (Op.floatCmp op k x y) (Op.floatCmp op k x y):=by
 unfold Op.floatCmp
 cases op<;>first | exact sr_pure rfl | exact sr_stuck
theorem info_arith (op:BinOp) (k:FloatKind) (x y:Nat):Info P (Op.Complex.arith op k x y):=by
 unfold Op.Complex.arith
 refine (info_floatArith _ _ _ _).bind fun v=>?_
 cases v<;>first | exact info_pure _ | exact info_stuck _
theorem info_cmp (op:BinOp) (k:FloatKind) (x y:Nat):Info P (Op.Complex.cmp op k x y):=by
 unfold Op.Complex.cmp
 refine Info.bind ?_ fun v=>?_
 ·unfold Op.floatCmp;cases op<;>first | exact info_pure _ | exact info_stuck _
 ·unfold asBool;cases v<;>first | exact info_pure _ | exact info_stuck _
theorem info_conv (s:FloatKind) (x:Nat) (d:FloatKind):Info P (Op.Complex.conv s x d):=by
 unfold Op.Complex.conv
 split
 ·exact info_pure _
 ·refine Info.bind ?_ fun v=>?_
  ·unfold Conv.floatToFloat
   dsimp only
   repeat' (first | exact info_pure _ | exact (info_choose _).bind fun _=>info_pure _ | split)
  ·cases v<;>first | exact info_pure _ | exact info_stuck _
theorem info_product (a b c d:Nat):Info P (Op.Complex.product a b c d):=by
 unfold Op.Complex.product Op.Complex.mul Op.Complex.add Op.Complex.sub
 repeat' (first | exact info_pure _ | refine (info_arith _ _ _ _).bind fun _=>?_)
theorem info_corrected (s a b c d:Nat):Info P (Op.Complex.corrected s a b c d):=by
 unfold Op.Complex.corrected Op.Complex.mul Op.Complex.add Op.Complex.sub
 repeat' (first | exact info_pure _ | refine (info_arith _ _ _ _).bind fun _=>?_)
theorem info_quotient (a b c d:Nat):Info P (Op.Complex.quotient a b c d):=by
 unfold Op.Complex.quotient Op.Complex.mul Op.Complex.add Op.Complex.sub Op.Complex.quo
 dsimp only
 refine (info_cmp _ _ _ _).bind fun _=>?_
 split
 all_goals repeat' (first | (with_reducible exact info_pure _) | (with_reducible exact info_corrected _ _ _ _ _) | (with_reducible refine Info.bind (info_arith _ _ _ _) fun _=>?_) | (with_reducible refine Info.bind (info_cmp _ _ _ _) fun _=>?_) | (with_reducible refine Info.bind (info_pure _) fun _=>?_) | split)
theorem sr_complexOp {op:BinOp} {k:FloatKind} {a b c d:Nat}:SV P mf nc ρ K (Op.complexOp op k a b c d) (Op.complexOp op k a b c d):=by
 unfold Op.complexOp
 cases op<;>try exact sr_stuck
 all_goals dsimp only
 all_goals repeat' (first
  | (with_reducible exact sr_pure rfl)
  | (with_reducible refine sr_bind (info_arith _ _ _ _).sr ?_;rintro _ x rfl)
  | (with_reducible refine sr_bind (info_cmp _ _ _ _).sr ?_;rintro _ x rfl)
  | (with_reducible refine sr_bind (info_conv _ _ _).sr ?_;rintro _ x rfl)
  | (with_reducible refine sr_bind (info_product _ _ _ _).sr ?_;rintro _ x rfl)
  | (with_reducible refine sr_bind (info_quotient _ _ _ _).sr ?_;rintro _ x rfl)
  | exact sr_pure rfl
  | split)
def binOk (P:Program) (op:BinOp) (t:TypeId):Bool:=!(op matches .eql | .neq) || eqOk P Op.maxDepth t
end
end Go.Con
namespace Go.Con
open Go
variable [Lone]
section
variable {P:Program} {mf:Md} {nc:Bool} {ρ:Rn} {K:Nat→Prop}
theorem binOk_eq {op:BinOp} {t:TypeId} (h:binOk P op t=true):(op=.eql∨op=.neq)→eqOk P Op.maxDepth t=true:=by
 intro hop
 simp only [binOk,Bool.or_eq_true,Bool.not_eq_true'] at h
 rcases h with h' | h'
 ·rcases hop with rfl | rfl<;>cases h'
 ·exact h'
theorem sr_eql (R:RenOk P ρ) {t:TypeId} {x y:Value} (h:eqOk P Op.maxDepth t=true):SV P mf nc ρ K (do pure (.bool (← Op.equal t x y))) (do pure (.bool (← Op.equal t (ren ρ x) (ren ρ y)))) :=
 sr_bind (sr_equal R h) (by rintro _ b rfl;exact sr_pure rfl)
theorem sr_neq (R:RenOk P ρ) {t:TypeId} {x y:Value} (h:eqOk P Op.maxDepth t=true):SV P mf nc ρ K (do pure (.bool (!(← Op.equal t x y)))) (do pure (.bool (!(← Op.equal t (ren ρ x) (ren ρ y))))) :=
 sr_bind (sr_equal R h) (by rintro _ b rfl;exact sr_pure rfl)
def dull:Value→Bool
 | .int .. | .float .. | .complex .. | .string _ | .pointer _=>false
 | _=>true
theorem dead_dull {op:BinOp} {t:TypeId} {x y:Value} (hx:dull x=true) (h1:op≠.eql) (h2:op≠.neq):Dead P (binOp op t x y):=by
 cases x<;>first | (cases hx;done) | (cases y<;>cases op<;>first | trivial | (exact (h1 rfl).elim) | (exact (h2 rfl).elim))
theorem sr_binOp_dull (R:RenOk P ρ) {op:BinOp} {t:TypeId} {x y:Value} (h:binOk P op t=true) (hx:dull x=true):SV P mf nc ρ K (binOp op t x y) (binOp op t (ren ρ x) (ren ρ y)):=by
 have he:=binOk_eq h
 by_cases h1:op=.eql
 ·subst h1
  cases x with
  | chan r =>
   have e:binOp .eql t (ren ρ (.chan r)) (ren ρ y)=(do pure (.bool (← Op.equal t (ren ρ (.chan r)) (ren ρ y)))):=by
    rcases ren_chan ρ r with ⟨_,h⟩ | ⟨_,_,_,h⟩ | ⟨_,h⟩ | ⟨_,_,_,h,_⟩ | ⟨_,h⟩<;>rw [h]<;>rfl
   rw [e]
   exact sr_eql (x:=.chan r) R (he (.inl rfl))
  | func f a b =>
   have e:binOp .eql t (ren ρ (.func f a b)) (ren ρ y)=(do pure (.bool (← Op.equal t (ren ρ (.func f a b)) (ren ρ y)))):=by
    obtain⟨_,_,_,h⟩:=ren_func ρ f a b
    rw [h];rfl
   rw [e]
   exact sr_eql (x:=.func f a b) R (he (.inl rfl))
  | _=>first | (cases hx;done) | exact sr_eql R (he (.inl rfl))
 by_cases h2:op=.neq
 ·subst h2
  cases x with
  | chan r =>
   have e:binOp .neq t (ren ρ (.chan r)) (ren ρ y)=(do pure (.bool (!(← Op.equal t (ren ρ (.chan r)) (ren ρ y))))):=by
    rcases ren_chan ρ r with ⟨_,h⟩ | ⟨_,_,_,h⟩ | ⟨_,h⟩ | ⟨_,_,_,h,_⟩ | ⟨_,h⟩<;>rw [h]<;>rfl
   rw [e]
   exact sr_neq (x:=.chan r) R (he (.inr rfl))
  | func f a b =>
   have e:binOp .neq t (ren ρ (.func f a b)) (ren ρ y)=(do pure (.bool (!(← Op.equal t (ren ρ (.func f a b)) (ren ρ y))))):=by
    obtain⟨_,_,_,h⟩:=ren_func ρ f a b
    rw [h];rfl
   rw [e]
   exact sr_neq (x:=.func f a b) R (he (.inr rfl))
  | _=>first | (cases hx;done) | exact sr_neq R (he (.inr rfl))
 exact .dead (dead_dull hx h1 h2)
theorem dead_int {op:BinOp} {t:TypeId} {k:IntKind} {a:Int} {y:Value} (hy:dull y=true∨(∃ k b,y=.float k b)∨(∃ k b c,y=.complex k b c)∨∃ s,y=.string s) (h1:op≠.eql) (h2:op≠.neq):Dead P (binOp op t (.int k a) y):=by
 rcases hy with hy | ⟨_,_,rfl⟩ | ⟨_,_,_,rfl⟩ | ⟨_,rfl⟩
 ·cases y<;>first | (cases hy;done) | (cases op<;>first | trivial | (exact (h1 rfl).elim) | (exact (h2 rfl).elim))
 all_goals cases op<;>first | trivial | (exact (h1 rfl).elim) | (exact (h2 rfl).elim)
theorem eq_or (op:BinOp):op=.eql∨op=.neq∨(op≠.eql∧op≠.neq):=by
 by_cases h1:op=.eql
 ·exact .inl h1
 ·by_cases h2:op=.neq
  ·exact .inr (.inl h2)
  ·exact .inr (.inr ⟨h1,h2⟩)
theorem sr_int_int {op:BinOp} {t:TypeId} {k k' : IntKind} {a b:Int}:SV P mf nc ρ K (binOp op t (.int k a) (.int k' b)) (binOp op t (.int k a) (.int k' b)):=by
 unfold binOp
 cases op<;>first
  | exact sr_shift
  | (dsimp only;split<;>first | exact sr_stuck | exact sr_intArith | exact sr_intDiv | exact sr_intBits | exact sr_intCmp)
theorem sr_int_ptr (R:RenOk P ρ) {op:BinOp} {t:TypeId} (h:binOk P op t=true) {k:IntKind} {a:Int} {b:Option Addr}:SV P mf nc ρ K (binOp op t (.int k a) (.pointer b)) (binOp op t (.int k a) (ren ρ (.pointer b))):=by
 have he:=binOk_eq h
 cases b with
 | none=>cases op<;>first | exact sr_eql (x:=.int k a) (y:=.pointer none) R (he (by simp)) | exact sr_neq (x:=.int k a) (y:=.pointer none) R (he (by simp)) | exact sr_movedNumber (x:=.pointer none) (y:=.int k a) | exact sr_unsupported | exact sr_stuck
 | some b=>cases op<;>first | exact sr_eql (x:=.int k a) (y:=.pointer (some b)) R (he (by simp)) | exact sr_neq (x:=.int k a) (y:=.pointer (some b)) R (he (by simp)) | exact sr_movedNumber (x:=.pointer (some b)) (y:=.int k a) | exact sr_unsupported | exact sr_stuck | exact sr_bind sr_behindNumber (by rintro ⟨a,l⟩ _ rfl;exact sr_addrMod)
theorem sr_ptr_int (R:RenOk P ρ) {op:BinOp} {t:TypeId} (h:binOk P op t=true) {k:IntKind} {b:Int} {a:Option Addr}:SV P mf nc ρ K (binOp op t (.pointer a) (.int k b)) (binOp op t (ren ρ (.pointer a)) (.int k b)):=by
 have he:=binOk_eq h
 cases op with
 | eql=>exact sr_eql (x:=.pointer a) (y:=.int k b) R (he (by simp))
 | neq=>exact sr_neq (x:=.pointer a) (y:=.int k b) R (he (by simp))
 | add =>
  refine sr_bind (info_underlying t).sr ?_
  rintro _ d rfl
  cases d<;>simp only [Bool.false_eq_true,if_false,if_true]<;>first | exact sr_movedPointer (x:=.pointer a) (y:=.int k b) | exact sr_movedNumber (x:=.pointer a) (y:=.int k b)
 | sub=>exact sr_movedNumber (x:=.pointer a) (y:=.int k (-b))
 | rem | and=>cases a<;>first | exact sr_unsupported | exact sr_bind sr_behindNumber (by rintro ⟨a,l⟩ _ rfl;exact sr_addrMod)
 | _=>cases a<;>first | exact sr_unsupported | exact sr_stuck
theorem sr_ptr_ptr (R:RenOk P ρ) {op:BinOp} {t:TypeId} (h:binOk P op t=true) {a b:Option Addr}:SV P mf nc ρ K (binOp op t (.pointer a) (.pointer b)) (binOp op t (ren ρ (.pointer a)) (ren ρ (.pointer b))):=by
 have he:=binOk_eq h
 cases op with
 | eql=>exact sr_eql (x:=.pointer a) (y:=.pointer b) R (he (by simp))
 | neq=>exact sr_neq (x:=.pointer a) (y:=.pointer b) R (he (by simp))
 | sub | lss | leq | gtr | geq =>
  cases a with
  | none=>cases b<;>exact sr_unsupported
  | some a =>
   cases b with
   | none=>exact sr_unsupported
   | some b =>
    refine sr_bind sr_behindNumber ?_
    rintro ⟨a,l⟩ _ rfl
    refine sr_bind sr_behindNumber ?_
    rintro ⟨b,m⟩ _ rfl
    first | exact sr_addrSub R | exact sr_addrCmp R
 | _=>cases a<;>cases b<;>exact sr_unsupported
def nip:Value→Bool
 | .int .. | .pointer _=>false
 | _=>true
theorem dead_ptr_nip {op:BinOp} {t:TypeId} {a:Option Addr} {y:Value} (hy:nip y=true) (h1:op≠.eql) (h2:op≠.neq):Dead P (binOp op t (.pointer a) y):=by
 cases y<;>first | (cases hy;done) | (cases a<;>cases op<;>first | trivial | (exact (h1 rfl).elim) | (exact (h2 rfl).elim))
theorem dead_str {op:BinOp} {t:TypeId} {s:ByteArray} {y:Value} (hy:∀ s,y≠.string s) (h1:op≠.eql) (h2:op≠.neq):Dead P (binOp op t (.string s) y):=by
 cases y<;>first | (exact (hy _ rfl).elim) | (cases op<;>first | trivial | (exact (h1 rfl).elim) | (exact (h2 rfl).elim))
theorem dead_flt {op:BinOp} {t:TypeId} {k:FloatKind} {a:Nat} {y:Value} (hy:∀ k s,y≠.float k s) (h1:op≠.eql) (h2:op≠.neq):Dead P (binOp op t (.float k a) y):=by
 cases y<;>first | (exact (hy _ _ rfl).elim) | (cases op<;>first | trivial | (exact (h1 rfl).elim) | (exact (h2 rfl).elim))
theorem dead_cpx {op:BinOp} {t:TypeId} {k:FloatKind} {a b:Nat} {y:Value} (hy:∀ k s r,y≠.complex k s r) (h1:op≠.eql) (h2:op≠.neq):Dead P (binOp op t (.complex k a b) y):=by
 cases y<;>first | (exact (hy _ _ _ rfl).elim) | (cases op<;>first | trivial | (exact (h1 rfl).elim) | (exact (h2 rfl).elim))
theorem dead_int' {op:BinOp} {t:TypeId} {k:IntKind} {a:Int} {y:Value} (hy:nip y=true) (h1:op≠.eql) (h2:op≠.neq):Dead P (binOp op t (.int k a) y):=by
 refine dead_int ?_ h1 h2
 cases y<;>first | (cases hy;done) | exact .inl rfl | exact .inr (.inl ⟨_,_,rfl⟩) | exact .inr (.inr (.inl ⟨_,_,_,rfl⟩)) | exact .inr (.inr (.inr ⟨_,rfl⟩))
theorem flt_flt {op:BinOp} {t:TypeId} {k k' : FloatKind} {a b:Nat}:SV P mf nc ρ K (binOp op t (.float k a) (.float k' b)) (binOp op t (.float k a) (.float k' b)):=by
 unfold binOp
 cases op<;>(dsimp only;split<;>first | exact sr_stuck | exact sr_floatArith | exact sr_floatCmp)
theorem cpx_cpx {op:BinOp} {t:TypeId} {k k' : FloatKind} {a b c d:Nat}:SV P mf nc ρ K (binOp op t (.complex k a b) (.complex k' c d)) (binOp op t (.complex k a b) (.complex k' c d)):=by
 unfold binOp
 cases op<;>(dsimp only;split<;>first | exact sr_stuck | exact sr_complexOp)
theorem str_str {op:BinOp} {t:TypeId} {a b:ByteArray}:SV P mf nc ρ K (binOp op t (.string a) (.string b)) (binOp op t (.string a) (.string b)):=by
 unfold binOp
 cases op<;>(dsimp only;exact sr_stringOp)
theorem eql_of {t:TypeId} {x y:Value} (hx:(∀ k a,x≠.int k a)∨∀ k a,y≠.int k a) (hs:(∀ s,x≠.string s)∨∀ s,y≠.string s) (hf:(∀ k s,x≠.float k s)∨∀ k s,y≠.float k s) (hc:(∀ k s r,x≠.complex k s r)∨∀ k s r,y≠.complex k s r) :
  binOp .eql t x y=(do pure (.bool (← Op.equal t x y)))∧binOp .neq t x y=(do pure (.bool (!(← Op.equal t x y)))):=by
 cases x with
 | int k a=>cases y<;>first | exact⟨rfl,rfl⟩ | (rcases hx with h | h<;>exact (h _ _ rfl).elim)
 | string s=>cases y<;>first | exact⟨rfl,rfl⟩ | (rcases hs with h | h<;>exact (h _ rfl).elim)
 | float k s=>cases y<;>first | exact⟨rfl,rfl⟩ | (rcases hf with h | h<;>exact (h _ _ rfl).elim)
 | complex k s r=>cases y<;>first | exact⟨rfl,rfl⟩ | (rcases hc with h | h<;>exact (h _ _ _ rfl).elim)
 | _=>exact⟨rfl,rfl⟩
theorem sr_binOp (R:RenOk P ρ) {op:BinOp} {t:TypeId} {x y:Value} (h:binOk P op t=true):SV P mf nc ρ K (binOp op t x y) (binOp op t (ren ρ x) (ren ρ y)):=by
 have he:=binOk_eq h
 have eqs:∀ {x y:Value},((∀ k a,x≠.int k a)∨∀ k a,y≠.int k a)→((∀ s,x≠.string s)∨∀ s,y≠.string s)→((∀ k s,x≠.float k s)∨∀ k s,y≠.float k s)→((∀ k s r,x≠.complex k s r)∨∀ k s r,y≠.complex k s r) →
   (op≠.eql→op≠.neq→Dead P (binOp op t x y))→SV P mf nc ρ K (binOp op t x y) (binOp op t (ren ρ x) (ren ρ y)):=by
  intro x y a1 a2 a3 a4 hd
  have b1:(∀ k a,ren ρ x≠.int k a)∨∀ k a,ren ρ y≠.int k a:=a1.imp (fun g k a e=>by cases x<;>first | exact (ren_chan_ne ρ _).1 _ _ e | exact (ren_func_ne ρ _ _ _).1 _ _ e | simp_all [ren]) (fun g k a e=>by cases y<;>first | exact (ren_chan_ne ρ _).1 _ _ e | exact (ren_func_ne ρ _ _ _).1 _ _ e | simp_all [ren])
  have b2:(∀ s,ren ρ x≠.string s)∨∀ s,ren ρ y≠.string s:=a2.imp (fun g s e=>by cases x<;>first | exact (ren_chan_ne ρ _).2.1 _ e | exact (ren_func_ne ρ _ _ _).2.1 _ e | simp_all [ren]) (fun g s e=>by cases y<;>first | exact (ren_chan_ne ρ _).2.1 _ e | exact (ren_func_ne ρ _ _ _).2.1 _ e | simp_all [ren])
  have b3:(∀ k s,ren ρ x≠.float k s)∨∀ k s,ren ρ y≠.float k s:=a3.imp (fun g k a e=>by cases x<;>first | exact (ren_chan_ne ρ _).2.2.1 _ _ e | exact (ren_func_ne ρ _ _ _).2.2.1 _ _ e | simp_all [ren]) (fun g k a e=>by cases y<;>first | exact (ren_chan_ne ρ _).2.2.1 _ _ e | exact (ren_func_ne ρ _ _ _).2.2.1 _ _ e | simp_all [ren])
  have b4:(∀ k s r,ren ρ x≠.complex k s r)∨∀ k s r,ren ρ y≠.complex k s r:=a4.imp (fun g k a c e=>by cases x<;>first | exact (ren_chan_ne ρ _).2.2.2 _ _ _ e | exact (ren_func_ne ρ _ _ _).2.2.2 _ _ _ e | simp_all [ren]) (fun g k a c e=>by cases y<;>first | exact (ren_chan_ne ρ _).2.2.2 _ _ _ e | exact (ren_func_ne ρ _ _ _).2.2.2 _ _ _ e | simp_all [ren])
  rcases eq_or op with rfl | rfl | ⟨h1,h2⟩
  ·rw [(eql_of a1 a2 a3 a4).1,(eql_of b1 b2 b3 b4).1];exact sr_eql R (he (.inl rfl))
  ·rw [(eql_of a1 a2 a3 a4).2,(eql_of b1 b2 b3 b4).2];exact sr_neq R (he (.inr rfl))
  ·exact .dead (hd h1 h2)
 cases x with
 | int k a =>
  cases hy:nip y with
  | true=>refine eqs (.inr ?_) (.inl ?_) (.inl ?_) (.inl ?_) (fun h1 h2=>dead_int' hy h1 h2)<;>first | (intros;simp;done) | (intro k a e;subst e;cases hy)
  | false=>cases y<;>first | (cases hy;done) | exact sr_int_int | exact sr_int_ptr R h
 | pointer a =>
  cases hy:nip y with
  | true=>refine eqs (.inl ?_) (.inl ?_) (.inl ?_) (.inl ?_) (fun h1 h2=>dead_ptr_nip hy h1 h2)<;>(intros;simp)
  | false=>cases y<;>first | (cases hy;done) | exact sr_ptr_int R h | exact sr_ptr_ptr R h
 | float k a =>
  by_cases hy:∀ k s,y≠.float k s
  ·refine eqs (.inl ?_) (.inl ?_) (.inr hy) (.inl ?_) (fun h1 h2=>dead_flt hy h1 h2)<;>(intros;simp)
  ·cases y<;>first | exact flt_flt | (exact (hy (by intros;simp)).elim)
 | complex k a b =>
  by_cases hy:∀ k s r,y≠.complex k s r
  ·refine eqs (.inl ?_) (.inl ?_) (.inl ?_) (.inr hy) (fun h1 h2=>dead_cpx hy h1 h2)<;>(intros;simp)
  ·cases y<;>first | exact cpx_cpx | (exact (hy (by intros;simp)).elim)
 | string s =>
  by_cases hy:∀ s,y≠.string s
  ·refine eqs (.inl ?_) (.inr hy) (.inl ?_) (.inl ?_) (fun h1 h2=>dead_str hy h1 h2)<;>(intros;simp)
  ·cases y<;>first | exact str_str | (exact (hy (by intros;simp)).elim)
 | _=>exact sr_binOp_dull R h rfl
end
end Go.Con
