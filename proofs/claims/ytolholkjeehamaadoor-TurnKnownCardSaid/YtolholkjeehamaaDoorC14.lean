import Derived.Test.YtolholkjeehamaaDoorC13
set_option linter.all false
namespace Go.Con
open Go
variable [Lone]
section
variable {P:Program} {mf:Md} {nc:Bool} {ρ:Rn} {K:Nat→Prop}
theorem sr_intArith {op:BinOp} {k:IntKind} {a b:Int}:SV P mf nc ρ K (Op.intArith op k a b) (Op.intArith op k a b):=by
 unfold Op.intArith;cases op<;>first | exact sr_pure rfl | exact sr_stuck
theorem sr_intDiv {op:BinOp} {k:IntKind} {a b:Int}:SV P mf nc ρ K (Op.intDiv op k a b) (Op.intDiv op k a b):=by
 unfold Op.intDiv;split
 ·exact sr_runtimePanic
 ·cases op<;>first | exact sr_pure rfl | exact sr_stuck
theorem sr_intBits {op:BinOp} {k:IntKind} {a b:Int}:SV P mf nc ρ K (Op.intBits op k a b) (Op.intBits op k a b):=by
 unfold Op.intBits;cases op<;>first | exact sr_pure rfl | exact sr_stuck
theorem sr_intCmp {op:BinOp} {a b:Int}:SV P mf nc ρ K (Op.intCmp op a b) (Op.intCmp op a b):=by
 unfold Op.intCmp;cases op<;>first | exact sr_pure rfl | exact sr_stuck
theorem sr_shift {op:BinOp} {k k' : IntKind} {a b:Int}:SV P mf nc ρ K (Op.shift op k a k' b) (Op.shift op k a k' b):=by
 unfold Op.shift;split
 ·exact sr_runtimePanic
 ·cases op<;>first | exact sr_pure rfl | exact sr_stuck
theorem sr_stringOp {op:BinOp} {a b:ByteArray}:SV P mf nc ρ K (Op.stringOp op a b) (Op.stringOp op a b):=by
 unfold Op.stringOp
 cases op<;>first | exact sr_pure rfl | exact sr_stuck | (dsimp only;split<;>first | exact sr_unsupported | exact sr_pure rfl)
theorem info_floatArith (op:BinOp) (k:FloatKind) (x y:Nat):Info P (Op.floatArith op k x y):=by
 unfold Op.floatArith
 dsimp only
 cases op
 all_goals refine Info.bind (by first | exact info_pure _ | exact info_stuck _) fun r=>?_
 all_goals cases r<;>first | exact info_pure _ | exact (info_choose _).bind fun _=>info_pure _
theorem sr_floatArith {op:BinOp} {k:FloatKind} {x y:Nat}:SV P mf nc ρ K (Op.floatArith op k x y) (Op.floatArith op k x y):=by
 unfold Op.floatArith
 dsimp only
 cases op
 all_goals refine sr_bind (Info.sr (by first | exact info_pure _ | exact info_stuck _)) ?_
 all_goals
  rintro _ r rfl
  cases r<;>first | exact sr_pure rfl | exact sr_bind (info_choose _).sr (by rintro _ n rfl;exact sr_pure rfl)
theorem sr_floatCmp {op:BinOp} {k:FloatKind} {x y:Nat}:SV P mf nc ρ K (Op.floatCmp op k x y) (Op.floatCmp op k x y):=by
 unfold Op.floatCmp
 cases op<;>first | exact sr_pure rfl | exact sr_stuck
theorem info_arith (op:BinOp) (k:FloatKind) (x y:Nat):Info P (Op.Complex.arith op k x y):=by
 unfold Op.Complex.arith
 refine (info_floatArith _ _ _ _).bind fun v=>?_
 cases v<;>first | exact info_pure _ | exact info_stuck _
theorem info_cmp (op:BinOp) (k:FloatKind) (x y:Nat):Info P (Op.Complex.cmp op k x y):=by
 unfold Op.Complex.cmp
 refine Info.bind ?_ fun v=>?_
 ·unfold Op.floatCmp;cases op<;>first | exact info_pure _ | exact info_stuck _
 ·unfold asBool;cases v<;>first | exact info_pure _ | exact info_stuck _
theorem info_conv (s:FloatKind) (x:Nat) (d:FloatKind):Info P (Op.Complex.conv s x d):=by
 unfold Op.Complex.conv
 split
 ·exact info_pure _
 ·refine Info.bind ?_ fun v=>?_
  ·unfold Conv.floatToFloat
   dsimp only
   repeat' (first | exact info_pure _ | exact (info_choose _).bind fun _=>info_pure _ | split)
  ·cases v<;>first | exact info_pure _ | exact info_stuck _
theorem info_product (a b c d:Nat):Info P (Op.Complex.product a b c d):=by
 unfold Op.Complex.product Op.Complex.mul Op.Complex.add Op.Complex.sub
 repeat' (first | exact info_pure _ | refine (info_arith _ _ _ _).bind fun _=>?_)
theorem info_corrected (s a b c d:Nat):Info P (Op.Complex.corrected s a b c d):=by
 unfold Op.Complex.corrected Op.Complex.mul Op.Complex.add Op.Complex.sub
 repeat' (first | exact info_pure _ | refine (info_arith _ _ _ _).bind fun _=>?_)
theorem info_quotient (a b c d:Nat):Info P (Op.Complex.quotient a b c d):=by
 unfold Op.Complex.quotient Op.Complex.mul Op.Complex.add Op.Complex.sub Op.Complex.quo
 dsimp only
 refine (info_cmp _ _ _ _).bind fun _=>?_
 split
 all_goals repeat' (first | (with_reducible exact info_pure _) | (with_reducible exact info_corrected _ _ _ _ _) | (with_reducible refine Info.bind (info_arith _ _ _ _) fun _=>?_) | (with_reducible refine Info.bind (info_cmp _ _ _ _) fun _=>?_) | (with_reducible refine Info.bind (info_pure _) fun _=>?_) | split)
theorem sr_complexOp {op:BinOp} {k:FloatKind} {a b c d:Nat}:SV P mf nc ρ K (Op.complexOp op k a b c d) (Op.complexOp op k a b c d):=by
 unfold Op.complexOp
 cases op<;>try exact sr_stuck
 all_goals dsimp only
 all_goals repeat' (first
  | (with_reducible exact sr_pure rfl)
  | (with_reducible refine sr_bind (info_arith _ _ _ _).sr ?_;rintro _ x rfl)
  | (with_reducible refine sr_bind (info_cmp _ _ _ _).sr ?_;rintro _ x rfl)
  | (with_reducible refine sr_bind (info_conv _ _ _).sr ?_;rintro _ x rfl)
  | (with_reducible refine sr_bind (info_product _ _ _ _).sr ?_;rintro _ x rfl)
  | (with_reducible refine sr_bind (info_quotient _ _ _ _).sr ?_;rintro _ x rfl)
  | exact sr_pure rfl
  | split)
def binOk (P:Program) (op:BinOp) (t:TypeId):Bool:=!(op matches .eql | .neq) || eqOk P Op.maxDepth t
end
end Go.Con
namespace Go.Con
open Go
variable [Lone]
section
variable {P:Program} {mf:Md} {nc:Bool} {ρ:Rn} {K:Nat→Prop}
theorem binOk_eq {op:BinOp} {t:TypeId} (h:binOk P op t=true):(op=.eql∨op=.neq)→eqOk P Op.maxDepth t=true:=by
 intro hop
 simp only [binOk,Bool.or_eq_true,Bool.not_eq_true'] at h
 rcases h with h' | h'
 ·rcases hop with rfl | rfl<;>cases h'
 ·exact h'
theorem sr_eql (R:RenOk P ρ) {t:TypeId} {x y:Value} (h:eqOk P Op.maxDepth t=true):SV P mf nc ρ K (do pure (.bool (← Op.equal t x y))) (do pure (.bool (← Op.equal t (ren ρ x) (ren ρ y)))) :=
 sr_bind (sr_equal R h) (by rintro _ b rfl;exact sr_pure rfl)
theorem sr_neq (R:RenOk P ρ) {t:TypeId} {x y:Value} (h:eqOk P Op.maxDepth t=true):SV P mf nc ρ K (do pure (.bool (!(← Op.equal t x y)))) (do pure (.bool (!(← Op.equal t (ren ρ x) (ren ρ y))))) :=
 sr_bind (sr_equal R h) (by rintro _ b rfl;exact sr_pure rfl)
def dull:Value→Bool
 | .int .. | .float .. | .complex .. | .string _ | .pointer _=>false
 | _=>true
theorem dead_dull {op:BinOp} {t:TypeId} {x y:Value} (hx:dull x=true) (h1:op≠.eql) (h2:op≠.neq):Dead P (binOp op t x y):=by
 cases x<;>first | (cases hx;done) | (cases y<;>cases op<;>first | trivial | (exact (h1 rfl).elim) | (exact (h2 rfl).elim))
theorem sr_binOp_dull (R:RenOk P ρ) {op:BinOp} {t:TypeId} {x y:Value} (h:binOk P op t=true) (hx:dull x=true):SV P mf nc ρ K (binOp op t x y) (binOp op t (ren ρ x) (ren ρ y)):=by
 have he:=binOk_eq h
 by_cases h1:op=.eql
 ·subst h1
  cases x with
  | chan r =>
   have e:binOp .eql t (ren ρ (.chan r)) (ren ρ y)=(do pure (.bool (← Op.equal t (ren ρ (.chan r)) (ren ρ y)))):=by
    rcases ren_chan ρ r with ⟨_,h⟩ | ⟨_,_,_,h⟩ | ⟨_,h⟩ | ⟨_,_,_,h,_⟩ | ⟨_,h⟩<;>rw [h]<;>rfl
   rw [e]
   exact sr_eql (x:=.chan r) R (he (.inl rfl))
  | func f a b =>
   have e:binOp .eql t (ren ρ (.func f a b)) (ren ρ y)=(do pure (.bool (← Op.equal t (ren ρ (.func f a b)) (ren ρ y)))):=by
    obtain⟨_,_,_,h⟩:=ren_func ρ f a b
    rw [h];rfl
   rw [e]
   exact sr_eql (x:=.func f a b) R (he (.inl rfl))
  | _=>first | (cases hx;done) | exact sr_eql R (he (.inl rfl))
 by_cases h2:op=.neq
 ·subst h2
  cases x with
  | chan r =>
   have e:binOp .neq t (ren ρ (.chan r)) (ren ρ y)=(do pure (.bool (!(← Op.equal t (ren ρ (.chan r)) (ren ρ y))))):=by
    rcases ren_chan ρ r with ⟨_,h⟩ | ⟨_,_,_,h⟩ | ⟨_,h⟩ | ⟨_,_,_,h,_⟩ | ⟨_,h⟩<;>rw [h]<;>rfl
   rw [e]
   exact sr_neq (x:=.chan r) R (he (.inr rfl))
  | func f a b =>
   have e:binOp .neq t (ren ρ (.func f a b)) (ren ρ y)=(do pure (.bool (!(← Op.equal t (ren ρ (.func f a b)) (ren ρ y))))):=by
    obtain⟨_,_,_,h⟩:=ren_func ρ f a b
    rw [h];rfl
   rw [e]
   exact sr_neq (x:=.func f a b) R (he (.inr rfl))
  | _=>first | (cases hx;done) | exact sr_neq R (he (.inr rfl))
 exact .dead (dead_dull hx h1 h2)
theorem dead_int {op:BinOp} {t:TypeId} {k:IntKind} {a:Int} {y:Value} (hy:dull y=true∨(∃ k b,y=.float k b)∨(∃ k b c,y=.complex k b c)∨∃ s,y=.string s) (h1:op≠.eql) (h2:op≠.neq):Dead P (binOp op t (.int k a) y):=by
 rcases hy with hy | ⟨_,_,rfl⟩ | ⟨_,_,_,rfl⟩ | ⟨_,rfl⟩
 ·cases y<;>first | (cases hy;done) | (cases op<;>first | trivial | (exact (h1 rfl).elim) | (exact (h2 rfl).elim))
 all_goals cases op<;>first | trivial | (exact (h1 rfl).elim) | (exact (h2 rfl).elim)
theorem eq_or (op:BinOp):op=.eql∨op=.neq∨(op≠.eql∧op≠.neq):=by
 by_cases h1:op=.eql
 ·exact .inl h1
 ·by_cases h2:op=.neq
  ·exact .inr (.inl h2)
  ·exact .inr (.inr ⟨h1,h2⟩)
theorem sr_int_int {op:BinOp} {t:TypeId} {k k' : IntKind} {a b:Int}:SV P mf nc ρ K (binOp op t (.int k a) (.int k' b)) (binOp op t (.int k a) (.int k' b)):=by
 unfold binOp
 cases op<;>first
  | exact sr_shift
  | (dsimp only;split<;>first | exact sr_stuck | exact sr_intArith | exact sr_intDiv | exact sr_intBits | exact sr_intCmp)
theorem sr_int_ptr (R:RenOk P ρ) {op:BinOp} {t:TypeId} (h:binOk P op t=true) {k:IntKind} {a:Int} {b:Option Addr}:SV P mf nc ρ K (binOp op t (.int k a) (.pointer b)) (binOp op t (.int k a) (ren ρ (.pointer b))):=by
 have he:=binOk_eq h
 cases b with
 | none=>cases op<;>first | exact sr_eql (x:=.int k a) (y:=.pointer none) R (he (by simp)) | exact sr_neq (x:=.int k a) (y:=.pointer none) R (he (by simp)) | exact sr_movedNumber (x:=.pointer none) (y:=.int k a) | exact sr_unsupported | exact sr_stuck
 | some b=>cases op<;>first | exact sr_eql (x:=.int k a) (y:=.pointer (some b)) R (he (by simp)) | exact sr_neq (x:=.int k a) (y:=.pointer (some b)) R (he (by simp)) | exact sr_movedNumber (x:=.pointer (some b)) (y:=.int k a) | exact sr_unsupported | exact sr_stuck | exact sr_bind sr_behindNumber (by rintro ⟨a,l⟩ _ rfl;exact sr_addrMod)
theorem sr_ptr_int (R:RenOk P ρ) {op:BinOp} {t:TypeId} (h:binOk P op t=true) {k:IntKind} {b:Int} {a:Option Addr}:SV P mf nc ρ K (binOp op t (.pointer a) (.int k b)) (binOp op t (ren ρ (.pointer a)) (.int k b)):=by
 have he:=binOk_eq h
 cases op with
 | eql=>exact sr_eql (x:=.pointer a) (y:=.int k b) R (he (by simp))
 | neq=>exact sr_neq (x:=.pointer a) (y:=.int k b) R (he (by simp))
 | add =>
  refine sr_bind (info_underlying t).sr ?_
  rintro _ d rfl
  cases d<;>simp only [Bool.false_eq_true,if_false,if_true]<;>first | exact sr_movedPointer (x:=.pointer a) (y:=.int k b) | exact sr_movedNumber (x:=.pointer a) (y:=.int k b)
 | sub=>exact sr_movedNumber (x:=.pointer a) (y:=.int k (-b))
 | rem | and=>cases a<;>first | exact sr_unsupported | exact sr_bind sr_behindNumber (by rintro ⟨a,l⟩ _ rfl;exact sr_addrMod)
 | _=>cases a<;>first | exact sr_unsupported | exact sr_stuck
theorem sr_ptr_ptr (R:RenOk P ρ) {op:BinOp} {t:TypeId} (h:binOk P op t=true) {a b:Option Addr}:SV P mf nc ρ K (binOp op t (.pointer a) (.pointer b)) (binOp op t (ren ρ (.pointer a)) (ren ρ (.pointer b))):=by
 have he:=binOk_eq h
 cases op with
 | eql=>exact sr_eql (x:=.pointer a) (y:=.pointer b) R (he (by simp))
 | neq=>exact sr_neq (x:=.pointer a) (y:=.pointer b) R (he (by simp))
 | sub | lss | leq | gtr | geq =>
  cases a with
  | none=>cases b<;>exact sr_unsupported
  | some a =>
   cases b with
   | none=>exact sr_unsupported
   | some b =>
    refine sr_bind sr_behindNumber ?_
    rintro ⟨a,l⟩ _ rfl
    refine sr_bind sr_behindNumber ?_
    rintro ⟨b,m⟩ _ rfl
    first | exact sr_addrSub R | exact sr_addrCmp R
 | _=>cases a<;>cases b<;>exact sr_unsupported
def nip:Value→Bool
 | .int .. | .pointer _=>false
 | _=>true
theorem dead_ptr_nip {op:BinOp} {t:TypeId} {a:Option Addr} {y:Value} (hy:nip y=true) (h1:op≠.eql) (h2:op≠.neq):Dead P (binOp op t (.pointer a) y):=by
 cases y<;>first | (cases hy;done) | (cases a<;>cases op<;>first | trivial | (exact (h1 rfl).elim) | (exact (h2 rfl).elim))
theorem dead_str {op:BinOp} {t:TypeId} {s:ByteArray} {y:Value} (hy:∀ s,y≠.string s) (h1:op≠.eql) (h2:op≠.neq):Dead P (binOp op t (.string s) y):=by
 cases y<;>first | (exact (hy _ rfl).elim) | (cases op<;>first | trivial | (exact (h1 rfl).elim) | (exact (h2 rfl).elim))
theorem dead_flt {op:BinOp} {t:TypeId} {k:FloatKind} {a:Nat} {y:Value} (hy:∀ k s,y≠.float k s) (h1:op≠.eql) (h2:op≠.neq):Dead P (binOp op t (.float k a) y):=by
 cases y<;>first | (exact (hy _ _ rfl).elim) | (cases op<;>first | trivial | (exact (h1 rfl).elim) | (exact (h2 rfl).elim))
theorem dead_cpx {op:BinOp} {t:TypeId} {k:FloatKind} {a b:Nat} {y:Value} (hy:∀ k s r,y≠.complex k s r) (h1:op≠.eql) (h2:op≠.neq):Dead P (binOp op t (.complex k a b) y):=by
 cases y<;>first | (exact (hy _ _ _ rfl).elim) | (cases op<;>first | trivial | (exact (h1 rfl).elim) | (exact (h2 rfl).elim))
theorem dead_int' {op:BinOp} {t:TypeId} {k:IntKind} {a:Int} {y:Value} (hy:nip y=true) (h1:op≠.eql) (h2:op≠.neq):Dead P (binOp op t (.int k a) y):=by
 refine dead_int ?_ h1 h2
 cases y<;>first | (cases hy;done) | exact .inl rfl | exact .inr (.inl ⟨_,_,rfl⟩) | exact .inr (.inr (.inl ⟨_,_,_,rfl⟩)) | exact .inr (.inr (.inr ⟨_,rfl⟩))
theorem flt_flt {op:BinOp} {t:TypeId} {k k' : FloatKind} {a b:Nat}:SV P mf nc ρ K (binOp op t (.float k a) (.float k' b)) (binOp op t (.float k a) (.float k' b)):=by
 unfold binOp
 cases op<;>(dsimp only;split<;>first | exact sr_stuck | exact sr_floatArith | exact sr_floatCmp)
theorem cpx_cpx {op:BinOp} {t:TypeId} {k k' : FloatKind} {a b c d:Nat}:SV P mf nc ρ K (binOp op t (.complex k a b) (.complex k' c d)) (binOp op t (.complex k a b) (.complex k' c d)):=by
 unfold binOp
 cases op<;>(dsimp only;split<;>first | exact sr_stuck | exact sr_complexOp)
theorem str_str {op:BinOp} {t:TypeId} {a b:ByteArray}:SV P mf nc ρ K (binOp op t (.string a) (.string b)) (binOp op t (.string a) (.string b)):=by
 unfold binOp
 cases op<;>(dsimp only;exact sr_stringOp)
theorem eql_of {t:TypeId} {x y:Value} (hx:(∀ k a,x≠.int k a)∨∀ k a,y≠.int k a) (hs:(∀ s,x≠.string s)∨∀ s,y≠.string s) (hf:(∀ k s,x≠.float k s)∨∀ k s,y≠.float k s) (hc:(∀ k s r,x≠.complex k s r)∨∀ k s r,y≠.complex k s r) :
  binOp .eql t x y=(do pure (.bool (← Op.equal t x y)))∧binOp .neq t x y=(do pure (.bool (!(← Op.equal t x y)))):=by
 cases x with
 | int k a=>cases y<;>first | exact⟨rfl,rfl⟩ | (rcases hx with h | h<;>exact (h _ _ rfl).elim)
 | string s=>cases y<;>first | exact⟨rfl,rfl⟩ | (rcases hs with h | h<;>exact (h _ rfl).elim)
 | float k s=>cases y<;>first | exact⟨rfl,rfl⟩ | (rcases hf with h | h<;>exact (h _ _ rfl).elim)
 | complex k s r=>cases y<;>first | exact⟨rfl,rfl⟩ | (rcases hc with h | h<;>exact (h _ _ _ rfl).elim)
 | _=>exact⟨rfl,rfl⟩
theorem sr_binOp (R:RenOk P ρ) {op:BinOp} {t:TypeId} {x y:Value} (h:binOk P op t=true):SV P mf nc ρ K (binOp op t x y) (binOp op t (ren ρ x) (ren ρ y)):=by
 have he:=binOk_eq h
 have eqs:∀ {x y:Value},((∀ k a,x≠.int k a)∨∀ k a,y≠.int k a)→((∀ s,x≠.string s)∨∀ s,y≠.string s)→((∀ k s,x≠.float k s)∨∀ k s,y≠.float k s)→((∀ k s r,x≠.complex k s r)∨∀ k s r,y≠.complex k s r) →
   (op≠.eql→op≠.neq→Dead P (binOp op t x y))→SV P mf nc ρ K (binOp op t x y) (binOp op t (ren ρ x) (ren ρ y)):=by
  intro x y a1 a2 a3 a4 hd
  have b1:(∀ k a,ren ρ x≠.int k a)∨∀ k a,ren ρ y≠.int k a:=a1.imp (fun g k a e=>by cases x<;>first | exact (ren_chan_ne ρ _).1 _ _ e | exact (ren_func_ne ρ _ _ _).1 _ _ e | simp_all [ren]) (fun g k a e=>by cases y<;>first | exact (ren_chan_ne ρ _).1 _ _ e | exact (ren_func_ne ρ _ _ _).1 _ _ e | simp_all [ren])
  have b2:(∀ s,ren ρ x≠.string s)∨∀ s,ren ρ y≠.string s:=a2.imp (fun g s e=>by cases x<;>first | exact (ren_chan_ne ρ _).2.1 _ e | exact (ren_func_ne ρ _ _ _).2.1 _ e | simp_all [ren]) (fun g s e=>by cases y<;>first | exact (ren_chan_ne ρ _).2.1 _ e | exact (ren_func_ne ρ _ _ _).2.1 _ e | simp_all [ren])
  have b3:(∀ k s,ren ρ x≠.float k s)∨∀ k s,ren ρ y≠.float k s:=a3.imp (fun g k a e=>by cases x<;>first | exact (ren_chan_ne ρ _).2.2.1 _ _ e | exact (ren_func_ne ρ _ _ _).2.2.1 _ _ e | simp_all [ren]) (fun g k a e=>by cases y<;>first | exact (ren_chan_ne ρ _).2.2.1 _ _ e | exact (ren_func_ne ρ _ _ _).2.2.1 _ _ e | simp_all [ren])
  have b4:(∀ k s r,ren ρ x≠.complex k s r)∨∀ k s r,ren ρ y≠.complex k s r:=a4.imp (fun g k a c e=>by cases x<;>first | exact (ren_chan_ne ρ _).2.2.2 _ _ _ e | exact (ren_func_ne ρ _ _ _).2.2.2 _ _ _ e | simp_all [ren]) (fun g k a c e=>by cases y<;>first | exact (ren_chan_ne ρ _).2.2.2 _ _ _ e | exact (ren_func_ne ρ _ _ _).2.2.2 _ _ _ e | simp_all [ren])
  rcases eq_or op with rfl | rfl | ⟨h1,h2⟩
  ·rw [(eql_of a1 a2 a3 a4).1,(eql_of b1 b2 b3 b4).1];exact sr_eql R (he (.inl rfl))
  ·rw [(eql_of a1 a2 a3 a4).2,(eql_of b1 b2 b3 b4).2];exact sr_neq R (he (.inr rfl))
  ·exact .dead (hd h1 h2)
 cases x with
 | int k a =>
  cases hy:nip y with
  | true=>refine eqs (.inr ?_) (.inl ?_) (.inl ?_) (.inl ?_) (fun h1 h2=>dead_int' hy h1 h2)<;>first | (intros;simp;done) | (intro k a e;subst e;cases hy)
  | false=>cases y<;>first | (cases hy;done) | exact sr_int_int | exact sr_int_ptr R h
 | pointer a =>
  cases hy:nip y with
  | true=>refine eqs (.inl ?_) (.inl ?_) (.inl ?_) (.inl ?_) (fun h1 h2=>dead_ptr_nip hy h1 h2)<;>(intros;simp)
  | false=>cases y<;>first | (cases hy;done) | exact sr_ptr_int R h | exact sr_ptr_ptr R h
 | float k a =>
  by_cases hy:∀ k s,y≠.float k s
  ·refine eqs (.inl ?_) (.inl ?_) (.inr hy) (.inl ?_) (fun h1 h2=>dead_flt hy h1 h2)<;>(intros;simp)
  ·cases y<;>first | exact flt_flt | (exact (hy (by intros;simp)).elim)
 | complex k a b =>
  by_cases hy:∀ k s r,y≠.complex k s r
  ·refine eqs (.inl ?_) (.inl ?_) (.inl ?_) (.inr hy) (fun h1 h2=>dead_cpx hy h1 h2)<;>(intros;simp)
  ·cases y<;>first | exact cpx_cpx | (exact (hy (by intros;simp)).elim)
 | string s =>
  by_cases hy:∀ s,y≠.string s
  ·refine eqs (.inl ?_) (.inr hy) (.inl ?_) (.inl ?_) (fun h1 h2=>dead_str hy h1 h2)<;>(intros;simp)
  ·cases y<;>first | exact str_str | (exact (hy (by intros;simp)).elim)
 | _=>exact sr_binOp_dull R h rfl
end
end Go.Con
namespace Go.Con
open Go
variable [Lone]
section
variable {P:Program} {mf:Md} {nc:Bool} {ρ:Rn} {K:Nat→Prop}
theorem sr_unary {op:UnOp} {x:Value}:SV P mf nc ρ K (Op.unary op x) (Op.unary op (ren ρ x)):=by
 unfold Op.unary
 cases op with
 | neg =>
  cases x with
  | int k n=>exact sr_intArith
  | pointer a=>cases a<;>first | exact sr_stuck | exact sr_unsupported
  | _=>first | exact sr_pure rfl | exact sr_stuck
 | xor =>
  cases x with
  | int k n=>exact sr_intBits
  | pointer a=>cases a<;>first | exact sr_stuck | exact sr_unsupported
  | _=>exact sr_stuck
 | _=>cases x<;>first | exact sr_pure rfl | exact sr_stuck
theorem sr_extract {x:Value} {i:Nat}:SV P mf nc ρ K (Instr.extract x i) (Instr.extract (ren ρ x) i):=by
 unfold Instr.extract
 cases x with
 | tuple vs =>
  dsimp only [ren]
  rw [renA_eq,Array.getElem?_map]
  cases vs[i]?<;>first | exact sr_stuck | exact sr_pure rfl
 | _=>exact sr_stuck
theorem sr_alloc {e:TypeId} (h:zOk P e=true) {x:Value}:SV P mf nc ρ K (Instr.alloc e true x) (Instr.alloc e true x):=by
 unfold Instr.alloc
 refine sr_bind (sr_zeroValue h) ?_
 rintro z _ rfl
 exact sr_bind sr_newVar (by rintro a _ rfl;exact sr_pure rfl)
theorem sr_box {e:TypeId} {x:Value}:SV P mf nc ρ K (Instr.box e x) (Instr.box e (ren ρ x)):=by
 unfold Instr.box
 exact sr_bind sr_newVar (by rintro a _ rfl;exact sr_pure rfl)
theorem foldl_ren (off:Nat):∀ (l:List (Value×Nat)) (cs:Array Value),(l.map fun x=>(ren ρ x.1,x.2)).foldl (fun cs x=>cs.setIfInBounds (off+x.2) x.1) (cs.map (ren ρ))=(l.foldl (fun cs x=>cs.setIfInBounds (off+x.2) x.1) cs).map (ren ρ)
 | [],_=>rfl
 | x :: l,cs=>by
  simp only [List.map_cons,List.foldl_cons]
  rw [← foldl_ren off l,Array.map_setIfInBounds]
theorem fill_ren (place:Nat→Option (Nat×Nat)):∀ (parts:List (Nat×Value)) (cells:Array Value),Instr.fill place (cells.map (ren ρ)) (parts.map fun x=>(x.1,ren ρ x.2))=(Instr.fill place cells parts).map (·.map (ren ρ))
 | [],_=>rfl
 | (i,v) :: rest,cells=>by
  simp only [List.map_cons,Instr.fill]
  cases place i with
  | none=>rfl
  | some p =>
   obtain⟨off,size⟩:=p
   simp only [ren_agg_inv,Array.size_map]
   split
   ·rfl
   ·rw [← fill_ren place rest]
    congr 1
    rw [← Array.foldl_toList,← Array.foldl_toList,← foldl_ren]
    congr 1
    simp [Array.toList_zipIdx,List.zipIdx_map]
theorem sr_build {t:TypeId} (h:zOk P t=true) {parts:Array (Nat×Value)}:SV P mf nc ρ K (Instr.build t parts) (Instr.build t (parts.map fun x=>(x.1,ren ρ x.2))):=by
 unfold Instr.build
 refine sr_bind (sr_zeroValue h) ?_
 rintro z _ rfl
 refine sr_bind (info_underlying t).sr ?_
 rintro _ d rfl
 rw [ren_agg_inv,Array.toList_map]
 cases d with
 | struct fields =>
  refine sr_bind (info_mapM (fun f=>(info_sizeOf _).bind fun _=>info_pure _) fields).sr ?_
  rintro _ places rfl
  rw [fill_ren]
  cases Instr.fill (fun x=>places[x]?) z.cells parts.toList with
  | none=>exact sr_stuck
  | some cells=>exact sr_pure (by simp [ren,renA_eq])
 | array n elem =>
  refine sr_bind (info_sizeOf _).sr ?_
  rintro _ size rfl
  rw [fill_ren]
  cases Instr.fill _ z.cells parts.toList with
  | none=>exact sr_stuck
  | some cells=>exact sr_pure (by simp [ren,renA_eq])
 | _=>exact sr_stuck
theorem underlying_elem {t:TypeId}:SR P mf nc ρ (fun a b=>b=a∧P.underlying t=some a) K (underlying t) (underlying t):=underlying_at t
variable (P) in
def ezOk (t:TypeId):Bool:=match P.underlying t with
 | some (.slice e)=>zOk P e
 | some (.map _ e)=>zOk P e
 | _=>true
theorem zero_map {zero:Array Value} {n:Nat}:((Array.range n).map (fun i=>(zero.map (ren ρ))[i % (zero.map (ren ρ)).size]!))=((Array.range n).map (fun i=>zero[i % zero.size]!)).map (ren ρ):=by
 rw [Array.map_map]
 congr 1
 funext i
 simp only [Function.comp_apply,Array.size_map]
 rw [getElem!_def,getElem!_def,Array.getElem?_map]
 cases zero[i % zero.size]?<;>rfl
theorem sr_buildSlice {t:TypeId} (h:ezOk P t=true) {len:Nat} {parts:Array (Nat×Value)}:SV P mf nc ρ K (Instr.buildSlice t len parts) (Instr.buildSlice t len (parts.map fun x=>(x.1,ren ρ x.2))):=by
 unfold Instr.buildSlice
 refine sr_bind underlying_elem ?_
 rintro _ d ⟨rfl,hd⟩
 cases d with
 | slice elem =>
  have hz:zOk P elem=true:=by simpa [ezOk,hd] using h
  refine sr_bind (info_sizeOf _).sr ?_
  rintro _ size rfl
  dsimp only
  rw [Array.toList_map]
  split
  ·exact .dead trivial
  ·split
   ·refine sr_bind (r:=fun (a b:Array Value)=>b=a.map (ren ρ)) (sr_pure (by simp)) ?_
    rintro zero _ rfl
    rw [zero_map,fill_ren]
    cases Instr.fill _ _ parts.toList with
    | none=>exact sr_stuck
    | some cells=>exact sr_bind sr_newRow (by rintro a _ rfl;exact sr_pure rfl)
   ·refine sr_bind (sr_zeroValue hz) ?_
    rintro z _ rfl
    refine sr_bind (r:=fun (a b:Array Value)=>b=a.map (ren ρ)) (sr_pure ren_agg_inv) ?_
    rintro zero _ rfl
    rw [zero_map,fill_ren]
    cases Instr.fill _ _ parts.toList with
    | none=>exact sr_stuck
    | some cells=>exact sr_bind sr_newRow (by rintro a _ rfl;exact sr_pure rfl)
 | _=>exact sr_stuck
theorem sr_partAt {a:Addr} {n m:Nat}:SR P mf nc ρ (fun a b=>b=renAddr ρ a) K (partAt a n m) (partAt (renAddr ρ a) n m):=by
 unfold partAt
 refine sr_bind sr_byteOf ?_
 rintro _ x rfl
 refine sr_bind (sr_byteOf (a:={ block:=a.block,off:=a.off+n })) ?_
 rintro _ y rfl
 refine sr_pure ?_
 dsimp only [renAddr]
 split<;>rfl
theorem sr_fieldPlace {a:Addr} {f:Field}:SR P mf nc ρ (fun a b=>b=renAddr ρ a) K (fieldPlace a f) (fieldPlace (renAddr ρ a) f):=by
 unfold fieldPlace
 refine sr_bind (info_sizeOf _).sr ?_
 rintro _ n rfl
 split
 ·exact sr_partAt
 ·exact sr_pure (renAddr_add _ _)
theorem sr_fieldAt {t:TypeId} {x:Value} {f:Nat}:SV P mf nc ρ K (Instr.fieldAt t x f) (Instr.fieldAt t (ren ρ x) f):=by
 unfold Instr.fieldAt
 refine sr_bind (info_underlying t).sr ?_
 rintro _ d rfl
 cases d with
 | struct fields =>
  dsimp only
  cases fields[f]? with
  | none=>exact sr_stuck
  | some fd =>
   refine sr_bind sr_sureAddr ?_
   rintro a _ rfl
   exact sr_bind sr_fieldPlace (by rintro b _ rfl;exact sr_pure rfl)
 | _=>exact sr_stuck
theorem sr_asAgg {x:Value}:SR P mf nc ρ (fun a b=>b=a.map (ren ρ)) K (asAgg x) (asAgg (ren ρ x)):=by
 unfold asAgg
 cases x<;>first | exact sr_stuck | exact sr_pure (renA_eq _ _)
theorem sr_field {t:TypeId} {x:Value} {f:Nat}:SV P mf nc ρ K (Instr.field t x f) (Instr.field t (ren ρ x) f):=by
 unfold Instr.field
 refine sr_bind (info_underlying t).sr ?_
 rintro _ d rfl
 cases d with
 | struct fields =>
  dsimp only
  cases fields[f]? with
  | none=>exact sr_stuck
  | some fd =>
   refine sr_bind sr_asAgg ?_
   rintro cs _ rfl
   exact sr_part
 | _=>exact sr_stuck
theorem sr_indexAt {t:TypeId} {x i:Value}:SV P mf nc ρ K (Instr.indexAt t x i) (Instr.indexAt t (ren ρ x) (ren ρ i)):=by
 unfold Instr.indexAt
 refine sr_bind sr_asIntOf ?_
 rintro _ ⟨k,n⟩ rfl
 refine sr_bind (info_underlying t).sr ?_
 rintro _ d rfl
 cases d with
 | array len elem =>
  refine sr_bind sr_sureAddr ?_
  rintro a _ rfl
  refine sr_bind (r:=fun (a b:Option Addr×Nat×TypeId)=>b=(a.1.map (renAddr ρ),a.2)) (sr_pure rfl) ?_
  rintro ⟨base,len,elem⟩ _ rfl
  refine sr_bind (info_underlying t).sr ?_
  rintro _ d rfl
  cases base with
  | none=>exact sr_boundsPanic
  | some a =>
   dsimp only [Option.map_some]
   split
   ·refine sr_bind (info_sizeOf _).sr ?_
    rintro _ s rfl
    exact sr_pure (by simp [ren,renAddr_add])
   ·(repeat' split)<;>first | exact sr_unsupported | exact sr_boundsPanic
 | slice elem =>
  cases x with
  | slice base len cap =>
   refine sr_bind (r:=fun (a b:Option Addr×Nat×TypeId)=>b=(a.1.map (renAddr ρ),a.2)) (sr_pure rfl) ?_
   rintro ⟨base,len,elem⟩ _ rfl
   refine sr_bind (info_underlying t).sr ?_
   rintro _ d rfl
   cases base with
   | none=>exact sr_boundsPanic
   | some a =>
    dsimp only [Option.map_some]
    split
    ·refine sr_bind (info_sizeOf _).sr ?_
     rintro _ s rfl
     exact sr_pure (by simp [ren,renAddr_add])
    ·(repeat' split)<;>first | exact sr_unsupported | exact sr_boundsPanic
  | _=>exact sr_stuck
 | _=>exact sr_stuck
theorem sr_index {t:TypeId} {x i:Value}:SV P mf nc ρ K (Instr.index t x i) (Instr.index t (ren ρ x) (ren ρ i)):=by
 unfold Instr.index
 refine sr_bind sr_asIntOf ?_
 rintro _ ⟨k,n⟩ rfl
 refine sr_bind (info_underlying t).sr ?_
 rintro _ d rfl
 cases d with
 | array len elem =>
  cases x with
  | agg cs =>
   dsimp only [ren]
   rw [renA_eq]
   split
   ·refine sr_bind (info_sizeOf _).sr ?_
    rintro _ s rfl
    exact sr_part
   ·exact sr_boundsPanic
  | _=>exact sr_stuck
 | string =>
  cases x with
  | string s =>
   dsimp only [ren]
   split
   ·exact sr_pure rfl
   ·exact sr_boundsPanic
  | _=>exact sr_stuck
 | _=>exact sr_stuck
end
end Go.Con
namespace Go.Con
open Go
variable [Lone]
section
variable {P:Program} {mf:Md} {nc:Bool} {ρ:Rn} {K:Nat→Prop}
theorem sr_sliceBound {x:Value} {y:Nat} {c:BoundsCode}:SI P mf nc ρ K (Instr.sliceBound x y c) (Instr.sliceBound (ren ρ x) y c):=by
 unfold Instr.sliceBound
 refine sr_bind sr_asIntOf ?_
 rintro _ ⟨k,i⟩ rfl
 dsimp only
 split
 ·exact sr_pure rfl
 ·exact sr_boundsPanic
theorem sr_sliceBounds {b:Bool} {n c:Nat} {lo hi mx:Option Value}:SI P mf nc ρ K (Instr.sliceBounds b n c lo hi mx) (Instr.sliceBounds b n c (lo.map (ren ρ)) (hi.map (ren ρ)) (mx.map (ren ρ))):=by
 unfold Instr.sliceBounds
 cases mx<;>cases hi<;>cases lo<;>dsimp only [Option.map_some,Option.map_none]
 all_goals repeat' (first
  | exact sr_pure rfl
  | exact .dead trivial
  | (refine sr_bind sr_sliceBound ?_;rintro _ m rfl)
  | (refine sr_bind (r:=fun a b=>b=a) (sr_pure rfl) ?_;rintro _ m rfl)
  | exact .dead (dead_after (by first | exact trivial | exact fun _=>trivial | exact calm_typeStr _) fun _=>trivial))
theorem sr_slice {t:TypeId} {x:Value} {lo hi mx:Option Value}:SV P mf nc ρ K (Instr.slice t x lo hi mx) (Instr.slice t (ren ρ x) (lo.map (ren ρ)) (hi.map (ren ρ)) (mx.map (ren ρ))):=by
 unfold Instr.slice
 refine sr_bind (info_underlying t).sr ?_
 rintro _ d rfl
 cases d with
 | string =>
  cases x with
  | string s =>
   cases mx with
   | some m=>exact .dead trivial
   | none =>
    refine sr_bind (sr_sliceBounds (mx:=none)) ?_
    rintro _ ⟨l,h,m⟩ rfl
    exact sr_pure rfl
  | _=>exact sr_stuck
 | slice elem =>
  cases x with
  | slice a n c =>
   refine sr_bind sr_sliceBounds ?_
   rintro _ ⟨l,h,m⟩ rfl
   refine sr_bind (info_sizeOf _).sr ?_
   rintro _ s rfl
   refine sr_pure ?_
   dsimp only [ren]
   split
   ·rfl
   ·cases a<;>simp [renAddr_add]
  | _=>exact sr_stuck
 | pointer arr =>
  refine sr_bind sr_asAddr ?_
  rintro a _ rfl
  refine sr_bind (info_underlying _).sr ?_
  rintro _ d rfl
  cases d with
  | array n elem =>
   refine sr_bind sr_sliceBounds ?_
   rintro _ ⟨l,h,m⟩ rfl
   refine sr_bind (info_sizeOf _).sr ?_
   rintro _ s rfl
   refine sr_pure ?_
   dsimp only [ren,Option.map_some]
   split
   ·rfl
   ·simp [renAddr_add]
  | _=>exact sr_stuck
 | _=>exact sr_stuck
theorem sr_sliceAt {t:TypeId} {x:Value} {lo hi mx:Option Value}:SV P mf nc ρ K (Instr.sliceAt t x lo hi mx) (Instr.sliceAt t (ren ρ x) (lo.map (ren ρ)) (hi.map (ren ρ)) (mx.map (ren ρ))):=by
 unfold Instr.sliceAt
 refine sr_bind (info_underlying t).sr ?_
 rintro _ d rfl
 cases d with
 | array n elem =>
  refine sr_bind sr_sureAddr ?_
  rintro a _ rfl
  refine sr_bind sr_sliceBounds ?_
  rintro _ ⟨l,h,m⟩ rfl
  refine sr_bind (info_sizeOf _).sr ?_
  rintro _ s rfl
  refine sr_pure ?_
  dsimp only [ren,Option.map_some]
  split
  ·rfl
  ·simp [renAddr_add]
 | _=>exact sr_slice
theorem sr_mark {K:Nat→Prop}:SI P mf nc ρ K (mark .noRoom) (mark .noRoom):=.mark (.pure rfl)
theorem sr_askRoom {n:Nat}:SI P mf nc ρ K (askRoom n) (askRoom n):=by
 unfold askRoom
 split
 ·exact sr_mark
 ·exact sr_pure rfl
theorem sr_newMap:SR P mf nc ρ (fun a b=>b=ρ.p a) K (newObj (.map #[] 0)) (newObj (.map #[] 0)):=by
 have h:=sr_newObj (P:=P) (mf:=mf) (nc:=nc) (K:=K) (ρ:=ρ) (o:=.map #[] 0) rfl rfl
 simp only [renObj,Array.map_empty] at h
 exact h
theorem sr_makeMap {t:TypeId} {r:Option Value}:SV P mf nc ρ K (Instr.makeMap t r) (Instr.makeMap t (r.map (ren ρ))):=by
 unfold Instr.makeMap
 have fin:∀ K,SV P mf nc ρ K (do pure (.map (some (← newObj (.map #[] 0))))) (do pure (.map (some (← newObj (.map #[] 0))))):=fun K =>
  sr_bind sr_newMap (by rintro b _ rfl;exact sr_pure rfl)
 cases r with
 | none=>exact fin K
 | some h =>
  refine sr_bind (info_underlying t).sr ?_
  rintro _ d rfl
  cases d with
  | map k e=>exact sr_bind sr_asInt fun _ _ _=>fin K
  | _=>exact .dead trivial
theorem sr_makeSlice {t:TypeId} (h:ezOk P t=true) {l c:Value}:SV P mf nc ρ K (Instr.makeSlice t l c) (Instr.makeSlice t (ren ρ l) (ren ρ c)):=by
 unfold Instr.makeSlice
 refine sr_bind (underlying_at t) ?_
 rintro _ d ⟨rfl,hd⟩
 cases d with
 | slice elem =>
  have hz:zOk P elem=true:=by simpa [ezOk,hd] using h
  refine sr_bind sr_asInt ?_
  rintro _ l rfl
  refine sr_bind sr_asInt ?_
  rintro _ c rfl
  refine sr_bind (info_typeInfo _).sr ?_
  rintro _ i rfl
  dsimp only
  split
  ·refine .dead ?_
   split
   ·exact dead_bind (dead_runtimePanic _)
   ·split
    ·exact dead_bind (dead_runtimePanic _)
    ·exact dead_after (by first | exact trivial | exact fun _=>trivial | exact calm_typeStr _) fun _=>dead_bind (dead_runtimePanic _)
  ·refine sr_bind sr_askRoom ?_
   rintro _ _ rfl
   refine sr_bind (info_sizeOf _).sr ?_
   rintro _ s rfl
   split
   ·refine sr_bind (r:=fun (a b:Array Value)=>b=a.map (ren ρ)) (sr_pure (by simp)) ?_
    rintro zero _ rfl
    rw [zero_map]
    exact sr_bind sr_newRow (by rintro a _ rfl;exact sr_pure rfl)
   ·refine sr_bind (sr_zeroValue hz) ?_
    rintro z _ rfl
    refine sr_bind (r:=fun (a b:Array Value)=>b=a.map (ren ρ)) (sr_pure ren_agg_inv) ?_
    rintro zero _ rfl
    rw [zero_map]
    exact sr_bind sr_newRow (by rintro a _ rfl;exact sr_pure rfl)
 | _=>exact sr_stuck
theorem sr_checkKey (e:Bool):∀ (n:Nat) (t:TypeId) (v:Value),SI P mf nc ρ K (Instr.checkKey e n t v) (Instr.checkKey e n t (ren ρ v)):=by
 intro n
 induction n with
 | zero=>exact fun _ _=>sr_unsupported
 | succ n ih =>
  intro t v
  unfold Instr.checkKey
  refine sr_bind (info_underlying t).sr ?_
  rintro _ d rfl
  cases d with
  | interface ms =>
   cases v with
   | iface d x =>
    refine sr_bind (info_typeInfo _).sr ?_
    rintro _ i rfl
    dsimp only
    split
    ·refine .dead ?_
     split
     ·exact dead_bind (dead_runtimePanic _)
     ·exact dead_after (by first | exact trivial | exact fun _=>trivial | exact calm_typeStr _) fun _=>dead_bind (dead_runtimePanic _)
    ·exact ih d x
   | nilIface=>exact sr_pure rfl
   | _=>exact sr_stuck
  | array len elem =>
   cases v with
   | agg cs =>
    dsimp only [ren]
    rw [renA_eq]
    refine sr_bind (r:=fun a b=>b=a) ?_ (by rintro _ _ rfl;exact sr_pure rfl)
    rw [Std.Legacy.Range.forIn_eq_forIn_range',Std.Legacy.Range.forIn_eq_forIn_range']
    refine sr_forIn_list fun f _ b=>?_
    refine sr_bind (info_sizeOf _).sr ?_
    rintro _ s rfl
    refine sr_bind sr_part ?_
    rintro v _ rfl
    exact sr_bind (ih elem v) (by rintro _ _ rfl;exact sr_pure rfl)
   | _=>exact sr_stuck
  | struct fields =>
   cases v with
   | agg cs =>
    dsimp only [ren]
    rw [renA_eq]
    refine sr_bind (r:=fun a b=>b=a) ?_ (by rintro _ _ rfl;exact sr_pure rfl)
    rw [← Array.forIn_toList,← Array.forIn_toList]
    refine sr_forIn_list fun f _ b=>?_
    split
    ·refine sr_bind sr_part ?_
     rintro v _ rfl
     exact sr_bind (ih f.type v) (by rintro _ _ rfl;exact sr_pure rfl)
    ·exact sr_pure rfl
   | _=>exact sr_stuck
  | _=>exact sr_pure rfl
theorem sameNow_chan (d:TypeDesc) (r:Option Nat) (w:Value):Instr.sameNow d (ren ρ (.chan r)) w=none∧Instr.sameNow d w (ren ρ (.chan r))=none:=by
 rcases ren_chan ρ r with ⟨_,h⟩ | ⟨_,_,_,h⟩ | ⟨_,h⟩ | ⟨_,_,_,h,_⟩ | ⟨_,h⟩<;>rw [h]<;>cases d<;>cases w<;>exact⟨rfl,rfl⟩
theorem sameNow_func (d:TypeDesc) (f:Fn) (x y:Array Value) (w:Value):Instr.sameNow d (ren ρ (.func f x y)) w=none∧Instr.sameNow d w (ren ρ (.func f x y))=none:=by
 obtain⟨_,_,_,h⟩:=ren_func ρ f x y
 rw [h]
 cases d<;>cases w<;>exact⟨rfl,rfl⟩
theorem sameNow_ren {d:TypeDesc} {a b:Value}:Instr.sameNow d (ren ρ a) (ren ρ b)=Instr.sameNow d a b:=by
 cases a with
 | chan r=>rw [(sameNow_chan d r _).1];cases d<;>cases b<;>rfl
 | func f x y=>rw [(sameNow_func d f x y _).1];cases d<;>cases b<;>rfl
 | _ =>
  cases b with
  | chan r=>rw [(sameNow_chan d r _).2];cases d<;>rfl
  | func f x y=>rw [(sameNow_func d f x y _).2];cases d<;>rfl
  | _=>cases d<;>rfl
def scalarV:Value→Bool
 | .bool _ | .int .. | .string _ | .pointer _=>true
 | _=>false
variable (P) in
def scalarT (t:TypeId):Bool:=match P.underlying t with
 | some .bool | some (.int _) | some .string=>true
 | _=>false
theorem dead_equalIn {d:Nat} {t:TypeId} (h:scalarT P t=true) {x y:Value} (hxy:¬ (scalarV x=true∧scalarV y=true)):Dead P (Op.equalIn (d+1) t x y):=by
 unfold Op.equalIn
 unfold underlying
 show Dead P (Sem.bind (match P.underlying t with | some d=>pure d | none=>stuck "no such type") _)
 unfold scalarT at h
 cases hu:P.underlying t with
 | none=>rw [hu] at h;cases h
 | some d =>
  rw [hu] at h
  cases d<;>first
   | (cases h;done)
   | (cases x with
     | pointer p =>
      cases y with
      | pointer q=>exfalso;exact hxy ⟨rfl,rfl⟩
      | _=>cases p<;>first | trivial | (exfalso;exact hxy ⟨rfl,rfl⟩)
     | _ =>
      cases y with
      | pointer p=>cases p<;>first | trivial | (exfalso;exact hxy ⟨rfl,rfl⟩)
      | _=>first | trivial | (exfalso;exact hxy ⟨rfl,rfl⟩))
theorem dead_equal {t:TypeId} (h:scalarT P t=true) {x y:Value} (hxy:¬ (scalarV x=true∧scalarV y=true)):Dead P (Op.equal t x y):=by
 unfold Op.equal
 rw [show Op.maxDepth=9999+1 from rfl]
 exact dead_equalIn h hxy
theorem findNow_ren {d:TypeDesc} {k:Value}:∀ {es:List MapEntry} {i:Nat},Instr.findNow d (ren ρ k) (es.map (renEntry ρ)) i=(Instr.findNow d k es i).map (·.map fun x=>(x.1,ren ρ x.2))
 | [],_=>rfl
 | e :: es,i=>by
  simp only [List.map_cons,Instr.findNow]
  rw [show (renEntry ρ e).key=ren ρ e.key from rfl,sameNow_ren]
  cases Instr.sameNow d k e.key with
  | none=>rfl
  | some b=>cases b<;>first | exact findNow_ren | rfl
def FoundAt (k:Value) (es:List MapEntry) (i0:Nat) (i:Nat):Prop:=∃ j e,es[j]?=some e∧i=i0+j∧scalarV k=true∧scalarV e.key=true
theorem FoundAt.cons {k:Value} {es:List MapEntry} {i0 i:Nat} {e:MapEntry} (h:FoundAt k es (i0+1) i):FoundAt k (e :: es) i0 i:=by
 obtain⟨j,e',h1,rfl,h2⟩:=h
 exact⟨j+1,e',h1,by omega,h2⟩
theorem findNow_at {d:TypeDesc} {k:Value}:∀ {es:List MapEntry} {i0 i:Nat} {v:Value},Instr.findNow d k es i0=some (some (i,v))→FoundAt k es i0 i
 | [],_,_,_,h=>by simp [Instr.findNow] at h
 | e :: es,i0,i,v,h=>by
  simp only [Instr.findNow] at h
  cases hs:Instr.sameNow d k e.key with
  | none=>rw [hs] at h;cases h
  | some b =>
   rw [hs] at h
   cases b with
   | false=>exact (findNow_at h).cons
   | true =>
    simp only [Option.some.injEq,Prod.mk.injEq] at h
    obtain⟨rfl,_⟩:=h
    refine⟨0,e,rfl,rfl,?_⟩
    revert hs
    generalize e.key=ke
    intro hs
    unfold Instr.sameNow at hs
    split at hs<;>first | exact⟨rfl,rfl⟩ | cases hs
theorem sr_findAsking (R:RenOk P ρ) {t:TypeId} (h:eqOk P Op.maxDepth t=true) {k:Value}:∀ {es:List MapEntry} {i:Nat},
  SR P mf nc ρ (fun a b=>b=a.map (fun x=>(x.1,ren ρ x.2))∧(scalarT P t=true→∀ j v,a=some (j,v)→FoundAt k es i j)) K (Instr.findAsking t k es i) (Instr.findAsking t (ren ρ k) (es.map (renEntry ρ)) i)
 | [],_=>sr_pure ⟨rfl,fun _ _ _ e=>by cases e⟩
 | e :: es,i=>by
  simp only [List.map_cons,Instr.findAsking]
  by_cases hd:scalarT P t=true∧¬ (scalarV k=true∧scalarV e.key=true)
  ·exact .dead (dead_bind (dead_equal hd.1 hd.2))
  refine sr_bind (sr_equal R h (y:=e.key)) ?_
  rintro _ b rfl
  cases b
  ·exact (sr_findAsking R h).mono fun a b hab=>⟨hab.1,fun hs j v hv=>(hab.2 hs j v hv).cons⟩
  ·refine sr_pure ⟨rfl,fun hs j v hv=>?_⟩
   cases hv
   have:=Classical.byContradiction fun hn=>hd ⟨hs,hn⟩
   exact⟨0,e,rfl,rfl,this⟩
theorem sr_findKeyAt (R:RenOk P ρ) {t:TypeId} (h:eqOk P Op.maxDepth t=true) {k:Value} {es:List MapEntry} :
  SR P mf nc ρ (fun a b=>b=a.map (fun x=>(x.1,ren ρ x.2))∧(scalarT P t=true→∀ j v,a=some (j,v)→FoundAt k es 0 j)) K (Instr.findKey t k es) (Instr.findKey t (ren ρ k) (es.map (renEntry ρ))):=by
 unfold Instr.findKey
 refine sr_bind (info_underlying t).sr ?_
 rintro _ d rfl
 rw [findNow_ren]
 cases hf:Instr.findNow d k es 0 with
 | none=>exact sr_findAsking R h
 | some r =>
  refine sr_pure ⟨rfl,fun _ j v hv=>?_⟩
  subst hv
  exact findNow_at hf
theorem sr_findKey (R:RenOk P ρ) {t:TypeId} (h:eqOk P Op.maxDepth t=true) {k:Value} {es:List MapEntry} :
  SR P mf nc ρ (fun a b=>b=a.map fun x=>(x.1,ren ρ x.2)) K (Instr.findKey t k es) (Instr.findKey t (ren ρ k) (es.map (renEntry ρ))):=(sr_findKeyAt R h).mono fun _ _ h=>h.1
variable (P) in
def keyOk (t:TypeId):Bool:=decide (t<P.types.size) && match P.underlying t with
 | some (.map k _)=>eqOk P Op.maxDepth k
 | _=>true
theorem sr_lookup (R:RenOk P ρ) {t:TypeId} (h:keyOk P t=true) (hz:ezOk P t=true) {x k:Value} {ok:Bool}:SV P mf nc ρ K (Instr.lookup t x k ok) (Instr.lookup t (ren ρ x) (ren ρ k) ok):=by
 unfold Instr.lookup
 refine sr_bind (underlying_at t) ?_
 rintro _ d ⟨rfl,hd⟩
 cases d with
 | map key elem =>
  have hk:eqOk P Op.maxDepth key=true:=by have h:=h;simp [keyOk,hd] at h;exact h.2
  have hz:zOk P elem=true:=by simpa [ezOk,hd] using hz
  cases x with
  | map r =>
   cases r with
   | none =>
    refine sr_bind (r:=fun (a b:Array MapEntry)=>b=a.map (renEntry ρ)) (sr_pure (by simp)) ?_
    rintro es _ rfl
    dsimp only
    rw [show (es.map (renEntry ρ)).isEmpty=es.isEmpty by simp [Array.isEmpty],Array.toList_map]
    refine sr_bind (sr_checkKey _ _ _ _) ?_
    rintro _ _ rfl
    refine sr_bind (sr_findKey R hk) ?_
    rintro r _ rfl
    cases r with
    | some v =>
     refine sr_bind (r:=fun a b=>b=(ren ρ a.1,a.2)) (sr_pure rfl) ?_
     rintro ⟨v,b⟩ _ rfl
     cases ok<;>exact sr_pure (by simp [ren,renA_eq])
    | none =>
     refine sr_bind (sr_zeroValue hz) ?_
     rintro z _ rfl
     refine sr_bind (r:=fun a b=>b=(ren ρ a.1,a.2)) (sr_pure rfl) ?_
     rintro ⟨v,b⟩ _ rfl
     cases ok<;>exact sr_pure (by simp [ren,renA_eq])
   | some r =>
    refine sr_bind sr_getObj ?_
    rintro o _ rfl
    cases o with
    | map es cl =>
     refine sr_bind (r:=fun (a b:Array MapEntry)=>b=a.map (renEntry ρ)) (sr_pure rfl) ?_
     rintro es _ rfl
     dsimp only
     rw [show (es.map (renEntry ρ)).isEmpty=es.isEmpty by simp [Array.isEmpty],Array.toList_map]
     refine sr_bind (sr_checkKey _ _ _ _) ?_
     rintro _ _ rfl
     refine sr_bind (sr_findKey R hk) ?_
     rintro r _ rfl
     cases r with
     | some v =>
      refine sr_bind (r:=fun a b=>b=(ren ρ a.1,a.2)) (sr_pure rfl) ?_
      rintro ⟨v,b⟩ _ rfl
      cases ok<;>exact sr_pure (by simp [ren,renA_eq])
     | none =>
      refine sr_bind (sr_zeroValue hz) ?_
      rintro z _ rfl
      refine sr_bind (r:=fun a b=>b=(ren ρ a.1,a.2)) (sr_pure rfl) ?_
      rintro ⟨v,b⟩ _ rfl
      cases ok<;>exact sr_pure (by simp [ren,renA_eq])
    | _=>exact .dead trivial
  | _=>exact .dead trivial
 | _=>exact sr_stuck
end
end Go.Con
