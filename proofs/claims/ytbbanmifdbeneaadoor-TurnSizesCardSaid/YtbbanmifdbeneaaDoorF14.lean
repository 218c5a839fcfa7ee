import Derived.Test.YtbbanmifdbeneaaDoorF13
set_option linter.all false
open Go.Instr renaming sameNow → jqa, fill → jqb, findNow → jqc, findKey → jqe
open Option renaming map_some → jqd
open Array renaming toList_map → jqf
namespace Go.Con
open Go
variable [Lone]
section
variable {P:Program} {mf:Md} {nc:Bool} {ρ:Rn} {K:Nat→Prop}
theorem zga {op:BinOp} {k:IntKind} {a b:Int}:SV P mf nc ρ K (Op.intArith op k a b) (Op.intArith op k a b):=by
 unfold Op.intArith;cases op<;>first | exact zac rfl | exact zad
theorem zmL {op:BinOp} {k:IntKind} {a b:Int}:SV P mf nc ρ K (Op.intDiv op k a b) (Op.intDiv op k a b):=by
 unfold Op.intDiv;split
 ·exact zaX
 ·cases op<;>first | exact zac rfl | exact zad
theorem zhc {op:BinOp} {k:IntKind} {a b:Int}:SV P mf nc ρ K (Op.intBits op k a b) (Op.intBits op k a b):=by
 unfold Op.intBits;cases op<;>first | exact zac rfl | exact zad
theorem zl2 {op:BinOp} {a b:Int}:SV P mf nc ρ K (Op.intCmp op a b) (Op.intCmp op a b):=by
 unfold Op.intCmp;cases op<;>first | exact zac rfl | exact zad
theorem znm {op:BinOp} {k k' : IntKind} {a b:Int}:SV P mf nc ρ K (Op.shift op k a k' b) (Op.shift op k a k' b):=by
 unfold Op.shift;split
 ·exact zaX
 ·cases op<;>first | exact zac rfl | exact zad
theorem zeA {op:BinOp} {a b:ByteArray}:SV P mf nc ρ K (Op.stringOp op a b) (Op.stringOp op a b):=by
 unfold Op.stringOp
 cases op<;>first | exact zac rfl | exact zad | (dsimp only;split<;>first | exact zai | exact zac rfl)
theorem zgz (op:BinOp) (k:FloatKind) (x y:Nat):Info P (Op.floatArith op k x y):=by
 unfold Op.floatArith;dsimp only;cases op
 all_goals refine Info.bind (by first | exact za7 _ | exact zcJ _) fun r=>?_
 all_goals cases r<;>first | exact za7 _ | exact (za1 _).bind fun _=>za7 _
theorem zhE {op:BinOp} {k:FloatKind} {x y:Nat}:SV P mf nc ρ K (Op.floatArith op k x y) (Op.floatArith op k x y):=by
 unfold Op.floatArith;dsimp only;cases op
 all_goals refine zab (Info.sr (by first | exact za7 _ | exact zcJ _)) ?_
 all_goals
  rintro _ r rfl
  cases r<;>first | exact zac rfl | exact zab (za1 _).sr (by rintro _ n rfl;exact zac rfl)
theorem zju {op:BinOp} {k:FloatKind} {x y:Nat}:SV P mf nc ρ K (Op.floatCmp op k x y) (Op.floatCmp op k x y):=by
 unfold Op.floatCmp
 cases op<;>first | exact zac rfl | exact zad
theorem zeb (op:BinOp) (k:FloatKind) (x y:Nat):Info P (Op.Complex.arith op k x y):=by
 unfold Op.Complex.arith;refine (zgz _ _ _ _).bind fun v=>?_
 cases v<;>first | exact za7 _ | exact zcJ _
theorem zh7 (op:BinOp) (k:FloatKind) (x y:Nat):Info P (Op.Complex.cmp op k x y):=by
 unfold Op.Complex.cmp;refine Info.bind ?_ fun v=>?_
 ·unfold Op.floatCmp;cases op<;>first | exact za7 _ | exact zcJ _
 ·unfold asBool;cases v<;>first | exact za7 _ | exact zcJ _
theorem zl0 (s:FloatKind) (x:Nat) (d:FloatKind):Info P (Op.Complex.conv s x d):=by
 unfold Op.Complex.conv;split
 ·exact za7 _
 ·refine Info.bind ?_ fun v=>?_
  ·unfold Conv.floatToFloat
   dsimp only
   repeat' (first | exact za7 _ | exact (za1 _).bind fun _=>za7 _ | split)
  ·cases v<;>first | exact za7 _ | exact zcJ _
theorem zi8 (a b c d:Nat):Info P (Op.Complex.product a b c d):=by
 unfold Op.Complex.product Op.Complex.mul Op.Complex.add Op.Complex.sub
 repeat' (first | exact za7 _ | refine (zeb _ _ _ _).bind fun _=>?_)
theorem zg0 (s a b c d:Nat):Info P (Op.Complex.corrected s a b c d):=by
 unfold Op.Complex.corrected Op.Complex.mul Op.Complex.add Op.Complex.sub
 repeat' (first | exact za7 _ | refine (zeb _ _ _ _).bind fun _=>?_)
theorem zhB (a b c d:Nat):Info P (Op.Complex.quotient a b c d):=by
 unfold Op.Complex.quotient Op.Complex.mul Op.Complex.add Op.Complex.sub Op.Complex.quo;dsimp only;refine (zh7 _ _ _ _).bind fun _=>?_;split
 all_goals repeat' (first | (with_reducible exact za7 _) | (with_reducible exact zg0 _ _ _ _ _) | (with_reducible refine Info.bind (zeb _ _ _ _) fun _=>?_) | (with_reducible refine Info.bind (zh7 _ _ _ _) fun _=>?_) | (with_reducible refine Info.bind (za7 _) fun _=>?_) | split)
theorem ziI {op:BinOp} {k:FloatKind} {a b c d:Nat}:SV P mf nc ρ K (Op.complexOp op k a b c d) (Op.complexOp op k a b c d):=by
 unfold Op.complexOp
 cases op<;>try exact zad
 all_goals dsimp only
 all_goals repeat' (first
  | (with_reducible exact zac rfl)
  | (with_reducible refine zab (zeb _ _ _ _).sr ?_;rintro _ x rfl)
  | (with_reducible refine zab (zh7 _ _ _ _).sr ?_;rintro _ x rfl)
  | (with_reducible refine zab (zl0 _ _ _).sr ?_;rintro _ x rfl)
  | (with_reducible refine zab (zi8 _ _ _ _).sr ?_;rintro _ x rfl)
  | (with_reducible refine zab (zhB _ _ _ _).sr ?_;rintro _ x rfl)
  | exact zac rfl
  | split)
def ziZ (P:Program) (op:BinOp) (t:TypeId):Bool:=!(op matches .eql | .neq) || eqOk P Op.maxDepth t
end
end Go.Con
namespace Go.Con
open Go
variable [Lone]
section
variable {P:Program} {mf:Md} {nc:Bool} {ρ:Rn} {K:Nat→Prop}
theorem zeL {op:BinOp} {t:TypeId} (h:ziZ P op t=true):(op=.eql∨op=.neq)→eqOk P Op.maxDepth t=true:=by
 intro hop;simp only [ziZ,Bool.or_eq_true,Bool.not_eq_true'] at h;rcases h with h' | h'
 ·rcases hop with rfl | rfl<;>cases h'
 ·exact h'
theorem zfm (R:RenOk P ρ) {t:TypeId} {x y:Value} (h:eqOk P Op.maxDepth t=true):SV P mf nc ρ K (do pure (.bool (← Op.equal t x y))) (do pure (.bool (← Op.equal t (ren ρ x) (ren ρ y)))) :=
 zab (zhX R h) (by rintro _ b rfl;exact zac rfl)
theorem zfp (R:RenOk P ρ) {t:TypeId} {x y:Value} (h:eqOk P Op.maxDepth t=true):SV P mf nc ρ K (do pure (.bool (!(← Op.equal t x y)))) (do pure (.bool (!(← Op.equal t (ren ρ x) (ren ρ y))))) :=
 zab (zhX R h) (by rintro _ b rfl;exact zac rfl)
def dull:Value→Bool
 | .int .. | .float .. | .complex .. | .string _ | .pointer _=>false
 | _=>true
theorem zmD {op:BinOp} {t:TypeId} {x y:Value} (hx:dull x=true) (h1:op≠.eql) (h2:op≠.neq):Dead P (binOp op t x y):=by
 cases x<;>first | (cases hx;done) | (cases y<;>cases op<;>first | trivial | (exact (h1 rfl).elim) | (exact (h2 rfl).elim))
theorem zhz (R:RenOk P ρ) {op:BinOp} {t:TypeId} {x y:Value} (h:ziZ P op t=true) (hx:dull x=true):SV P mf nc ρ K (binOp op t x y) (binOp op t (ren ρ x) (ren ρ y)):=by
 have he:=zeL h;by_cases h1:op=.eql
 ·subst h1
  cases x with
  | chan r =>
   have e:binOp .eql t (ren ρ (.chan r)) (ren ρ y)=(do pure (.bool (← Op.equal t (ren ρ (.chan r)) (ren ρ y)))):=by
    rcases zcd ρ r with ⟨_,h⟩ | ⟨_,_,_,h⟩ | ⟨_,h⟩ | ⟨_,_,_,h,_⟩ | ⟨_,h⟩<;>rw [h]<;>rfl
   rw [e];exact zfm (x:=.chan r) R (he (.inl rfl))
  | func f a b =>
   have e:binOp .eql t (ren ρ (.func f a b)) (ren ρ y)=(do pure (.bool (← Op.equal t (ren ρ (.func f a b)) (ren ρ y)))):=by
    obtain⟨_,_,_,h⟩:=za5 ρ f a b;rw [h];rfl
   rw [e];exact zfm (x:=.func f a b) R (he (.inl rfl))
  | _=>first | (cases hx;done) | exact zfm R (he (.inl rfl))
 by_cases h2:op=.neq
 ·subst h2
  cases x with
  | chan r =>
   have e:binOp .neq t (ren ρ (.chan r)) (ren ρ y)=(do pure (.bool (!(← Op.equal t (ren ρ (.chan r)) (ren ρ y))))):=by
    rcases zcd ρ r with ⟨_,h⟩ | ⟨_,_,_,h⟩ | ⟨_,h⟩ | ⟨_,_,_,h,_⟩ | ⟨_,h⟩<;>rw [h]<;>rfl
   rw [e];exact zfp (x:=.chan r) R (he (.inr rfl))
  | func f a b =>
   have e:binOp .neq t (ren ρ (.func f a b)) (ren ρ y)=(do pure (.bool (!(← Op.equal t (ren ρ (.func f a b)) (ren ρ y))))):=by
    obtain⟨_,_,_,h⟩:=za5 ρ f a b;rw [h];rfl
   rw [e];exact zfp (x:=.func f a b) R (he (.inr rfl))
  | _=>first | (cases hx;done) | exact zfp R (he (.inr rfl))
 exact .dead (zmD hx h1 h2)
theorem zoi {op:BinOp} {t:TypeId} {k:IntKind} {a:Int} {y:Value} (hy:dull y=true∨(∃ k b,y=.float k b)∨(∃ k b c,y=.complex k b c)∨∃ s,y=.string s) (h1:op≠.eql) (h2:op≠.neq):Dead P (binOp op t (.int k a) y):=by
 rcases hy with hy | ⟨_,_,rfl⟩ | ⟨_,_,_,rfl⟩ | ⟨_,rfl⟩
 ·cases y<;>first | (cases hy;done) | (cases op<;>first | trivial | (exact (h1 rfl).elim) | (exact (h2 rfl).elim))
 all_goals cases op<;>first | trivial | (exact (h1 rfl).elim) | (exact (h2 rfl).elim)
theorem zqG (op:BinOp):op=.eql∨op=.neq∨(op≠.eql∧op≠.neq):=by
 by_cases h1:op=.eql
 ·exact .inl h1
 ·by_cases h2:op=.neq
  ·exact .inr (.inl h2)
  ·exact .inr (.inr ⟨h1,h2⟩)
theorem zk4 {op:BinOp} {t:TypeId} {k k' : IntKind} {a b:Int}:SV P mf nc ρ K (binOp op t (.int k a) (.int k' b)) (binOp op t (.int k a) (.int k' b)):=by
 unfold binOp
 cases op<;>first
  | exact znm
  | (dsimp only;split<;>first | exact zad | exact zga | exact zmL | exact zhc | exact zl2)
theorem zkM (R:RenOk P ρ) {op:BinOp} {t:TypeId} (h:ziZ P op t=true) {k:IntKind} {a:Int} {b:Option Addr}:SV P mf nc ρ K (binOp op t (.int k a) (.pointer b)) (binOp op t (.int k a) (ren ρ (.pointer b))):=by
 have he:=zeL h
 cases b with
 | none=>cases op<;>first | exact zfm (x:=.int k a) (y:=.pointer none) R (he (by simp)) | exact zfp (x:=.int k a) (y:=.pointer none) R (he (by simp)) | exact zcs (x:=.pointer none) (y:=.int k a) | exact zai | exact zad
 | some b=>cases op<;>first | exact zfm (x:=.int k a) (y:=.pointer (some b)) R (he (by simp)) | exact zfp (x:=.int k a) (y:=.pointer (some b)) R (he (by simp)) | exact zcs (x:=.pointer (some b)) (y:=.int k a) | exact zai | exact zad | exact zab zbb (by rintro ⟨a,l⟩ _ rfl;exact zhl)
theorem zlB (R:RenOk P ρ) {op:BinOp} {t:TypeId} (h:ziZ P op t=true) {k:IntKind} {b:Int} {a:Option Addr}:SV P mf nc ρ K (binOp op t (.pointer a) (.int k b)) (binOp op t (ren ρ (.pointer a)) (.int k b)):=by
 have he:=zeL h
 cases op with
 | eql=>exact zfm (x:=.pointer a) (y:=.int k b) R (he (by simp))
 | neq=>exact zfp (x:=.pointer a) (y:=.int k b) R (he (by simp))
 | add =>
  refine zab (zar t).sr ?_;rintro _ d rfl
  cases d<;>simp only [Bool.false_eq_true,if_false,if_true]<;>first | exact zgt (x:=.pointer a) (y:=.int k b) | exact zcs (x:=.pointer a) (y:=.int k b)
 | sub=>exact zcs (x:=.pointer a) (y:=.int k (-b))
 | rem | and=>cases a<;>first | exact zai | exact zab zbb (by rintro ⟨a,l⟩ _ rfl;exact zhl)
 | _=>cases a<;>first | exact zai | exact zad
theorem zlr (R:RenOk P ρ) {op:BinOp} {t:TypeId} (h:ziZ P op t=true) {a b:Option Addr}:SV P mf nc ρ K (binOp op t (.pointer a) (.pointer b)) (binOp op t (ren ρ (.pointer a)) (ren ρ (.pointer b))):=by
 have he:=zeL h
 cases op with
 | eql=>exact zfm (x:=.pointer a) (y:=.pointer b) R (he (by simp))
 | neq=>exact zfp (x:=.pointer a) (y:=.pointer b) R (he (by simp))
 | sub | lss | leq | gtr | geq =>
  cases a with
  | none=>cases b<;>exact zai
  | some a =>
   cases b with
   | none=>exact zai
   | some b =>
    refine zab zbb ?_;rintro ⟨a,l⟩ _ rfl;refine zab zbb ?_;rintro ⟨b,m⟩ _ rfl
    first | exact zkT R | exact zkW R
 | _=>cases a<;>cases b<;>exact zai
def nip:Value→Bool
 | .int .. | .pointer _=>false
 | _=>true
theorem zi9 {op:BinOp} {t:TypeId} {a:Option Addr} {y:Value} (hy:nip y=true) (h1:op≠.eql) (h2:op≠.neq):Dead P (binOp op t (.pointer a) y):=by
 cases y<;>first | (cases hy;done) | (cases a<;>cases op<;>first | trivial | (exact (h1 rfl).elim) | (exact (h2 rfl).elim))
theorem zn5 {op:BinOp} {t:TypeId} {s:ByteArray} {y:Value} (hy:∀ s,y≠.string s) (h1:op≠.eql) (h2:op≠.neq):Dead P (binOp op t (.string s) y):=by
 cases y<;>first | (exact (hy _ rfl).elim) | (cases op<;>first | trivial | (exact (h1 rfl).elim) | (exact (h2 rfl).elim))
theorem zob {op:BinOp} {t:TypeId} {k:FloatKind} {a:Nat} {y:Value} (hy:∀ k s,y≠.float k s) (h1:op≠.eql) (h2:op≠.neq):Dead P (binOp op t (.float k a) y):=by
 cases y<;>first | (exact (hy _ _ rfl).elim) | (cases op<;>first | trivial | (exact (h1 rfl).elim) | (exact (h2 rfl).elim))
theorem znB {op:BinOp} {t:TypeId} {k:FloatKind} {a b:Nat} {y:Value} (hy:∀ k s r,y≠.complex k s r) (h1:op≠.eql) (h2:op≠.neq):Dead P (binOp op t (.complex k a b) y):=by
 cases y<;>first | (exact (hy _ _ _ rfl).elim) | (cases op<;>first | trivial | (exact (h1 rfl).elim) | (exact (h2 rfl).elim))
theorem zmt {op:BinOp} {t:TypeId} {k:IntKind} {a:Int} {y:Value} (hy:nip y=true) (h1:op≠.eql) (h2:op≠.neq):Dead P (binOp op t (.int k a) y):=by
 refine zoi ?_ h1 h2
 cases y<;>first | (cases hy;done) | exact .inl rfl | exact .inr (.inl ⟨_,_,rfl⟩) | exact .inr (.inr (.inl ⟨_,_,_,rfl⟩)) | exact .inr (.inr (.inr ⟨_,rfl⟩))
theorem zoR {op:BinOp} {t:TypeId} {k k' : FloatKind} {a b:Nat}:SV P mf nc ρ K (binOp op t (.float k a) (.float k' b)) (binOp op t (.float k a) (.float k' b)):=by
 unfold binOp
 cases op<;>(dsimp only;split<;>first | exact zad | exact zhE | exact zju)
theorem zoW {op:BinOp} {t:TypeId} {k k' : FloatKind} {a b c d:Nat}:SV P mf nc ρ K (binOp op t (.complex k a b) (.complex k' c d)) (binOp op t (.complex k a b) (.complex k' c d)):=by
 unfold binOp
 cases op<;>(dsimp only;split<;>first | exact zad | exact ziI)
theorem zpE {op:BinOp} {t:TypeId} {a b:ByteArray}:SV P mf nc ρ K (binOp op t (.string a) (.string b)) (binOp op t (.string a) (.string b)):=by
 unfold binOp
 cases op<;>(dsimp only;exact zeA)
theorem zkl {t:TypeId} {x y:Value} (hx:(∀ k a,x≠.int k a)∨∀ k a,y≠.int k a) (hs:(∀ s,x≠.string s)∨∀ s,y≠.string s) (hf:(∀ k s,x≠.float k s)∨∀ k s,y≠.float k s) (hc:(∀ k s r,x≠.complex k s r)∨∀ k s r,y≠.complex k s r) :
  binOp .eql t x y=(do pure (.bool (← Op.equal t x y)))∧binOp .neq t x y=(do pure (.bool (!(← Op.equal t x y)))):=by
 cases x with
 | int k a=>cases y<;>first | exact⟨rfl,rfl⟩ | (rcases hx with h | h<;>exact (h _ _ rfl).elim)
 | string s=>cases y<;>first | exact⟨rfl,rfl⟩ | (rcases hs with h | h<;>exact (h _ rfl).elim)
 | float k s=>cases y<;>first | exact⟨rfl,rfl⟩ | (rcases hf with h | h<;>exact (h _ _ rfl).elim)
 | complex k s r=>cases y<;>first | exact⟨rfl,rfl⟩ | (rcases hc with h | h<;>exact (h _ _ _ rfl).elim)
 | _=>exact⟨rfl,rfl⟩
theorem znG (R:RenOk P ρ) {op:BinOp} {t:TypeId} {x y:Value} (h:ziZ P op t=true):SV P mf nc ρ K (binOp op t x y) (binOp op t (ren ρ x) (ren ρ y)):=by
 have he:=zeL h;have eqs:∀ {x y:Value},((∀ k a,x≠.int k a)∨∀ k a,y≠.int k a)→((∀ s,x≠.string s)∨∀ s,y≠.string s)→((∀ k s,x≠.float k s)∨∀ k s,y≠.float k s)→((∀ k s r,x≠.complex k s r)∨∀ k s r,y≠.complex k s r) →
   (op≠.eql→op≠.neq→Dead P (binOp op t x y))→SV P mf nc ρ K (binOp op t x y) (binOp op t (ren ρ x) (ren ρ y)):=by
  intro x y a1 a2 a3 a4 hd;have b1:(∀ k a,ren ρ x≠.int k a)∨∀ k a,ren ρ y≠.int k a:=a1.imp (fun g k a e=>by cases x<;>first | exact (zbH ρ _).1 _ _ e | exact (zbO ρ _ _ _).1 _ _ e | simp_all [ren]) (fun g k a e=>by cases y<;>first | exact (zbH ρ _).1 _ _ e | exact (zbO ρ _ _ _).1 _ _ e | simp_all [ren]);have b2:(∀ s,ren ρ x≠.string s)∨∀ s,ren ρ y≠.string s:=a2.imp (fun g s e=>by cases x<;>first | exact (zbH ρ _).2.1 _ e | exact (zbO ρ _ _ _).2.1 _ e | simp_all [ren]) (fun g s e=>by cases y<;>first | exact (zbH ρ _).2.1 _ e | exact (zbO ρ _ _ _).2.1 _ e | simp_all [ren]);have b3:(∀ k s,ren ρ x≠.float k s)∨∀ k s,ren ρ y≠.float k s:=a3.imp (fun g k a e=>by cases x<;>first | exact (zbH ρ _).2.2.1 _ _ e | exact (zbO ρ _ _ _).2.2.1 _ _ e | simp_all [ren]) (fun g k a e=>by cases y<;>first | exact (zbH ρ _).2.2.1 _ _ e | exact (zbO ρ _ _ _).2.2.1 _ _ e | simp_all [ren]);have b4:(∀ k s r,ren ρ x≠.complex k s r)∨∀ k s r,ren ρ y≠.complex k s r:=a4.imp (fun g k a c e=>by cases x<;>first | exact (zbH ρ _).2.2.2 _ _ _ e | exact (zbO ρ _ _ _).2.2.2 _ _ _ e | simp_all [ren]) (fun g k a c e=>by cases y<;>first | exact (zbH ρ _).2.2.2 _ _ _ e | exact (zbO ρ _ _ _).2.2.2 _ _ _ e | simp_all [ren]);rcases zqG op with rfl | rfl | ⟨h1,h2⟩
  ·rw [(zkl a1 a2 a3 a4).1,(zkl b1 b2 b3 b4).1];exact zfm R (he (.inl rfl))
  ·rw [(zkl a1 a2 a3 a4).2,(zkl b1 b2 b3 b4).2];exact zfp R (he (.inr rfl))
  ·exact .dead (hd h1 h2)
 cases x with
 | int k a =>
  cases hy:nip y with
  | true=>refine eqs (.inr ?_) (.inl ?_) (.inl ?_) (.inl ?_) (fun h1 h2=>zmt hy h1 h2)<;>first | (intros;simp;done) | (intro k a e;subst e;cases hy)
  | false=>cases y<;>first | (cases hy;done) | exact zk4 | exact zkM R h
 | pointer a =>
  cases hy:nip y with
  | true=>refine eqs (.inl ?_) (.inl ?_) (.inl ?_) (.inl ?_) (fun h1 h2=>zi9 hy h1 h2)<;>(intros;simp)
  | false=>cases y<;>first | (cases hy;done) | exact zlB R h | exact zlr R h
 | float k a =>
  by_cases hy:∀ k s,y≠.float k s
  ·refine eqs (.inl ?_) (.inl ?_) (.inr hy) (.inl ?_) (fun h1 h2=>zob hy h1 h2)<;>(intros;simp)
  ·cases y<;>first | exact zoR | (exact (hy (by intros;simp)).elim)
 | complex k a b =>
  by_cases hy:∀ k s r,y≠.complex k s r
  ·refine eqs (.inl ?_) (.inl ?_) (.inl ?_) (.inr hy) (fun h1 h2=>znB hy h1 h2)<;>(intros;simp)
  ·cases y<;>first | exact zoW | (exact (hy (by intros;simp)).elim)
 | string s =>
  by_cases hy:∀ s,y≠.string s
  ·refine eqs (.inl ?_) (.inr hy) (.inl ?_) (.inl ?_) (fun h1 h2=>zn5 hy h1 h2)<;>(intros;simp)
  ·cases y<;>first | exact zpE | (exact (hy (by intros;simp)).elim)
 | _=>exact zhz R h rfl
end
end Go.Con
namespace Go.Con
open Go
variable [Lone]
section
variable {P:Program} {mf:Md} {nc:Bool} {ρ:Rn} {K:Nat→Prop}
theorem znE {op:UnOp} {x:Value}:SV P mf nc ρ K (Op.unary op x) (Op.unary op (ren ρ x)):=by
 unfold Op.unary
 cases op with
 | neg =>
  cases x with
  | int k n=>exact zga
  | pointer a=>cases a<;>first | exact zad | exact zai
  | _=>first | exact zac rfl | exact zad
 | xor =>
  cases x with
  | int k n=>exact zhc
  | pointer a=>cases a<;>first | exact zad | exact zai
  | _=>exact zad
 | _=>cases x<;>first | exact zac rfl | exact zad
theorem zlw {x:Value} {i:Nat}:SV P mf nc ρ K (Instr.extract x i) (Instr.extract (ren ρ x) i):=by
 unfold Instr.extract
 cases x with
 | tuple vs =>
  dsimp only [ren];rw [zaE,Array.getElem?_map]
  cases vs[i]?<;>first | exact zad | exact zac rfl
 | _=>exact zad
theorem znF {e:TypeId} (h:zOk P e=true) {x:Value}:SV P mf nc ρ K (Instr.alloc e true x) (Instr.alloc e true x):=by
 unfold Instr.alloc;refine zab (zb5 h) ?_;rintro z _ rfl;exact zab zja (by rintro a _ rfl;exact zac rfl)
theorem zpL {e:TypeId} {x:Value}:SV P mf nc ρ K (Instr.box e x) (Instr.box e (ren ρ x)):=by
 unfold Instr.box;exact zab zja (by rintro a _ rfl;exact zac rfl)
theorem ziy (off:Nat):∀ (l:List (Value×Nat)) (cs:Array Value),(l.map fun x=>(ren ρ x.1,x.2)).foldl (fun cs x=>cs.setIfInBounds (off+x.2) x.1) (cs.map (ren ρ))=(l.foldl (fun cs x=>cs.setIfInBounds (off+x.2) x.1) cs).map (ren ρ)
 | [],_=>rfl
 | x :: l,cs=>by
  simp only [List.map_cons,List.foldl_cons];rw [← ziy off l,Array.map_setIfInBounds]
theorem zeW (place:Nat→Option (Nat×Nat)):∀ (parts:List (Nat×Value)) (cells:Array Value),jqb place (cells.map (ren ρ)) (parts.map fun x=>(x.1,ren ρ x.2))=(jqb place cells parts).map (·.map (ren ρ))
 | [],_=>rfl
 | (i,v) :: rest,cells=>by
  simp only [List.map_cons,jqb]
  cases place i with
  | none=>rfl
  | some p =>
   obtain⟨off,size⟩:=p;simp only [zb1,Array.size_map];split
   ·rfl
   ·rw [← zeW place rest]
    congr 1;rw [← Array.foldl_toList,← Array.foldl_toList,← ziy];congr 1;simp [Array.toList_zipIdx,List.zipIdx_map]
theorem znI {t:TypeId} (h:zOk P t=true) {parts:Array (Nat×Value)}:SV P mf nc ρ K (Instr.build t parts) (Instr.build t (parts.map fun x=>(x.1,ren ρ x.2))):=by
 unfold Instr.build;refine zab (zb5 h) ?_;rintro z _ rfl;refine zab (zar t).sr ?_;rintro _ d rfl;rw [zb1,jqf]
 cases d with
 | struct fields =>
  refine zab (zmu (fun f=>(zaP _).bind fun _=>za7 _) fields).sr ?_;rintro _ places rfl;rw [zeW]
  cases jqb (fun x=>places[x]?) z.cells parts.toList with
  | none=>exact zad
  | some cells=>exact zac (by simp [ren,zaE])
 | array n elem =>
  refine zab (zaP _).sr ?_;rintro _ size rfl;rw [zeW]
  cases jqb _ z.cells parts.toList with
  | none=>exact zad
  | some cells=>exact zac (by simp [ren,zaE])
 | _=>exact zad
theorem zgB {t:TypeId}:SR P mf nc ρ (fun a b=>b=a∧P.underlying t=some a) K (underlying t) (underlying t):=zaT t
variable (P) in
def ezOk (t:TypeId):Bool:=match P.underlying t with
 | some (.slice e)=>zOk P e
 | some (.map _ e)=>zOk P e
 | _=>true
theorem zeZ {zero:Array Value} {n:Nat}:((Array.range n).map (fun i=>(zero.map (ren ρ))[i % (zero.map (ren ρ)).size]!))=((Array.range n).map (fun i=>zero[i % zero.size]!)).map (ren ρ):=by
 rw [Array.map_map];congr 1
 funext i
 simp only [Function.comp_apply,Array.size_map];rw [getElem!_def,getElem!_def,Array.getElem?_map]
 cases zero[i % zero.size]?<;>rfl
theorem zhI {t:TypeId} (h:ezOk P t=true) {len:Nat} {parts:Array (Nat×Value)}:SV P mf nc ρ K (Instr.buildSlice t len parts) (Instr.buildSlice t len (parts.map fun x=>(x.1,ren ρ x.2))):=by
 unfold Instr.buildSlice;refine zab zgB ?_;rintro _ d ⟨rfl,hd⟩
 cases d with
 | slice elem =>
  have hz:zOk P elem=true:=by simpa [ezOk,hd] using h
  refine zab (zaP _).sr ?_;rintro _ size rfl;dsimp only;rw [jqf];split
  ·exact .dead trivial
  ·split
   ·refine zab (r:=fun (a b:Array Value)=>b=a.map (ren ρ)) (zac (by simp)) ?_
    rintro zero _ rfl;rw [zeZ,zeW]
    cases jqb _ _ parts.toList with
    | none=>exact zad
    | some cells=>exact zab zcY (by rintro a _ rfl;exact zac rfl)
   ·refine zab (zb5 hz) ?_
    rintro z _ rfl;refine zab (r:=fun (a b:Array Value)=>b=a.map (ren ρ)) (zac zb1) ?_;rintro zero _ rfl;rw [zeZ,zeW]
    cases jqb _ _ parts.toList with
    | none=>exact zad
    | some cells=>exact zab zcY (by rintro a _ rfl;exact zac rfl)
 | _=>exact zad
theorem znf {a:Addr} {n m:Nat}:SR P mf nc ρ (fun a b=>b=zak ρ a) K (partAt a n m) (partAt (zak ρ a) n m):=by
 unfold partAt;refine zab zcS ?_;rintro _ x rfl;refine zab (zcS (a:={ block:=a.block,off:=a.off+n })) ?_;rintro _ y rfl;refine zac ?_;dsimp only [zak]
 split<;>rfl
theorem zhM {a:Addr} {f:Field}:SR P mf nc ρ (fun a b=>b=zak ρ a) K (fieldPlace a f) (fieldPlace (zak ρ a) f):=by
 unfold fieldPlace;refine zab (zaP _).sr ?_;rintro _ n rfl;split
 ·exact znf
 ·exact zac (zbm _ _)
theorem zlo {t:TypeId} {x:Value} {f:Nat}:SV P mf nc ρ K (Instr.fieldAt t x f) (Instr.fieldAt t (ren ρ x) f):=by
 unfold Instr.fieldAt;refine zab (zar t).sr ?_;rintro _ d rfl
 cases d with
 | struct fields =>
  dsimp only
  cases fields[f]? with
  | none=>exact zad
  | some fd =>
   refine zab zcQ ?_;rintro a _ rfl;exact zab zhM (by rintro b _ rfl;exact zac rfl)
 | _=>exact zad
theorem zn2 {x:Value}:SR P mf nc ρ (fun a b=>b=a.map (ren ρ)) K (asAgg x) (asAgg (ren ρ x)):=by
 unfold asAgg
 cases x<;>first | exact zad | exact zac (zaE _ _)
theorem zor {t:TypeId} {x:Value} {f:Nat}:SV P mf nc ρ K (Instr.field t x f) (Instr.field t (ren ρ x) f):=by
 unfold Instr.field;refine zab (zar t).sr ?_;rintro _ d rfl
 cases d with
 | struct fields =>
  dsimp only
  cases fields[f]? with
  | none=>exact zad
  | some fd =>
   refine zab zn2 ?_;rintro cs _ rfl;exact zdW
 | _=>exact zad
theorem zkN {t:TypeId} {x i:Value}:SV P mf nc ρ K (Instr.indexAt t x i) (Instr.indexAt t (ren ρ x) (ren ρ i)):=by
 unfold Instr.indexAt;refine zab zef ?_;rintro _ ⟨k,n⟩ rfl;refine zab (zar t).sr ?_;rintro _ d rfl
 cases d with
 | array len elem =>
  refine zab zcQ ?_;rintro a _ rfl;refine zab (r:=fun (a b:Option Addr×Nat×TypeId)=>b=(a.1.map (zak ρ),a.2)) (zac rfl) ?_;rintro ⟨base,len,elem⟩ _ rfl;refine zab (zar t).sr ?_;rintro _ d rfl
  cases base with
  | none=>exact zbl
  | some a =>
   dsimp only [jqd];split
   ·refine zab (zaP _).sr ?_
    rintro _ s rfl;exact zac (by simp [ren,zbm])
   ·(repeat' split)<;>first | exact zai | exact zbl
 | slice elem =>
  cases x with
  | slice base len cap =>
   refine zab (r:=fun (a b:Option Addr×Nat×TypeId)=>b=(a.1.map (zak ρ),a.2)) (zac rfl) ?_;rintro ⟨base,len,elem⟩ _ rfl;refine zab (zar t).sr ?_;rintro _ d rfl
   cases base with
   | none=>exact zbl
   | some a =>
    dsimp only [jqd];split
    ·refine zab (zaP _).sr ?_
     rintro _ s rfl;exact zac (by simp [ren,zbm])
    ·(repeat' split)<;>first | exact zai | exact zbl
  | _=>exact zad
 | _=>exact zad
theorem znk {t:TypeId} {x i:Value}:SV P mf nc ρ K (Instr.index t x i) (Instr.index t (ren ρ x) (ren ρ i)):=by
 unfold Instr.index;refine zab zef ?_;rintro _ ⟨k,n⟩ rfl;refine zab (zar t).sr ?_;rintro _ d rfl
 cases d with
 | array len elem =>
  cases x with
  | agg cs =>
   dsimp only [ren];rw [zaE];split
   ·refine zab (zaP _).sr ?_
    rintro _ s rfl;exact zdW
   ·exact zbl
  | _=>exact zad
 | string =>
  cases x with
  | string s =>
   dsimp only [ren];split
   ·exact zac rfl
   ·exact zbl
  | _=>exact zad
 | _=>exact zad
end
end Go.Con
namespace Go.Con
open Go
variable [Lone]
section
variable {P:Program} {mf:Md} {nc:Bool} {ρ:Rn} {K:Nat→Prop}
theorem zh1 {x:Value} {y:Nat} {c:BoundsCode}:SI P mf nc ρ K (Instr.sliceBound x y c) (Instr.sliceBound (ren ρ x) y c):=by
 unfold Instr.sliceBound;refine zab zef ?_;rintro _ ⟨k,i⟩ rfl;dsimp only;split
 ·exact zac rfl
 ·exact zbl
theorem zct {b:Bool} {n c:Nat} {lo hi mx:Option Value}:SI P mf nc ρ K (Instr.sliceBounds b n c lo hi mx) (Instr.sliceBounds b n c (lo.map (ren ρ)) (hi.map (ren ρ)) (mx.map (ren ρ))):=by
 unfold Instr.sliceBounds
 cases mx<;>cases hi<;>cases lo<;>dsimp only [jqd,Option.map_none]
 all_goals repeat' (first
  | exact zac rfl
  | exact .dead trivial
  | (refine zab zh1 ?_;rintro _ m rfl)
  | (refine zab (r:=fun a b=>b=a) (zac rfl) ?_;rintro _ m rfl)
  | exact .dead (zbt (by first | exact trivial | exact fun _=>trivial | exact zdR _) fun _=>trivial))
theorem zn4 {t:TypeId} {x:Value} {lo hi mx:Option Value}:SV P mf nc ρ K (Instr.slice t x lo hi mx) (Instr.slice t (ren ρ x) (lo.map (ren ρ)) (hi.map (ren ρ)) (mx.map (ren ρ))):=by
 unfold Instr.slice;refine zab (zar t).sr ?_;rintro _ d rfl
 cases d with
 | string =>
  cases x with
  | string s =>
   cases mx with
   | some m=>exact .dead trivial
   | none =>
    refine zab (zct (mx:=none)) ?_;rintro _ ⟨l,h,m⟩ rfl;exact zac rfl
  | _=>exact zad
 | slice elem =>
  cases x with
  | slice a n c =>
   refine zab zct ?_;rintro _ ⟨l,h,m⟩ rfl;refine zab (zaP _).sr ?_;rintro _ s rfl;refine zac ?_;dsimp only [ren];split
   ·rfl
   ·cases a<;>simp [zbm]
  | _=>exact zad
 | pointer arr =>
  refine zab zii ?_;rintro a _ rfl;refine zab (zar _).sr ?_;rintro _ d rfl
  cases d with
  | array n elem =>
   refine zab zct ?_;rintro _ ⟨l,h,m⟩ rfl;refine zab (zaP _).sr ?_;rintro _ s rfl;refine zac ?_;dsimp only [ren,jqd];split
   ·rfl
   ·simp [zbm]
  | _=>exact zad
 | _=>exact zad
theorem zkQ {t:TypeId} {x:Value} {lo hi mx:Option Value}:SV P mf nc ρ K (Instr.sliceAt t x lo hi mx) (Instr.sliceAt t (ren ρ x) (lo.map (ren ρ)) (hi.map (ren ρ)) (mx.map (ren ρ))):=by
 unfold Instr.sliceAt;refine zab (zar t).sr ?_;rintro _ d rfl
 cases d with
 | array n elem =>
  refine zab zcQ ?_;rintro a _ rfl;refine zab zct ?_;rintro _ ⟨l,h,m⟩ rfl;refine zab (zaP _).sr ?_;rintro _ s rfl;refine zac ?_;dsimp only [ren,jqd];split
  ·rfl
  ·simp [zbm]
 | _=>exact zn4
theorem zpl {K:Nat→Prop}:SI P mf nc ρ K (mark .noRoom) (mark .noRoom):=.mark (.pure rfl)
theorem zfg {n:Nat}:SI P mf nc ρ K (askRoom n) (askRoom n):=by
 unfold askRoom;split
 ·exact zpl
 ·exact zac rfl
theorem zmY:SR P mf nc ρ (fun a b=>b=ρ.p a) K (newObj (.map #[] 0)) (newObj (.map #[] 0)):=by
 have h:=zc7 (P:=P) (mf:=mf) (nc:=nc) (K:=K) (ρ:=ρ) (o:=.map #[] 0) rfl rfl;simp only [zaz,Array.map_empty] at h;exact h
theorem zk3 {t:TypeId} {r:Option Value}:SV P mf nc ρ K (Instr.makeMap t r) (Instr.makeMap t (r.map (ren ρ))):=by
 unfold Instr.makeMap;have fin:∀ K,SV P mf nc ρ K (do pure (.map (some (← newObj (.map #[] 0))))) (do pure (.map (some (← newObj (.map #[] 0))))):=fun K =>
  zab zmY (by rintro b _ rfl;exact zac rfl)
 cases r with
 | none=>exact fin K
 | some h =>
  refine zab (zar t).sr ?_;rintro _ d rfl
  cases d with
  | map k e=>exact zab zfT fun _ _ _=>fin K
  | _=>exact .dead trivial
theorem ziC {t:TypeId} (h:ezOk P t=true) {l c:Value}:SV P mf nc ρ K (Instr.makeSlice t l c) (Instr.makeSlice t (ren ρ l) (ren ρ c)):=by
 unfold Instr.makeSlice;refine zab (zaT t) ?_;rintro _ d ⟨rfl,hd⟩
 cases d with
 | slice elem =>
  have hz:zOk P elem=true:=by simpa [ezOk,hd] using h
  refine zab zfT ?_;rintro _ l rfl;refine zab zfT ?_;rintro _ c rfl;refine zab (zaV _).sr ?_;rintro _ i rfl;dsimp only;split
  ·refine .dead ?_
   split
   ·exact zbh (zas _)
   ·split
    ·exact zbh (zas _)
    ·exact zbt (by first | exact trivial | exact fun _=>trivial | exact zdR _) fun _=>zbh (zas _)
  ·refine zab zfg ?_
   rintro _ _ rfl;refine zab (zaP _).sr ?_;rintro _ s rfl;split
   ·refine zab (r:=fun (a b:Array Value)=>b=a.map (ren ρ)) (zac (by simp)) ?_
    rintro zero _ rfl;rw [zeZ];exact zab zcY (by rintro a _ rfl;exact zac rfl)
   ·refine zab (zb5 hz) ?_
    rintro z _ rfl;refine zab (r:=fun (a b:Array Value)=>b=a.map (ren ρ)) (zac zb1) ?_;rintro zero _ rfl;rw [zeZ];exact zab zcY (by rintro a _ rfl;exact zac rfl)
 | _=>exact zad
theorem zey (e:Bool):∀ (n:Nat) (t:TypeId) (v:Value),SI P mf nc ρ K (Instr.checkKey e n t v) (Instr.checkKey e n t (ren ρ v)):=by
 intro n
 induction n with
 | zero=>exact fun _ _=>zai
 | succ n ih =>
  intro t v;unfold Instr.checkKey;refine zab (zar t).sr ?_;rintro _ d rfl
  cases d with
  | interface ms =>
   cases v with
   | iface d x =>
    refine zab (zaV _).sr ?_;rintro _ i rfl;dsimp only;split
    ·refine .dead ?_
     split
     ·exact zbh (zas _)
     ·exact zbt (by first | exact trivial | exact fun _=>trivial | exact zdR _) fun _=>zbh (zas _)
    ·exact ih d x
   | nilIface=>exact zac rfl
   | _=>exact zad
  | array len elem =>
   cases v with
   | agg cs =>
    dsimp only [ren];rw [zaE];refine zab (r:=fun a b=>b=a) ?_ (by rintro _ _ rfl;exact zac rfl);rw [Std.Legacy.Range.forIn_eq_forIn_range',Std.Legacy.Range.forIn_eq_forIn_range'];refine zcc fun f _ b=>?_;refine zab (zaP _).sr ?_;rintro _ s rfl;refine zab zdW ?_;rintro v _ rfl;exact zab (ih elem v) (by rintro _ _ rfl;exact zac rfl)
   | _=>exact zad
  | struct fields =>
   cases v with
   | agg cs =>
    dsimp only [ren];rw [zaE];refine zab (r:=fun a b=>b=a) ?_ (by rintro _ _ rfl;exact zac rfl);rw [← Array.forIn_toList,← Array.forIn_toList];refine zcc fun f _ b=>?_;split
    ·refine zab zdW ?_
     rintro v _ rfl;exact zab (ih f.type v) (by rintro _ _ rfl;exact zac rfl)
    ·exact zac rfl
   | _=>exact zad
  | _=>exact zac rfl
theorem zfo (d:TypeDesc) (r:Option Nat) (w:Value):jqa d (ren ρ (.chan r)) w=none∧jqa d w (ren ρ (.chan r))=none:=by
 rcases zcd ρ r with ⟨_,h⟩ | ⟨_,_,_,h⟩ | ⟨_,h⟩ | ⟨_,_,_,h,_⟩ | ⟨_,h⟩<;>rw [h]<;>cases d<;>cases w<;>exact⟨rfl,rfl⟩
theorem zfx (d:TypeDesc) (f:Fn) (x y:Array Value) (w:Value):jqa d (ren ρ (.func f x y)) w=none∧jqa d w (ren ρ (.func f x y))=none:=by
 obtain⟨_,_,_,h⟩:=za5 ρ f x y;rw [h]
 cases d<;>cases w<;>exact⟨rfl,rfl⟩
theorem zjA {d:TypeDesc} {a b:Value}:jqa d (ren ρ a) (ren ρ b)=jqa d a b:=by
 cases a with
 | chan r=>rw [(zfo d r _).1];cases d<;>cases b<;>rfl
 | func f x y=>rw [(zfx d f x y _).1];cases d<;>cases b<;>rfl
 | _ =>
  cases b with
  | chan r=>rw [(zfo d r _).2];cases d<;>rfl
  | func f x y=>rw [(zfx d f x y _).2];cases d<;>rfl
  | _=>cases d<;>rfl
def zcy:Value→Bool
 | .bool _ | .int .. | .string _ | .pointer _=>true
 | _=>false
variable (P) in
def zfj (t:TypeId):Bool:=match P.underlying t with
 | some .bool | some (.int _) | some .string=>true
 | _=>false
theorem ziw {d:Nat} {t:TypeId} (h:zfj P t=true) {x y:Value} (hxy:¬ (zcy x=true∧zcy y=true)):Dead P (Op.equalIn (d+1) t x y):=by
 unfold Op.equalIn;unfold underlying;show Dead P (Sem.bind (match P.underlying t with | some d=>pure d | none=>stuck "no such type") _);unfold zfj at h
 cases hu:P.underlying t with
 | none=>rw [hu] at h;cases h
 | some d =>
  rw [hu] at h
  cases d<;>first
   | (cases h;done)
   | (cases x with
     | pointer p =>
      cases y with
      | pointer q=>exfalso;exact hxy ⟨rfl,rfl⟩
      | _=>cases p<;>first | trivial | (exfalso;exact hxy ⟨rfl,rfl⟩)
     | _ =>
      cases y with
      | pointer p=>cases p<;>first | trivial | (exfalso;exact hxy ⟨rfl,rfl⟩)
      | _=>first | trivial | (exfalso;exact hxy ⟨rfl,rfl⟩))
theorem zkO {t:TypeId} (h:zfj P t=true) {x y:Value} (hxy:¬ (zcy x=true∧zcy y=true)):Dead P (Op.equal t x y):=by
 unfold Op.equal;rw [show Op.maxDepth=9999+1 from rfl];exact ziw h hxy
theorem zgC {d:TypeDesc} {k:Value}:∀ {es:List MapEntry} {i:Nat},jqc d (ren ρ k) (es.map (zaB ρ)) i=(jqc d k es i).map (·.map fun x=>(x.1,ren ρ x.2))
 | [],_=>rfl
 | e :: es,i=>by
  simp only [List.map_cons,jqc];rw [show (zaB ρ e).key=ren ρ e.key from rfl,zjA]
  cases jqa d k e.key with
  | none=>rfl
  | some b=>cases b<;>first | exact zgC | rfl
def FoundAt (k:Value) (es:List MapEntry) (i0:Nat) (i:Nat):Prop:=∃ j e,es[j]?=some e∧i=i0+j∧zcy k=true∧zcy e.key=true
theorem FoundAt.cons {k:Value} {es:List MapEntry} {i0 i:Nat} {e:MapEntry} (h:FoundAt k es (i0+1) i):FoundAt k (e :: es) i0 i:=by
 obtain⟨j,e',h1,rfl,h2⟩:=h;exact⟨j+1,e',h1,by omega,h2⟩
theorem zg6 {d:TypeDesc} {k:Value}:∀ {es:List MapEntry} {i0 i:Nat} {v:Value},jqc d k es i0=some (some (i,v))→FoundAt k es i0 i
 | [],_,_,_,h=>by simp [jqc] at h
 | e :: es,i0,i,v,h=>by
  simp only [jqc] at h
  cases hs:jqa d k e.key with
  | none=>rw [hs] at h;cases h
  | some b =>
   rw [hs] at h
   cases b with
   | false=>exact (zg6 h).cons
   | true =>
    simp only [Option.some.injEq,Prod.mk.injEq] at h;obtain⟨rfl,_⟩:=h;refine⟨0,e,rfl,rfl,?_⟩
    revert hs
    generalize e.key=ke;intro hs;unfold jqa at hs
    split at hs<;>first | exact⟨rfl,rfl⟩ | cases hs
theorem zeV (R:RenOk P ρ) {t:TypeId} (h:eqOk P Op.maxDepth t=true) {k:Value}:∀ {es:List MapEntry} {i:Nat},
  SR P mf nc ρ (fun a b=>b=a.map (fun x=>(x.1,ren ρ x.2))∧(zfj P t=true→∀ j v,a=some (j,v)→FoundAt k es i j)) K (Instr.findAsking t k es i) (Instr.findAsking t (ren ρ k) (es.map (zaB ρ)) i)
 | [],_=>zac ⟨rfl,fun _ _ _ e=>by cases e⟩
 | e :: es,i=>by
  simp only [List.map_cons,Instr.findAsking];by_cases hd:zfj P t=true∧¬ (zcy k=true∧zcy e.key=true)
  ·exact .dead (zbh (zkO hd.1 hd.2))
  refine zab (zhX R h (y:=e.key)) ?_;rintro _ b rfl;cases b
  ·exact (zeV R h).mono fun a b hab=>⟨hab.1,fun hs j v hv=>(hab.2 hs j v hv).cons⟩
  ·refine zac ⟨rfl,fun hs j v hv=>?_⟩
   cases hv
   have:=Classical.byContradiction fun hn=>hd ⟨hs,hn⟩;exact⟨0,e,rfl,rfl,this⟩
theorem zfu (R:RenOk P ρ) {t:TypeId} (h:eqOk P Op.maxDepth t=true) {k:Value} {es:List MapEntry} :
  SR P mf nc ρ (fun a b=>b=a.map (fun x=>(x.1,ren ρ x.2))∧(zfj P t=true→∀ j v,a=some (j,v)→FoundAt k es 0 j)) K (jqe t k es) (jqe t (ren ρ k) (es.map (zaB ρ))):=by
 unfold jqe;refine zab (zar t).sr ?_;rintro _ d rfl;rw [zgC]
 cases hf:jqc d k es 0 with
 | none=>exact zeV R h
 | some r =>
  refine zac ⟨rfl,fun _ j v hv=>?_⟩;subst hv;exact zg6 hf
theorem zhk (R:RenOk P ρ) {t:TypeId} (h:eqOk P Op.maxDepth t=true) {k:Value} {es:List MapEntry} :
  SR P mf nc ρ (fun a b=>b=a.map fun x=>(x.1,ren ρ x.2)) K (jqe t k es) (jqe t (ren ρ k) (es.map (zaB ρ))):=(zfu R h).mono fun _ _ h=>h.1
variable (P) in
def zk0 (t:TypeId):Bool:=decide (t<P.types.size) && match P.underlying t with
 | some (.map k _)=>eqOk P Op.maxDepth k
 | _=>true
theorem znd (R:RenOk P ρ) {t:TypeId} (h:zk0 P t=true) (hz:ezOk P t=true) {x k:Value} {ok:Bool}:SV P mf nc ρ K (Instr.lookup t x k ok) (Instr.lookup t (ren ρ x) (ren ρ k) ok):=by
 unfold Instr.lookup;refine zab (zaT t) ?_;rintro _ d ⟨rfl,hd⟩
 cases d with
 | map key elem =>
  have hk:eqOk P Op.maxDepth key=true:=by have h:=h;simp [zk0,hd] at h;exact h.2
  have hz:zOk P elem=true:=by simpa [ezOk,hd] using hz
  cases x with
  | map r =>
   cases r with
   | none =>
    refine zab (r:=fun (a b:Array MapEntry)=>b=a.map (zaB ρ)) (zac (by simp)) ?_;rintro es _ rfl;dsimp only;rw [show (es.map (zaB ρ)).isEmpty=es.isEmpty by simp [Array.isEmpty],jqf];refine zab (zey _ _ _ _) ?_;rintro _ _ rfl;refine zab (zhk R hk) ?_;rintro r _ rfl
    cases r with
    | some v =>
     refine zab (r:=fun a b=>b=(ren ρ a.1,a.2)) (zac rfl) ?_;rintro ⟨v,b⟩ _ rfl
     cases ok<;>exact zac (by simp [ren,zaE])
    | none =>
     refine zab (zb5 hz) ?_;rintro z _ rfl;refine zab (r:=fun a b=>b=(ren ρ a.1,a.2)) (zac rfl) ?_;rintro ⟨v,b⟩ _ rfl
     cases ok<;>exact zac (by simp [ren,zaE])
   | some r =>
    refine zab zcw ?_;rintro o _ rfl
    cases o with
    | map es cl =>
     refine zab (r:=fun (a b:Array MapEntry)=>b=a.map (zaB ρ)) (zac rfl) ?_;rintro es _ rfl;dsimp only;rw [show (es.map (zaB ρ)).isEmpty=es.isEmpty by simp [Array.isEmpty],jqf];refine zab (zey _ _ _ _) ?_;rintro _ _ rfl;refine zab (zhk R hk) ?_;rintro r _ rfl
     cases r with
     | some v =>
      refine zab (r:=fun a b=>b=(ren ρ a.1,a.2)) (zac rfl) ?_;rintro ⟨v,b⟩ _ rfl
      cases ok<;>exact zac (by simp [ren,zaE])
     | none =>
      refine zab (zb5 hz) ?_;rintro z _ rfl;refine zab (r:=fun a b=>b=(ren ρ a.1,a.2)) (zac rfl) ?_;rintro ⟨v,b⟩ _ rfl
      cases ok<;>exact zac (by simp [ren,zaE])
    | _=>exact .dead trivial
  | _=>exact .dead trivial
 | _=>exact zad
end
end Go.Con
