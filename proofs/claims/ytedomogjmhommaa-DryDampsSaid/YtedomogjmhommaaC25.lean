import Derived.Test.YtedomogjmhommaaC24
set_option linter.all false
set_option maxRecDepth 100000
set_option maxHeartbeats 8000000
namespace Go.Con
open Go
variable [Lone]
section
variable {P:Program} {mf:Md} {nc:Bool} {ρ:Rn} {K:Nat→Prop}
theorem sr_unary {op:UnOp} {x:Value}:SV P mf nc ρ K (Op.unary op x) (Op.unary op (ren ρ x)):=by
 unfold Op.unary
 cases op with
 | neg =>
  cases x with
  | int k n=>exact sr_intArith
  | pointer a=>cases a<;>first | exact sr_stuck | exact sr_unsupported
  | _=>first | exact sr_pure rfl | exact sr_stuck
 | xor =>
  cases x with
  | int k n=>exact sr_intBits
  | pointer a=>cases a<;>first | exact sr_stuck | exact sr_unsupported
  | _=>exact sr_stuck
 | _=>cases x<;>first | exact sr_pure rfl | exact sr_stuck
theorem sr_extract {x:Value} {i:Nat}:SV P mf nc ρ K (Instr.extract x i) (Instr.extract (ren ρ x) i):=by
 unfold Instr.extract
 cases x with
 | tuple vs =>
  dsimp only [ren]
  rw [renA_eq,Array.getElem?_map]
  cases vs[i]?<;>first | exact sr_stuck | exact sr_pure rfl
 | _=>exact sr_stuck
theorem sr_alloc {e:TypeId} (h:zOk P e=true) {x:Value}:SV P mf nc ρ K (Instr.alloc e true x) (Instr.alloc e true x):=by
 unfold Instr.alloc
 refine sr_bind (sr_zeroValue h) ?_
 rintro z _ rfl
 exact sr_bind sr_newVar (by rintro a _ rfl;exact sr_pure rfl)
theorem sr_box {e:TypeId} {x:Value}:SV P mf nc ρ K (Instr.box e x) (Instr.box e (ren ρ x)):=by
 unfold Instr.box
 exact sr_bind sr_newVar (by rintro a _ rfl;exact sr_pure rfl)
theorem foldl_ren (off:Nat):∀ (l:List (Value×Nat)) (cs:Array Value),(l.map fun x=>(ren ρ x.1,x.2)).foldl (fun cs x=>cs.setIfInBounds (off+x.2) x.1) (cs.map (ren ρ))=(l.foldl (fun cs x=>cs.setIfInBounds (off+x.2) x.1) cs).map (ren ρ)
 | [],_=>rfl
 | x :: l,cs=>by
  simp only [List.map_cons,List.foldl_cons]
  rw [← foldl_ren off l,Array.map_setIfInBounds]
theorem fill_ren (place:Nat→Option (Nat×Nat)):∀ (parts:List (Nat×Value)) (cells:Array Value),Instr.fill place (cells.map (ren ρ)) (parts.map fun x=>(x.1,ren ρ x.2))=(Instr.fill place cells parts).map (·.map (ren ρ))
 | [],_=>rfl
 | (i,v) :: rest,cells=>by
  simp only [List.map_cons,Instr.fill]
  cases place i with
  | none=>rfl
  | some p =>
   obtain⟨off,size⟩:=p
   simp only [ren_agg_inv,Array.size_map]
   split
   ·rfl
   ·rw [← fill_ren place rest]
    congr 1
    rw [← Array.foldl_toList,← Array.foldl_toList,← foldl_ren]
    congr 1
    simp [Array.toList_zipIdx,List.zipIdx_map]
theorem sr_build {t:TypeId} (h:zOk P t=true) {parts:Array (Nat×Value)}:SV P mf nc ρ K (Instr.build t parts) (Instr.build t (parts.map fun x=>(x.1,ren ρ x.2))):=by
 unfold Instr.build
 refine sr_bind (sr_zeroValue h) ?_
 rintro z _ rfl
 refine sr_bind (info_underlying t).sr ?_
 rintro _ d rfl
 rw [ren_agg_inv,Array.toList_map]
 cases d with
 | struct fields =>
  refine sr_bind (info_mapM (fun f=>(info_sizeOf _).bind fun _=>info_pure _) fields).sr ?_
  rintro _ places rfl
  rw [fill_ren]
  cases Instr.fill (fun x=>places[x]?) z.cells parts.toList with
  | none=>exact sr_stuck
  | some cells=>exact sr_pure (by simp [ren,renA_eq])
 | array n elem =>
  refine sr_bind (info_sizeOf _).sr ?_
  rintro _ size rfl
  rw [fill_ren]
  cases Instr.fill _ z.cells parts.toList with
  | none=>exact sr_stuck
  | some cells=>exact sr_pure (by simp [ren,renA_eq])
 | _=>exact sr_stuck
theorem underlying_elem {t:TypeId}:SR P mf nc ρ (fun a b=>b=a∧P.underlying t=some a) K (underlying t) (underlying t):=underlying_at t
variable (P) in
def ezOk (t:TypeId):Bool:=match P.underlying t with
 | some (.slice e)=>zOk P e
 | some (.map _ e)=>zOk P e
 | _=>true
theorem zero_map {zero:Array Value} {n:Nat}:((Array.range n).map (fun i=>(zero.map (ren ρ))[i % (zero.map (ren ρ)).size]!))=((Array.range n).map (fun i=>zero[i % zero.size]!)).map (ren ρ):=by
 rw [Array.map_map]
 congr 1
 funext i
 simp only [Function.comp_apply,Array.size_map]
 rw [getElem!_def,getElem!_def,Array.getElem?_map]
 cases zero[i % zero.size]?<;>rfl
theorem sr_buildSlice {t:TypeId} (h:ezOk P t=true) {len:Nat} {parts:Array (Nat×Value)}:SV P mf nc ρ K (Instr.buildSlice t len parts) (Instr.buildSlice t len (parts.map fun x=>(x.1,ren ρ x.2))):=by
 unfold Instr.buildSlice
 refine sr_bind underlying_elem ?_
 rintro _ d ⟨rfl,hd⟩
 cases d with
 | slice elem =>
  have hz:zOk P elem=true:=by simpa [ezOk,hd] using h
  refine sr_bind (info_sizeOf _).sr ?_
  rintro _ size rfl
  dsimp only
  rw [Array.toList_map]
  split
  ·exact .dead trivial
  ·split
   ·refine sr_bind (r:=fun (a b:Array Value)=>b=a.map (ren ρ)) (sr_pure (by simp)) ?_
    rintro zero _ rfl
    rw [zero_map,fill_ren]
    cases Instr.fill _ _ parts.toList with
    | none=>exact sr_stuck
    | some cells=>exact sr_bind sr_newRow (by rintro a _ rfl;exact sr_pure rfl)
   ·refine sr_bind (sr_zeroValue hz) ?_
    rintro z _ rfl
    refine sr_bind (r:=fun (a b:Array Value)=>b=a.map (ren ρ)) (sr_pure ren_agg_inv) ?_
    rintro zero _ rfl
    rw [zero_map,fill_ren]
    cases Instr.fill _ _ parts.toList with
    | none=>exact sr_stuck
    | some cells=>exact sr_bind sr_newRow (by rintro a _ rfl;exact sr_pure rfl)
 | _=>exact sr_stuck
theorem sr_partAt {a:Addr} {n m:Nat}:SR P mf nc ρ (fun a b=>b=renAddr ρ a) K (partAt a n m) (partAt (renAddr ρ a) n m):=by
 unfold partAt
 refine sr_bind sr_byteOf ?_
 rintro _ x rfl
 refine sr_bind (sr_byteOf (a:={ block:=a.block,off:=a.off+n })) ?_
 rintro _ y rfl
 refine sr_pure ?_
 dsimp only [renAddr]
 split<;>rfl
theorem sr_fieldPlace {a:Addr} {f:Field}:SR P mf nc ρ (fun a b=>b=renAddr ρ a) K (fieldPlace a f) (fieldPlace (renAddr ρ a) f):=by
 unfold fieldPlace
 refine sr_bind (info_sizeOf _).sr ?_
 rintro _ n rfl
 split
 ·exact sr_partAt
 ·exact sr_pure (renAddr_add _ _)
theorem sr_fieldAt {t:TypeId} {x:Value} {f:Nat}:SV P mf nc ρ K (Instr.fieldAt t x f) (Instr.fieldAt t (ren ρ x) f):=by
 unfold Instr.fieldAt
 refine sr_bind (info_underlying t).sr ?_
 rintro _ d rfl
 cases d with
 | struct fields =>
  dsimp only
  cases fields[f]? with
  | none=>exact sr_stuck
  | some fd =>
   refine sr_bind sr_sureAddr ?_
   rintro a _ rfl
   exact sr_bind sr_fieldPlace (by rintro b _ rfl;exact sr_pure rfl)
 | _=>exact sr_stuck
theorem sr_asAgg {x:Value}:SR P mf nc ρ (fun a b=>b=a.map (ren ρ)) K (asAgg x) (asAgg (ren ρ x)):=by
 unfold asAgg
 cases x<;>first | exact sr_stuck | exact sr_pure (renA_eq _ _)
theorem sr_field {t:TypeId} {x:Value} {f:Nat}:SV P mf nc ρ K (Instr.field t x f) (Instr.field t (ren ρ x) f):=by
 unfold Instr.field
 refine sr_bind (info_underlying t).sr ?_
 rintro _ d rfl
 cases d with
 | struct fields =>
  dsimp only
  cases fields[f]? with
  | none=>exact sr_stuck
  | some fd =>
   refine sr_bind sr_asAgg ?_
   rintro cs _ rfl
   exact sr_part
 | _=>exact sr_stuck
theorem sr_indexAt {t:TypeId} {x i:Value}:SV P mf nc ρ K (Instr.indexAt t x i) (Instr.indexAt t (ren ρ x) (ren ρ i)):=by
 unfold Instr.indexAt
 refine sr_bind sr_asIntOf ?_
 rintro _ ⟨k,n⟩ rfl
 refine sr_bind (info_underlying t).sr ?_
 rintro _ d rfl
 cases d with
 | array len elem =>
  refine sr_bind sr_sureAddr ?_
  rintro a _ rfl
  refine sr_bind (r:=fun (a b:Option Addr×Nat×TypeId)=>b=(a.1.map (renAddr ρ),a.2)) (sr_pure rfl) ?_
  rintro ⟨base,len,elem⟩ _ rfl
  refine sr_bind (info_underlying t).sr ?_
  rintro _ d rfl
  cases base with
  | none=>exact sr_boundsPanic
  | some a =>
   dsimp only [Option.map_some]
   split
   ·refine sr_bind (info_sizeOf _).sr ?_
    rintro _ s rfl
    exact sr_pure (by simp [ren,renAddr_add])
   ·(repeat' split)<;>first | exact sr_unsupported | exact sr_boundsPanic
 | slice elem =>
  cases x with
  | slice base len cap =>
   refine sr_bind (r:=fun (a b:Option Addr×Nat×TypeId)=>b=(a.1.map (renAddr ρ),a.2)) (sr_pure rfl) ?_
   rintro ⟨base,len,elem⟩ _ rfl
   refine sr_bind (info_underlying t).sr ?_
   rintro _ d rfl
   cases base with
   | none=>exact sr_boundsPanic
   | some a =>
    dsimp only [Option.map_some]
    split
    ·refine sr_bind (info_sizeOf _).sr ?_
     rintro _ s rfl
     exact sr_pure (by simp [ren,renAddr_add])
    ·(repeat' split)<;>first | exact sr_unsupported | exact sr_boundsPanic
  | _=>exact sr_stuck
 | _=>exact sr_stuck
theorem sr_index {t:TypeId} {x i:Value}:SV P mf nc ρ K (Instr.index t x i) (Instr.index t (ren ρ x) (ren ρ i)):=by
 unfold Instr.index
 refine sr_bind sr_asIntOf ?_
 rintro _ ⟨k,n⟩ rfl
 refine sr_bind (info_underlying t).sr ?_
 rintro _ d rfl
 cases d with
 | array len elem =>
  cases x with
  | agg cs =>
   dsimp only [ren]
   rw [renA_eq]
   split
   ·refine sr_bind (info_sizeOf _).sr ?_
    rintro _ s rfl
    exact sr_part
   ·exact sr_boundsPanic
  | _=>exact sr_stuck
 | string =>
  cases x with
  | string s =>
   dsimp only [ren]
   split
   ·exact sr_pure rfl
   ·exact sr_boundsPanic
  | _=>exact sr_stuck
 | _=>exact sr_stuck
end
end Go.Con
namespace Go.Con
open Go
variable [Lone]
section
variable {P:Program} {mf:Md} {nc:Bool} {ρ:Rn} {K:Nat→Prop}
theorem sr_sliceBound {x:Value} {y:Nat} {c:BoundsCode}:SI P mf nc ρ K (Instr.sliceBound x y c) (Instr.sliceBound (ren ρ x) y c):=by
 unfold Instr.sliceBound
 refine sr_bind sr_asIntOf ?_
 rintro _ ⟨k,i⟩ rfl
 dsimp only
 split
 ·exact sr_pure rfl
 ·exact sr_boundsPanic
theorem sr_sliceBounds {b:Bool} {n c:Nat} {lo hi mx:Option Value}:SI P mf nc ρ K (Instr.sliceBounds b n c lo hi mx) (Instr.sliceBounds b n c (lo.map (ren ρ)) (hi.map (ren ρ)) (mx.map (ren ρ))):=by
 unfold Instr.sliceBounds
 cases mx<;>cases hi<;>cases lo<;>dsimp only [Option.map_some,Option.map_none]
 all_goals repeat' (first
  | exact sr_pure rfl
  | exact .dead trivial
  | (refine sr_bind sr_sliceBound ?_;rintro _ m rfl)
  | (refine sr_bind (r:=fun a b=>b=a) (sr_pure rfl) ?_;rintro _ m rfl)
  | exact .dead (dead_after (by first | exact trivial | exact fun _=>trivial | exact calm_typeStr _) fun _=>trivial))
theorem sr_slice {t:TypeId} {x:Value} {lo hi mx:Option Value}:SV P mf nc ρ K (Instr.slice t x lo hi mx) (Instr.slice t (ren ρ x) (lo.map (ren ρ)) (hi.map (ren ρ)) (mx.map (ren ρ))):=by
 unfold Instr.slice
 refine sr_bind (info_underlying t).sr ?_
 rintro _ d rfl
 cases d with
 | string =>
  cases x with
  | string s =>
   cases mx with
   | some m=>exact .dead trivial
   | none =>
    refine sr_bind (sr_sliceBounds (mx:=none)) ?_
    rintro _ ⟨l,h,m⟩ rfl
    exact sr_pure rfl
  | _=>exact sr_stuck
 | slice elem =>
  cases x with
  | slice a n c =>
   refine sr_bind sr_sliceBounds ?_
   rintro _ ⟨l,h,m⟩ rfl
   refine sr_bind (info_sizeOf _).sr ?_
   rintro _ s rfl
   refine sr_pure ?_
   dsimp only [ren]
   split
   ·rfl
   ·cases a<;>simp [renAddr_add]
  | _=>exact sr_stuck
 | pointer arr =>
  refine sr_bind sr_asAddr ?_
  rintro a _ rfl
  refine sr_bind (info_underlying _).sr ?_
  rintro _ d rfl
  cases d with
  | array n elem =>
   refine sr_bind sr_sliceBounds ?_
   rintro _ ⟨l,h,m⟩ rfl
   refine sr_bind (info_sizeOf _).sr ?_
   rintro _ s rfl
   refine sr_pure ?_
   dsimp only [ren,Option.map_some]
   split
   ·rfl
   ·simp [renAddr_add]
  | _=>exact sr_stuck
 | _=>exact sr_stuck
theorem sr_sliceAt {t:TypeId} {x:Value} {lo hi mx:Option Value}:SV P mf nc ρ K (Instr.sliceAt t x lo hi mx) (Instr.sliceAt t (ren ρ x) (lo.map (ren ρ)) (hi.map (ren ρ)) (mx.map (ren ρ))):=by
 unfold Instr.sliceAt
 refine sr_bind (info_underlying t).sr ?_
 rintro _ d rfl
 cases d with
 | array n elem =>
  refine sr_bind sr_sureAddr ?_
  rintro a _ rfl
  refine sr_bind sr_sliceBounds ?_
  rintro _ ⟨l,h,m⟩ rfl
  refine sr_bind (info_sizeOf _).sr ?_
  rintro _ s rfl
  refine sr_pure ?_
  dsimp only [ren,Option.map_some]
  split
  ·rfl
  ·simp [renAddr_add]
 | _=>exact sr_slice
theorem sr_mark {K:Nat→Prop}:SI P mf nc ρ K (mark .noRoom) (mark .noRoom):=.mark (.pure rfl)
theorem sr_askRoom {n:Nat}:SI P mf nc ρ K (askRoom n) (askRoom n):=by
 unfold askRoom
 split
 ·exact sr_mark
 ·exact sr_pure rfl
theorem sr_newMap:SR P mf nc ρ (fun a b=>b=ρ.p a) K (newObj (.map #[] 0)) (newObj (.map #[] 0)):=by
 have h:=sr_newObj (P:=P) (mf:=mf) (nc:=nc) (K:=K) (ρ:=ρ) (o:=.map #[] 0) rfl rfl
 simp only [renObj,Array.map_empty] at h
 exact h
theorem sr_makeMap {t:TypeId} {r:Option Value}:SV P mf nc ρ K (Instr.makeMap t r) (Instr.makeMap t (r.map (ren ρ))):=by
 unfold Instr.makeMap
 have fin:∀ K,SV P mf nc ρ K (do pure (.map (some (← newObj (.map #[] 0))))) (do pure (.map (some (← newObj (.map #[] 0))))):=fun K =>
  sr_bind sr_newMap (by rintro b _ rfl;exact sr_pure rfl)
 cases r with
 | none=>exact fin K
 | some h =>
  refine sr_bind (info_underlying t).sr ?_
  rintro _ d rfl
  cases d with
  | map k e=>exact sr_bind sr_asInt fun _ _ _=>fin K
  | _=>exact .dead trivial
theorem sr_makeSlice {t:TypeId} (h:ezOk P t=true) {l c:Value}:SV P mf nc ρ K (Instr.makeSlice t l c) (Instr.makeSlice t (ren ρ l) (ren ρ c)):=by
 unfold Instr.makeSlice
 refine sr_bind (underlying_at t) ?_
 rintro _ d ⟨rfl,hd⟩
 cases d with
 | slice elem =>
  have hz:zOk P elem=true:=by simpa [ezOk,hd] using h
  refine sr_bind sr_asInt ?_
  rintro _ l rfl
  refine sr_bind sr_asInt ?_
  rintro _ c rfl
  refine sr_bind (info_typeInfo _).sr ?_
  rintro _ i rfl
  dsimp only
  split
  ·refine .dead ?_
   split
   ·exact dead_bind (dead_runtimePanic _)
   ·split
    ·exact dead_bind (dead_runtimePanic _)
    ·exact dead_after (by first | exact trivial | exact fun _=>trivial | exact calm_typeStr _) fun _=>dead_bind (dead_runtimePanic _)
  ·refine sr_bind sr_askRoom ?_
   rintro _ _ rfl
   refine sr_bind (info_sizeOf _).sr ?_
   rintro _ s rfl
   split
   ·refine sr_bind (r:=fun (a b:Array Value)=>b=a.map (ren ρ)) (sr_pure (by simp)) ?_
    rintro zero _ rfl
    rw [zero_map]
    exact sr_bind sr_newRow (by rintro a _ rfl;exact sr_pure rfl)
   ·refine sr_bind (sr_zeroValue hz) ?_
    rintro z _ rfl
    refine sr_bind (r:=fun (a b:Array Value)=>b=a.map (ren ρ)) (sr_pure ren_agg_inv) ?_
    rintro zero _ rfl
    rw [zero_map]
    exact sr_bind sr_newRow (by rintro a _ rfl;exact sr_pure rfl)
 | _=>exact sr_stuck
theorem sr_checkKey (e:Bool):∀ (n:Nat) (t:TypeId) (v:Value),SI P mf nc ρ K (Instr.checkKey e n t v) (Instr.checkKey e n t (ren ρ v)):=by
 intro n
 induction n with
 | zero=>exact fun _ _=>sr_unsupported
 | succ n ih =>
  intro t v
  unfold Instr.checkKey
  refine sr_bind (info_underlying t).sr ?_
  rintro _ d rfl
  cases d with
  | interface ms =>
   cases v with
   | iface d x =>
    refine sr_bind (info_typeInfo _).sr ?_
    rintro _ i rfl
    dsimp only
    split
    ·refine .dead ?_
     split
     ·exact dead_bind (dead_runtimePanic _)
     ·exact dead_after (by first | exact trivial | exact fun _=>trivial | exact calm_typeStr _) fun _=>dead_bind (dead_runtimePanic _)
    ·exact ih d x
   | nilIface=>exact sr_pure rfl
   | _=>exact sr_stuck
  | array len elem =>
   cases v with
   | agg cs =>
    dsimp only [ren]
    rw [renA_eq]
    refine sr_bind (r:=fun a b=>b=a) ?_ (by rintro _ _ rfl;exact sr_pure rfl)
    rw [Std.Legacy.Range.forIn_eq_forIn_range',Std.Legacy.Range.forIn_eq_forIn_range']
    refine sr_forIn_list fun f _ b=>?_
    refine sr_bind (info_sizeOf _).sr ?_
    rintro _ s rfl
    refine sr_bind sr_part ?_
    rintro v _ rfl
    exact sr_bind (ih elem v) (by rintro _ _ rfl;exact sr_pure rfl)
   | _=>exact sr_stuck
  | struct fields =>
   cases v with
   | agg cs =>
    dsimp only [ren]
    rw [renA_eq]
    refine sr_bind (r:=fun a b=>b=a) ?_ (by rintro _ _ rfl;exact sr_pure rfl)
    rw [← Array.forIn_toList,← Array.forIn_toList]
    refine sr_forIn_list fun f _ b=>?_
    split
    ·refine sr_bind sr_part ?_
     rintro v _ rfl
     exact sr_bind (ih f.type v) (by rintro _ _ rfl;exact sr_pure rfl)
    ·exact sr_pure rfl
   | _=>exact sr_stuck
  | _=>exact sr_pure rfl
theorem sameNow_chan (d:TypeDesc) (r:Option Nat) (w:Value):Instr.sameNow d (ren ρ (.chan r)) w=none∧Instr.sameNow d w (ren ρ (.chan r))=none:=by
 rcases ren_chan ρ r with ⟨_,h⟩ | ⟨_,_,_,h⟩ | ⟨_,h⟩ | ⟨_,_,_,h,_⟩ | ⟨_,h⟩<;>rw [h]<;>cases d<;>cases w<;>exact⟨rfl,rfl⟩
theorem sameNow_func (d:TypeDesc) (f:Fn) (x y:Array Value) (w:Value):Instr.sameNow d (ren ρ (.func f x y)) w=none∧Instr.sameNow d w (ren ρ (.func f x y))=none:=by
 obtain⟨_,_,_,h⟩:=ren_func ρ f x y
 rw [h]
 cases d<;>cases w<;>exact⟨rfl,rfl⟩
theorem sameNow_ren {d:TypeDesc} {a b:Value}:Instr.sameNow d (ren ρ a) (ren ρ b)=Instr.sameNow d a b:=by
 cases a with
 | chan r=>rw [(sameNow_chan d r _).1];cases d<;>cases b<;>rfl
 | func f x y=>rw [(sameNow_func d f x y _).1];cases d<;>cases b<;>rfl
 | _ =>
  cases b with
  | chan r=>rw [(sameNow_chan d r _).2];cases d<;>rfl
  | func f x y=>rw [(sameNow_func d f x y _).2];cases d<;>rfl
  | _=>cases d<;>rfl
def scalarV:Value→Bool
 | .bool _ | .int .. | .string _ | .pointer _=>true
 | _=>false
variable (P) in
def scalarT (t:TypeId):Bool:=match P.underlying t with
 | some .bool | some (.int _) | some .string=>true
 | _=>false
theorem dead_equalIn {d:Nat} {t:TypeId} (h:scalarT P t=true) {x y:Value} (hxy:¬ (scalarV x=true∧scalarV y=true)):Dead P (Op.equalIn (d+1) t x y):=by
 unfold Op.equalIn
 unfold underlying
 show Dead P (Sem.bind (match P.underlying t with | some d=>pure d | none=>stuck "no such type") _)
 unfold scalarT at h
 cases hu:P.underlying t with
 | none=>rw [hu] at h;cases h
 | some d =>
  rw [hu] at h
  cases d<;>first
   | (cases h;done)
   | (cases x with
     | pointer p =>
      cases y with
      | pointer q=>exfalso;exact hxy ⟨rfl,rfl⟩
      | _=>cases p<;>first | trivial | (exfalso;exact hxy ⟨rfl,rfl⟩)
     | _ =>
      cases y with
      | pointer p=>cases p<;>first | trivial | (exfalso;exact hxy ⟨rfl,rfl⟩)
      | _=>first | trivial | (exfalso;exact hxy ⟨rfl,rfl⟩))
theorem dead_equal {t:TypeId} (h:scalarT P t=true) {x y:Value} (hxy:¬ (scalarV x=true∧scalarV y=true)):Dead P (Op.equal t x y):=by
 unfold Op.equal
 rw [show Op.maxDepth=9999+1 from rfl]
 exact dead_equalIn h hxy
theorem findNow_ren {d:TypeDesc} {k:Value}:∀ {es:List MapEntry} {i:Nat},Instr.findNow d (ren ρ k) (es.map (renEntry ρ)) i=(Instr.findNow d k es i).map (·.map fun x=>(x.1,ren ρ x.2))
 | [],_=>rfl
 | e :: es,i=>by
  simp only [List.map_cons,Instr.findNow]
  rw [show (renEntry ρ e).key=ren ρ e.key from rfl,sameNow_ren]
  cases Instr.sameNow d k e.key with
  | none=>rfl
  | some b=>cases b<;>first | exact findNow_ren | rfl
def FoundAt (k:Value) (es:List MapEntry) (i0:Nat) (i:Nat):Prop:=∃ j e,es[j]?=some e∧i=i0+j∧scalarV k=true∧scalarV e.key=true
theorem FoundAt.cons {k:Value} {es:List MapEntry} {i0 i:Nat} {e:MapEntry} (h:FoundAt k es (i0+1) i):FoundAt k (e :: es) i0 i:=by
 obtain⟨j,e',h1,rfl,h2⟩:=h
 exact⟨j+1,e',h1,by omega,h2⟩
theorem findNow_at {d:TypeDesc} {k:Value}:∀ {es:List MapEntry} {i0 i:Nat} {v:Value},Instr.findNow d k es i0=some (some (i,v))→FoundAt k es i0 i
 | [],_,_,_,h=>by simp [Instr.findNow] at h
 | e :: es,i0,i,v,h=>by
  simp only [Instr.findNow] at h
  cases hs:Instr.sameNow d k e.key with
  | none=>rw [hs] at h;cases h
  | some b =>
   rw [hs] at h
   cases b with
   | false=>exact (findNow_at h).cons
   | true =>
    simp only [Option.some.injEq,Prod.mk.injEq] at h
    obtain⟨rfl,_⟩:=h
    refine⟨0,e,rfl,rfl,?_⟩
    revert hs
    generalize e.key=ke
    intro hs
    unfold Instr.sameNow at hs
    split at hs<;>first | exact⟨rfl,rfl⟩ | cases hs
theorem sr_findAsking (R:RenOk P ρ) {t:TypeId} (h:eqOk P Op.maxDepth t=true) {k:Value}:∀ {es:List MapEntry} {i:Nat},
  SR P mf nc ρ (fun a b=>b=a.map (fun x=>(x.1,ren ρ x.2))∧(scalarT P t=true→∀ j v,a=some (j,v)→FoundAt k es i j)) K (Instr.findAsking t k es i) (Instr.findAsking t (ren ρ k) (es.map (renEntry ρ)) i)
 | [],_=>sr_pure ⟨rfl,fun _ _ _ e=>by cases e⟩
 | e :: es,i=>by
  simp only [List.map_cons,Instr.findAsking]
  by_cases hd:scalarT P t=true∧¬ (scalarV k=true∧scalarV e.key=true)
  ·exact .dead (dead_bind (dead_equal hd.1 hd.2))
  refine sr_bind (sr_equal R h (y:=e.key)) ?_
  rintro _ b rfl
  cases b
  ·exact (sr_findAsking R h).mono fun a b hab=>⟨hab.1,fun hs j v hv=>(hab.2 hs j v hv).cons⟩
  ·refine sr_pure ⟨rfl,fun hs j v hv=>?_⟩
   cases hv
   have:=Classical.byContradiction fun hn=>hd ⟨hs,hn⟩
   exact⟨0,e,rfl,rfl,this⟩
theorem sr_findKeyAt (R:RenOk P ρ) {t:TypeId} (h:eqOk P Op.maxDepth t=true) {k:Value} {es:List MapEntry} :
  SR P mf nc ρ (fun a b=>b=a.map (fun x=>(x.1,ren ρ x.2))∧(scalarT P t=true→∀ j v,a=some (j,v)→FoundAt k es 0 j)) K (Instr.findKey t k es) (Instr.findKey t (ren ρ k) (es.map (renEntry ρ))):=by
 unfold Instr.findKey
 refine sr_bind (info_underlying t).sr ?_
 rintro _ d rfl
 rw [findNow_ren]
 cases hf:Instr.findNow d k es 0 with
 | none=>exact sr_findAsking R h
 | some r =>
  refine sr_pure ⟨rfl,fun _ j v hv=>?_⟩
  subst hv
  exact findNow_at hf
theorem sr_findKey (R:RenOk P ρ) {t:TypeId} (h:eqOk P Op.maxDepth t=true) {k:Value} {es:List MapEntry} :
  SR P mf nc ρ (fun a b=>b=a.map fun x=>(x.1,ren ρ x.2)) K (Instr.findKey t k es) (Instr.findKey t (ren ρ k) (es.map (renEntry ρ))):=(sr_findKeyAt R h).mono fun _ _ h=>h.1
variable (P) in
def keyOk (t:TypeId):Bool:=decide (t<P.types.size) && match P.underlying t with
 | some (.map k _)=>eqOk P Op.maxDepth k
 | _=>true
theorem sr_lookup (R:RenOk P ρ) {t:TypeId} (h:keyOk P t=true) (hz:ezOk P t=true) {x k:Value} {ok:Bool}:SV P mf nc ρ K (Instr.lookup t x k ok) (Instr.lookup t (ren ρ x) (ren ρ k) ok):=by
 unfold Instr.lookup
 refine sr_bind (underlying_at t) ?_
 rintro _ d ⟨rfl,hd⟩
 cases d with
 | map key elem =>
  have hk:eqOk P Op.maxDepth key=true:=by have h:=h;simp [keyOk,hd] at h;exact h.2
  have hz:zOk P elem=true:=by simpa [ezOk,hd] using hz
  cases x with
  | map r =>
   cases r with
   | none =>
    refine sr_bind (r:=fun (a b:Array MapEntry)=>b=a.map (renEntry ρ)) (sr_pure (by simp)) ?_
    rintro es _ rfl
    dsimp only
    rw [show (es.map (renEntry ρ)).isEmpty=es.isEmpty by simp [Array.isEmpty],Array.toList_map]
    refine sr_bind (sr_checkKey _ _ _ _) ?_
    rintro _ _ rfl
    refine sr_bind (sr_findKey R hk) ?_
    rintro r _ rfl
    cases r with
    | some v =>
     refine sr_bind (r:=fun a b=>b=(ren ρ a.1,a.2)) (sr_pure rfl) ?_
     rintro ⟨v,b⟩ _ rfl
     cases ok<;>exact sr_pure (by simp [ren,renA_eq])
    | none =>
     refine sr_bind (sr_zeroValue hz) ?_
     rintro z _ rfl
     refine sr_bind (r:=fun a b=>b=(ren ρ a.1,a.2)) (sr_pure rfl) ?_
     rintro ⟨v,b⟩ _ rfl
     cases ok<;>exact sr_pure (by simp [ren,renA_eq])
   | some r =>
    refine sr_bind sr_getObj ?_
    rintro o _ rfl
    cases o with
    | map es cl =>
     refine sr_bind (r:=fun (a b:Array MapEntry)=>b=a.map (renEntry ρ)) (sr_pure rfl) ?_
     rintro es _ rfl
     dsimp only
     rw [show (es.map (renEntry ρ)).isEmpty=es.isEmpty by simp [Array.isEmpty],Array.toList_map]
     refine sr_bind (sr_checkKey _ _ _ _) ?_
     rintro _ _ rfl
     refine sr_bind (sr_findKey R hk) ?_
     rintro r _ rfl
     cases r with
     | some v =>
      refine sr_bind (r:=fun a b=>b=(ren ρ a.1,a.2)) (sr_pure rfl) ?_
      rintro ⟨v,b⟩ _ rfl
      cases ok<;>exact sr_pure (by simp [ren,renA_eq])
     | none =>
      refine sr_bind (sr_zeroValue hz) ?_
      rintro z _ rfl
      refine sr_bind (r:=fun a b=>b=(ren ρ a.1,a.2)) (sr_pure rfl) ?_
      rintro ⟨v,b⟩ _ rfl
      cases ok<;>exact sr_pure (by simp [ren,renA_eq])
    | _=>exact .dead trivial
  | _=>exact .dead trivial
 | _=>exact sr_stuck
end
end Go.Con
