import Derived.Test.YtedomogjmhommaaH24
set_option linter.all false
set_option maxRecDepth 100000
set_option maxHeartbeats 8000000
namespace Go.Con
open Go
variable [Lone]
section
variable {P:Program} {mf:Md} {nc:Bool} {ρ:Rn} {K:Nat→Prop}
theorem zpl {op:UnOp} {x:Value}:SV P mf nc ρ K (Op.unary op x) (Op.unary op (ren ρ x)):=by
 unfold Op.unary
 cases op with
 | neg =>
  cases x with
  | int k n=>exact zg7
  | pointer a=>cases a<;>first | exact zah | exact zai
  | _=>first | exact zaf rfl | exact zah
 | xor =>
  cases x with
  | int k n=>exact zh2
  | pointer a=>cases a<;>first | exact zah | exact zai
  | _=>exact zah
 | _=>cases x<;>first | exact zaf rfl | exact zah
theorem zmu {x:Value} {i:Nat}:SV P mf nc ρ K (Instr.extract x i) (Instr.extract (ren ρ x) i):=by
 unfold Instr.extract
 cases x with
 | tuple vs =>
  dsimp only [ren]
  rw [zaD,Array.getElem?_map]
  cases vs[i]?<;>first | exact zah | exact zaf rfl
 | _=>exact zah
theorem zpa {e:TypeId} (h:zOk P e=true) {x:Value}:SV P mf nc ρ K (Instr.alloc e true x) (Instr.alloc e true x):=by
 unfold Instr.alloc
 refine zad (zbS h) ?_
 rintro z _ rfl
 exact zad zjQ (by rintro a _ rfl;exact zaf rfl)
theorem zqJ {e:TypeId} {x:Value}:SV P mf nc ρ K (Instr.box e x) (Instr.box e (ren ρ x)):=by
 unfold Instr.box
 exact zad zjQ (by rintro a _ rfl;exact zaf rfl)
theorem zji (off:Nat):∀ (l:List (Value×Nat)) (cs:Array Value),(l.map fun x=>(ren ρ x.1,x.2)).foldl (fun cs x=>cs.setIfInBounds (off+x.2) x.1) (cs.map (ren ρ))=(l.foldl (fun cs x=>cs.setIfInBounds (off+x.2) x.1) cs).map (ren ρ)
 | [],_=>rfl
 | x :: l,cs=>by
  simp only [List.map_cons,List.foldl_cons]
  rw [← zji off l,Array.map_setIfInBounds]
theorem zeL (place:Nat→Option (Nat×Nat)):∀ (parts:List (Nat×Value)) (cells:Array Value),Instr.fill place (cells.map (ren ρ)) (parts.map fun x=>(x.1,ren ρ x.2))=(Instr.fill place cells parts).map (·.map (ren ρ))
 | [],_=>rfl
 | (i,v) :: rest,cells=>by
  simp only [List.map_cons,Instr.fill]
  cases place i with
  | none=>rfl
  | some p =>
   obtain⟨off,size⟩:=p
   simp only [zbQ,Array.size_map]
   split
   ·rfl
   ·rw [← zeL place rest]
    congr 1
    rw [← Array.foldl_toList,← Array.foldl_toList,← zji]
    congr 1
    simp [Array.toList_zipIdx,List.zipIdx_map]
theorem zpd {t:TypeId} (h:zOk P t=true) {parts:Array (Nat×Value)}:SV P mf nc ρ K (Instr.build t parts) (Instr.build t (parts.map fun x=>(x.1,ren ρ x.2))):=by
 unfold Instr.build
 refine zad (zbS h) ?_
 rintro z _ rfl
 refine zad (zaw t).sr ?_
 rintro _ d rfl
 rw [zbQ,Array.toList_map]
 cases d with
 | struct fields =>
  refine zad (zni (fun f=>(zaI _).bind fun _=>zaZ _) fields).sr ?_
  rintro _ places rfl
  rw [zeL]
  cases Instr.fill (fun x=>places[x]?) z.cells parts.toList with
  | none=>exact zah
  | some cells=>exact zaf (by simp [ren,zaD])
 | array n elem =>
  refine zad (zaI _).sr ?_
  rintro _ size rfl
  rw [zeL]
  cases Instr.fill _ z.cells parts.toList with
  | none=>exact zah
  | some cells=>exact zaf (by simp [ren,zaD])
 | _=>exact zah
theorem zhg {t:TypeId}:SR P mf nc ρ (fun a b=>b=a∧P.underlying t=some a) K (underlying t) (underlying t):=zaJ t
variable (P) in
def ezOk (t:TypeId):Bool:=match P.underlying t with
 | some (.slice e)=>zOk P e
 | some (.map _ e)=>zOk P e
 | _=>true
theorem ze8 {zero:Array Value} {n:Nat}:((Array.range n).map (fun i=>(zero.map (ren ρ))[i % (zero.map (ren ρ)).size]!))=((Array.range n).map (fun i=>zero[i % zero.size]!)).map (ren ρ):=by
 rw [Array.map_map]
 congr 1
 funext i
 simp only [Function.comp_apply,Array.size_map]
 rw [getElem!_def,getElem!_def,Array.getElem?_map]
 cases zero[i % zero.size]?<;>rfl
theorem ziI {t:TypeId} (h:ezOk P t=true) {len:Nat} {parts:Array (Nat×Value)}:SV P mf nc ρ K (Instr.buildSlice t len parts) (Instr.buildSlice t len (parts.map fun x=>(x.1,ren ρ x.2))):=by
 unfold Instr.buildSlice
 refine zad zhg ?_
 rintro _ d ⟨rfl,hd⟩
 cases d with
 | slice elem =>
  have hz:zOk P elem=true:=by simpa [ezOk,hd] using h
  refine zad (zaI _).sr ?_
  rintro _ size rfl
  dsimp only
  rw [Array.toList_map]
  split
  ·exact .dead trivial
  ·split
   ·refine zad (r:=fun (a b:Array Value)=>b=a.map (ren ρ)) (zaf (by simp)) ?_
    rintro zero _ rfl
    rw [ze8,zeL]
    cases Instr.fill _ _ parts.toList with
    | none=>exact zah
    | some cells=>exact zad zcH (by rintro a _ rfl;exact zaf rfl)
   ·refine zad (zbS hz) ?_
    rintro z _ rfl
    refine zad (r:=fun (a b:Array Value)=>b=a.map (ren ρ)) (zaf zbQ) ?_
    rintro zero _ rfl
    rw [ze8,zeL]
    cases Instr.fill _ _ parts.toList with
    | none=>exact zah
    | some cells=>exact zad zcH (by rintro a _ rfl;exact zaf rfl)
 | _=>exact zah
theorem zn4 {a:Addr} {n m:Nat}:SR P mf nc ρ (fun a b=>b=zak ρ a) K (partAt a n m) (partAt (zak ρ a) n m):=by
 unfold partAt
 refine zad zcG ?_
 rintro _ x rfl
 refine zad (zcG (a:={ block:=a.block,off:=a.off+n })) ?_
 rintro _ y rfl
 refine zaf ?_
 dsimp only [zak]
 split<;>rfl
theorem ziK {a:Addr} {f:Field}:SR P mf nc ρ (fun a b=>b=zak ρ a) K (fieldPlace a f) (fieldPlace (zak ρ a) f):=by
 unfold fieldPlace
 refine zad (zaI _).sr ?_
 rintro _ n rfl
 split
 ·exact zn4
 ·exact zaf (zbd _ _)
theorem zmv {t:TypeId} {x:Value} {f:Nat}:SV P mf nc ρ K (Instr.fieldAt t x f) (Instr.fieldAt t (ren ρ x) f):=by
 unfold Instr.fieldAt
 refine zad (zaw t).sr ?_
 rintro _ d rfl
 cases d with
 | struct fields =>
  dsimp only
  cases fields[f]? with
  | none=>exact zah
  | some fd =>
   refine zad zcI ?_
   rintro a _ rfl
   exact zad ziK (by rintro b _ rfl;exact zaf rfl)
 | _=>exact zah
theorem zpb {x:Value}:SR P mf nc ρ (fun a b=>b=a.map (ren ρ)) K (asAgg x) (asAgg (ren ρ x)):=by
 unfold asAgg
 cases x<;>first | exact zah | exact zaf (zaD _ _)
theorem zpf {t:TypeId} {x:Value} {f:Nat}:SV P mf nc ρ K (Instr.field t x f) (Instr.field t (ren ρ x) f):=by
 unfold Instr.field
 refine zad (zaw t).sr ?_
 rintro _ d rfl
 cases d with
 | struct fields =>
  dsimp only
  cases fields[f]? with
  | none=>exact zah
  | some fd =>
   refine zad zpb ?_
   rintro cs _ rfl
   exact zdL
 | _=>exact zah
theorem zmw {t:TypeId} {x i:Value}:SV P mf nc ρ K (Instr.indexAt t x i) (Instr.indexAt t (ren ρ x) (ren ρ i)):=by
 unfold Instr.indexAt
 refine zad zd3 ?_
 rintro _ ⟨k,n⟩ rfl
 refine zad (zaw t).sr ?_
 rintro _ d rfl
 cases d with
 | array len elem =>
  refine zad zcI ?_
  rintro a _ rfl
  refine zad (r:=fun (a b:Option Addr×Nat×TypeId)=>b=(a.1.map (zak ρ),a.2)) (zaf rfl) ?_
  rintro ⟨base,len,elem⟩ _ rfl
  refine zad (zaw t).sr ?_
  rintro _ d rfl
  cases base with
  | none=>exact zbe
  | some a =>
   dsimp only [Option.map_some]
   split
   ·refine zad (zaI _).sr ?_
    rintro _ s rfl
    exact zaf (by simp [ren,zbd])
   ·(repeat' split)<;>first | exact zai | exact zbe
 | slice elem =>
  cases x with
  | slice base len cap =>
   refine zad (r:=fun (a b:Option Addr×Nat×TypeId)=>b=(a.1.map (zak ρ),a.2)) (zaf rfl) ?_
   rintro ⟨base,len,elem⟩ _ rfl
   refine zad (zaw t).sr ?_
   rintro _ d rfl
   cases base with
   | none=>exact zbe
   | some a =>
    dsimp only [Option.map_some]
    split
    ·refine zad (zaI _).sr ?_
     rintro _ s rfl
     exact zaf (by simp [ren,zbd])
    ·(repeat' split)<;>first | exact zai | exact zbe
  | _=>exact zah
 | _=>exact zah
theorem zpg {t:TypeId} {x i:Value}:SV P mf nc ρ K (Instr.index t x i) (Instr.index t (ren ρ x) (ren ρ i)):=by
 unfold Instr.index
 refine zad zd3 ?_
 rintro _ ⟨k,n⟩ rfl
 refine zad (zaw t).sr ?_
 rintro _ d rfl
 cases d with
 | array len elem =>
  cases x with
  | agg cs =>
   dsimp only [ren]
   rw [zaD]
   split
   ·refine zad (zaI _).sr ?_
    rintro _ s rfl
    exact zdL
   ·exact zbe
  | _=>exact zah
 | string =>
  cases x with
  | string s =>
   dsimp only [ren]
   split
   ·exact zaf rfl
   ·exact zbe
  | _=>exact zah
 | _=>exact zah
end
end Go.Con
namespace Go.Con
open Go
variable [Lone]
section
variable {P:Program} {mf:Md} {nc:Bool} {ρ:Rn} {K:Nat→Prop}
theorem ziN {x:Value} {y:Nat} {c:BoundsCode}:SI P mf nc ρ K (Instr.sliceBound x y c) (Instr.sliceBound (ren ρ x) y c):=by
 unfold Instr.sliceBound
 refine zad zd3 ?_
 rintro _ ⟨k,i⟩ rfl
 dsimp only
 split
 ·exact zaf rfl
 ·exact zbe
theorem zch {b:Bool} {n c:Nat} {lo hi mx:Option Value}:SI P mf nc ρ K (Instr.sliceBounds b n c lo hi mx) (Instr.sliceBounds b n c (lo.map (ren ρ)) (hi.map (ren ρ)) (mx.map (ren ρ))):=by
 unfold Instr.sliceBounds
 cases mx<;>cases hi<;>cases lo<;>dsimp only [Option.map_some,Option.map_none]
 all_goals repeat' (first
  | exact zaf rfl
  | exact .dead trivial
  | (refine zad ziN ?_;rintro _ m rfl)
  | (refine zad (r:=fun a b=>b=a) (zaf rfl) ?_;rintro _ m rfl)
  | exact .dead (zbh (by first | exact trivial | exact fun _=>trivial | exact zdw _) fun _=>trivial))
theorem zpj {t:TypeId} {x:Value} {lo hi mx:Option Value}:SV P mf nc ρ K (Instr.slice t x lo hi mx) (Instr.slice t (ren ρ x) (lo.map (ren ρ)) (hi.map (ren ρ)) (mx.map (ren ρ))):=by
 unfold Instr.slice
 refine zad (zaw t).sr ?_
 rintro _ d rfl
 cases d with
 | string =>
  cases x with
  | string s =>
   cases mx with
   | some m=>exact .dead trivial
   | none =>
    refine zad (zch (mx:=none)) ?_
    rintro _ ⟨l,h,m⟩ rfl
    exact zaf rfl
  | _=>exact zah
 | slice elem =>
  cases x with
  | slice a n c =>
   refine zad zch ?_
   rintro _ ⟨l,h,m⟩ rfl
   refine zad (zaI _).sr ?_
   rintro _ s rfl
   refine zaf ?_
   dsimp only [ren]
   split
   ·rfl
   ·cases a<;>simp [zbd]
  | _=>exact zah
 | pointer arr =>
  refine zad zjL ?_
  rintro a _ rfl
  refine zad (zaw _).sr ?_
  rintro _ d rfl
  cases d with
  | array n elem =>
   refine zad zch ?_
   rintro _ ⟨l,h,m⟩ rfl
   refine zad (zaI _).sr ?_
   rintro _ s rfl
   refine zaf ?_
   dsimp only [ren,Option.map_some]
   split
   ·rfl
   ·simp [zbd]
  | _=>exact zah
 | _=>exact zah
theorem zmD {t:TypeId} {x:Value} {lo hi mx:Option Value}:SV P mf nc ρ K (Instr.sliceAt t x lo hi mx) (Instr.sliceAt t (ren ρ x) (lo.map (ren ρ)) (hi.map (ren ρ)) (mx.map (ren ρ))):=by
 unfold Instr.sliceAt
 refine zad (zaw t).sr ?_
 rintro _ d rfl
 cases d with
 | array n elem =>
  refine zad zcI ?_
  rintro a _ rfl
  refine zad zch ?_
  rintro _ ⟨l,h,m⟩ rfl
  refine zad (zaI _).sr ?_
  rintro _ s rfl
  refine zaf ?_
  dsimp only [ren,Option.map_some]
  split
  ·rfl
  ·simp [zbd]
 | _=>exact zpj
theorem zp9 {K:Nat→Prop}:SI P mf nc ρ K (mark .noRoom) (mark .noRoom):=.mark (.pure rfl)
theorem zfq {n:Nat}:SI P mf nc ρ K (askRoom n) (askRoom n):=by
 unfold askRoom
 split
 ·exact zp9
 ·exact zaf rfl
theorem zn2:SR P mf nc ρ (fun a b=>b=ρ.p a) K (newObj (.map #[] 0)) (newObj (.map #[] 0)):=by
 have h:=zc8 (P:=P) (mf:=mf) (nc:=nc) (K:=K) (ρ:=ρ) (o:=.map #[] 0) rfl rfl
 simp only [zau,Array.map_empty] at h
 exact h
theorem zmz {t:TypeId} {r:Option Value}:SV P mf nc ρ K (Instr.makeMap t r) (Instr.makeMap t (r.map (ren ρ))):=by
 unfold Instr.makeMap
 have fin:∀ K,SV P mf nc ρ K (do pure (.map (some (← newObj (.map #[] 0))))) (do pure (.map (some (← newObj (.map #[] 0))))):=fun K =>
  zad zn2 (by rintro b _ rfl;exact zaf rfl)
 cases r with
 | none=>exact fin K
 | some h =>
  refine zad (zaw t).sr ?_
  rintro _ d rfl
  cases d with
  | map k e=>exact zad zgd fun _ _ _=>fin K
  | _=>exact .dead trivial
theorem zjP {t:TypeId} (h:ezOk P t=true) {l c:Value}:SV P mf nc ρ K (Instr.makeSlice t l c) (Instr.makeSlice t (ren ρ l) (ren ρ c)):=by
 unfold Instr.makeSlice
 refine zad (zaJ t) ?_
 rintro _ d ⟨rfl,hd⟩
 cases d with
 | slice elem =>
  have hz:zOk P elem=true:=by simpa [ezOk,hd] using h
  refine zad zgd ?_
  rintro _ l rfl
  refine zad zgd ?_
  rintro _ c rfl
  refine zad (zaN _).sr ?_
  rintro _ i rfl
  dsimp only
  split
  ·refine .dead ?_
   split
   ·exact zba (zax _)
   ·split
    ·exact zba (zax _)
    ·exact zbh (by first | exact trivial | exact fun _=>trivial | exact zdw _) fun _=>zba (zax _)
  ·refine zad zfq ?_
   rintro _ _ rfl
   refine zad (zaI _).sr ?_
   rintro _ s rfl
   split
   ·refine zad (r:=fun (a b:Array Value)=>b=a.map (ren ρ)) (zaf (by simp)) ?_
    rintro zero _ rfl
    rw [ze8]
    exact zad zcH (by rintro a _ rfl;exact zaf rfl)
   ·refine zad (zbS hz) ?_
    rintro z _ rfl
    refine zad (r:=fun (a b:Array Value)=>b=a.map (ren ρ)) (zaf zbQ) ?_
    rintro zero _ rfl
    rw [ze8]
    exact zad zcH (by rintro a _ rfl;exact zaf rfl)
 | _=>exact zah
theorem zet (e:Bool):∀ (n:Nat) (t:TypeId) (v:Value),SI P mf nc ρ K (Instr.checkKey e n t v) (Instr.checkKey e n t (ren ρ v)):=by
 intro n
 induction n with
 | zero=>exact fun _ _=>zai
 | succ n ih =>
  intro t v
  unfold Instr.checkKey
  refine zad (zaw t).sr ?_
  rintro _ d rfl
  cases d with
  | interface ms =>
   cases v with
   | iface d x =>
    refine zad (zaN _).sr ?_
    rintro _ i rfl
    dsimp only
    split
    ·refine .dead ?_
     split
     ·exact zba (zax _)
     ·exact zbh (by first | exact trivial | exact fun _=>trivial | exact zdw _) fun _=>zba (zax _)
    ·exact ih d x
   | nilIface=>exact zaf rfl
   | _=>exact zah
  | array len elem =>
   cases v with
   | agg cs =>
    dsimp only [ren]
    rw [zaD]
    refine zad (r:=fun a b=>b=a) ?_ (by rintro _ _ rfl;exact zaf rfl)
    rw [Std.Legacy.Range.forIn_eq_forIn_range',Std.Legacy.Range.forIn_eq_forIn_range']
    refine zb4 fun f _ b=>?_
    refine zad (zaI _).sr ?_
    rintro _ s rfl
    refine zad zdL ?_
    rintro v _ rfl
    exact zad (ih elem v) (by rintro _ _ rfl;exact zaf rfl)
   | _=>exact zah
  | struct fields =>
   cases v with
   | agg cs =>
    dsimp only [ren]
    rw [zaD]
    refine zad (r:=fun a b=>b=a) ?_ (by rintro _ _ rfl;exact zaf rfl)
    rw [← Array.forIn_toList,← Array.forIn_toList]
    refine zb4 fun f _ b=>?_
    split
    ·refine zad zdL ?_
     rintro v _ rfl
     exact zad (ih f.type v) (by rintro _ _ rfl;exact zaf rfl)
    ·exact zaf rfl
   | _=>exact zah
  | _=>exact zaf rfl
theorem zfC (d:TypeDesc) (r:Option Nat) (w:Value):Instr.sameNow d (ren ρ (.chan r)) w=none∧Instr.sameNow d w (ren ρ (.chan r))=none:=by
 rcases zb2 ρ r with ⟨_,h⟩ | ⟨_,_,_,h⟩ | ⟨_,h⟩ | ⟨_,_,_,h,_⟩ | ⟨_,h⟩<;>rw [h]<;>cases d<;>cases w<;>exact⟨rfl,rfl⟩
theorem zfD (d:TypeDesc) (f:Fn) (x y:Array Value) (w:Value):Instr.sameNow d (ren ρ (.func f x y)) w=none∧Instr.sameNow d w (ren ρ (.func f x y))=none:=by
 obtain⟨_,_,_,h⟩:=zaV ρ f x y
 rw [h]
 cases d<;>cases w<;>exact⟨rfl,rfl⟩
theorem zkH {d:TypeDesc} {a b:Value}:Instr.sameNow d (ren ρ a) (ren ρ b)=Instr.sameNow d a b:=by
 cases a with
 | chan r=>rw [(zfC d r _).1];cases d<;>cases b<;>rfl
 | func f x y=>rw [(zfD d f x y _).1];cases d<;>cases b<;>rfl
 | _ =>
  cases b with
  | chan r=>rw [(zfC d r _).2];cases d<;>rfl
  | func f x y=>rw [(zfD d f x y _).2];cases d<;>rfl
  | _=>cases d<;>rfl
def zdJ:Value→Bool
 | .bool _ | .int .. | .string _ | .pointer _=>true
 | _=>false
variable (P) in
def zfo (t:TypeId):Bool:=match P.underlying t with
 | some .bool | some (.int _) | some .string=>true
 | _=>false
theorem zi9 {d:Nat} {t:TypeId} (h:zfo P t=true) {x y:Value} (hxy:¬ (zdJ x=true∧zdJ y=true)):Dead P (Op.equalIn (d+1) t x y):=by
 unfold Op.equalIn
 unfold underlying
 show Dead P (Sem.bind (match P.underlying t with | some d=>pure d | none=>stuck "no such type") _)
 unfold zfo at h
 cases hu:P.underlying t with
 | none=>rw [hu] at h;cases h
 | some d =>
  rw [hu] at h
  cases d<;>first
   | (cases h;done)
   | (cases x with
     | pointer p =>
      cases y with
      | pointer q=>exfalso;exact hxy ⟨rfl,rfl⟩
      | _=>cases p<;>first | trivial | (exfalso;exact hxy ⟨rfl,rfl⟩)
     | _ =>
      cases y with
      | pointer p=>cases p<;>first | trivial | (exfalso;exact hxy ⟨rfl,rfl⟩)
      | _=>first | trivial | (exfalso;exact hxy ⟨rfl,rfl⟩))
theorem zlU {t:TypeId} (h:zfo P t=true) {x y:Value} (hxy:¬ (zdJ x=true∧zdJ y=true)):Dead P (Op.equal t x y):=by
 unfold Op.equal
 rw [show Op.maxDepth=9999+1 from rfl]
 exact zi9 h hxy
theorem zgC {d:TypeDesc} {k:Value}:∀ {es:List MapEntry} {i:Nat},Instr.findNow d (ren ρ k) (es.map (zaz ρ)) i=(Instr.findNow d k es i).map (·.map fun x=>(x.1,ren ρ x.2))
 | [],_=>rfl
 | e :: es,i=>by
  simp only [List.map_cons,Instr.findNow]
  rw [show (zaz ρ e).key=ren ρ e.key from rfl,zkH]
  cases Instr.sameNow d k e.key with
  | none=>rfl
  | some b=>cases b<;>first | exact zgC | rfl
def FoundAt (k:Value) (es:List MapEntry) (i0:Nat) (i:Nat):Prop:=∃ j e,es[j]?=some e∧i=i0+j∧zdJ k=true∧zdJ e.key=true
theorem FoundAt.cons {k:Value} {es:List MapEntry} {i0 i:Nat} {e:MapEntry} (h:FoundAt k es (i0+1) i):FoundAt k (e :: es) i0 i:=by
 obtain⟨j,e',h1,rfl,h2⟩:=h
 exact⟨j+1,e',h1,by omega,h2⟩
theorem zhF {d:TypeDesc} {k:Value}:∀ {es:List MapEntry} {i0 i:Nat} {v:Value},Instr.findNow d k es i0=some (some (i,v))→FoundAt k es i0 i
 | [],_,_,_,h=>by simp [Instr.findNow] at h
 | e :: es,i0,i,v,h=>by
  simp only [Instr.findNow] at h
  cases hs:Instr.sameNow d k e.key with
  | none=>rw [hs] at h;cases h
  | some b =>
   rw [hs] at h
   cases b with
   | false=>exact (zhF h).cons
   | true =>
    simp only [Option.some.injEq,Prod.mk.injEq] at h
    obtain⟨rfl,_⟩:=h
    refine⟨0,e,rfl,rfl,?_⟩
    revert hs
    generalize e.key=ke
    intro hs
    unfold Instr.sameNow at hs
    split at hs<;>first | exact⟨rfl,rfl⟩ | cases hs
theorem ze2 (R:RenOk P ρ) {t:TypeId} (h:eqOk P Op.maxDepth t=true) {k:Value}:∀ {es:List MapEntry} {i:Nat},
  SR P mf nc ρ (fun a b=>b=a.map (fun x=>(x.1,ren ρ x.2))∧(zfo P t=true→∀ j v,a=some (j,v)→FoundAt k es i j)) K (Instr.findAsking t k es i) (Instr.findAsking t (ren ρ k) (es.map (zaz ρ)) i)
 | [],_=>zaf ⟨rfl,fun _ _ _ e=>by cases e⟩
 | e :: es,i=>by
  simp only [List.map_cons,Instr.findAsking]
  by_cases hd:zfo P t=true∧¬ (zdJ k=true∧zdJ e.key=true)
  ·exact .dead (zba (zlU hd.1 hd.2))
  refine zad (ziJ R h (y:=e.key)) ?_
  rintro _ b rfl
  cases b
  ·exact (ze2 R h).mono fun a b hab=>⟨hab.1,fun hs j v hv=>(hab.2 hs j v hv).cons⟩
  ·refine zaf ⟨rfl,fun hs j v hv=>?_⟩
   cases hv
   have:=Classical.byContradiction fun hn=>hd ⟨hs,hn⟩
   exact⟨0,e,rfl,rfl,this⟩
theorem zfH (R:RenOk P ρ) {t:TypeId} (h:eqOk P Op.maxDepth t=true) {k:Value} {es:List MapEntry} :
  SR P mf nc ρ (fun a b=>b=a.map (fun x=>(x.1,ren ρ x.2))∧(zfo P t=true→∀ j v,a=some (j,v)→FoundAt k es 0 j)) K (Instr.findKey t k es) (Instr.findKey t (ren ρ k) (es.map (zaz ρ))):=by
 unfold Instr.findKey
 refine zad (zaw t).sr ?_
 rintro _ d rfl
 rw [zgC]
 cases hf:Instr.findNow d k es 0 with
 | none=>exact ze2 R h
 | some r =>
  refine zaf ⟨rfl,fun _ j v hv=>?_⟩
  subst hv
  exact zhF hf
theorem zh1 (R:RenOk P ρ) {t:TypeId} (h:eqOk P Op.maxDepth t=true) {k:Value} {es:List MapEntry} :
  SR P mf nc ρ (fun a b=>b=a.map fun x=>(x.1,ren ρ x.2)) K (Instr.findKey t k es) (Instr.findKey t (ren ρ k) (es.map (zaz ρ))):=(zfH R h).mono fun _ _ h=>h.1
variable (P) in
def zl2 (t:TypeId):Bool:=decide (t<P.types.size) && match P.underlying t with
 | some (.map k _)=>eqOk P Op.maxDepth k
 | _=>true
theorem zn0 (R:RenOk P ρ) {t:TypeId} (h:zl2 P t=true) (hz:ezOk P t=true) {x k:Value} {ok:Bool}:SV P mf nc ρ K (Instr.lookup t x k ok) (Instr.lookup t (ren ρ x) (ren ρ k) ok):=by
 unfold Instr.lookup
 refine zad (zaJ t) ?_
 rintro _ d ⟨rfl,hd⟩
 cases d with
 | map key elem =>
  have hk:eqOk P Op.maxDepth key=true:=by have h:=h;simp [zl2,hd] at h;exact h.2
  have hz:zOk P elem=true:=by simpa [ezOk,hd] using hz
  cases x with
  | map r =>
   cases r with
   | none =>
    refine zad (r:=fun (a b:Array MapEntry)=>b=a.map (zaz ρ)) (zaf (by simp)) ?_
    rintro es _ rfl
    dsimp only
    rw [show (es.map (zaz ρ)).isEmpty=es.isEmpty by simp [Array.isEmpty],Array.toList_map]
    refine zad (zet _ _ _ _) ?_
    rintro _ _ rfl
    refine zad (zh1 R hk) ?_
    rintro r _ rfl
    cases r with
    | some v =>
     refine zad (r:=fun a b=>b=(ren ρ a.1,a.2)) (zaf rfl) ?_
     rintro ⟨v,b⟩ _ rfl
     cases ok<;>exact zaf (by simp [ren,zaD])
    | none =>
     refine zad (zbS hz) ?_
     rintro z _ rfl
     refine zad (r:=fun a b=>b=(ren ρ a.1,a.2)) (zaf rfl) ?_
     rintro ⟨v,b⟩ _ rfl
     cases ok<;>exact zaf (by simp [ren,zaD])
   | some r =>
    refine zad zcl ?_
    rintro o _ rfl
    cases o with
    | map es cl =>
     refine zad (r:=fun (a b:Array MapEntry)=>b=a.map (zaz ρ)) (zaf rfl) ?_
     rintro es _ rfl
     dsimp only
     rw [show (es.map (zaz ρ)).isEmpty=es.isEmpty by simp [Array.isEmpty],Array.toList_map]
     refine zad (zet _ _ _ _) ?_
     rintro _ _ rfl
     refine zad (zh1 R hk) ?_
     rintro r _ rfl
     cases r with
     | some v =>
      refine zad (r:=fun a b=>b=(ren ρ a.1,a.2)) (zaf rfl) ?_
      rintro ⟨v,b⟩ _ rfl
      cases ok<;>exact zaf (by simp [ren,zaD])
     | none =>
      refine zad (zbS hz) ?_
      rintro z _ rfl
      refine zad (r:=fun a b=>b=(ren ρ a.1,a.2)) (zaf rfl) ?_
      rintro ⟨v,b⟩ _ rfl
      cases ok<;>exact zaf (by simp [ren,zaD])
    | _=>exact .dead trivial
  | _=>exact .dead trivial
 | _=>exact zah
end
end Go.Con
