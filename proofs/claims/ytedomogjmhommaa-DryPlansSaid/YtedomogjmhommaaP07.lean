import Derived.Test.YtedomogjmhommaaP06
set_option linter.all false
set_option maxRecDepth 100000
set_option maxHeartbeats 8000000
namespace Go.Proofs.Ytedomogjmhommaa
open Go.RowKit Go.Con Go.Conc Go.ChangeShapes Go.WideShapes Go.ChangeAt
local instance zry:Lone:=dryL
theorem zo0:ownKnob Try.prog.godebug=none:=by kernel_rfl
theorem zoQ:laidOutB Try.prog=true:=by kernel_rfl
abbrev CD (W:World) (b:Nat):Prop:=∃ cs e fz,W.heap[b]?=some (Obj.cells cs e fz)
section
variable {W:World} {c:Nat→Value}
theorem zje {b:Nat} {cs:Array Value} {e:TypeId} {fz:Nat×Nat} (h:W.heap[b]?=some (.cells cs e fz)):(zb6 Try.prog c (CD W) W).heap[b]?=some (.cells (invA Try.prog (ixOf c) cs) e (0,cs.size)):=by
 rw [zgz,h]
 simp only [Option.map_some]
 rw [if_pos ⟨_,_,_,h⟩]
theorem zlV {p:Addr} {v:Value} (h:W.cell? p=some v) (hv:inv Try.prog (ixOf c) v=v):(zb6 Try.prog c (CD W) W).cell? p=some v:=by
 unfold World.cell? at h ⊢
 split at h
 ·rename_i cs e fz hh
  rw [zje hh]
  dsimp only
  split at h
  ·cases h
  ·rename_i hsp
   rw [if_neg hsp,znk,Array.getElem?_map,h]
   simp [hv]
 ·cases h
theorem Sl.entry {v:Value} {sz:Nat} {xs:List (List Value)} (h:Sl W v sz xs) (hx:∀ l∈xs,∀ x∈l,inv Try.prog (ixOf c) x=x):Sl (zb6 Try.prog c (CD W) W) v sz xs:=by
 obtain⟨cap,h | ⟨b,off,h1,h2,h3⟩⟩:=h
 ·exact⟨cap,.inl h⟩
 ·refine⟨cap,.inr ⟨b,off,h1,by rw [zcZ];exact h2,fun j k l x hj hk=>zlV (h3 j k l x hj hk) ?_⟩⟩
  exact hx l (List.mem_of_getElem? hj) x (List.mem_of_getElem? hk)
theorem Kind.entry {v:Value} (h:Kind W v):Kind (zb6 Try.prog c (CD W) W) v:=fun a n k e=>by
 obtain⟨cs,t,fz,hh⟩:=h a n k e
 exact⟨_,_,_,zje hh⟩
theorem zkt {ix:Value→Nat} (n:Int):inv Try.prog ix (num n)=num n:=by simp [inv]
theorem zoN {ix:Value→Nat} (b:Bool):inv Try.prog ix (.bool b)=.bool b:=by simp [inv]
theorem DryIn.entry {d:Dry} {r:R2} (h:DryIn W d r):DryIn (zb6 Try.prog c (CD W) W) d r:=by
 refine⟨h.heats.entry ?_,h.steps.entry ?_,h.kh.entry,h.ks.entry,h.hl,h.sl⟩
 ·intro l hl x hx
  obtain⟨z,_,rfl⟩:=List.mem_map.1 hl
  simp only [List.mem_cons,List.not_mem_nil,or_false] at hx
  rcases hx with rfl | rfl<;>exact zkt _
 ·intro l hl x hx
  obtain⟨z,_,rfl⟩:=List.mem_map.1 hl
  simp only [List.mem_cons,List.not_mem_nil,or_false] at hx
  rcases hx with rfl | rfl | rfl | rfl | rfl | rfl<;>first | exact zkt _ | exact zoN _
theorem zlZ {v:Value} {xs:List Int} (h:Sl W v 1 (xs.map one)):Sl (zb6 Try.prog c (CD W) W) v 1 (xs.map one):=by
 refine h.entry ?_
 intro l hl x hx
 obtain⟨z,_,rfl⟩:=List.mem_map.1 hl
 simp only [one,List.mem_singleton] at hx
 subst hx
 exact zkt _
theorem zkm:EmptyDef (zb6 Try.prog c (CD W) W):=by
 intro b o ho
 rw [zgz] at ho
 cases hh:W.heap[b]? with
 | none=>rw [hh] at ho;cases ho
 | some o' =>
  rw [hh] at ho
  simp only [Option.map_some,Option.some.injEq] at ho
  split at ho
  ·rename_i hd
   obtain⟨cs,e,fz,h2⟩:=hd
   rw [hh] at h2
   cases h2
   subst ho;rfl
  ·subst ho;rfl
end
def Alk (W:World) (E:Nat→Prop) (v:Value):Prop:=(∀ c,ren (zcw c) v=v)∧ren (RA (gd Try.prog)) v=ren (RB (gd Try.prog) (CD W) E) v
theorem Alk.num {W:World} {E:Nat→Prop} (n:Int):Alk W E (num n):=⟨fun c=>by simp [ren],by simp [ren]⟩
theorem Alk.bool {W:World} {E:Nat→Prop} (n:Bool):Alk W E (.bool n):=⟨fun c=>by simp [ren],by simp [ren]⟩
theorem Alk.undef {W:World} {E:Nat→Prop}:Alk W E undef:=⟨fun c=>ren_undef,by rw [ren_undef,ren_undef]⟩
theorem Alk.slice {W:World} {E:Nat→Prop} {v:Value} (hs:∃ a n k,v=.slice a n k) (hk:Kind W v):Alk W E v:=by
 obtain⟨a,n,k,rfl⟩:=hs
 refine⟨fun c=>?_,?_⟩
 ·cases a with
  | none=>simp [ren]
  | some a=>simp [ren,zak,zcw]
 ·cases a with
  | none=>simp [ren]
  | some a =>
   obtain⟨cs,e,fz,h⟩:=hk a n k rfl
   have:(RA (gd Try.prog)).p a.block=(RB (gd Try.prog) (CD W) E).p a.block:=by
    show dbl (gd Try.prog).n a.block=dblD (gd Try.prog).n (CD W) a.block
    exact dbl_eq.2 (.inr ⟨cs,e,fz,h⟩)
   simp [ren,zak,this]
theorem Alk.agg {W:World} {E:Nat→Prop} {cs:Array Value} (h:∀ v∈cs.toList,Alk W E v):Alk W E (.agg cs):=by
 have key:∀ ρ σ:Rn,(∀ v∈cs.toList,ren ρ v=ren σ v)→cs.map (ren ρ)=cs.map (ren σ):=by
  intro ρ σ hh
  apply Array.map_congr_left
  intro v hv
  exact hh v (by simpa using hv)
 refine⟨fun c=>?_,?_⟩
 ·simp only [ren,zaD]
  congr 1
  have:cs.map (ren (zcw c))=cs.map id:=by
   apply Array.map_congr_left
   intro v hv
   exact (h v (by simpa using hv)).1 c
  rw [this];simp
 ·simp only [ren,zaD]
  congr 1
  exact key _ _ fun v hv=>(h v hv).2
theorem Sl.isSlice {W:World} {v:Value} {sz:Nat} {xs:List (List Value)} (h:Sl W v sz xs):∃ a n k,v=.slice a n k:=by
 obtain⟨a,k,e⟩:=h.cases
 exact⟨a,_,k,e⟩
theorem DryIn.same {W:World} {E:Nat→Prop} {d:Dry} {r:R2} (h:DryIn W d r):Alk W E (d.val r):=by
 refine Alk.agg fun v hv=>?_
 simp only [List.mem_cons,List.not_mem_nil,or_false] at hv
 rcases hv with rfl | rfl | rfl | rfl | rfl | rfl | rfl
 ·exact Alk.slice h.heats.isSlice h.kh
 ·exact Alk.num _
 ·exact Alk.num _
 ·exact Alk.num _
 ·exact Alk.num _
 ·exact Alk.num _
 ·exact Alk.slice h.steps.isSlice h.ks
theorem zlX {W:World} {E:Nat→Prop} {f:FuncId} {args:Array Value} {n:Nat} {body:Code} (h:∀ v∈args.toList,Alk W E v) :
  supF Try.prog (CD W) E (Fr f (args++Array.replicate n undef) [.code body])∧∀ c,zab (zcw c) (Fr f (args++Array.replicate n undef) [.code body])=Fr f (args++Array.replicate n undef) [.code body]:=by
 have hall:∀ v∈(args++Array.replicate n undef),Alk W E v:=by
  intro v hv
  rcases Array.mem_append.1 hv with hv | hv
  ·exact h v (by simpa using hv)
  ·obtain⟨_,rfl⟩:=Array.mem_replicate.1 hv
   exact Alk.undef
 refine⟨?_,fun c=>?_⟩
 ·unfold supF zab
  have:(args++Array.replicate n undef).map (ren (RA (gd Try.prog)))=(args++Array.replicate n undef).map (ren (RB (gd Try.prog) (CD W) E)):=Array.map_congr_left fun v hv=>(hall v hv).2
  simp only [this,List.map_cons,List.map_nil,zal,Option.map_none]
 ·unfold zab
  have:(args++Array.replicate n undef).map (ren (zcw c))=(args++Array.replicate n undef).map id:=Array.map_congr_left fun v hv=>(hall v hv).1 c
  simp only [this,List.map_cons,List.map_nil,zal,Option.map_none,Array.map_id]
theorem zpW {W:World} {f:FuncId} {fn:Func} {body:Code} {args:Array Value} (hf:Try.prog.funcs[f]?=some fn) (hb:fn.body=some body) (ha:∀ v∈args.toList,Alk W (fun _=>False) v)
  (hgo:∀ (c:Nat→Value) (Post:Value→World→Prop),(∀ Fz1 ρ D own A fr W1 W',Here Try.prog true (fun _=>False) Fz1 (fun x=>x<W.heap.size) W ρ D own A fr [] W1 W'→Post (ren ρ (.bool true)) W') →
   GoM Try.prog true (fun _=>False) (CD W) (fun x=>x<W.heap.size) W (AtEnd Try.prog Post) ⟨false,0,0,fun _ _ _ _ _=>False⟩ [] (Fr f (args++Array.replicate (fn.ntmps-args.size) undef) [.code body]) [] (zb6 Try.prog c (CD W) W)) :
  Con.Fin Try.prog (fun u W'=>u=.bool true∧Con.Left W W') (solo (G (Frame.enter Try.prog f args .normal) []) W) #[]:=by
 obtain⟨c,htok,hc⟩:=zj4 (zcX W)
 obtain⟨h1,h2⟩:=zlX (f:=f) (n:=fn.ntmps-args.size) (body:=body) ha
 rw [zez hf hb]
 refine GoM.begin (D:=CD W) (c:=c) (E:=fun _=>False) (fun ρ=>by simp [ren]) (fun b hb=>by rw [zfl] at hb;omega) (fun b h=>h) hc htok h1 (h2 c) zkm fun Post hPost=>hgo c Post fun Fz1 ρ D own A fr W1 W' h=>hPost ρ D own A fr W1 W' (.inr ⟨Fz1,h⟩)
section
variable {H:Type} {enc:TypeId×Value→H}
theorem zjo {t:TypeId} (hr:Try.prog.readableRec t=true) (hrow:t<Try.prog.types.size) {W W' : World} {v:Value} {d:DataW H} {ps:List MemPlace} (h:DataW.Trod enc Try.prog W 0 (fun _=>true) true t v d ps) (hl:Con.Left W W') (hlt:∀ x∈ps,x.block<W.heap.size) :
  DataW.Trod enc Try.prog W' 0 (fun b=>decide (b<W.heap.size)) true t v d ps:=by
 have hb:Below W.heap.size W { W' with tape:=W.tape }:=⟨hl.os,rfl,hl.output,hl.size,hl.heap⟩
 obtain⟨fuel,h2⟩:=Below.trod zoQ hr hrow h hb hlt
 exact⟨fuel,by rw [← h2];exact DataW.trod_heap (w:=W') (w':={ W' with tape:=W.tape }) rfl _ _ _⟩
theorem znv {W W' : World} (hl:Con.Left W W') (may:MemPlace→Prop):W.keptBut W' may:=by
 refine⟨hl.os,hl.output,fun i hi=>?_⟩
 rw [hl.heap i hi]
 split<;>simp_all
end
theorem zoK {W:World} {m:Machine} {Post:Value→World→Prop} (h:Con.Fin Try.prog (fun u W'=>u=.bool true∧Con.Left W W') m #[]) (hp:∀ W',Con.Left W W'→Post (.bool true) W') :
  ∃ M last o w' t',runNT Try.prog (M+1) m #[]=(.ended o w',t')∧runN Try.prog M m=.next last∧step Try.prog last=.ended o w'∧Conc.Good Try.prog Post last o w' t':=by
 obtain⟨M,last,o,w',t',h1,h2,h3,h4⟩:=h
 exact⟨M,last,o,w',t',h1,h2,h3,h4.mono fun v ⟨hv,hl⟩=>by subst hv;exact hp _ hl⟩
end Go.Proofs.Ytedomogjmhommaa
namespace Go.Proofs.Ytedomogjmhommaa
open Go.RowKit Go.Con Go.Conc Go.Shelf
local instance zrd:Lone:=dryL
section
variable {dst:Option Nat} {ty:TypeId} {pos:String} {af:Array Edge} {gd:Option (Nat×Bool)} {x y:Nat}
theorem zdZ (e:Operand→Value) {w:World} {b:Nat} {s:Int×Int} (h:e (.tmp x)=ptr b) (c0:w.cell? ⟨b,0,none⟩=some (num s.1)) (c1:w.cell? ⟨b,1,none⟩=some (num s.2)) (τ:Tape):(execOp e ⟨dst,.load 45 (.tmp x),ty,pos,af,gd⟩).run Try.prog { w with tape:=τ }=.ok (.value (spV s)) { w with tape:=τ }:=by
 have d0:({ w with tape:=τ }:World).cell? ⟨b,0,none⟩=some (num s.1):=c0
 have d1:({ w with tape:=τ }:World).cell? ⟨b,1,none⟩=some (num s.2):=c1
 simp [execOp,go_sem,h,d0,d1]
theorem zk8 (e:Operand→Value) {w:World} {s:Int×Int} (h:e (.tmp x)=spV s) (h2:e (.tmp y)=spV s) (hs:I64 s.1∧I64 s.2) (τ:Tape):(execOp e ⟨dst,.binOp .eql 45 (.tmp x) (.tmp y) 45,ty,pos,af,gd⟩).run Try.prog { w with tape:=τ }=.ok (.value (.bool true)) { w with tape:=τ }:=by
 have q:=eq45 hs hs { w with tape:=τ }
 rw [show decide (s=s)=true by simp] at q
 have q' : (Op.equalIn 10000 45 (.agg #[num s.1,num s.2]) (.agg #[num s.1,num s.2])).run Try.prog { w with tape:=τ }=.ok true { w with tape:=τ }:=q
 simp [execOp,go_sem,h,h2,q']
end
theorem zkT (d:Dry) (plan:List Int):(I64 (zcp d plan).1.1∧I64 (zcp d plan).1.2)∧I64 (zcp d plan).2.1.1∧I64 (zcp d plan).2.1.2:=by
 unfold zcp
 by_cases hp:zbp d plan=0
 ·rw [if_neg (fun h=>h hp)]
  obtain⟨hO,hl,hb⟩:=zcR hp
  have hne:=zf6 hO hl plan.length (Nat.le_refl _)
  have hok:=zie hO hb plan.length
  have hst:=stF_ok.1 hO.start
  obtain⟨⟨⟨s1,a1,e1⟩,_⟩,⟨s2,a2,e2⟩,_⟩:=zdK (fun s=>d.start.w-s.w) hne
  obtain⟨⟨⟨s3,a3,e3⟩,_⟩,⟨s4,a4,e4⟩,_⟩:=zdK (fun s=>d.start.c-s.c) hne
  have w0:=hst.w
  have c0:=hst.c
  have w1:=(hok s1 a1).w
  have w2:=(hok s2 a2).w
  have c3:=(hok s3 a3).c
  have c4:=(hok s4 a4).c
  dsimp only at e1 e2 e3 e4 ⊢
  rw [← e1,← e2,← e3,← e4]
  unfold I64
  omega
 ·rw [if_pos hp]
  unfold I64
  dsimp only
  omega
theorem znV (d:Dry) (plan:List Int):(zbL d plan).1.length≤1000000000:=by
 unfold zbL
 by_cases hp:zbp d plan=0
 ·rw [if_neg (fun h=>h hp)]
  cases hf:(zaH d.steps).find? (fun a=>decide (0≤brk d (zaq d d.start plan a))) with
  | none=>exact Nat.zero_le _
  | some a =>
   have h1:=(airs_mem.1 (List.mem_of_find?_eq_some hf)).1
   have h2:=(zcR hp).1.s5
   show a.length≤_
   omega
 ·rw [if_pos hp];exact Nat.zero_le _
noncomputable def ops4_13:Array Oper:=opsOf zpw
theorem zpx:zpw=.region 13 ops4_13 false:=by kernel_rfl
theorem zlv (v:Value) (t:Array Value) (h:t[4]?=some v) (σ:Rn):ResultsC Try.prog Try.f4 (t.map (ren σ)) (ren σ v):=by
 have:=resultsC_tmp (P:=Try.prog) (fn:=Try.f4) (t:=4) rfl (t.map (ren σ))
 simp only [Array.getD_eq_getD_getElem?,Array.getElem?_map,h,Option.map_some,Option.getD_some] at this
 exact this
theorem znI (E Fz Arg:Nat→Prop) (W0:World) (Post:Value→World→Prop) (φ:Ph) (W:World) (q1 q2 q3 q4:Nat) (x y:Int×Int) (fl:Int) {kk:List Item} (t:Array Value) (hs:t.size=116) (m13:t[13]?=some (ptr q1)) (m14:t[14]?=some (ptr q2)) (m15:t[15]?=some (ptr q3)) (m16:t[16]?=some (ptr q4)) (m7:t[7]?=some (num fl)) (m10:t[10]?=some (num fl)) (a0:W.cell? ⟨q1,0,none⟩=some (num x.1)) (a1:W.cell? ⟨q1,1,none⟩=some (num x.2)) (b0:W.cell? ⟨q2,0,none⟩=some (num y.1)) (b1:W.cell? ⟨q2,1,none⟩=some (num y.2)) (c0:W.cell? ⟨q3,0,none⟩=some (num x.1)) (c1:W.cell? ⟨q3,1,none⟩=some (num x.2)) (d0:W.cell? ⟨q4,0,none⟩=some (num y.1)) (d1:W.cell? ⟨q4,1,none⟩=some (num y.2)) (hx:I64 x.1∧I64 x.2) (hy:I64 y.1∧I64 y.2)
  (hPost:∀ Fz1 ρ D own A fr W1 W',Here Try.prog true E Fz1 Arg W0 ρ D own A fr [] W1 W'→Post (ren ρ (.bool true)) W') :
  GoM Try.prog true E Fz Arg W0 (AtEnd Try.prog Post) φ [] (Fr 4 t (.code zpw :: .code .ret :: kk)) [] W:=by
 rw [zpx]
 refine Gm.regionSeq (fun x=>OldC W x) (fun i=>([spV x,spV x,.bool true,.bool true,spV y,spV y,.bool true,.bool true,.bool true,num fl,num fl,.bool true,.bool true,.bool true,.bool true,.bool true,.bool true]:List Value).getD i undef) (by rw [hs];kernel_rfl) (OldC.refl _) ?_ ?_
 ·intro i hi t W1 Fz φ rest hC hsz hgot hold hk
  rw [show ops4_13.size=17 by kernel_rfl] at hi
  match i,hi with
  | 0,_ =>
    have e0:t[13]?=some (ptr q1):=(hold 13 (by kernel_rfl)).trans m13
    exact Gm.op (spV x) W1 rfl rfl (by kernel_rfl) rfl (zdZ _ (zam e0) (hC.at a0) (hC.at a1)) id (hk W1 Fz φ hC)
  | 1,_ =>
    have e0:t[15]?=some (ptr q3):=(hold 15 (by kernel_rfl)).trans m15
    exact Gm.op (spV x) W1 rfl rfl (by kernel_rfl) rfl (zdZ _ (zam e0) (hC.at c0) (hC.at c1)) id (hk W1 Fz φ hC)
  | 2,_ =>
    have ea:t[100]?=some (spV x):=hgot 0 100 (by kernel_rfl) (by kernel_rfl)
    have eb:t[101]?=some (spV x):=hgot 1 101 (by kernel_rfl) (by kernel_rfl)
    exact Gm.op (.bool true) W1 rfl rfl (by kernel_rfl) rfl (zk8 _ (zam ea) (zam eb) hx) id (hk W1 Fz φ hC)
  | 3,_ =>
    have e0:t[102]?=some (.bool true):=hgot 2 102 (by kernel_rfl) (by kernel_rfl)
    exact Gm.op (.bool true) W1 rfl rfl (by kernel_rfl) rfl (zeT _ (zam e0)) id (hk W1 Fz φ hC)
  | 4,_ =>
    have eg:t[103]?=some (.bool true):=hgot 3 103 (by kernel_rfl) (by kernel_rfl)
    have e0:t[14]?=some (ptr q2):=(hold 14 (by kernel_rfl)).trans m14
    exact Gm.op (spV y) W1 rfl (zbD (i:=3) (b:=true) (d:=103) rfl rfl eg) (by kernel_rfl) rfl (zdZ _ (zam e0) (hC.at b0) (hC.at b1)) id (hk W1 Fz φ hC)
  | 5,_ =>
    have eg:t[103]?=some (.bool true):=hgot 3 103 (by kernel_rfl) (by kernel_rfl)
    have e0:t[16]?=some (ptr q4):=(hold 16 (by kernel_rfl)).trans m16
    exact Gm.op (spV y) W1 rfl (zbD (i:=3) (b:=true) (d:=103) rfl rfl eg) (by kernel_rfl) rfl (zdZ _ (zam e0) (hC.at d0) (hC.at d1)) id (hk W1 Fz φ hC)
  | 6,_ =>
    have eg:t[103]?=some (.bool true):=hgot 3 103 (by kernel_rfl) (by kernel_rfl)
    have ea:t[104]?=some (spV y):=hgot 4 104 (by kernel_rfl) (by kernel_rfl)
    have eb:t[105]?=some (spV y):=hgot 5 105 (by kernel_rfl) (by kernel_rfl)
    exact Gm.op (.bool true) W1 rfl (zbD (i:=3) (b:=true) (d:=103) rfl rfl eg) (by kernel_rfl) rfl (zk8 _ (zam ea) (zam eb) hy) id (hk W1 Fz φ hC)
  | 7,_ =>
    have ea:t[103]?=some (.bool true):=hgot 3 103 (by kernel_rfl) (by kernel_rfl)
    have eb:t[106]?=some (.bool true):=hgot 6 106 (by kernel_rfl) (by kernel_rfl)
    exact Gm.op (.bool true) W1 rfl rfl (by kernel_rfl) rfl (zix _ (zam ea) (zam eb)) id (hk W1 Fz φ hC)
  | 8,_ =>
    have e0:t[107]?=some (.bool true):=hgot 7 107 (by kernel_rfl) (by kernel_rfl)
    exact Gm.op (.bool true) W1 rfl rfl (by kernel_rfl) rfl (zeT _ (zam e0)) id (hk W1 Fz φ hC)
  | 9,_ =>
    have eg:t[108]?=some (.bool true):=hgot 8 108 (by kernel_rfl) (by kernel_rfl)
    have e0:t[7]?=some (num fl):=(hold 7 (by kernel_rfl)).trans m7
    exact Gm.op (num fl) W1 rfl (zbD (i:=8) (b:=true) (d:=108) rfl rfl eg) (by kernel_rfl) rfl (zeT _ (zam e0)) id (hk W1 Fz φ hC)
  | 10,_ =>
    have eg:t[108]?=some (.bool true):=hgot 8 108 (by kernel_rfl) (by kernel_rfl)
    have e0:t[10]?=some (num fl):=(hold 10 (by kernel_rfl)).trans m10
    exact Gm.op (num fl) W1 rfl (zbD (i:=8) (b:=true) (d:=108) rfl rfl eg) (by kernel_rfl) rfl (zeT _ (zam e0)) id (hk W1 Fz φ hC)
  | 11,_ =>
    have eg:t[108]?=some (.bool true):=hgot 8 108 (by kernel_rfl) (by kernel_rfl)
    have ea:t[109]?=some (num fl):=hgot 9 109 (by kernel_rfl) (by kernel_rfl)
    have eb:t[110]?=some (num fl):=hgot 10 110 (by kernel_rfl) (by kernel_rfl)
    exact Gm.op (.bool true) W1 rfl (zbD (i:=8) (b:=true) (d:=108) rfl rfl eg) (by kernel_rfl) rfl (zoA _ (zam ea) (zam eb)) id (hk W1 Fz φ hC)
  | 12,_ =>
    have ea:t[108]?=some (.bool true):=hgot 8 108 (by kernel_rfl) (by kernel_rfl)
    have eb:t[111]?=some (.bool true):=hgot 11 111 (by kernel_rfl) (by kernel_rfl)
    exact Gm.op (.bool true) W1 rfl rfl (by kernel_rfl) rfl (zix _ (zam ea) (zam eb)) id (hk W1 Fz φ hC)
  | 13,_ =>
    have e0:t[112]?=some (.bool true):=hgot 12 112 (by kernel_rfl) (by kernel_rfl)
    exact Gm.op (.bool true) W1 rfl rfl (by kernel_rfl) rfl (zeT _ (zam e0)) id (hk W1 Fz φ hC)
  | 14,_ =>
    have eg:t[113]?=some (.bool true):=hgot 13 113 (by kernel_rfl) (by kernel_rfl)
    refine Gm.enter (o:=⟨some 114,.call { callee:=.value (.func 17),args:=#[],argTypes:=#[] },_,_,_,some (13,true)⟩) (c:={ callee:=.value (.func 17),args:=#[],argTypes:=#[] }) (g:=17) (fn:=Try.f17) (body:=b17) rfl (zbD (i:=13) (b:=true) (d:=113) rfl rfl eg) rfl rfl (by kernel_rfl) Try.func17 zi1 (by kernel_rfl) ?_
    refine zk5 E Fz Arg W0 _ φ _ [] W1 _ (by simp [Try.ntmps17]) fun φ1 W5 Fz1 o5=>?_
    rw [zbg rfl]
    exact hk W5 Fz1 φ1 (hC.trans o5)
  | 15,_ =>
    have ea:t[113]?=some (.bool true):=hgot 13 113 (by kernel_rfl) (by kernel_rfl)
    have eb:t[114]?=some (.bool true):=hgot 14 114 (by kernel_rfl) (by kernel_rfl)
    exact Gm.op (.bool true) W1 rfl rfl (by kernel_rfl) rfl (zix _ (zam ea) (zam eb)) id (hk W1 Fz φ hC)
  | 16,_ =>
    have e0:t[115]?=some (.bool true):=hgot 15 115 (by kernel_rfl) (by kernel_rfl)
    exact Gm.op (.bool true) W1 rfl rfl (by kernel_rfl) rfl (zfu _ (zam e0)) id (hk W1 Fz φ hC)
  | n+17,h=>exact absurd h (by omega)
 ·intro t W1 Fz φ hC hsz hgot hold
  have e6:t[4]?=some (.bool true):=hgot 16 4 (by kernel_rfl)
  refine Gm.done Try.func4 (by kernel_rfl) (zlv (.bool true) _ e6) ?_
  exact fun ρ D own A fr W' h=>hPost _ ρ D own A fr _ W' h
noncomputable def ops4_2:Array Oper:=opsOf x4_2
theorem zqh:x4_2=.region 2 ops4_2 false:=by kernel_rfl
noncomputable def ops4_3:Array Oper:=opsOf x4_3
theorem zqi:x4_3=.region 3 ops4_3 false:=by kernel_rfl
theorem zo1 (E Fz Arg:Nat→Prop) (W0:World) (Post:Value→World→Prop) (φ:Ph) (W:World) (d:Dry) (ha sa:Option Addr) (hcap scap:Nat) (u:Value) (plan:List Int)
  (hh:Sl W (.slice ha d.heats.length hcap) 2 (d.heats.map two)) (hss:Sl W (.slice sa d.steps.length scap) 6 (d.steps.map Stp.cells)) (hl:d.heats.length≤140737488355328) (sl:d.steps.length≤140737488355328)
  (hu:Sl W u 1 (plan.map one)) (hpl:plan.length≤140737488355328)
  (t:Array Value) (hs:t.size=116) (h0:t[0]?=some (d.val ⟨.slice ha d.heats.length hcap,.slice sa d.steps.length scap⟩)) (h1:t[1]?=some (u))
  (hPost:∀ Fz1 ρ D own A fr W1 W',Here Try.prog true E Fz1 Arg W0 ρ D own A fr [] W1 W'→Post (ren ρ (.bool true)) W') :
  GoM Try.prog true E Fz Arg W0 (AtEnd Try.prog Post) φ [] (Fr 4 t [.code b4]) [] W:=by
 rw [zq5]
 refine Gm.seq ?_
 obtain⟨ua,ucap,e7⟩:=hu.cases
 rw [List.length_map] at e7
 refine Gm.lone (F:=FW) (fun tt WW=>(tt.size=116∧tt[1]?=some (u)∧tt[2]?=some (ptr W.heap.size))∧WW.heap=(W.alloc (.cells (d.cellsA ⟨.slice ha d.heats.length hcap,.slice sa d.steps.length scap⟩) 27)).heap) rfl rfl trivial zbl (by kernel_rfl) (by kernel_rfl) (fun τ=>?_) ?_
 ·refine wpIn_mono (f4_0 d ha sa d.heats.length hcap d.steps.length scap u t hs h0 h1 { W with tape:=τ }) ?_
  rintro e a w' ⟨k1,k2,i0,rfl⟩
  exact⟨k1,k2,i0,rfl⟩
 rintro t1 W1 ⟨⟨s1,m1_1,m1_2⟩,hW1⟩
 have nA:=zaj (Nx.refl W) (.cells (d.cellsA ⟨.slice ha d.heats.length hcap,.slice sa d.steps.length scap⟩) 27 (0,0))
 have oA:OldC (W.alloc (.cells (d.cellsA ⟨.slice ha d.heats.length hcap,.slice sa d.steps.length scap⟩) 27)) W1:=OldC.same hW1
 have o1:OldC W W1:=(OldC.nx nA).trans oA
 have hB:DBox W1 W.heap.size d ⟨.slice ha d.heats.length hcap,.slice sa d.steps.length scap⟩:=⟨by rw [hW1];simp,fun i v hv=>oA.at (zaa (al1 rfl).2.2 hv)⟩
 have hh:=hh.oc o1
 have hss:=hss.oc o1
 have hu:=hu.oc o1
 clear nA oA o1 hW1 hs h0 h1
 generalize W.heap.size=p1 at m1_2 hB
 subst e7
 refine Gm.seq ?_
 refine Gm.seq ?_
 refine Gm.lone (F:=FW) (fun tt WW=>(tt.size=116∧tt[1]?=some (.slice ua plan.length ucap)∧tt[2]?=some (ptr p1)∧tt[23]?=some (.bool (out4 d plan.length)))∧OldC W1 WW) rfl rfl trivial zbl (by kernel_rfl) (by kernel_rfl) (fun τ=>?_) ?_
 ·refine wpIn_mono (f4_1 d ⟨.slice ha d.heats.length hcap,.slice sa d.steps.length scap⟩ p1 ua plan.length ucap t1 s1 m1_1 m1_2 { W1 with tape:=τ } (hB.oc (OldC.same rfl)) (hh.oc (OldC.same rfl)) (hss.oc (OldC.same rfl)) hl sl hpl) ?_
  rintro e a w' ⟨k1,k2,k3,k4⟩
  exact⟨k1,k2,k3,zbP k4⟩
 rintro t2 W2 ⟨⟨s2,m2_1,m2_2,m2_23⟩,o2⟩
 have hB:=hB.oc o2
 have hh:=hh.oc o2
 have hss:=hss.oc o2
 have hu:=hu.oc o2
 clear o2
 clear s1 m1_1 m1_2
 by_cases hg:out4 d plan.length=true
 ·rw [hg] at m2_23
  refine Gm.cond (b:=true) (zam m2_23) rfl ?_
  refine Gm.seq ?_
  rw [zqh]
  refine Gm.region ?_
  rw [show List.range ops4_2.size=[0,1] by kernel_rfl]
  refine Gm.enter (o:=⟨some 24,.call { callee:=.value (.func 17),args:=#[],argTypes:=#[] },_,_,_,none⟩) (c:={ callee:=.value (.func 17),args:=#[],argTypes:=#[] }) (g:=17) (fn:=Try.f17) (body:=b17) rfl rfl rfl rfl (by kernel_rfl) Try.func17 zi1 (by kernel_rfl) ?_
  refine zk5 E Fz Arg W0 _ φ _ [] W2 _ ?_ fun φ1 Wz Fz1 oz=>?_
  ·simp [Try.ntmps17]
  rw [zbg rfl]
  change GoM Try.prog true E Fz1 Arg W0 _ φ1 [] (Fr 4 (putD t2 (some 24) (.bool true)) _) [] Wz
  refine Gm.op (o:=⟨some 4,.assign (.tmp 24),_,_,_,none⟩) (.bool true) Wz rfl rfl (by kernel_rfl) rfl (zfu _ (zam (by simp [putD,s2]))) id ?_
  refine Gm.regionEnd ?_
  refine Gm.done Try.func4 (by kernel_rfl) (zlv (.bool true) _ (by simp [putD,s2])) ?_
  exact fun ρ D own A fr W' h=>hPost _ ρ D own A fr _ W' h
 have hg' : out4 d plan.length=false:=by simpa using hg
 rw [hg'] at m2_23
 unfold out4 at hg'
 simp only [Bool.or_eq_false_iff,decide_eq_false_iff_not,Nat.not_lt] at hg'
 obtain⟨hgr,hp40⟩:=hg'
 have hgl:d.heats.length≤40∧d.steps.length≤40:=by
  unfold zeO at hgr
  simp only [Bool.or_eq_false_iff,decide_eq_false_iff_not,Nat.not_lt] at hgr
  exact hgr
 refine Gm.cond (b:=false) (zam m2_23) rfl ?_
 refine Gm.skip ?_
 have hd:DrySl W2 d ⟨.slice ha d.heats.length hcap,.slice sa d.steps.length scap⟩:=⟨hh,hss,by omega,by omega⟩
 clear hh hss hg m2_23 hgr
 generalize hr:(⟨.slice ha d.heats.length hcap,.slice sa d.steps.length scap⟩:R2)=r at *
 clear hr
 generalize hue:Value.slice ua plan.length ucap=u at *
 clear hue
 have hbl5:(zb5 d).1.length≤1000000000:=by
  have:=zeC d d.steps [d.start] d.start.h
  have e:(zb5 d).1.length≤d.steps.length:=by
   unfold zb5
   split
   ·exact Nat.zero_le _
   ·split
    ·exact Nat.zero_le _
    ·exact this
  omega
 have hsl5:=znV d plan
 refine Gm.seq ?_
 rw [zqi]
 refine Gm.region ?_
 rw [show List.range ops4_3.size=[0,1,2,3,4,5,6,7,8] by kernel_rfl]
 refine Gm.op (o:=⟨some 26,.load 27 (.tmp 2),_,_,_,none⟩) (d.val r) W2 rfl rfl (by kernel_rfl) rfl (zhP _ (zam m2_2) hB) id ?_
 refine Gm.enter (o:=⟨some 27,.call { callee:=.value (.func 23),args:=#[.tmp 26],argTypes:=#[27] },_,_,_,none⟩) (c:={ callee:=.value (.func 23),args:=#[.tmp 26],argTypes:=#[27] }) (g:=23) (fn:=Try.f23) (body:=b23) rfl rfl rfl rfl (by kernel_rfl) Try.func23 zi2 (by kernel_rfl) ?_
 obtain⟨bha,bhcap,q1⟩:=hd.heats.cases
 obtain⟨bsa,bscap,q2⟩:=hd.steps.cases
 rw [List.length_map] at q1 q2
 obtain⟨rh,rs⟩:=r
 dsimp only at q1 q2
 subst q1 q2
 have e35:(Fr 4 (putD t2 (some 26) (d.val ⟨.slice bha d.heats.length bhcap,.slice bsa d.steps.length bscap⟩)) []).eval (.tmp 26)=d.val ⟨.slice bha d.heats.length bhcap,.slice bsa d.steps.length bscap⟩:=zam (by simp [putD,s2])
 refine zk2 E Fz Arg W0 _ φ _ [] W2 d bha bsa bhcap bscap hd _ ?_ ?_ fun φ1 W3 Fz1 vb o3 hvb=>?_
 ·simp [Try.ntmps23]
 ·simp [e35]
 rw [zbg rfl]
 dsimp only
 clear e35
 generalize (⟨.slice bha d.heats.length bhcap,.slice bsa d.steps.length bscap⟩:R2)=r at *
 obtain⟨bf,hbf⟩:∃ bf,zb5 d=bf:=⟨_,rfl⟩
 rw [hbf] at hvb ⊢
 change GoM Try.prog true E Fz1 Arg W0 _ φ1 [] (Fr 4 (putD (putD t2 (some 26) _) (some 27) (.tuple #[vb,.bool bf.2.1,num bf.2.2])) _) [] W3
 refine Gm.op (o:=⟨some 25,.move (.tmp 27),_,_,_,none⟩) (.tuple #[vb,.bool bf.2.1,num bf.2.2]) W3 rfl rfl (by kernel_rfl) rfl (zeT _ (zam (by simp [putD,s2]))) id ?_
 refine Gm.op (o:=⟨some 28,.extract (.tmp 25) 0,_,_,_,none⟩) vb W3 rfl rfl (by kernel_rfl) rfl (zlb (v:=.bool bf.2.1) (z:=num bf.2.2) _ (zam (by simp [putD,s2]))) id ?_
 refine Gm.op (o:=⟨some 29,.extract (.tmp 25) 1,_,_,_,none⟩) (.bool bf.2.1) W3 rfl rfl (by kernel_rfl) rfl (zlc (u:=vb) (z:=num bf.2.2) _ (zam (by simp [putD,s2]))) id ?_
 refine Gm.op (o:=⟨some 30,.extract (.tmp 25) 2,_,_,_,none⟩) (num bf.2.2) W3 rfl rfl (by kernel_rfl) rfl (zld (u:=vb) (v:=.bool bf.2.1) _ (zam (by simp [putD,s2]))) id ?_
 refine Gm.op (o:=⟨some 5,.assign (.tmp 28),_,_,_,none⟩) vb W3 rfl rfl (by kernel_rfl) rfl (zfu _ (zam (by simp [putD,s2]))) id ?_
 refine Gm.op (o:=⟨some 6,.assign (.tmp 29),_,_,_,none⟩) (.bool bf.2.1) W3 rfl rfl (by kernel_rfl) rfl (zfu _ (zam (by simp [putD,s2]))) id ?_
 refine Gm.op (o:=⟨some 7,.assign (.tmp 30),_,_,_,none⟩) (num bf.2.2) W3 rfl rfl (by kernel_rfl) rfl (zfu _ (zam (by simp [putD,s2]))) id ?_
 refine Gm.regionEnd ?_
 generalize ht4:putD _ (some 7) (num bf.2.2)=t3
 have s3:t3.size=116:=by rw [← ht4];simp [putD,s2]
 have m3_1:t3[1]?=some (u):=by rw [← ht4];simp [putD,m2_1]
 have m3_2:t3[2]?=some (ptr p1):=by rw [← ht4];simp [putD,m2_2]
 have m3_5:t3[5]?=some vb:=by rw [← ht4];simp [putD,s2]
 have m3_6:t3[6]?=some (.bool bf.2.1):=by rw [← ht4];simp [putD,s2]
 have m3_7:t3[7]?=some (num bf.2.2):=by rw [← ht4];simp [putD,s2]
 clear ht4
 clear s2 m2_1 m2_2
 have hB:=hB.oc o3
 have hd:=hd.oc o3
 have hu:=hu.oc o3
 clear o3
 rw [hbf] at hbl5
 refine Gm.seq ?_
 refine Gm.lone (F:=FW) (fun tt WW=>∃ vk,(tt.size=116∧tt[1]?=some (u)∧tt[2]?=some (ptr p1)∧tt[5]?=some (vb)∧tt[6]?=some (.bool bf.2.1)∧tt[7]?=some (num bf.2.2)∧tt[8]?=some (vk)∧tt[9]?=some (.bool bf.2.1)∧tt[10]?=some (num bf.2.2))∧OldC W3 WW∧Sl WW vk 1 (bf.1.map one)) rfl rfl trivial zbl (by kernel_rfl) (by kernel_rfl) (fun τ=>?_) ?_
 ·refine wpIn_mono (f4_4 d r p1 u vb bf t3 s3 m3_1 m3_2 m3_5 m3_6 m3_7 { W3 with tape:=τ } (hB.oc (OldC.same rfl)) (hd.oc (OldC.same rfl)) hbf) ?_
  rintro e a w' ⟨k1,k2,vk,k3,k4,y0⟩
  exact⟨k1,k2,vk,k3,zbP k4,y0⟩
 rintro t4 W4 ⟨vk,⟨s4,m4_1,m4_2,m4_5,m4_6,m4_7,m4_8,m4_9,m4_10⟩,o4,hvk⟩
 have hB:=hB.oc o4
 have hd:=hd.oc o4
 have hu:=hu.oc o4
 have hvb:=hvb.oc o4
 clear o4
 clear s3 m3_1 m3_2 m3_5 m3_6 m3_7
 refine Gm.seq ?_
 refine Gm.seq ?_
 refine Gm.lone (F:=FW) (fun tt WW=>(tt.size=116∧tt[1]?=some (u)∧tt[2]?=some (ptr p1)∧tt[50]?=some (.bool false))∧OldC W4 WW) rfl rfl trivial zbl (by kernel_rfl) (by kernel_rfl) (fun τ=>?_) ?_
 ·refine wpIn_mono (f4_5 p1 u vb vk bf.2.1 bf.2.2 0 bf.1 t4 s4 m4_1 m4_2 m4_5 m4_8 m4_6 m4_9 m4_7 m4_10 { W4 with tape:=τ } (hvb.oc (OldC.same rfl)) (hvk.oc (OldC.same rfl)) hbl5) ?_
  rintro e a w' ⟨k1,k2,k3,k4⟩
  exact⟨k1,k2,k3,zbP k4⟩
 rintro t5 W5 ⟨⟨s5,m5_1,m5_2,m5_50⟩,o5⟩
 have hB:=hB.oc o5
 have hd:=hd.oc o5
 have hu:=hu.oc o5
 clear o5
 clear s4 m4_1 m4_2 m4_5 m4_8 m4_6 m4_9 m4_7 m4_10
 refine Gm.cond (b:=false) (zam m5_50) rfl ?_
 refine Gm.skip ?_
 clear m5_50 hvb hvk hbl5 hbf
 obtain⟨g,hg⟩:∃ g,zbL d plan=g:=⟨_,rfl⟩
 rw [hg] at hsl5
 refine Gm.seq ?_
 refine Gm.lone (F:=FW) (fun tt WW=>∃ vl,(tt.size=116∧tt[1]?=some (u)∧tt[2]?=some (ptr p1)∧tt[5]?=some (vl)∧tt[11]?=some (num g.2.1)∧tt[6]?=some (.bool g.2.2.1)∧tt[7]?=some (num g.2.2.2))∧OldC W5 WW∧Sl WW vl 1 (g.1.map one)) rfl rfl trivial zbl (by kernel_rfl) (by kernel_rfl) (fun τ=>?_) ?_
 ·refine wpIn_mono (f4_7 d r p1 u plan g t5 s5 m5_1 m5_2 { W5 with tape:=τ } (hB.oc (OldC.same rfl)) (hd.oc (OldC.same rfl)) (hu.oc (OldC.same rfl)) (by omega) hg) ?_
  rintro e a w' ⟨k1,k2,vl,k3,k4,y0⟩
  exact⟨k1,k2,vl,k3,zbP k4,y0⟩
 rintro t7 W7 ⟨vl,⟨s7,m7_1,m7_2,m7_5,m7_11,m7_6,m7_7⟩,o7,hvl⟩
 have hB:=hB.oc o7
 have hd:=hd.oc o7
 have hu:=hu.oc o7
 clear o7
 clear s5 m5_1 m5_2
 refine Gm.seq ?_
 refine Gm.lone (F:=FW) (fun tt WW=>∃ vk,(tt.size=116∧tt[1]?=some (u)∧tt[2]?=some (ptr p1)∧tt[5]?=some (vl)∧tt[11]?=some (num g.2.1)∧tt[6]?=some (.bool g.2.2.1)∧tt[7]?=some (num g.2.2.2)∧tt[8]?=some (vk)∧tt[12]?=some (num g.2.1)∧tt[9]?=some (.bool g.2.2.1)∧tt[10]?=some (num g.2.2.2))∧OldC W7 WW∧Sl WW vk 1 (g.1.map one)) rfl rfl trivial zbl (by kernel_rfl) (by kernel_rfl) (fun τ=>?_) ?_
 ·refine wpIn_mono (f4_8 d r p1 u vl plan g t7 s7 m7_1 m7_2 m7_5 m7_11 m7_6 m7_7 { W7 with tape:=τ } (hB.oc (OldC.same rfl)) (hd.oc (OldC.same rfl)) (hu.oc (OldC.same rfl)) (by omega) hg) ?_
  rintro e a w' ⟨k1,k2,vk,k3,k4,y0⟩
  exact⟨k1,k2,vk,k3,zbP k4,y0⟩
 rintro t8 W8 ⟨vk,⟨s8,m8_1,m8_2,m8_5,m8_11,m8_6,m8_7,m8_8,m8_12,m8_9,m8_10⟩,o8,hvk⟩
 have hB:=hB.oc o8
 have hd:=hd.oc o8
 have hu:=hu.oc o8
 have hvl:=hvl.oc o8
 clear o8
 clear s7 m7_1 m7_2 m7_5 m7_11 m7_6 m7_7
 refine Gm.seq ?_
 refine Gm.seq ?_
 refine Gm.lone (F:=FW) (fun tt WW=>(tt.size=116∧tt[1]?=some (u)∧tt[2]?=some (ptr p1)∧tt[85]?=some (.bool false))∧OldC W8 WW) rfl rfl trivial zbl (by kernel_rfl) (by kernel_rfl) (fun τ=>?_) ?_
 ·refine wpIn_mono (f4_9 p1 u vl vk g.2.2.1 g.2.2.2 g.2.1 g.1 t8 s8 m8_1 m8_2 m8_5 m8_8 m8_11 m8_12 m8_6 m8_9 m8_7 m8_10 { W8 with tape:=τ } (hvl.oc (OldC.same rfl)) (hvk.oc (OldC.same rfl)) hsl5) ?_
  rintro e a w' ⟨k1,k2,k3,k4⟩
  exact⟨k1,k2,k3,zbP k4⟩
 rintro t9 W9 ⟨⟨s9,m9_1,m9_2,m9_85⟩,o9⟩
 have hB:=hB.oc o9
 have hd:=hd.oc o9
 have hu:=hu.oc o9
 clear o9
 clear s8 m8_1 m8_2 m8_5 m8_8 m8_11 m8_12 m8_6 m8_9 m8_7 m8_10
 refine Gm.cond (b:=false) (zam m9_85) rfl ?_
 refine Gm.skip ?_
 clear m9_85 hvl hvk hsl5 hg
 obtain⟨s,hst⟩:∃ s,zcp d plan=s:=⟨_,rfl⟩
 obtain⟨hx,hy⟩:=zkT d plan
 rw [hst] at hx hy
 refine Gm.seq ?_
 refine Gm.lone (F:=FW) (fun tt WW=>∃ q1 q2,(tt.size=116∧tt[1]?=some (u)∧tt[2]?=some (ptr p1)∧tt[13]?=some (ptr q1)∧tt[14]?=some (ptr q2)∧tt[7]?=some (num s.2.2))∧OldC W9 WW∧Sq WW q1 s.1∧Sq WW q2 s.2.1) rfl rfl trivial zbl (by kernel_rfl) (by kernel_rfl) (fun τ=>?_) ?_
 ·refine wpIn_mono (zrg d r p1 u plan s t9 s9 m9_1 m9_2 { W9 with tape:=τ } (hB.oc (OldC.same rfl)) (hd.oc (OldC.same rfl)) (hu.oc (OldC.same rfl)) (by omega) hst) ?_
  rintro e a w' ⟨k1,k2,q1,q2,k3,k4,y0,y1⟩
  exact⟨k1,k2,q1,q2,k3,zbP k4,y0,y1⟩
 rintro t11 W11 ⟨q1,q2,⟨s11,m11_1,m11_2,m11_13,m11_14,m11_7⟩,o11,hq1,hq2⟩
 have hB:=hB.oc o11
 have hd:=hd.oc o11
 have hu:=hu.oc o11
 clear o11
 clear s9 m9_1 m9_2
 refine Gm.seq ?_
 refine Gm.lone (F:=FW) (fun tt WW=>∃ q3 q4,(tt.size=116∧tt[13]?=some (ptr q1)∧tt[14]?=some (ptr q2)∧tt[7]?=some (num s.2.2)∧tt[15]?=some (ptr q3)∧tt[16]?=some (ptr q4)∧tt[10]?=some (num s.2.2))∧OldC W11 WW∧Sq WW q3 s.1∧Sq WW q4 s.2.1) rfl rfl trivial zbl (by kernel_rfl) (by kernel_rfl) (fun τ=>?_) ?_
 ·refine wpIn_mono (zrh d r p1 u q1 q2 plan s t11 s11 m11_1 m11_2 m11_13 m11_14 m11_7 { W11 with tape:=τ } (hB.oc (OldC.same rfl)) (hd.oc (OldC.same rfl)) (hu.oc (OldC.same rfl)) (by omega) hst) ?_
  rintro e a w' ⟨k1,k2,q3,q4,k3,k4,y0,y1⟩
  exact⟨k1,k2,q3,q4,k3,zbP k4,y0,y1⟩
 rintro t12 W12 ⟨q3,q4,⟨s12,m12_13,m12_14,m12_7,m12_15,m12_16,m12_10⟩,o12,hq3,hq4⟩
 have hq1:=hq1.oc o12
 have hq2:=hq2.oc o12
 clear o12
 clear s11 m11_1 m11_2 m11_13 m11_14 m11_7
 refine Gm.seq ?_
 exact znI E _ Arg W0 Post _ W12 q1 q2 q3 q4 s.1 s.2.1 s.2.2 t12 s12 m12_13 m12_14 m12_15 m12_16 m12_7 m12_10 hq1.1 hq1.2 hq2.1 hq2.2 hq3.1 hq3.2 hq4.1 hq4.2 hx hy hPost
end Go.Proofs.Ytedomogjmhommaa
