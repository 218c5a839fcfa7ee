/- For every drying, plan and air the law DryFollows returns true, does not panic, and leaves what came in as it was. Conditions: none but those of the statement itself. -/
import Derived.Test.YtedomogjmhommaaC50
set_option linter.all false
set_option maxRecDepth 100000
set_option maxHeartbeats 8000000
namespace Go.Proofs.Ytedomogjmhommaa
open Go.RowKit Go.Con Go.Conc Go.ChangeShapes Go.WideShapes Go.ChangeAt
local instance dryI90:Lone:=dryL
theorem own_knob:ownKnob Try.prog.godebug=none:=by kernel_rfl
theorem laid_out:laidOutB Try.prog=true:=by kernel_rfl
abbrev CD (W:World) (b:Nat):Prop:=∃ cs e fz,W.heap[b]?=some (Obj.cells cs e fz)
section
variable {W:World} {c:Nat→Value}
theorem entry_row {b:Nat} {cs:Array Value} {e:TypeId} {fz:Nat×Nat} (h:W.heap[b]?=some (.cells cs e fz)):(entryW Try.prog c (CD W) W).heap[b]?=some (.cells (invA Try.prog (ixOf c) cs) e (0,cs.size)):=by
 rw [entry_get,h]
 simp only [Option.map_some]
 rw [if_pos ⟨_,_,_,h⟩]
theorem entry_cell {p:Addr} {v:Value} (h:W.cell? p=some v) (hv:inv Try.prog (ixOf c) v=v):(entryW Try.prog c (CD W) W).cell? p=some v:=by
 unfold World.cell? at h ⊢
 split at h
 ·rename_i cs e fz hh
  rw [entry_row hh]
  dsimp only
  split at h
  ·cases h
  ·rename_i hsp
   rw [if_neg hsp,invA_eq,Array.getElem?_map,h]
   simp [hv]
 ·cases h
theorem Sl.entry {v:Value} {sz:Nat} {xs:List (List Value)} (h:Sl W v sz xs) (hx:∀ l∈xs,∀ x∈l,inv Try.prog (ixOf c) x=x):Sl (entryW Try.prog c (CD W) W) v sz xs:=by
 obtain⟨cap,h | ⟨b,off,h1,h2,h3⟩⟩:=h
 ·exact⟨cap,.inl h⟩
 ·refine⟨cap,.inr ⟨b,off,h1,by rw [entry_size];exact h2,fun j k l x hj hk=>entry_cell (h3 j k l x hj hk) ?_⟩⟩
  exact hx l (List.mem_of_getElem? hj) x (List.mem_of_getElem? hk)
theorem Kind.entry {v:Value} (h:Kind W v):Kind (entryW Try.prog c (CD W) W) v:=fun a n k e=>by
 obtain⟨cs,t,fz,hh⟩:=h a n k e
 exact⟨_,_,_,entry_row hh⟩
theorem inv_num {ix:Value→Nat} (n:Int):inv Try.prog ix (num n)=num n:=by simp [inv]
theorem inv_bool {ix:Value→Nat} (b:Bool):inv Try.prog ix (.bool b)=.bool b:=by simp [inv]
theorem DryIn.entry {d:Dry} {r:R2} (h:DryIn W d r):DryIn (entryW Try.prog c (CD W) W) d r:=by
 refine⟨h.heats.entry ?_,h.steps.entry ?_,h.kh.entry,h.ks.entry,h.hl,h.sl⟩
 ·intro l hl x hx
  obtain⟨z,_,rfl⟩:=List.mem_map.1 hl
  simp only [List.mem_cons,List.not_mem_nil,or_false] at hx
  rcases hx with rfl | rfl<;>exact inv_num _
 ·intro l hl x hx
  obtain⟨z,_,rfl⟩:=List.mem_map.1 hl
  simp only [List.mem_cons,List.not_mem_nil,or_false] at hx
  rcases hx with rfl | rfl | rfl | rfl | rfl | rfl<;>first | exact inv_num _ | exact inv_bool _
theorem ints_entry {v:Value} {xs:List Int} (h:Sl W v 1 (xs.map one)):Sl (entryW Try.prog c (CD W) W) v 1 (xs.map one):=by
 refine h.entry ?_
 intro l hl x hx
 obtain⟨z,_,rfl⟩:=List.mem_map.1 hl
 simp only [one,List.mem_singleton] at hx
 subst hx
 exact inv_num _
theorem entry_empty:EmptyDef (entryW Try.prog c (CD W) W):=by
 intro b o ho
 rw [entry_get] at ho
 cases hh:W.heap[b]? with
 | none=>rw [hh] at ho;cases ho
 | some o' =>
  rw [hh] at ho
  simp only [Option.map_some,Option.some.injEq] at ho
  split at ho
  ·rename_i hd
   obtain⟨cs,e,fz,h2⟩:=hd
   rw [hh] at h2
   cases h2
   subst ho;rfl
  ·subst ho;rfl
end
def Alk (W:World) (E:Nat→Prop) (v:Value):Prop:=(∀ c,ren (tokRn c) v=v)∧ren (RA (gd Try.prog)) v=ren (RB (gd Try.prog) (CD W) E) v
theorem Alk.num {W:World} {E:Nat→Prop} (n:Int):Alk W E (num n):=⟨fun c=>by simp [ren],by simp [ren]⟩
theorem Alk.bool {W:World} {E:Nat→Prop} (n:Bool):Alk W E (.bool n):=⟨fun c=>by simp [ren],by simp [ren]⟩
theorem Alk.undef {W:World} {E:Nat→Prop}:Alk W E undef:=⟨fun c=>ren_undef,by rw [ren_undef,ren_undef]⟩
theorem Alk.slice {W:World} {E:Nat→Prop} {v:Value} (hs:∃ a n k,v=.slice a n k) (hk:Kind W v):Alk W E v:=by
 obtain⟨a,n,k,rfl⟩:=hs
 refine⟨fun c=>?_,?_⟩
 ·cases a with
  | none=>simp [ren]
  | some a=>simp [ren,renAddr,tokRn]
 ·cases a with
  | none=>simp [ren]
  | some a =>
   obtain⟨cs,e,fz,h⟩:=hk a n k rfl
   have:(RA (gd Try.prog)).p a.block=(RB (gd Try.prog) (CD W) E).p a.block:=by
    show dbl (gd Try.prog).n a.block=dblD (gd Try.prog).n (CD W) a.block
    exact dbl_eq.2 (.inr ⟨cs,e,fz,h⟩)
   simp [ren,renAddr,this]
theorem Alk.agg {W:World} {E:Nat→Prop} {cs:Array Value} (h:∀ v∈cs.toList,Alk W E v):Alk W E (.agg cs):=by
 have key:∀ ρ σ:Rn,(∀ v∈cs.toList,ren ρ v=ren σ v)→cs.map (ren ρ)=cs.map (ren σ):=by
  intro ρ σ hh
  apply Array.map_congr_left
  intro v hv
  exact hh v (by simpa using hv)
 refine⟨fun c=>?_,?_⟩
 ·simp only [ren,renA_eq]
  congr 1
  have:cs.map (ren (tokRn c))=cs.map id:=by
   apply Array.map_congr_left
   intro v hv
   exact (h v (by simpa using hv)).1 c
  rw [this];simp
 ·simp only [ren,renA_eq]
  congr 1
  exact key _ _ fun v hv=>(h v hv).2
theorem Sl.isSlice {W:World} {v:Value} {sz:Nat} {xs:List (List Value)} (h:Sl W v sz xs):∃ a n k,v=.slice a n k:=by
 obtain⟨a,k,e⟩:=h.cases
 exact⟨a,_,k,e⟩
theorem DryIn.same {W:World} {E:Nat→Prop} {d:Dry} {r:R2} (h:DryIn W d r):Alk W E (d.val r):=by
 refine Alk.agg fun v hv=>?_
 simp only [List.mem_cons,List.not_mem_nil,or_false] at hv
 rcases hv with rfl | rfl | rfl | rfl | rfl | rfl | rfl
 ·exact Alk.slice h.heats.isSlice h.kh
 ·exact Alk.num _
 ·exact Alk.num _
 ·exact Alk.num _
 ·exact Alk.num _
 ·exact Alk.num _
 ·exact Alk.slice h.steps.isSlice h.ks
theorem frame_same {W:World} {E:Nat→Prop} {f:FuncId} {args:Array Value} {n:Nat} {body:Code} (h:∀ v∈args.toList,Alk W E v) :
  supF Try.prog (CD W) E (Fr f (args++Array.replicate n undef) [.code body])∧∀ c,renFrame (tokRn c) (Fr f (args++Array.replicate n undef) [.code body])=Fr f (args++Array.replicate n undef) [.code body]:=by
 have hall:∀ v∈(args++Array.replicate n undef),Alk W E v:=by
  intro v hv
  rcases Array.mem_append.1 hv with hv | hv
  ·exact h v (by simpa using hv)
  ·obtain⟨_,rfl⟩:=Array.mem_replicate.1 hv
   exact Alk.undef
 refine⟨?_,fun c=>?_⟩
 ·unfold supF renFrame
  have:(args++Array.replicate n undef).map (ren (RA (gd Try.prog)))=(args++Array.replicate n undef).map (ren (RB (gd Try.prog) (CD W) E)):=Array.map_congr_left fun v hv=>(hall v hv).2
  simp only [this,List.map_cons,List.map_nil,renItem,Option.map_none]
 ·unfold renFrame
  have:(args++Array.replicate n undef).map (ren (tokRn c))=(args++Array.replicate n undef).map id:=Array.map_congr_left fun v hv=>(hall v hv).1 c
  simp only [this,List.map_cons,List.map_nil,renItem,Option.map_none,Array.map_id]
theorem law_fin {W:World} {f:FuncId} {fn:Func} {body:Code} {args:Array Value} (hf:Try.prog.funcs[f]?=some fn) (hb:fn.body=some body) (ha:∀ v∈args.toList,Alk W (fun _=>False) v)
  (hgo:∀ (c:Nat→Value) (Post:Value→World→Prop),(∀ Fz1 ρ D own A fr W1 W',Here Try.prog true (fun _=>False) Fz1 (fun x=>x<W.heap.size) W ρ D own A fr [] W1 W'→Post (ren ρ (.bool true)) W') →
   GoM Try.prog true (fun _=>False) (CD W) (fun x=>x<W.heap.size) W (AtEnd Try.prog Post) ⟨false,0,0,fun _ _ _ _ _=>False⟩ [] (Fr f (args++Array.replicate (fn.ntmps-args.size) undef) [.code body]) [] (entryW Try.prog c (CD W) W)) :
  Con.Fin Try.prog (fun u W'=>u=.bool true∧Con.Left W W') (solo (G (Frame.enter Try.prog f args .normal) []) W) #[]:=by
 obtain⟨c,htok,hc⟩:=tok_table (allLeaves W)
 obtain⟨h1,h2⟩:=frame_same (f:=f) (n:=fn.ntmps-args.size) (body:=body) ha
 rw [Fr_enter hf hb]
 refine GoM.begin (D:=CD W) (c:=c) (E:=fun _=>False) (fun ρ=>by simp [ren]) (fun b hb=>by rw [no_globals] at hb;omega) (fun b h=>h) hc htok h1 (h2 c) entry_empty fun Post hPost=>hgo c Post fun Fz1 ρ D own A fr W1 W' h=>hPost ρ D own A fr W1 W' (.inr ⟨Fz1,h⟩)
section
variable {H:Type} {enc:TypeId×Value→H}
theorem left_trod {t:TypeId} (hr:Try.prog.readableRec t=true) (hrow:t<Try.prog.types.size) {W W' : World} {v:Value} {d:DataW H} {ps:List MemPlace} (h:DataW.Trod enc Try.prog W 0 (fun _=>true) true t v d ps) (hl:Con.Left W W') (hlt:∀ x∈ps,x.block<W.heap.size) :
  DataW.Trod enc Try.prog W' 0 (fun b=>decide (b<W.heap.size)) true t v d ps:=by
 have hb:Below W.heap.size W { W' with tape:=W.tape }:=⟨hl.os,rfl,hl.output,hl.size,hl.heap⟩
 obtain⟨fuel,h2⟩:=Below.trod laid_out hr hrow h hb hlt
 exact⟨fuel,by rw [← h2];exact DataW.trod_heap (w:=W') (w':={ W' with tape:=W.tape }) rfl _ _ _⟩
theorem left_kept {W W' : World} (hl:Con.Left W W') (may:MemPlace→Prop):W.keptBut W' may:=by
 refine⟨hl.os,hl.output,fun i hi=>?_⟩
 rw [hl.heap i hi]
 split<;>simp_all
end
theorem fin_post {W:World} {m:Machine} {Post:Value→World→Prop} (h:Con.Fin Try.prog (fun u W'=>u=.bool true∧Con.Left W W') m #[]) (hp:∀ W',Con.Left W W'→Post (.bool true) W') :
  ∃ M last o w' t',runNT Try.prog (M+1) m #[]=(.ended o w',t')∧runN Try.prog M m=.next last∧step Try.prog last=.ended o w'∧Conc.Good Try.prog Post last o w' t':=by
 obtain⟨M,last,o,w',t',h1,h2,h3,h4⟩:=h
 exact⟨M,last,o,w',t',h1,h2,h3,h4.mono fun v ⟨hv,hl⟩=>by subst hv;exact hp _ hl⟩
end Go.Proofs.Ytedomogjmhommaa
namespace Go.Proofs.Ytedomogjmhommaa
open Go.RowKit Go.Con Go.Conc Go.ChangeShapes Go.WideShapes Go.ChangeAt
local instance dryI91:Lone:=dryL
theorem body9_of:Try.f9.body=some b9:=by kernel_rfl
theorem follows_fin (d:Dry) (r:R2) (u1 u2:Value) (plan air:List Int) (W:World) (hd:DryIn W d r) (h1:Sl W u1 1 (plan.map one)) (k1:Kind W u1) (l1:plan.length≤140737488355328) (h2:Sl W u2 1 (air.map one)) (k2:Kind W u2) (l2:air.length≤140737488355328) :
  Con.Fin Try.prog (fun u W'=>u=.bool true∧Con.Left W W') (solo (G (Frame.enter Try.prog 9 #[d.val r,u1,u2] .normal) []) W) #[]:=by
 refine law_fin Try.func9 body9_of (fun v hv=>?_) fun c Post hPost=>?_
 ·simp only [List.mem_cons,List.not_mem_nil,or_false] at hv
  rcases hv with rfl | rfl | rfl
  ·exact hd.same
  ·exact Alk.slice h1.isSlice k1
  ·exact Alk.slice h2.isSlice k2
 ·obtain⟨rh,rs⟩:=r
  obtain⟨ha,hcap,q1⟩:=hd.heats.cases
  obtain⟨sa,scap,q2⟩:=hd.steps.cases
  obtain⟨pa,pc,q3⟩:=h1.cases
  obtain⟨aa,ac,q4⟩:=h2.cases
  dsimp only at q1 q2
  rw [List.length_map] at q1 q2 q3 q4
  subst q1 q2 q3 q4
  have he:=hd.entry (c:=c)
  exact follows_go _ _ _ _ Post _ _ d ha sa pa aa hcap scap pc ac plan air he.heats he.steps hd.hl hd.sl (ints_entry h1) (ints_entry h2) l1 l2 _ (by simp [Try.ntmps9]) (by simp) (by simp) (by simp) hPost
theorem follows_lifted (os:Os) (started:os.Started) (H:Type) (enc:TypeId×Value→H) :
  ReturnsInLeavingWide {} Try.checked os 9 .any (Rows.dryFollowsSpec.pre6 enc Try.prog Try.f9 [] false) (Rows.dryFollowsSpec.post enc Try.prog Try.f9 false true false false):=by
 refine returnsInLeavingWide_of_change_sized (C:=Try.checked) own_knob started Try.func9
  (ChangeSpec.witness6 (enc:=enc) (C:=Try.checked) false ⟨#[],#[.agg #[.slice none 0 0,.int .i64 0,.int .i64 0,.int .i64 0,.int .i64 0,.int .i64 0,.slice none 0 0],.slice none 0 0,.slice none 0 0],[]⟩ 8 (by kernel_rfl) (by kernel_rfl) (by kernel_rfl) (by kernel_rfl)) ?_
 intro W base args ds gs before hval0 hW _ hsz _
 have hval:∀ (j:Nat) t v,Try.f9.params[j]?=some t→args[j]?=some v→Value.okWide Try.prog W .any base t v:=hval0
 have hW':=hW
 obtain⟨p,q,hA0,hV,rfl,hfz,hnd⟩:=hW
 have hA:DataW.TrodAll enc Try.prog W 0 (fun _=>true) true Try.f9.params.toList args.toList ds p:=hA0
 rw [Try.params9] at hA hval
 obtain⟨v0,v1,v2,d0,d1,d2,p0,p1,p2,rfl,rfl,rfl,h0,h1,h2⟩:=trodAll_three hA
 obtain⟨rfl,rfl⟩:=trodVars_none hV
 have hfit:∀ (j:Nat) (t:TypeId) (dd:DataW H),Try.f9.params.toList[j]?=some t→[d0,d1,d2][j]?=some dd→Fits t dd:=fun j t dd ht hdd n hn=>by
  have:=List.all_eq_true.1 hsz n (DataW.weights_mem_each (P:=Try.prog) (j:=j) (t:=t) (d:=dd) (by
   have:(Try.f9.params.toList++[])[j]?=some t:=by rw [List.append_nil];exact ht
   exact this) (by
   have:([d0,d1,d2]++[])[j]?=some dd:=by rw [List.append_nil];exact hdd
   exact this) n hn)
  simpa using this
 have hp9:Try.f9.params.toList=[27,38,38]:=by rw [Try.params9]
 rw [hp9] at hfit
 obtain⟨d,r,rfl,hd⟩:=dry_open (hval 0 27 v0 rfl rfl) h0 (hfit 0 27 d0 rfl rfl)
 obtain⟨plan,hp1,hp2,hp3⟩:=ints_open (hval 1 38 v1 rfl rfl) h1 (hfit 1 38 d1 rfl rfl)
 obtain⟨air,ha1,ha2,ha3⟩:=ints_open (hval 2 38 v2 rfl rfl) h2 (hfit 2 38 d2 rfl rfl)
 clear hA0 hval0
 simp only [List.append_nil] at hW'
 have hlt:∀ x∈p0++(p1++(p2++[])),x.block<W.heap.size:=fun x hx=>by
  have:=hW'.lt x (by simpa using hx)
  simpa using this
 refine fin_post (follows_fin d r v1 v2 plan air W hd hp1 hp2 hp3 ha1 ha2 ha3) fun W' hl=>?_
 have ha:=trodAll_mk3 (left_trod (by kernel_rfl) (of_decide_eq_true (by kernel_rfl)) h0 hl fun x hx=>hlt x (by simp [hx])) (left_trod (by kernel_rfl) (of_decide_eq_true (by kernel_rfl)) h1 hl fun x hx=>hlt x (by simp [hx])) (left_trod (by kernel_rfl) (of_decide_eq_true (by kernel_rfl)) h2 hl fun x hx=>hlt x (by simp [hx]))
 rw [List.append_assoc] at hW'
 exact⟨[d0,d1,d2],[],p0++(p1++p2),[],_,[],hW',trodAll_mk1 (shut_bool Try.underlying4 _),ha,rfl,left_kept hl _,fun h=>by cases h⟩
theorem follows_holds:Rows.DryFollowsSaid :=
 OpenClaim.holds_of_wide_leaving 9 Try.f9 rfl rfl rfl rfl rfl rfl rfl ⟨rfl,rfl,rfl,rfl,rfl⟩ rfl rfl rfl rfl rfl (by kernel_rfl) Try.func9 (by kernel_rfl)
  (of_decide_eq_true (by kernel_rfl)) (by unfold Func.isWrapper;first | (rw [if_pos (by decide +kernel)];kernel_rfl) | (rw [if_neg (by decide +kernel)];exact⟨rfl,rfl⟩))
  (fun os started H enc _=>follows_lifted os started H enc)
end Go.Proofs.Ytedomogjmhommaa
