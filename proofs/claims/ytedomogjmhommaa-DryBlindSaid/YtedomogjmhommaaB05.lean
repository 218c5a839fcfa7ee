/- For every drying and picks the law DryBlind returns true, does not panic, and leaves what came in as it was. Conditions: none but those of the statement itself. -/
import Derived.Test.YtedomogjmhommaaB04
set_option linter.all false
set_option maxRecDepth 100000
set_option maxHeartbeats 8000000
namespace Go.Proofs.Ytedomogjmhommaa
open Go.RowKit Go.Con Go.Conc Go.ChangeShapes Go.WideShapes Go.ChangeAt
local instance dryI90:Lone:=dryL
theorem own_knob:ownKnob Try.prog.godebug=none:=by kernel_rfl
theorem laid_out:laidOutB Try.prog=true:=by kernel_rfl
abbrev CD (W:World) (b:Nat):Prop:=∃ cs e fz,W.heap[b]?=some (Obj.cells cs e fz)
section
variable {W:World} {c:Nat→Value}
theorem entry_row {b:Nat} {cs:Array Value} {e:TypeId} {fz:Nat×Nat} (h:W.heap[b]?=some (.cells cs e fz)):(entryW Try.prog c (CD W) W).heap[b]?=some (.cells (invA Try.prog (ixOf c) cs) e (0,cs.size)):=by
 rw [entry_get,h]
 simp only [Option.map_some]
 rw [if_pos ⟨_,_,_,h⟩]
theorem entry_cell {p:Addr} {v:Value} (h:W.cell? p=some v) (hv:inv Try.prog (ixOf c) v=v):(entryW Try.prog c (CD W) W).cell? p=some v:=by
 unfold World.cell? at h ⊢
 split at h
 ·rename_i cs e fz hh
  rw [entry_row hh]
  dsimp only
  split at h
  ·cases h
  ·rename_i hsp
   rw [if_neg hsp,invA_eq,Array.getElem?_map,h]
   simp [hv]
 ·cases h
theorem Sl.entry {v:Value} {sz:Nat} {xs:List (List Value)} (h:Sl W v sz xs) (hx:∀ l∈xs,∀ x∈l,inv Try.prog (ixOf c) x=x):Sl (entryW Try.prog c (CD W) W) v sz xs:=by
 obtain⟨cap,h | ⟨b,off,h1,h2,h3⟩⟩:=h
 ·exact⟨cap,.inl h⟩
 ·refine⟨cap,.inr ⟨b,off,h1,by rw [entry_size];exact h2,fun j k l x hj hk=>entry_cell (h3 j k l x hj hk) ?_⟩⟩
  exact hx l (List.mem_of_getElem? hj) x (List.mem_of_getElem? hk)
theorem Kind.entry {v:Value} (h:Kind W v):Kind (entryW Try.prog c (CD W) W) v:=fun a n k e=>by
 obtain⟨cs,t,fz,hh⟩:=h a n k e
 exact⟨_,_,_,entry_row hh⟩
theorem inv_num {ix:Value→Nat} (n:Int):inv Try.prog ix (num n)=num n:=by simp [inv]
theorem inv_bool {ix:Value→Nat} (b:Bool):inv Try.prog ix (.bool b)=.bool b:=by simp [inv]
theorem DryIn.entry {d:Dry} {r:R2} (h:DryIn W d r):DryIn (entryW Try.prog c (CD W) W) d r:=by
 refine⟨h.heats.entry ?_,h.steps.entry ?_,h.kh.entry,h.ks.entry,h.hl,h.sl⟩
 ·intro l hl x hx
  obtain⟨z,_,rfl⟩:=List.mem_map.1 hl
  simp only [List.mem_cons,List.not_mem_nil,or_false] at hx
  rcases hx with rfl | rfl<;>exact inv_num _
 ·intro l hl x hx
  obtain⟨z,_,rfl⟩:=List.mem_map.1 hl
  simp only [List.mem_cons,List.not_mem_nil,or_false] at hx
  rcases hx with rfl | rfl | rfl | rfl | rfl | rfl<;>first | exact inv_num _ | exact inv_bool _
theorem entry_empty:EmptyDef (entryW Try.prog c (CD W) W):=by
 intro b o ho
 rw [entry_get] at ho
 cases hh:W.heap[b]? with
 | none=>rw [hh] at ho;cases ho
 | some o' =>
  rw [hh] at ho
  simp only [Option.map_some,Option.some.injEq] at ho
  split at ho
  ·rename_i hd
   obtain⟨cs,e,fz,h2⟩:=hd
   rw [hh] at h2
   cases h2
   subst ho;rfl
  ·subst ho;rfl
end
def Alk (W:World) (E:Nat→Prop) (v:Value):Prop:=(∀ c,ren (tokRn c) v=v)∧ren (RA (gd Try.prog)) v=ren (RB (gd Try.prog) (CD W) E) v
theorem Alk.num {W:World} {E:Nat→Prop} (n:Int):Alk W E (num n):=⟨fun c=>by simp [ren],by simp [ren]⟩
theorem Alk.bool {W:World} {E:Nat→Prop} (n:Bool):Alk W E (.bool n):=⟨fun c=>by simp [ren],by simp [ren]⟩
theorem Alk.undef {W:World} {E:Nat→Prop}:Alk W E undef:=⟨fun c=>ren_undef,by rw [ren_undef,ren_undef]⟩
theorem Alk.slice {W:World} {E:Nat→Prop} {v:Value} (hs:∃ a n k,v=.slice a n k) (hk:Kind W v):Alk W E v:=by
 obtain⟨a,n,k,rfl⟩:=hs
 refine⟨fun c=>?_,?_⟩
 ·cases a with
  | none=>simp [ren]
  | some a=>simp [ren,renAddr,tokRn]
 ·cases a with
  | none=>simp [ren]
  | some a =>
   obtain⟨cs,e,fz,h⟩:=hk a n k rfl
   have:(RA (gd Try.prog)).p a.block=(RB (gd Try.prog) (CD W) E).p a.block:=by
    show dbl (gd Try.prog).n a.block=dblD (gd Try.prog).n (CD W) a.block
    exact dbl_eq.2 (.inr ⟨cs,e,fz,h⟩)
   simp [ren,renAddr,this]
theorem Alk.agg {W:World} {E:Nat→Prop} {cs:Array Value} (h:∀ v∈cs.toList,Alk W E v):Alk W E (.agg cs):=by
 have key:∀ ρ σ:Rn,(∀ v∈cs.toList,ren ρ v=ren σ v)→cs.map (ren ρ)=cs.map (ren σ):=by
  intro ρ σ hh
  apply Array.map_congr_left
  intro v hv
  exact hh v (by simpa using hv)
 refine⟨fun c=>?_,?_⟩
 ·simp only [ren,renA_eq]
  congr 1
  have:cs.map (ren (tokRn c))=cs.map id:=by
   apply Array.map_congr_left
   intro v hv
   exact (h v (by simpa using hv)).1 c
  rw [this];simp
 ·simp only [ren,renA_eq]
  congr 1
  exact key _ _ fun v hv=>(h v hv).2
theorem Sl.isSlice {W:World} {v:Value} {sz:Nat} {xs:List (List Value)} (h:Sl W v sz xs):∃ a n k,v=.slice a n k:=by
 obtain⟨a,k,e⟩:=h.cases
 exact⟨a,_,k,e⟩
theorem DryIn.same {W:World} {E:Nat→Prop} {d:Dry} {r:R2} (h:DryIn W d r):Alk W E (d.val r):=by
 refine Alk.agg fun v hv=>?_
 simp only [List.mem_cons,List.not_mem_nil,or_false] at hv
 rcases hv with rfl | rfl | rfl | rfl | rfl | rfl | rfl
 ·exact Alk.slice h.heats.isSlice h.kh
 ·exact Alk.num _
 ·exact Alk.num _
 ·exact Alk.num _
 ·exact Alk.num _
 ·exact Alk.num _
 ·exact Alk.slice h.steps.isSlice h.ks
theorem frame_same {W:World} {E:Nat→Prop} {f:FuncId} {args:Array Value} {n:Nat} {body:Code} (h:∀ v∈args.toList,Alk W E v) :
  supF Try.prog (CD W) E (Fr f (args++Array.replicate n undef) [.code body])∧∀ c,renFrame (tokRn c) (Fr f (args++Array.replicate n undef) [.code body])=Fr f (args++Array.replicate n undef) [.code body]:=by
 have hall:∀ v∈(args++Array.replicate n undef),Alk W E v:=by
  intro v hv
  rcases Array.mem_append.1 hv with hv | hv
  ·exact h v (by simpa using hv)
  ·obtain⟨_,rfl⟩:=Array.mem_replicate.1 hv
   exact Alk.undef
 refine⟨?_,fun c=>?_⟩
 ·unfold supF renFrame
  have:(args++Array.replicate n undef).map (ren (RA (gd Try.prog)))=(args++Array.replicate n undef).map (ren (RB (gd Try.prog) (CD W) E)):=Array.map_congr_left fun v hv=>(hall v hv).2
  simp only [this,List.map_cons,List.map_nil,renItem,Option.map_none]
 ·unfold renFrame
  have:(args++Array.replicate n undef).map (ren (tokRn c))=(args++Array.replicate n undef).map id:=Array.map_congr_left fun v hv=>(hall v hv).1 c
  simp only [this,List.map_cons,List.map_nil,renItem,Option.map_none,Array.map_id]
theorem law_fin {W:World} {f:FuncId} {fn:Func} {body:Code} {args:Array Value} (hf:Try.prog.funcs[f]?=some fn) (hb:fn.body=some body) (ha:∀ v∈args.toList,Alk W (fun _=>False) v)
  (hgo:∀ (c:Nat→Value) (Post:Value→World→Prop),(∀ Fz1 ρ D own A fr W1 W',Here Try.prog true (fun _=>False) Fz1 (fun x=>x<W.heap.size) W ρ D own A fr [] W1 W'→Post (ren ρ (.bool true)) W') →
   GoM Try.prog true (fun _=>False) (CD W) (fun x=>x<W.heap.size) W (AtEnd Try.prog Post) ⟨false,0,0,fun _ _ _ _ _=>False⟩ [] (Fr f (args++Array.replicate (fn.ntmps-args.size) undef) [.code body]) [] (entryW Try.prog c (CD W) W)) :
  Con.Fin Try.prog (fun u W'=>u=.bool true∧Con.Left W W') (solo (G (Frame.enter Try.prog f args .normal) []) W) #[]:=by
 obtain⟨c,htok,hc⟩:=tok_table (allLeaves W)
 obtain⟨h1,h2⟩:=frame_same (f:=f) (n:=fn.ntmps-args.size) (body:=body) ha
 rw [Fr_enter hf hb]
 refine GoM.begin (D:=CD W) (c:=c) (E:=fun _=>False) (fun ρ=>by simp [ren]) (fun b hb=>by rw [no_globals] at hb;omega) (fun b h=>h) hc htok h1 (h2 c) entry_empty fun Post hPost=>hgo c Post fun Fz1 ρ D own A fr W1 W' h=>hPost ρ D own A fr W1 W' (.inr ⟨Fz1,h⟩)
section
variable {H:Type} {enc:TypeId×Value→H}
theorem left_trod {t:TypeId} (hr:Try.prog.readableRec t=true) (hrow:t<Try.prog.types.size) {W W' : World} {v:Value} {d:DataW H} {ps:List MemPlace} (h:DataW.Trod enc Try.prog W 0 (fun _=>true) true t v d ps) (hl:Con.Left W W') (hlt:∀ x∈ps,x.block<W.heap.size) :
  DataW.Trod enc Try.prog W' 0 (fun b=>decide (b<W.heap.size)) true t v d ps:=by
 have hb:Below W.heap.size W { W' with tape:=W.tape }:=⟨hl.os,rfl,hl.output,hl.size,hl.heap⟩
 obtain⟨fuel,h2⟩:=Below.trod laid_out hr hrow h hb hlt
 exact⟨fuel,by rw [← h2];exact DataW.trod_heap (w:=W') (w':={ W' with tape:=W.tape }) rfl _ _ _⟩
theorem left_kept {W W' : World} (hl:Con.Left W W') (may:MemPlace→Prop):W.keptBut W' may:=by
 refine⟨hl.os,hl.output,fun i hi=>?_⟩
 rw [hl.heap i hi]
 split<;>simp_all
end
theorem fin_post {W:World} {m:Machine} {Post:Value→World→Prop} (h:Con.Fin Try.prog (fun u W'=>u=.bool true∧Con.Left W W') m #[]) (hp:∀ W',Con.Left W W'→Post (.bool true) W') :
  ∃ M last o w' t',runNT Try.prog (M+1) m #[]=(.ended o w',t')∧runN Try.prog M m=.next last∧step Try.prog last=.ended o w'∧Conc.Good Try.prog Post last o w' t':=by
 obtain⟨M,last,o,w',t',h1,h2,h3,h4⟩:=h
 exact⟨M,last,o,w',t',h1,h2,h3,h4.mono fun v ⟨hv,hl⟩=>by subst hv;exact hp _ hl⟩
end Go.Proofs.Ytedomogjmhommaa
namespace Go.Proofs.Ytedomogjmhommaa
open Go.RowKit Go.Con Go.Conc Go.Shelf
local instance dryI118:Lone:=dryL
noncomputable def ops7_2:Array Oper:=opsOf x7_2
theorem x7_2_eq:x7_2=.region 2 ops7_2 false:=by kernel_rfl
noncomputable def ops7_3:Array Oper:=opsOf x7_3
theorem x7_3_eq:x7_3=.region 3 ops7_3 false:=by kernel_rfl
theorem blinds_go (E Fz Arg:Nat→Prop) (W0:World) (Post:Value→World→Prop) (φ:Ph) (W:World) (d:Dry) (ha sa:Option Addr) (hcap scap:Nat) (u:Value) (picks:List Int)
  (hh:Sl W (.slice ha d.heats.length hcap) 2 (d.heats.map two)) (hss:Sl W (.slice sa d.steps.length scap) 6 (d.steps.map Stp.cells)) (hl:d.heats.length≤140737488355328) (sl:d.steps.length≤140737488355328)
  (hu:Sl W u 1 (picks.map fun x=>[u16 x])) (hpx:∀ x∈picks,0≤x∧x≤65535) (hpl:picks.length≤140737488355328)
  (t:Array Value) (hs:t.size=124) (h0:t[0]?=some (d.val ⟨.slice ha d.heats.length hcap,.slice sa d.steps.length scap⟩)) (h1:t[1]?=some (u))
  (hPost:∀ Fz1 ρ D own A fr W1 W',Here Try.prog true E Fz1 Arg W0 ρ D own A fr [] W1 W'→Post (ren ρ (.bool true)) W') :
  GoM Try.prog true E Fz Arg W0 (AtEnd Try.prog Post) φ [] (Fr 7 t [.code b7]) [] W:=by
 rw [b7_eq]
 refine Gm.seq ?_
 refine Gm.lone (F:=FW) (fun tt WW=>(tt.size=124∧tt[1]?=some (u)∧tt[2]?=some (ptr W.heap.size))∧WW.heap=(W.alloc (.cells (d.cellsA ⟨.slice ha d.heats.length hcap,.slice sa d.steps.length scap⟩) 27)).heap) rfl rfl trivial FW_ok (by kernel_rfl) (by kernel_rfl) (fun τ=>?_) ?_
 ·refine wpIn_mono (f7_0 d ha sa d.heats.length hcap d.steps.length scap u t hs h0 h1 { W with tape:=τ }) ?_
  rintro e a w' ⟨k1,k2,i0,rfl⟩
  exact⟨k1,k2,i0,rfl⟩
 rintro t1 W1 ⟨⟨s1,m1_1,m1_2⟩,hW1⟩
 have nA:=alloc_nx (Nx.refl W) (.cells (d.cellsA ⟨.slice ha d.heats.length hcap,.slice sa d.steps.length scap⟩) 27 (0,0))
 have oA:OldC (W.alloc (.cells (d.cellsA ⟨.slice ha d.heats.length hcap,.slice sa d.steps.length scap⟩) 27)) W1:=OldC.same hW1
 have o1:OldC W W1:=(OldC.nx nA).trans oA
 have hB:DBox W1 W.heap.size d ⟨.slice ha d.heats.length hcap,.slice sa d.steps.length scap⟩:=⟨by rw [hW1];simp,fun i v hv=>oA.at (row_cell (al1 rfl).2.2 hv)⟩
 have hh:=hh.oc o1
 have hss:=hss.oc o1
 have hu:=hu.oc o1
 clear nA oA o1 hW1 hs h0 h1
 generalize W.heap.size=p1 at m1_2 hB
 refine Gm.seq ?_
 refine Gm.seq ?_
 refine Gm.lone (F:=FW) (fun tt WW=>(tt.size=124∧tt[1]?=some (u)∧tt[2]?=some (ptr p1)∧tt[25]?=some (.bool (out11 d)))∧OldC W1 WW) rfl rfl trivial FW_ok (by kernel_rfl) (by kernel_rfl) (fun τ=>?_) ?_
 ·refine wpIn_mono (f7_1 d ⟨.slice ha d.heats.length hcap,.slice sa d.steps.length scap⟩ p1 u t1 s1 m1_1 m1_2 { W1 with tape:=τ } (hB.oc (OldC.same rfl)) (hh.oc (OldC.same rfl)) (hss.oc (OldC.same rfl)) hl sl) ?_
  rintro e a w' ⟨k1,k2,k3,k4⟩
  exact⟨k1,k2,k3,nx_tape k4⟩
 rintro t2 W2 ⟨⟨s2,m2_1,m2_2,m2_25⟩,o2⟩
 have hB:=hB.oc o2
 have hh:=hh.oc o2
 have hss:=hss.oc o2
 have hu:=hu.oc o2
 clear o2
 clear s1 m1_1 m1_2
 by_cases hg:out11 d=true
 ·rw [hg] at m2_25
  refine Gm.cond (b:=true) (eval_tmp m2_25) rfl ?_
  refine Gm.seq ?_
  rw [x7_2_eq]
  refine Gm.region ?_
  rw [show List.range ops7_2.size=[0,1] by kernel_rfl]
  refine Gm.enter (o:=⟨some 26,.call { callee:=.value (.func 17),args:=#[],argTypes:=#[] },_,_,_,none⟩) (c:={ callee:=.value (.func 17),args:=#[],argTypes:=#[] }) (g:=17) (fn:=Try.f17) (body:=b17) rfl rfl rfl rfl (by kernel_rfl) Try.func17 body17_of (by kernel_rfl) ?_
  refine dries_go E Fz Arg W0 _ φ _ [] W2 _ ?_ fun φ1 Wz Fz1 oz=>?_
  ·simp [Try.ntmps17]
  rw [Fr_finish rfl]
  change GoM Try.prog true E Fz1 Arg W0 _ φ1 [] (Fr 7 (putD t2 (some 26) (.bool true)) _) [] Wz
  refine Gm.op (o:=⟨some 4,.assign (.tmp 26),_,_,_,none⟩) (.bool true) Wz rfl rfl (by kernel_rfl) rfl (as_run _ (eval_tmp (by simp [putD,s2]))) id ?_
  refine Gm.regionEnd ?_
  refine Gm.done Try.func7 (by kernel_rfl) (results7 (.bool true) _ (by simp [putD,s2])) ?_
  exact fun ρ D own A fr W' h=>hPost _ ρ D own A fr _ W' h
 have hg' : out11 d=false:=by simpa using hg
 rw [hg'] at m2_25
 have hof:greatD d=false∧dryF d=0:=by
  unfold out11 at hg'
  simp only [Bool.or_eq_false_iff,decide_eq_false_iff_not,Decidable.not_not,ne_eq] at hg'
  exact hg'
 obtain⟨hgr,hF0⟩:=hof
 have hgl:d.heats.length≤40∧d.steps.length≤40:=by
  unfold greatD at hgr
  simp only [Bool.or_eq_false_iff,decide_eq_false_iff_not,Nat.not_lt] at hgr
  exact hgr
 have hO:=dryF_ok hF0
 refine Gm.cond (b:=false) (eval_tmp m2_25) rfl ?_
 refine Gm.skip ?_
 have hd:DrySl W2 d ⟨.slice ha d.heats.length hcap,.slice sa d.steps.length scap⟩:=⟨hh,hss,by omega,by omega⟩
 clear hh hss hg hg' m2_25 hgr
 generalize hr:(⟨.slice ha d.heats.length hcap,.slice sa d.steps.length scap⟩:R2)=r at *
 clear hr
 have hpF:=planP_ok hO hF0 picks
 have hplen:=planP_len d picks
 have ham:=airP_mem hO picks
 have hlaw:=blind_law hO hF0 (planP d picks) hpF
 have hs5:=hO.s5
 refine Gm.seq ?_
 rw [x7_3_eq]
 refine Gm.region ?_
 rw [show List.range ops7_3.size=[0,1,2,3,4,5,6,7,8] by kernel_rfl]
 refine Gm.op (o:=⟨some 28,.load 27 (.tmp 2),_,_,_,none⟩) (d.val r) W2 rfl rfl (by kernel_rfl) rfl (load27_run _ (eval_tmp m2_2) hB) id ?_
 refine Gm.enter (o:=⟨some 29,.call { callee:=.value (.func 23),args:=#[.tmp 28],argTypes:=#[27] },_,_,_,none⟩) (c:={ callee:=.value (.func 23),args:=#[.tmp 28],argTypes:=#[27] }) (g:=23) (fn:=Try.f23) (body:=b23) rfl rfl rfl rfl (by kernel_rfl) Try.func23 body23_of (by kernel_rfl) ?_
 obtain⟨bha,bhcap,q1⟩:=hd.heats.cases
 obtain⟨bsa,bscap,q2⟩:=hd.steps.cases
 rw [List.length_map] at q1 q2
 obtain⟨rh,rs⟩:=r
 dsimp only at q1 q2
 subst q1 q2
 have e35:(Fr 7 (putD t2 (some 28) (d.val ⟨.slice bha d.heats.length bhcap,.slice bsa d.steps.length bscap⟩)) []).eval (.tmp 28)=d.val ⟨.slice bha d.heats.length bhcap,.slice bsa d.steps.length bscap⟩:=eval_tmp (by simp [putD,s2])
 refine blind_go E Fz Arg W0 _ φ _ [] W2 d bha bsa bhcap bscap hd _ ?_ ?_ fun φ1 W3 Fz1 vb o3 hvb=>?_
 ·simp [Try.ntmps23]
 ·simp [e35]
 rw [Fr_finish rfl]
 dsimp only
 clear e35
 generalize (⟨.slice bha d.heats.length bhcap,.slice bsa d.steps.length bscap⟩:R2)=r at *
 obtain⟨bf,hbf⟩:∃ bf,blindF d=bf:=⟨_,rfl⟩
 rw [hbf] at hvb ⊢
 change GoM Try.prog true E Fz1 Arg W0 _ φ1 [] (Fr 7 (putD (putD t2 (some 28) _) (some 29) (.tuple #[vb,.bool bf.2.1,num bf.2.2])) _) [] W3
 refine Gm.op (o:=⟨some 27,.move (.tmp 29),_,_,_,none⟩) (.tuple #[vb,.bool bf.2.1,num bf.2.2]) W3 rfl rfl (by kernel_rfl) rfl (mv_run _ (eval_tmp (by simp [putD,s2]))) id ?_
 refine Gm.op (o:=⟨some 30,.extract (.tmp 27) 0,_,_,_,none⟩) vb W3 rfl rfl (by kernel_rfl) rfl (ext0_run (v:=.bool bf.2.1) (z:=num bf.2.2) _ (eval_tmp (by simp [putD,s2]))) id ?_
 refine Gm.op (o:=⟨some 31,.extract (.tmp 27) 1,_,_,_,none⟩) (.bool bf.2.1) W3 rfl rfl (by kernel_rfl) rfl (ext1_run (u:=vb) (z:=num bf.2.2) _ (eval_tmp (by simp [putD,s2]))) id ?_
 refine Gm.op (o:=⟨some 32,.extract (.tmp 27) 2,_,_,_,none⟩) (num bf.2.2) W3 rfl rfl (by kernel_rfl) rfl (ext2_run (u:=vb) (v:=.bool bf.2.1) _ (eval_tmp (by simp [putD,s2]))) id ?_
 refine Gm.op (o:=⟨some 5,.assign (.tmp 30),_,_,_,none⟩) vb W3 rfl rfl (by kernel_rfl) rfl (as_run _ (eval_tmp (by simp [putD,s2]))) id ?_
 refine Gm.op (o:=⟨some 6,.assign (.tmp 31),_,_,_,none⟩) (.bool bf.2.1) W3 rfl rfl (by kernel_rfl) rfl (as_run _ (eval_tmp (by simp [putD,s2]))) id ?_
 refine Gm.op (o:=⟨some 7,.assign (.tmp 32),_,_,_,none⟩) (num bf.2.2) W3 rfl rfl (by kernel_rfl) rfl (as_run _ (eval_tmp (by simp [putD,s2]))) id ?_
 refine Gm.regionEnd ?_
 generalize ht4:putD _ (some 7) (num bf.2.2)=t3
 have s3:t3.size=124:=by rw [← ht4];simp [putD,s2]
 have m3_1:t3[1]?=some (u):=by rw [← ht4];simp [putD,m2_1]
 have m3_2:t3[2]?=some (ptr p1):=by rw [← ht4];simp [putD,m2_2]
 have m3_5:t3[5]?=some vb:=by rw [← ht4];simp [putD,s2]
 have m3_6:t3[6]?=some (.bool bf.2.1):=by rw [← ht4];simp [putD,s2]
 have m3_7:t3[7]?=some (num bf.2.2):=by rw [← ht4];simp [putD,s2]
 clear ht4
 clear s2 m2_1 m2_2
 have hB:=hB.oc o3
 have hd:=hd.oc o3
 have hu:=hu.oc o3
 clear o3
 rw [hbf] at hlaw
 obtain⟨hb0,hso0,hsf0,hlaw⟩:=hlaw
 rw [hb0] at m3_7
 obtain⟨sf,hsf⟩:∃ sf,safeF d=sf:=⟨_,rfl⟩
 rw [hsf] at hsf0 hlaw
 obtain⟨plan,bb,bz⟩:=bf
 dsimp only at hb0 m3_5 m3_6 hvb hlaw
 refine Gm.seq ?_
 refine Gm.lone (F:=FW) (fun tt WW=>(tt.size=124∧tt[1]?=some (u)∧tt[2]?=some (ptr p1)∧tt[5]?=some (vb)∧tt[6]?=some (.bool bb)∧tt[7]?=some (num 0)∧tt[9]?=some (.bool sf.2.1)∧tt[10]?=some (num sf.2.2))∧OldC W3 WW) rfl rfl trivial FW_ok (by kernel_rfl) (by kernel_rfl) (fun τ=>?_) ?_
 ·refine wpIn_mono (f7_4 d r p1 u vb bb sf t3 s3 m3_1 m3_2 m3_5 m3_6 m3_7 { W3 with tape:=τ } (hB.oc (OldC.same rfl)) (hd.oc (OldC.same rfl)) hsf) ?_
  rintro e a w' ⟨k1,k2,k3,k4⟩
  exact⟨k1,k2,k3,nx_tape k4⟩
 rintro t4 W4 ⟨⟨s4,m4_1,m4_2,m4_5,m4_6,m4_7,m4_9,m4_10⟩,o4⟩
 have hB:=hB.oc o4
 have hd:=hd.oc o4
 have hu:=hu.oc o4
 have hvb:=hvb.oc o4
 clear o4
 clear s3 m3_1 m3_2 m3_5 m3_6 m3_7
 rw [hsf0] at m4_10
 refine Gm.seq ?_
 refine Gm.lone (F:=FW) (fun tt WW=>∃ vo,(tt.size=124∧tt[1]?=some (u)∧tt[2]?=some (ptr p1)∧tt[5]?=some (vb)∧tt[6]?=some (.bool bb)∧tt[7]?=some (num 0)∧tt[9]?=some (.bool sf.2.1)∧tt[10]?=some (num 0)∧tt[11]?=some (vo))∧OldC W4 WW∧Sl WW vo 1 ((planP d picks).map one)) rfl rfl trivial FW_ok (by kernel_rfl) (by kernel_rfl) (fun τ=>?_) ?_
 ·refine wpIn_mono (f7_5 d r p1 u vb bb sf.2.1 t4 s4 m4_1 m4_2 m4_5 m4_6 m4_7 m4_9 m4_10 { W4 with tape:=τ } (hB.oc (OldC.same rfl)) (hd.oc (OldC.same rfl)) hO picks (hu.oc (OldC.same rfl)) hpx hpl) ?_
  rintro e a w' ⟨k1,k2,vo,k3,k4,y0⟩
  exact⟨k1,k2,vo,k3,nx_tape k4,y0⟩
 rintro t5 W5 ⟨vo,⟨s5,m5_1,m5_2,m5_5,m5_6,m5_7,m5_9,m5_10,m5_11⟩,o5,hvo⟩
 have hB:=hB.oc o5
 have hd:=hd.oc o5
 have hu:=hu.oc o5
 have hvb:=hvb.oc o5
 clear o5
 clear s4 m4_1 m4_2 m4_5 m4_6 m4_7 m4_9 m4_10
 generalize planP d picks=other at *
 obtain⟨sp,hsp⟩:∃ sp,spoilF d other=sp:=⟨_,rfl⟩
 rw [hsp] at hso0 hlaw
 refine Gm.seq ?_
 refine Gm.lone (F:=FW) (fun tt WW=>(tt.size=124∧tt[1]?=some (u)∧tt[2]?=some (ptr p1)∧tt[5]?=some (vb)∧tt[6]?=some (.bool bb)∧tt[7]?=some (num 0)∧tt[9]?=some (.bool sf.2.1)∧tt[10]?=some (num 0)∧tt[11]?=some (vo)∧tt[14]?=some (.bool sp.2.2.1)∧tt[15]?=some (num sp.2.2.2))∧OldC W5 WW) rfl rfl trivial FW_ok (by kernel_rfl) (by kernel_rfl) (fun τ=>?_) ?_
 ·refine wpIn_mono (f7_6 d r p1 u vb vo bb sf.2.1 other sp t5 s5 m5_1 m5_2 m5_5 m5_6 m5_7 m5_9 m5_10 m5_11 { W5 with tape:=τ } (hB.oc (OldC.same rfl)) (hd.oc (OldC.same rfl)) (hvo.oc (OldC.same rfl)) (by omega) hsp) ?_
  rintro e a w' ⟨k1,k2,k3,k4⟩
  exact⟨k1,k2,k3,nx_tape k4⟩
 rintro t6 W6 ⟨⟨s6,m6_1,m6_2,m6_5,m6_6,m6_7,m6_9,m6_10,m6_11,m6_14,m6_15⟩,o6⟩
 have hB:=hB.oc o6
 have hd:=hd.oc o6
 have hu:=hu.oc o6
 have hvb:=hvb.oc o6
 have hvo:=hvo.oc o6
 clear o6
 clear s5 m5_1 m5_2 m5_5 m5_6 m5_7 m5_9 m5_10 m5_11
 rw [hso0] at m6_15
 refine Gm.seq ?_
 refine Gm.lone (F:=FW) (fun tt WW=>(tt.size=124∧tt[1]?=some (u)∧tt[2]?=some (ptr p1)∧tt[5]?=some (vb)∧tt[6]?=some (.bool bb)∧tt[11]?=some (vo)∧tt[14]?=some (.bool sp.2.2.1))∧OldC W6 WW) rfl rfl trivial FW_ok (by kernel_rfl) (by kernel_rfl) (fun τ=>?_) ?_
 ·refine wpIn_mono (f7_7 p1 u vb vo bb sf.2.1 sp.2.2.1 t6 s6 m6_1 m6_2 m6_5 m6_6 m6_7 m6_9 m6_10 m6_11 m6_14 m6_15 { W6 with tape:=τ } (fun e=>Or.elim hlaw (fun h=>by rw [h.1] at e;cases e) (fun h=>h.2.1))) ?_
  rintro e a w' ⟨k1,k2,k3,rfl⟩
  exact⟨k1,k2,k3,OldC.same rfl⟩
 rintro t7 W7 ⟨⟨s7,m7_1,m7_2,m7_5,m7_6,m7_11,m7_14⟩,o7⟩
 have hB:=hB.oc o7
 have hd:=hd.oc o7
 have hu:=hu.oc o7
 have hvb:=hvb.oc o7
 have hvo:=hvo.oc o7
 clear o7
 clear s6 m6_1 m6_2 m6_5 m6_6 m6_7 m6_9 m6_10 m6_11 m6_14 m6_15
 refine Gm.seq ?_
 refine Gm.seq ?_
 refine Gm.lone (F:=FW) (fun tt WW=>(tt.size=124∧tt[1]?=some (u)∧tt[2]?=some (ptr p1)∧tt[5]?=some (vb)∧tt[11]?=some (vo)∧tt[14]?=some (.bool sp.2.2.1)∧tt[68]?=some (.bool (!bb)))∧OldC W7 WW) rfl rfl trivial FW_ok (by kernel_rfl) (by kernel_rfl) (fun τ=>?_) ?_
 ·refine wpIn_mono (f7_9 p1 u vb vo bb sp.2.2.1 t7 s7 m7_1 m7_2 m7_5 m7_6 m7_11 m7_14 { W7 with tape:=τ } ) ?_
  rintro e a w' ⟨k1,k2,k3,rfl⟩
  exact⟨k1,k2,k3,OldC.same rfl⟩
 rintro t9 W9 ⟨⟨s9,m9_1,m9_2,m9_5,m9_11,m9_14,m9_68⟩,o9⟩
 have hB:=hB.oc o9
 have hd:=hd.oc o9
 have hu:=hu.oc o9
 have hvb:=hvb.oc o9
 have hvo:=hvo.oc o9
 clear o9
 clear s7 m7_1 m7_2 m7_5 m7_6 m7_11 m7_14
 rcases hlaw with ⟨rfl,rfl,hbad,hne⟩ | ⟨rfl,hsafe,hpF2,hall,hsp2,hor⟩
 ·refine Gm.cond (b:=true) (eval_tmp m9_68) rfl ?_
  refine Gm.seq ?_
  obtain⟨la,lc,e7⟩:=hvb.cases
  subst e7
  rw [hbad] at m9_14
  obtain⟨sa2,sc2,e8⟩:=hd.steps.cases
  have q6:W9.cell? ⟨p1,6,none⟩=some r.s:=hB.at' 6 _ rfl
  rw [e8,List.length_map] at q6
  exact blind_none E _ Arg W0 Post _ W9 la sa2 lc d.steps.length sc2 p1 t9 s9 m9_2 m9_5 m9_14 q6 hne hPost
 refine Gm.cond (b:=false) (eval_tmp m9_68) rfl ?_
 refine Gm.skip ?_
 clear m9_68
 obtain⟨_,hplen2,hpb2⟩:=planF_ok hpF2
 have hPA:=airs_pa hO hplen2 hpb2 ham
 refine Gm.seq ?_
 refine Gm.lone (F:=FW) (fun tt WW=>(tt.size=124∧tt[2]?=some (ptr p1)∧tt[5]?=some (vb)∧tt[11]?=some (vo)∧tt[14]?=some (.bool sp.2.2.1))∧OldC W9 WW) rfl rfl trivial FW_ok (by kernel_rfl) (by kernel_rfl) (fun τ=>?_) ?_
 ·refine wpIn_mono (f7_11 d r p1 u vb vo sp.2.2.1 plan t9 s9 m9_1 m9_2 m9_5 m9_11 m9_14 { W9 with tape:=τ } (hB.oc (OldC.same rfl)) (hd.oc (OldC.same rfl)) hO picks (hu.oc (OldC.same rfl)) hpx hpl (hvb.oc (OldC.same rfl)) (by omega) hpF2 hplen2 hPA (hall _ ham)) ?_
  rintro e a w' ⟨k1,k2,k3,k4⟩
  exact⟨k1,k2,k3,nx_tape k4⟩
 rintro t11 W11 ⟨⟨s11,m11_2,m11_5,m11_11,m11_14⟩,o11⟩
 have hB:=hB.oc o11
 have hd:=hd.oc o11
 have hvb:=hvb.oc o11
 have hvo:=hvo.oc o11
 clear o11
 clear s9 m9_1 m9_2 m9_5 m9_11 m9_14
 refine Gm.seq ?_
 refine Gm.lone (F:=FW) (fun tt WW=>∃ v7,(tt.size=124∧tt[5]?=some (vb)∧tt[11]?=some (vo)∧tt[14]?=some (.bool sp.2.2.1)∧tt[16]?=some (v7)∧tt[18]?=some (.bool false)∧tt[7]?=some (num 0))∧OldC W11 WW∧Sl WW v7 1 (([]:List Int).map one)) rfl rfl trivial FW_ok (by kernel_rfl) (by kernel_rfl) (fun τ=>?_) ?_
 ·refine wpIn_mono (f7_13 d r p1 vb vo sp.2.2.1 plan _ t11 s11 m11_2 m11_5 m11_11 m11_14 { W11 with tape:=τ } (hB.oc (OldC.same rfl)) (hd.oc (OldC.same rfl)) (hvb.oc (OldC.same rfl)) (by omega) hsp2) ?_
  rintro e a w' ⟨k1,k2,v7,k3,k4,y0⟩
  exact⟨k1,k2,v7,k3,nx_tape k4,y0⟩
 rintro t13 W13 ⟨v7,⟨s13,m13_5,m13_11,m13_14,m13_16,m13_18,m13_7⟩,o13,h7⟩
 have hvb:=hvb.oc o13
 have hvo:=hvo.oc o13
 clear o13
 clear s11 m11_2 m11_5 m11_11 m11_14
 obtain⟨la,lc,e7⟩:=h7.cases
 subst e7
 clear h7
 refine Gm.seq ?_
 refine Gm.lone (F:=FW) (fun tt WW=>(tt.size=124∧tt[5]?=some (vb)∧tt[11]?=some (vo)∧tt[14]?=some (.bool sp.2.2.1))∧OldC W13 WW) rfl rfl trivial FW_ok (by kernel_rfl) (by kernel_rfl) (fun τ=>?_) ?_
 ·refine wpIn_mono (f7_14 vb vo sp.2.2.1 la lc t13 s13 m13_5 m13_11 m13_14 m13_16 m13_18 m13_7 { W13 with tape:=τ } ) ?_
  rintro e a w' ⟨k1,k2,k3,rfl⟩
  exact⟨k1,k2,k3,OldC.same rfl⟩
 rintro t14 W14 ⟨⟨s14,m14_5,m14_11,m14_14⟩,o14⟩
 have hvb:=hvb.oc o14
 have hvo:=hvo.oc o14
 clear o14
 clear s13 m13_5 m13_11 m13_14 m13_16 m13_18 m13_7
 refine Gm.seq ?_
 cases hx:sp.2.2.1 with
 | true =>
  rw [hx] at m14_14
  exact blind_end1 E _ Arg W0 Post _ W14 vb vo t14 s14 m14_5 m14_11 m14_14 hPost
 | false =>
  rw [hx] at m14_14
  rcases hor with h | h
  ·rw [hx] at h;cases h
  ·exact blind_end2 E _ Arg W0 Post _ W14 vb vo other plan t14 s14 m14_5 m14_11 m14_14 hvo hvb (by omega) (by omega) h hPost
end Go.Proofs.Ytedomogjmhommaa
namespace Go.Proofs.Ytedomogjmhommaa
open Go.RowKit Go.Con Go.Conc Go.ChangeShapes Go.WideShapes Go.ChangeAt
local instance dryI109:Lone:=dryL
section
variable {H:Type} {enc:TypeId×Value→H} {W:World}
theorem read_u16 {n:Nat} {cs:List Value} {y:DataW H×List MemPlace} (h:trodW enc W n 154 cs=some y):∃ k:Int,cs=[u16 k]∧(0≤k∧k≤65535):=by
 obtain⟨k,h1,_,h3⟩:=DataW.trod_int Try.underlying154 h
 simp only [Lit.wf,Bool.and_eq_true,decide_eq_true_eq] at h3
 exact⟨k,h1,h3⟩
theorem picks_open {v:Value} {dd:DataW H} {p:List MemPlace} {base:Nat} (hv:Value.okWide Try.prog W .any base 62 v) (h:DataW.Trod enc Try.prog W 0 (fun _=>true) true 62 v dd p) (hfit:Fits 62 dd) :
  ∃ l:List Int,Sl W v 1 (l.map fun x=>[u16 x])∧Kind W v∧l.length≤140737488355328∧∀ x∈l,0≤x∧x≤65535:=by
 obtain⟨fuel,hf⟩:=h
 have hv' : Cell.okWide Try.prog W .any 0 62 v:=by
  simp only [Value.okWide,Try.underlying62] at hv
  exact hv
 have hc:v.cells.toList=[v]:=by
  simp only [Cell.okWide,Try.underlying62,Cell.ok] at hv'
  cases v<;>first | rfl | (exact absurd hv' (by simp))
 rw [hc] at hf
 obtain⟨l,a1,a3,a4,a5⟩:=sl_open (en:=fun x=>[u16 x]) (ok:=fun x=>0≤x∧x≤65535) Try.underlying62 (by decide +kernel) (fun n cs' y h hff=>read_u16 h) hf hfit hv'
 rw [show Try.prog.cellsOf 154=1 by kernel_rfl] at a1
 exact⟨l,a1,a3,Nat.le_trans a4 (by decide),a5⟩
end
theorem inv_u16 {ix:Value→Nat} (n:Int):inv Try.prog ix (u16 n)=u16 n:=by simp [inv]
theorem picks_entry {c:Nat→Value} {W:World} {v:Value} {xs:List Int} (h:Sl W v 1 (xs.map fun x=>[u16 x])):Sl (entryW Try.prog c (CD W) W) v 1 (xs.map fun x=>[u16 x]):=by
 refine h.entry ?_
 intro l hl x hx
 obtain⟨z,_,rfl⟩:=List.mem_map.1 hl
 simp only [List.mem_singleton] at hx
 subst hx
 exact inv_u16 _
end Go.Proofs.Ytedomogjmhommaa
namespace Go.Proofs.Ytedomogjmhommaa
open Go.RowKit Go.Con Go.Conc Go.ChangeShapes Go.WideShapes Go.ChangeAt
local instance dryIr7:Lone:=dryL
theorem body7_of:Try.f7.body=some b7:=by kernel_rfl
theorem blinds_fin (d:Dry) (r:R2) (u1:Value) (l1:List Int) (W:World) (hd:DryIn W d r) (a1:Sl W u1 1 (l1.map fun x=>[u16 x])) (b1:Kind W u1) (c1:l1.length≤140737488355328) (e1:∀ x∈l1,0≤x∧x≤65535) :
  Con.Fin Try.prog (fun u W'=>u=.bool true∧Con.Left W W') (solo (G (Frame.enter Try.prog 7 #[d.val r,u1] .normal) []) W) #[]:=by
 refine law_fin Try.func7 body7_of (fun v hv=>?_) fun c Post hPost=>?_
 ·simp only [List.mem_cons,List.not_mem_nil,or_false] at hv
  rcases hv with rfl | rfl
  ·exact hd.same
  ·exact Alk.slice a1.isSlice b1
 ·obtain⟨rh,rs⟩:=r
  obtain⟨ha,hcap,q1⟩:=hd.heats.cases
  obtain⟨sa,scap,q2⟩:=hd.steps.cases
  dsimp only at q1 q2
  rw [List.length_map] at q1 q2
  subst q1 q2
  have he:=hd.entry (c:=c)
  exact blinds_go _ _ _ _ Post _ _ d ha sa hcap scap u1 l1 he.heats he.steps hd.hl hd.sl (picks_entry a1) e1 c1 _ (by simp [Try.ntmps7]) (by simp) (by simp) hPost
theorem blinds_lifted (os:Os) (started:os.Started) (H:Type) (enc:TypeId×Value→H) :
  ReturnsInLeavingWide {} Try.checked os 7 .any (Rows.dryBlindSpec.pre6 enc Try.prog Try.f7 [] false) (Rows.dryBlindSpec.post enc Try.prog Try.f7 false true false false):=by
 refine returnsInLeavingWide_of_change_sized (C:=Try.checked) own_knob started Try.func7
  (ChangeSpec.witness6 (enc:=enc) (C:=Try.checked) false ⟨#[],#[.agg #[.slice none 0 0,.int .i64 0,.int .i64 0,.int .i64 0,.int .i64 0,.int .i64 0,.slice none 0 0],.slice none 0 0],[]⟩ 8 (by kernel_rfl) (by kernel_rfl) (by kernel_rfl) (by kernel_rfl)) ?_
 intro W base args ds gs before hval0 hW _ hsz _
 have hval:∀ (j:Nat) t v,Try.f7.params[j]?=some t→args[j]?=some v→Value.okWide Try.prog W .any base t v:=hval0
 have hW':=hW
 obtain⟨p,q,hA0,hV,rfl,hfz,hnd⟩:=hW
 have hA:DataW.TrodAll enc Try.prog W 0 (fun _=>true) true Try.f7.params.toList args.toList ds p:=hA0
 rw [Try.params7] at hA hval
 obtain⟨v0,v1,d0,d1,p0,p1,rfl,rfl,rfl,h0,h1⟩:=trodAll_two hA
 obtain⟨rfl,rfl⟩:=trodVars_none hV
 have hfit:∀ (j:Nat) (t:TypeId) (dd:DataW H),Try.f7.params.toList[j]?=some t→[d0,d1][j]?=some dd→Fits t dd:=fun j t dd ht hdd n hn=>by
  have:=List.all_eq_true.1 hsz n (DataW.weights_mem_each (P:=Try.prog) (j:=j) (t:=t) (d:=dd) (by
   have:(Try.f7.params.toList++[])[j]?=some t:=by rw [List.append_nil];exact ht
   exact this) (by
   have:([d0,d1]++[])[j]?=some dd:=by rw [List.append_nil];exact hdd
   exact this) n hn)
  simpa using this
 have hpq:Try.f7.params.toList=[27,62]:=by rw [Try.params7]
 rw [hpq] at hfit
 obtain⟨d,r,rfl,hd⟩:=dry_open (hval 0 27 v0 rfl rfl) h0 (hfit 0 27 d0 rfl rfl)
 obtain⟨l1,a1,b1,c1,e1⟩:=picks_open (hval 1 62 v1 rfl rfl) h1 (hfit 1 62 d1 rfl rfl)
 clear hA0 hval0
 simp only [List.append_nil] at hW'
 have hlt:∀ x∈p0++(p1++([])),x.block<W.heap.size:=fun x hx=>by
  have:=hW'.lt x (by simpa using hx)
  simpa using this
 refine fin_post (blinds_fin d r v1 l1 W hd a1 b1 c1 e1) fun W' hl=>?_
 have ha:=trodAll_mk2 (left_trod (by kernel_rfl) (of_decide_eq_true (by kernel_rfl)) h0 hl fun x hx=>hlt x (by simp [hx])) (left_trod (by kernel_rfl) (of_decide_eq_true (by kernel_rfl)) h1 hl fun x hx=>hlt x (by simp [hx]))
 try simp only [List.append_assoc] at hW'
 exact⟨[d0,d1],[],p0++p1,[],_,[],hW',trodAll_mk1 (shut_bool Try.underlying4 _),ha,rfl,left_kept hl _,fun h=>by cases h⟩
theorem blinds_holds:Rows.DryBlindSaid :=
 OpenClaim.holds_of_wide_leaving 7 Try.f7 rfl rfl rfl rfl rfl rfl rfl ⟨rfl,rfl,rfl,rfl,rfl⟩ rfl rfl rfl rfl rfl (by kernel_rfl) Try.func7 (by kernel_rfl)
  (of_decide_eq_true (by kernel_rfl)) (by unfold Func.isWrapper;first | (rw [if_pos (by decide +kernel)];kernel_rfl) | (rw [if_neg (by decide +kernel)];exact⟨rfl,rfl⟩))
  (fun os started H enc _=>blinds_lifted os started H enc)
end Go.Proofs.Ytedomogjmhommaa
