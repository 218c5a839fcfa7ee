/- For every drying, picks and errors the law DrySeen returns true, does not panic, and leaves what came in as it was. Conditions: none but those of the statement itself. -/
import Derived.Test.YtedomogjmhommaaN04
set_option linter.all false
set_option maxRecDepth 100000
set_option maxHeartbeats 8000000
namespace Go.Proofs.Ytedomogjmhommaa
open Go.RowKit Go.Con Go.Conc Go.ChangeShapes Go.WideShapes Go.ChangeAt
local instance dryI90:Lone:=dryL
theorem own_knob:ownKnob Try.prog.godebug=none:=by kernel_rfl
theorem laid_out:laidOutB Try.prog=true:=by kernel_rfl
abbrev CD (W:World) (b:Nat):Prop:=∃ cs e fz,W.heap[b]?=some (Obj.cells cs e fz)
section
variable {W:World} {c:Nat→Value}
theorem entry_row {b:Nat} {cs:Array Value} {e:TypeId} {fz:Nat×Nat} (h:W.heap[b]?=some (.cells cs e fz)):(entryW Try.prog c (CD W) W).heap[b]?=some (.cells (invA Try.prog (ixOf c) cs) e (0,cs.size)):=by
 rw [entry_get,h]
 simp only [Option.map_some]
 rw [if_pos ⟨_,_,_,h⟩]
theorem entry_cell {p:Addr} {v:Value} (h:W.cell? p=some v) (hv:inv Try.prog (ixOf c) v=v):(entryW Try.prog c (CD W) W).cell? p=some v:=by
 unfold World.cell? at h ⊢
 split at h
 ·rename_i cs e fz hh
  rw [entry_row hh]
  dsimp only
  split at h
  ·cases h
  ·rename_i hsp
   rw [if_neg hsp,invA_eq,Array.getElem?_map,h]
   simp [hv]
 ·cases h
theorem Sl.entry {v:Value} {sz:Nat} {xs:List (List Value)} (h:Sl W v sz xs) (hx:∀ l∈xs,∀ x∈l,inv Try.prog (ixOf c) x=x):Sl (entryW Try.prog c (CD W) W) v sz xs:=by
 obtain⟨cap,h | ⟨b,off,h1,h2,h3⟩⟩:=h
 ·exact⟨cap,.inl h⟩
 ·refine⟨cap,.inr ⟨b,off,h1,by rw [entry_size];exact h2,fun j k l x hj hk=>entry_cell (h3 j k l x hj hk) ?_⟩⟩
  exact hx l (List.mem_of_getElem? hj) x (List.mem_of_getElem? hk)
theorem Kind.entry {v:Value} (h:Kind W v):Kind (entryW Try.prog c (CD W) W) v:=fun a n k e=>by
 obtain⟨cs,t,fz,hh⟩:=h a n k e
 exact⟨_,_,_,entry_row hh⟩
theorem inv_num {ix:Value→Nat} (n:Int):inv Try.prog ix (num n)=num n:=by simp [inv]
theorem inv_bool {ix:Value→Nat} (b:Bool):inv Try.prog ix (.bool b)=.bool b:=by simp [inv]
theorem DryIn.entry {d:Dry} {r:R2} (h:DryIn W d r):DryIn (entryW Try.prog c (CD W) W) d r:=by
 refine⟨h.heats.entry ?_,h.steps.entry ?_,h.kh.entry,h.ks.entry,h.hl,h.sl⟩
 ·intro l hl x hx
  obtain⟨z,_,rfl⟩:=List.mem_map.1 hl
  simp only [List.mem_cons,List.not_mem_nil,or_false] at hx
  rcases hx with rfl | rfl<;>exact inv_num _
 ·intro l hl x hx
  obtain⟨z,_,rfl⟩:=List.mem_map.1 hl
  simp only [List.mem_cons,List.not_mem_nil,or_false] at hx
  rcases hx with rfl | rfl | rfl | rfl | rfl | rfl<;>first | exact inv_num _ | exact inv_bool _
theorem entry_empty:EmptyDef (entryW Try.prog c (CD W) W):=by
 intro b o ho
 rw [entry_get] at ho
 cases hh:W.heap[b]? with
 | none=>rw [hh] at ho;cases ho
 | some o' =>
  rw [hh] at ho
  simp only [Option.map_some,Option.some.injEq] at ho
  split at ho
  ·rename_i hd
   obtain⟨cs,e,fz,h2⟩:=hd
   rw [hh] at h2
   cases h2
   subst ho;rfl
  ·subst ho;rfl
end
def Alk (W:World) (E:Nat→Prop) (v:Value):Prop:=(∀ c,ren (tokRn c) v=v)∧ren (RA (gd Try.prog)) v=ren (RB (gd Try.prog) (CD W) E) v
theorem Alk.num {W:World} {E:Nat→Prop} (n:Int):Alk W E (num n):=⟨fun c=>by simp [ren],by simp [ren]⟩
theorem Alk.bool {W:World} {E:Nat→Prop} (n:Bool):Alk W E (.bool n):=⟨fun c=>by simp [ren],by simp [ren]⟩
theorem Alk.undef {W:World} {E:Nat→Prop}:Alk W E undef:=⟨fun c=>ren_undef,by rw [ren_undef,ren_undef]⟩
theorem Alk.slice {W:World} {E:Nat→Prop} {v:Value} (hs:∃ a n k,v=.slice a n k) (hk:Kind W v):Alk W E v:=by
 obtain⟨a,n,k,rfl⟩:=hs
 refine⟨fun c=>?_,?_⟩
 ·cases a with
  | none=>simp [ren]
  | some a=>simp [ren,renAddr,tokRn]
 ·cases a with
  | none=>simp [ren]
  | some a =>
   obtain⟨cs,e,fz,h⟩:=hk a n k rfl
   have:(RA (gd Try.prog)).p a.block=(RB (gd Try.prog) (CD W) E).p a.block:=by
    show dbl (gd Try.prog).n a.block=dblD (gd Try.prog).n (CD W) a.block
    exact dbl_eq.2 (.inr ⟨cs,e,fz,h⟩)
   simp [ren,renAddr,this]
theorem Alk.agg {W:World} {E:Nat→Prop} {cs:Array Value} (h:∀ v∈cs.toList,Alk W E v):Alk W E (.agg cs):=by
 have key:∀ ρ σ:Rn,(∀ v∈cs.toList,ren ρ v=ren σ v)→cs.map (ren ρ)=cs.map (ren σ):=by
  intro ρ σ hh
  apply Array.map_congr_left
  intro v hv
  exact hh v (by simpa using hv)
 refine⟨fun c=>?_,?_⟩
 ·simp only [ren,renA_eq]
  congr 1
  have:cs.map (ren (tokRn c))=cs.map id:=by
   apply Array.map_congr_left
   intro v hv
   exact (h v (by simpa using hv)).1 c
  rw [this];simp
 ·simp only [ren,renA_eq]
  congr 1
  exact key _ _ fun v hv=>(h v hv).2
theorem Sl.isSlice {W:World} {v:Value} {sz:Nat} {xs:List (List Value)} (h:Sl W v sz xs):∃ a n k,v=.slice a n k:=by
 obtain⟨a,k,e⟩:=h.cases
 exact⟨a,_,k,e⟩
theorem DryIn.same {W:World} {E:Nat→Prop} {d:Dry} {r:R2} (h:DryIn W d r):Alk W E (d.val r):=by
 refine Alk.agg fun v hv=>?_
 simp only [List.mem_cons,List.not_mem_nil,or_false] at hv
 rcases hv with rfl | rfl | rfl | rfl | rfl | rfl | rfl
 ·exact Alk.slice h.heats.isSlice h.kh
 ·exact Alk.num _
 ·exact Alk.num _
 ·exact Alk.num _
 ·exact Alk.num _
 ·exact Alk.num _
 ·exact Alk.slice h.steps.isSlice h.ks
theorem frame_same {W:World} {E:Nat→Prop} {f:FuncId} {args:Array Value} {n:Nat} {body:Code} (h:∀ v∈args.toList,Alk W E v) :
  supF Try.prog (CD W) E (Fr f (args++Array.replicate n undef) [.code body])∧∀ c,renFrame (tokRn c) (Fr f (args++Array.replicate n undef) [.code body])=Fr f (args++Array.replicate n undef) [.code body]:=by
 have hall:∀ v∈(args++Array.replicate n undef),Alk W E v:=by
  intro v hv
  rcases Array.mem_append.1 hv with hv | hv
  ·exact h v (by simpa using hv)
  ·obtain⟨_,rfl⟩:=Array.mem_replicate.1 hv
   exact Alk.undef
 refine⟨?_,fun c=>?_⟩
 ·unfold supF renFrame
  have:(args++Array.replicate n undef).map (ren (RA (gd Try.prog)))=(args++Array.replicate n undef).map (ren (RB (gd Try.prog) (CD W) E)):=Array.map_congr_left fun v hv=>(hall v hv).2
  simp only [this,List.map_cons,List.map_nil,renItem,Option.map_none]
 ·unfold renFrame
  have:(args++Array.replicate n undef).map (ren (tokRn c))=(args++Array.replicate n undef).map id:=Array.map_congr_left fun v hv=>(hall v hv).1 c
  simp only [this,List.map_cons,List.map_nil,renItem,Option.map_none,Array.map_id]
theorem law_fin {W:World} {f:FuncId} {fn:Func} {body:Code} {args:Array Value} (hf:Try.prog.funcs[f]?=some fn) (hb:fn.body=some body) (ha:∀ v∈args.toList,Alk W (fun _=>False) v)
  (hgo:∀ (c:Nat→Value) (Post:Value→World→Prop),(∀ Fz1 ρ D own A fr W1 W',Here Try.prog true (fun _=>False) Fz1 (fun x=>x<W.heap.size) W ρ D own A fr [] W1 W'→Post (ren ρ (.bool true)) W') →
   GoM Try.prog true (fun _=>False) (CD W) (fun x=>x<W.heap.size) W (AtEnd Try.prog Post) ⟨false,0,0,fun _ _ _ _ _=>False⟩ [] (Fr f (args++Array.replicate (fn.ntmps-args.size) undef) [.code body]) [] (entryW Try.prog c (CD W) W)) :
  Con.Fin Try.prog (fun u W'=>u=.bool true∧Con.Left W W') (solo (G (Frame.enter Try.prog f args .normal) []) W) #[]:=by
 obtain⟨c,htok,hc⟩:=tok_table (allLeaves W)
 obtain⟨h1,h2⟩:=frame_same (f:=f) (n:=fn.ntmps-args.size) (body:=body) ha
 rw [Fr_enter hf hb]
 refine GoM.begin (D:=CD W) (c:=c) (E:=fun _=>False) (fun ρ=>by simp [ren]) (fun b hb=>by rw [no_globals] at hb;omega) (fun b h=>h) hc htok h1 (h2 c) entry_empty fun Post hPost=>hgo c Post fun Fz1 ρ D own A fr W1 W' h=>hPost ρ D own A fr W1 W' (.inr ⟨Fz1,h⟩)
section
variable {H:Type} {enc:TypeId×Value→H}
theorem left_trod {t:TypeId} (hr:Try.prog.readableRec t=true) (hrow:t<Try.prog.types.size) {W W' : World} {v:Value} {d:DataW H} {ps:List MemPlace} (h:DataW.Trod enc Try.prog W 0 (fun _=>true) true t v d ps) (hl:Con.Left W W') (hlt:∀ x∈ps,x.block<W.heap.size) :
  DataW.Trod enc Try.prog W' 0 (fun b=>decide (b<W.heap.size)) true t v d ps:=by
 have hb:Below W.heap.size W { W' with tape:=W.tape }:=⟨hl.os,rfl,hl.output,hl.size,hl.heap⟩
 obtain⟨fuel,h2⟩:=Below.trod laid_out hr hrow h hb hlt
 exact⟨fuel,by rw [← h2];exact DataW.trod_heap (w:=W') (w':={ W' with tape:=W.tape }) rfl _ _ _⟩
theorem left_kept {W W' : World} (hl:Con.Left W W') (may:MemPlace→Prop):W.keptBut W' may:=by
 refine⟨hl.os,hl.output,fun i hi=>?_⟩
 rw [hl.heap i hi]
 split<;>simp_all
end
theorem fin_post {W:World} {m:Machine} {Post:Value→World→Prop} (h:Con.Fin Try.prog (fun u W'=>u=.bool true∧Con.Left W W') m #[]) (hp:∀ W',Con.Left W W'→Post (.bool true) W') :
  ∃ M last o w' t',runNT Try.prog (M+1) m #[]=(.ended o w',t')∧runN Try.prog M m=.next last∧step Try.prog last=.ended o w'∧Conc.Good Try.prog Post last o w' t':=by
 obtain⟨M,last,o,w',t',h1,h2,h3,h4⟩:=h
 exact⟨M,last,o,w',t',h1,h2,h3,h4.mono fun v ⟨hv,hl⟩=>by subst hv;exact hp _ hl⟩
end Go.Proofs.Ytedomogjmhommaa
namespace Go.Proofs.Ytedomogjmhommaa
open Go.RowKit Go.Con Go.Conc Go.Shelf
local instance dryI124:Lone:=dryL
noncomputable def ops12_2:Array Oper:=opsOf x12_2
theorem x12_2_eq:x12_2=.region 2 ops12_2 false:=by kernel_rfl
noncomputable def ops12_23:Array Oper:=opsOf x12_23
theorem x12_23_eq:x12_23=.region 23 ops12_23 false:=by kernel_rfl
noncomputable def ops12_32:Array Oper:=opsOf x12_32
theorem x12_32_eq:x12_32=.region 32 ops12_32 false:=by kernel_rfl
theorem results12 (v:Value) (t:Array Value) (h:t[6]?=some v) (σ:Rn):ResultsC Try.prog Try.f12 (t.map (ren σ)) (ren σ v):=by
 have:=resultsC_tmp (P:=Try.prog) (fn:=Try.f12) (t:=6) rfl (t.map (ren σ))
 simp only [Array.getD_eq_getD_getElem?,Array.getElem?_map,h,Option.map_some,Option.getD_some] at this
 exact this
theorem seen_go (E Fz Arg:Nat→Prop) (W0:World) (Post:Value→World→Prop) (φ:Ph) (W:World) (d:Dry) (ha sa:Option Addr) (hcap scap:Nat) (u:Value) (picks:List Int) (ue:Value) (errs:List Int)
  (hh:Sl W (.slice ha d.heats.length hcap) 2 (d.heats.map two)) (hss:Sl W (.slice sa d.steps.length scap) 6 (d.steps.map Stp.cells)) (hl:d.heats.length≤140737488355328) (sl:d.steps.length≤140737488355328)
  (hu:Sl W u 1 (picks.map fun x=>[u16 x])) (hpx:∀ x∈picks,0≤x∧x≤65535) (hpl:picks.length≤140737488355328) (hue:Sl W ue 1 (errs.map fun x=>[u8v x])) (hex:∀ x∈errs,0≤x∧x≤255) (hel:errs.length≤140737488355328)
  (t:Array Value) (hs:t.size=209) (h0:t[0]?=some (d.val ⟨.slice ha d.heats.length hcap,.slice sa d.steps.length scap⟩)) (h1:t[1]?=some (u)) (h2:t[2]?=some (ue))
  (hPost:∀ Fz1 ρ D own A fr W1 W',Here Try.prog true E Fz1 Arg W0 ρ D own A fr [] W1 W'→Post (ren ρ (.bool true)) W') :
  GoM Try.prog true E Fz Arg W0 (AtEnd Try.prog Post) φ [] (Fr 12 t [.code b12]) [] W:=by
 obtain⟨ea,ecap,rfl⟩:=hue.cases
 rw [List.length_map] at *
 rw [b12_eq]
 refine Gm.seq ?_
 refine Gm.lone (F:=FW) (fun tt WW=>(tt.size=209∧tt[1]?=some (u)∧tt[2]?=some (.slice ea errs.length ecap)∧tt[3]?=some (ptr W.heap.size))∧WW.heap=(W.alloc (.cells (d.cellsA ⟨.slice ha d.heats.length hcap,.slice sa d.steps.length scap⟩) 27)).heap) rfl rfl trivial FW_ok (by kernel_rfl) (by kernel_rfl) (fun τ=>?_) ?_
 ·refine wpIn_mono (f12_0 d ha sa d.heats.length hcap d.steps.length scap u (.slice ea errs.length ecap) t hs h0 h1 h2 { W with tape:=τ }) ?_
  rintro e a w' ⟨k1,k2,i0,rfl⟩
  exact⟨k1,k2,i0,rfl⟩
 rintro t1 W1 ⟨⟨s1,m1_1,m1_2,m1_3⟩,hW1⟩
 have nA:=alloc_nx (Nx.refl W) (.cells (d.cellsA ⟨.slice ha d.heats.length hcap,.slice sa d.steps.length scap⟩) 27 (0,0))
 have oA:OldC (W.alloc (.cells (d.cellsA ⟨.slice ha d.heats.length hcap,.slice sa d.steps.length scap⟩) 27)) W1:=OldC.same hW1
 have o1:OldC W W1:=(OldC.nx nA).trans oA
 have hB:DBox W1 W.heap.size d ⟨.slice ha d.heats.length hcap,.slice sa d.steps.length scap⟩:=⟨by rw [hW1];simp,fun i v hv=>oA.at (row_cell (al1 rfl).2.2 hv)⟩
 have hh:=hh.oc o1
 have hss:=hss.oc o1
 have hu:=hu.oc o1
 have hue:=hue.oc o1
 clear nA oA o1 hW1 hs h0 h1 h2
 generalize W.heap.size=p1 at m1_3 hB
 refine Gm.seq ?_
 refine Gm.seq ?_
 refine Gm.lone (F:=FW) (fun tt WW=>(tt.size=209∧tt[1]?=some (u)∧tt[2]?=some (.slice ea errs.length ecap)∧tt[3]?=some (ptr p1)∧tt[28]?=some (.bool (out12 d errs.length)))∧OldC W1 WW) rfl rfl trivial FW_ok (by kernel_rfl) (by kernel_rfl) (fun τ=>?_) ?_
 ·refine wpIn_mono (f12_1 d ⟨.slice ha d.heats.length hcap,.slice sa d.steps.length scap⟩ p1 u ea errs.length ecap t1 s1 m1_1 m1_2 m1_3 { W1 with tape:=τ } (hB.oc (OldC.same rfl)) (hh.oc (OldC.same rfl)) (hss.oc (OldC.same rfl)) hl sl hel) ?_
  rintro e a w' ⟨k1,k2,k3,k4⟩
  exact⟨k1,k2,k3,nx_tape k4⟩
 rintro t2 W2 ⟨⟨s2,m2_1,m2_2,m2_3,m2_28⟩,o2⟩
 have hB:=hB.oc o2
 have hh:=hh.oc o2
 have hss:=hss.oc o2
 have hu:=hu.oc o2
 have hue:=hue.oc o2
 clear o2
 clear s1 m1_1 m1_2 m1_3
 by_cases hg:out12 d errs.length=true
 ·rw [hg] at m2_28
  refine Gm.cond (b:=true) (eval_tmp m2_28) rfl ?_
  refine Gm.seq ?_
  rw [x12_2_eq]
  refine Gm.region ?_
  rw [show List.range ops12_2.size=[0,1] by kernel_rfl]
  refine Gm.enter (o:=⟨some 29,.call { callee:=.value (.func 17),args:=#[],argTypes:=#[] },_,_,_,none⟩) (c:={ callee:=.value (.func 17),args:=#[],argTypes:=#[] }) (g:=17) (fn:=Try.f17) (body:=b17) rfl rfl rfl rfl (by kernel_rfl) Try.func17 body17_of (by kernel_rfl) ?_
  refine dries_go E Fz Arg W0 _ φ _ [] W2 _ ?_ fun φ1 Wz Fz1 oz=>?_
  ·simp [Try.ntmps17]
  rw [Fr_finish rfl]
  change GoM Try.prog true E Fz1 Arg W0 _ φ1 [] (Fr 12 (putD t2 (some 29) (.bool true)) _) [] Wz
  refine Gm.op (o:=⟨some 6,.assign (.tmp 29),_,_,_,none⟩) (.bool true) Wz rfl rfl (by kernel_rfl) rfl (as_run _ (eval_tmp (by simp [putD,s2]))) id ?_
  refine Gm.regionEnd ?_
  refine Gm.done Try.func12 (by kernel_rfl) (results12 (.bool true) _ (by simp [putD,s2])) ?_
  exact fun ρ D own A fr W' h=>hPost _ ρ D own A fr _ W' h
 have hg' : out12 d errs.length=false:=by simpa using hg
 rw [hg'] at m2_28
 have hof:(greatD d=false∧dryF d=0)∧¬ 40<errs.length:=by
  unfold out12 out11 at hg'
  simp only [Bool.or_eq_false_iff,decide_eq_false_iff_not,Decidable.not_not,ne_eq] at hg'
  exact hg'
 obtain⟨⟨hgr,hF0⟩,he40⟩:=hof
 have hgl:d.heats.length≤40∧d.steps.length≤40:=by
  unfold greatD at hgr
  simp only [Bool.or_eq_false_iff,decide_eq_false_iff_not,Nat.not_lt] at hgr
  exact hgr
 have hO:=dryF_ok hF0
 refine Gm.cond (b:=false) (eval_tmp m2_28) rfl ?_
 refine Gm.skip ?_
 have hd:DrySl W2 d ⟨.slice ha d.heats.length hcap,.slice sa d.steps.length scap⟩:=⟨hh,hss,by omega,by omega⟩
 clear hh hss hg hg' m2_28 hgr
 generalize hr:(⟨.slice ha d.heats.length hcap,.slice sa d.steps.length scap⟩:R2)=r at *
 clear hr
 have hpF:=planP_ok hO hF0 picks
 have hplen:=planP_len d picks
 have hpb:=planP_bd hO picks
 have ham:=airP_mem hO picks
 have hal:=airP_len d picks
 have hs5:=hO.s5
 refine Gm.seq ?_
 refine Gm.lone (F:=FW) (fun tt WW=>∃ vp va,(tt.size=209∧tt[2]?=some (.slice ea errs.length ecap)∧tt[3]?=some (ptr p1)∧tt[7]?=some (vp)∧tt[8]?=some (va))∧OldC W2 WW∧Sl WW vp 1 ((planP d picks).map one)∧Sl WW va 1 ((airP d picks).map one)) rfl rfl trivial FW_ok (by kernel_rfl) (by kernel_rfl) (fun τ=>?_) ?_
 ·refine wpIn_mono (f12_3 d r p1 u (.slice ea errs.length ecap) t2 s2 m2_1 m2_2 m2_3 { W2 with tape:=τ } (hB.oc (OldC.same rfl)) (hd.oc (OldC.same rfl)) hO picks (hu.oc (OldC.same rfl)) hpx hpl) ?_
  rintro e a w' ⟨k1,k2,vp,va,k3,k4,y0,y1⟩
  exact⟨k1,k2,vp,va,k3,nx_tape k4,y0,y1⟩
 rintro t3 W3 ⟨vp,va,⟨s3,m3_2,m3_3,m3_7,m3_8⟩,o3,hp,hA⟩
 have hB:=hB.oc o3
 have hd:=hd.oc o3
 have hue:=hue.oc o3
 clear o3
 clear s2 m2_1 m2_2 m2_3
 clear hu hpx hpl
 generalize planP d picks=plan at *
 generalize airP d picks=air at *
 have hPA:=airs_pa hO hplen hpb ham
 have hfo:=follow_of hpF ham
 have hLl:=followS_len d d.start plan air hPA.len
 have hLb:∀ s∈followS d d.start plan air,0≤s.w∧s.w≤5000:=by
  intro s hs
  obtain⟨i,hi⟩:=List.mem_iff_getElem?.1 hs
  have hil:=(List.getElem?_eq_some_iff.1 hi).1
  have h1:plan[i]?=some (plan[i]'(by omega)):=List.getElem?_eq_getElem _
  have h2:air[i]?=some (air[i]'(by omega)):=List.getElem?_eq_getElem _
  rw [followS_at d d.start plan air i _ _ h1 h2,Option.some.injEq] at hi
  rw [← hi]
  exact (stAt_ok hO hPA (stF_ok.1 hO.start) (i+1) (by omega)).w
 have hlaw:=fun k=>seen_law hO hpF hPA hplen ham hex k
 have hsl:=seenP_len (followS d d.start plan air) errs
 refine Gm.seq ?_
 refine Gm.lone (F:=FW) (fun tt WW=>∃ vl,(tt.size=209∧tt[2]?=some (.slice ea errs.length ecap)∧tt[3]?=some (ptr p1)∧tt[7]?=some (vp)∧tt[8]?=some (va)∧tt[9]?=some (vl)∧tt[10]?=some (num 0))∧OldC W3 WW∧Sl WW vl 3 ((followS d d.start plan air).map St.cells)) rfl rfl trivial FW_ok (by kernel_rfl) (by kernel_rfl) (fun τ=>?_) ?_
 ·refine wpIn_mono (f12_4 d r p1 (.slice ea errs.length ecap) vp va plan air _ t3 s3 m3_2 m3_3 m3_7 m3_8 { W3 with tape:=τ } (hB.oc (OldC.same rfl)) (hd.oc (OldC.same rfl)) (hp.oc (OldC.same rfl)) (hA.oc (OldC.same rfl)) (by omega) (by omega) hfo) ?_
  rintro e a w' ⟨k1,k2,vl,k3,k4,y0⟩
  exact⟨k1,k2,vl,k3,nx_tape k4,y0⟩
 rintro t4 W4 ⟨vl,⟨s4,m4_2,m4_3,m4_7,m4_8,m4_9,m4_10⟩,o4,hL⟩
 have hB:=hB.oc o4
 have hd:=hd.oc o4
 have hue:=hue.oc o4
 have hp:=hp.oc o4
 have hA:=hA.oc o4
 clear o4
 clear s3 m3_2 m3_3 m3_7 m3_8
 refine Gm.seq ?_
 refine Gm.lone (F:=FW) (fun tt WW=>(tt.size=209∧tt[2]?=some (.slice ea errs.length ecap)∧tt[3]?=some (ptr p1)∧tt[7]?=some (vp)∧tt[8]?=some (va)∧tt[9]?=some (vl))∧OldC W4 WW) rfl rfl trivial FW_ok (by kernel_rfl) (by kernel_rfl) (fun τ=>?_) ?_
 ·refine wpIn_mono (f12_5 d r p1 (.slice ea errs.length ecap) vp va vl _ t4 s4 m4_2 m4_3 m4_7 m4_8 m4_9 m4_10 { W4 with tape:=τ } (hB.oc (OldC.same rfl)) (hd.oc (OldC.same rfl)) (hL.oc (OldC.same rfl)) (by omega)) ?_
  rintro e a w' ⟨k1,k2,k3,k4⟩
  exact⟨k1,k2,k3,nx_tape k4⟩
 rintro t5 W5 ⟨⟨s5,m5_2,m5_3,m5_7,m5_8,m5_9⟩,o5⟩
 have hB:=hB.oc o5
 have hd:=hd.oc o5
 have hue:=hue.oc o5
 have hp:=hp.oc o5
 have hA:=hA.oc o5
 have hL:=hL.oc o5
 clear o5
 clear s4 m4_2 m4_3 m4_7 m4_8 m4_9 m4_10
 refine Gm.seq ?_
 refine Gm.lone (F:=FW) (fun tt WW=>(tt.size=209∧tt[2]?=some (.slice ea errs.length ecap)∧tt[3]?=some (ptr p1)∧tt[7]?=some (vp)∧tt[8]?=some (va)∧tt[9]?=some (vl)∧tt[11]?=some (.slice none 0 0))∧OldC W5 WW) rfl rfl trivial FW_ok (by kernel_rfl) (by kernel_rfl) (fun τ=>?_) ?_
 ·refine wpIn_mono (f12_7 p1 (.slice ea errs.length ecap) vp va vl t5 s5 m5_2 m5_3 m5_7 m5_8 m5_9 { W5 with tape:=τ } ) ?_
  rintro e a w' ⟨k1,k2,k3,rfl⟩
  exact⟨k1,k2,k3,OldC.same rfl⟩
 rintro t7 W7 ⟨⟨s7,m7_2,m7_3,m7_7,m7_8,m7_9,m7_11⟩,o7⟩
 have hB:=hB.oc o7
 have hd:=hd.oc o7
 have hue:=hue.oc o7
 have hp:=hp.oc o7
 have hA:=hA.oc o7
 have hL:=hL.oc o7
 clear o7
 clear s5 m5_2 m5_3 m5_7 m5_8 m5_9
 refine Gm.seq ?_
 refine Gm.lone (F:=FW) (fun tt WW=>∃ sna snc,(tt.size=209∧tt[3]?=some (ptr p1)∧tt[7]?=some (vp)∧tt[8]?=some (va)∧tt[11]?=some (.slice sna (min errs.length (followS d d.start plan air).length) snc))∧OldC W7 WW∧min errs.length (followS d d.start plan air).length≤snc∧Sl WW (.slice sna (min errs.length (followS d d.start plan air).length) snc) 3 ((seenP (followS d d.start plan air) errs).map Sn.cells)) rfl rfl trivial FW_ok (by kernel_rfl) (by kernel_rfl) (fun τ=>?_) ?_
 ·refine wpIn_mono (f12_8 p1 (.slice ea errs.length ecap) vp va vl _ errs t7 s7 m7_2 m7_3 m7_7 m7_8 m7_9 m7_11 { W7 with tape:=τ } (hL.oc (OldC.same rfl)) (hue.oc (OldC.same rfl)) hex hLb (by omega) (by omega)) ?_
  rintro e a w' ⟨k1,k2,sna,snc,k3,k4,y0,y1⟩
  exact⟨k1,k2,sna,snc,k3,nx_tape k4,y0,y1⟩
 rintro t8 W8 ⟨sna,snc,⟨s8,m8_3,m8_7,m8_8,m8_11⟩,o8,hcap,hsn⟩
 have hB:=hB.oc o8
 have hd:=hd.oc o8
 have hp:=hp.oc o8
 have hA:=hA.oc o8
 clear o8
 clear s7 m7_2 m7_3 m7_7 m7_8 m7_9 m7_11
 have hn5:min errs.length (followS d d.start plan air).length≤5:=by omega
 clear hL hue hLb hfo
 generalize seenP (followS d d.start plan air) errs=seen at *
 generalize min errs.length (followS d d.start plan air).length=n at *
 obtain⟨A,B,e1,e2,hAl,hBl,hin,hwi⟩:=hlaw (n-1)
 clear hlaw
 refine Gm.seq ?_
 refine Gm.lone (F:=FW) (fun tt WW=>∃ vd,(tt.size=209∧tt[3]?=some (ptr p1)∧tt[7]?=some (vp)∧tt[8]?=some (va)∧tt[11]?=some (.slice sna n snc)∧tt[13]?=some (vd)∧tt[10]?=some (num 0))∧OldC W8 WW∧Sl WW vd 2 (A.map spc)) rfl rfl trivial FW_ok (by kernel_rfl) (by kernel_rfl) (fun τ=>?_) ?_
 ·refine wpIn_mono (f12_14 d r p1 vp va sna n snc plan seen _ t8 s8 m8_3 m8_7 m8_8 m8_11 { W8 with tape:=τ } (hB.oc (OldC.same rfl)) (hd.oc (OldC.same rfl)) (hp.oc (OldC.same rfl)) (hsn.oc (OldC.same rfl)) (by omega) (by omega) e1) ?_
  rintro e a w' ⟨k1,k2,vd,k3,k4,y0⟩
  exact⟨k1,k2,vd,k3,nx_tape k4,y0⟩
 rintro t14 W14 ⟨vd,⟨s14,m14_3,m14_7,m14_8,m14_11,m14_13,m14_10⟩,o14,hD⟩
 have hB:=hB.oc o14
 have hd:=hd.oc o14
 have hp:=hp.oc o14
 have hA:=hA.oc o14
 have hsn:=hsn.oc o14
 clear o14
 clear s8 m8_3 m8_7 m8_8 m8_11
 refine Gm.seq ?_
 refine Gm.lone (F:=FW) (fun tt WW=>(tt.size=209∧tt[3]?=some (ptr p1)∧tt[7]?=some (vp)∧tt[8]?=some (va)∧tt[11]?=some (.slice sna n snc)∧tt[13]?=some (vd))∧OldC W14 WW) rfl rfl trivial FW_ok (by kernel_rfl) (by kernel_rfl) (fun τ=>?_) ?_
 ·refine wpIn_mono (f12_15 p1 vp va vd sna n snc air A t14 s14 m14_3 m14_7 m14_8 m14_11 m14_13 m14_10 { W14 with tape:=τ } (hA.oc (OldC.same rfl)) (hD.oc (OldC.same rfl)) (by omega) (by omega)) ?_
  rintro e a w' ⟨k1,k2,k3,k4⟩
  exact⟨k1,k2,k3,nx_tape k4⟩
 rintro t15 W15 ⟨⟨s15,m15_3,m15_7,m15_8,m15_11,m15_13⟩,o15⟩
 have hB:=hB.oc o15
 have hd:=hd.oc o15
 have hp:=hp.oc o15
 have hA:=hA.oc o15
 have hsn:=hsn.oc o15
 have hD:=hD.oc o15
 clear o15
 clear s14 m14_3 m14_7 m14_8 m14_11 m14_13 m14_10
 refine Gm.seq ?_
 refine Gm.lone (F:=FW) (fun tt WW=>(tt.size=209∧tt[3]?=some (ptr p1)∧tt[7]?=some (vp)∧tt[11]?=some (.slice sna n snc)∧tt[13]?=some (vd))∧OldC W15 WW) rfl rfl trivial FW_ok (by kernel_rfl) (by kernel_rfl) (fun τ=>?_) ?_
 ·refine wpIn_mono (f12_17 p1 vp va vd sna n snc air A t15 s15 m15_3 m15_7 m15_8 m15_11 m15_13 { W15 with tape:=τ } (hA.oc (OldC.same rfl)) (hD.oc (OldC.same rfl)) (by omega) (by omega) hin) ?_
  rintro e a w' ⟨k1,k2,k3,k4⟩
  exact⟨k1,k2,k3,nx_tape k4⟩
 rintro t17 W17 ⟨⟨s17,m17_3,m17_7,m17_11,m17_13⟩,o17⟩
 have hB:=hB.oc o17
 have hd:=hd.oc o17
 have hp:=hp.oc o17
 have hsn:=hsn.oc o17
 have hD:=hD.oc o17
 clear o17
 clear s15 m15_3 m15_7 m15_8 m15_11 m15_13
 refine Gm.seq ?_
 refine Gm.seq ?_
 refine Gm.lone (F:=FW) (fun tt WW=>(tt.size=209∧tt[3]?=some (ptr p1)∧tt[7]?=some (vp)∧tt[11]?=some (.slice sna n snc)∧tt[13]?=some (vd)∧tt[156]?=some (.bool (decide (n=0))))∧OldC W17 WW) rfl rfl trivial FW_ok (by kernel_rfl) (by kernel_rfl) (fun τ=>?_) ?_
 ·refine wpIn_mono (f12_22 p1 vp vd sna n snc t17 s17 m17_3 m17_7 m17_11 m17_13 { W17 with tape:=τ } hn5) ?_
  rintro e a w' ⟨k1,k2,k3,rfl⟩
  exact⟨k1,k2,k3,OldC.same rfl⟩
 rintro t22 W22 ⟨⟨s22,m22_3,m22_7,m22_11,m22_13,m22_156⟩,o22⟩
 have hB:=hB.oc o22
 have hd:=hd.oc o22
 have hp:=hp.oc o22
 have hsn:=hsn.oc o22
 have hD:=hD.oc o22
 clear o22
 clear s17 m17_3 m17_7 m17_11 m17_13
 by_cases hn0:n=0
 ·rw [decide_eq_true hn0] at m22_156
  refine Gm.cond (b:=true) (eval_tmp m22_156) rfl ?_
  refine Gm.seq ?_
  rw [x12_23_eq]
  refine Gm.region ?_
  rw [show List.range ops12_23.size=[0,1] by kernel_rfl]
  refine Gm.enter (o:=⟨some 157,.call { callee:=.value (.func 17),args:=#[],argTypes:=#[] },_,_,_,none⟩) (c:={ callee:=.value (.func 17),args:=#[],argTypes:=#[] }) (g:=17) (fn:=Try.f17) (body:=b17) rfl rfl rfl rfl (by kernel_rfl) Try.func17 body17_of (by kernel_rfl) ?_
  refine dries_go E Fz Arg W0 _ φ _ [] W22 _ ?_ fun φ1 Wz Fz1 oz=>?_
  ·simp [Try.ntmps17]
  rw [Fr_finish rfl]
  change GoM Try.prog true E Fz1 Arg W0 _ φ1 [] (Fr 12 (putD t22 (some 157) (.bool true)) _) [] Wz
  refine Gm.op (o:=⟨some 6,.assign (.tmp 157),_,_,_,none⟩) (.bool true) Wz rfl rfl (by kernel_rfl) rfl (as_run _ (eval_tmp (by simp [putD,s22]))) id ?_
  refine Gm.regionEnd ?_
  refine Gm.done Try.func12 (by kernel_rfl) (results12 (.bool true) _ (by simp [putD,s22])) ?_
  exact fun ρ D own A fr W' h=>hPost _ ρ D own A fr _ W' h
 rw [decide_eq_false hn0] at m22_156
 refine Gm.cond (b:=false) (eval_tmp m22_156) rfl ?_
 refine Gm.skip ?_
 clear m22_156
 obtain⟨n',rfl⟩:∃ n',n=n' + 1:=⟨n-1,by omega⟩
 rw [Nat.add_sub_cancel] at e2
 obtain⟨b,off,rfl,_,_⟩:=hsn.get (by rw [List.length_map];omega)
 have hsn2:=hsn.takeK (k:=n') (by rw [List.length_map];omega)
 rw [← List.map_take] at hsn2
 have htl:(seen.take n').length≤1000000000:=by rw [List.length_take];omega
 refine Gm.seq ?_
 refine Gm.lone (F:=FW) (fun tt WW=>∃ ve,(tt.size=209∧tt[13]?=some (vd)∧tt[15]?=some (ve)∧tt[10]?=some (num 0))∧OldC W22 WW∧Sl WW ve 2 (B.map spc)) rfl rfl trivial FW_ok (by kernel_rfl) (by kernel_rfl) (fun τ=>?_) ?_
 ·refine wpIn_mono (f12_24 d r p1 vp vd ⟨b,off,none⟩ n' snc plan (seen.take n') _ t22 s22 m22_3 m22_7 m22_11 m22_13 { W22 with tape:=τ } (hB.oc (OldC.same rfl)) (hd.oc (OldC.same rfl)) (hp.oc (OldC.same rfl)) (hsn2.oc (OldC.same rfl)) (by omega) htl (by omega) hcap rfl e2) ?_
  rintro e a w' ⟨k1,k2,ve,k3,k4,y0⟩
  exact⟨k1,k2,ve,k3,nx_tape k4,y0⟩
 rintro t24 W24 ⟨ve,⟨s24,m24_13,m24_15,m24_10⟩,o24,hE⟩
 have hD:=hD.oc o24
 clear o24
 clear s22 m22_3 m22_7 m22_11 m22_13
 refine Gm.seq ?_
 refine Gm.lone (F:=FW) (fun tt WW=>(tt.size=209∧tt[13]?=some (vd)∧tt[15]?=some (ve))∧OldC W24 WW) rfl rfl trivial FW_ok (by kernel_rfl) (by kernel_rfl) (fun τ=>?_) ?_
 ·refine wpIn_mono (f12_25 vd ve A B t24 s24 m24_13 m24_15 m24_10 { W24 with tape:=τ } (hD.oc (OldC.same rfl)) (hE.oc (OldC.same rfl)) (by omega) (by omega)) ?_
  rintro e a w' ⟨k1,k2,k3,rfl⟩
  exact⟨k1,k2,k3,OldC.same rfl⟩
 rintro t25 W25 ⟨⟨s25,m25_13,m25_15⟩,o25⟩
 have hD:=hD.oc o25
 have hE:=hE.oc o25
 clear o25
 clear s24 m24_13 m24_15 m24_10
 refine Gm.seq ?_
 refine Gm.lone (F:=FW) (fun tt WW=>tt.size=209∧OldC W25 WW) rfl rfl trivial FW_ok (by kernel_rfl) (by kernel_rfl) (fun τ=>?_) ?_
 ·refine wpIn_mono (f12_27 vd ve A B t25 s25 m25_13 m25_15 { W25 with tape:=τ } (hD.oc (OldC.same rfl)) (hE.oc (OldC.same rfl)) (by omega) (by omega) hwi) ?_
  rintro e a w' ⟨k1,k2,k3,k4⟩
  exact⟨k1,k2,k3,nx_tape k4⟩
 rintro t27 W27 ⟨s27,o27⟩
 clear o27 hD hE
 clear s25 m25_13 m25_15
 refine Gm.seq ?_
 rw [x12_32_eq]
 refine Gm.region ?_
 rw [show List.range ops12_32.size=[0,1] by kernel_rfl]
 refine Gm.enter (o:=⟨some 208,.call { callee:=.value (.func 17),args:=#[],argTypes:=#[] },_,_,_,none⟩) (c:={ callee:=.value (.func 17),args:=#[],argTypes:=#[] }) (g:=17) (fn:=Try.f17) (body:=b17) rfl rfl rfl rfl (by kernel_rfl) Try.func17 body17_of (by kernel_rfl) ?_
 refine dries_go E Fz Arg W0 _ φ _ [] W27 _ ?_ fun φ1 Wz Fz1 oz=>?_
 ·simp [Try.ntmps17]
 rw [Fr_finish rfl]
 change GoM Try.prog true E Fz1 Arg W0 _ φ1 [] (Fr 12 (putD t27 (some 208) (.bool true)) _) [] Wz
 refine Gm.op (o:=⟨some 6,.assign (.tmp 208),_,_,_,none⟩) (.bool true) Wz rfl rfl (by kernel_rfl) rfl (as_run _ (eval_tmp (by simp [putD,s27]))) id ?_
 refine Gm.regionEnd ?_
 refine Gm.done Try.func12 (by kernel_rfl) (results12 (.bool true) _ (by simp [putD,s27])) ?_
 exact fun ρ D own A fr W' h=>hPost _ ρ D own A fr _ W' h
end Go.Proofs.Ytedomogjmhommaa
namespace Go.Proofs.Ytedomogjmhommaa
open Go.RowKit Go.Con Go.Conc Go.ChangeShapes Go.WideShapes Go.ChangeAt
local instance dryI109:Lone:=dryL
section
variable {H:Type} {enc:TypeId×Value→H} {W:World}
theorem read_u16 {n:Nat} {cs:List Value} {y:DataW H×List MemPlace} (h:trodW enc W n 154 cs=some y):∃ k:Int,cs=[u16 k]∧(0≤k∧k≤65535):=by
 obtain⟨k,h1,_,h3⟩:=DataW.trod_int Try.underlying154 h
 simp only [Lit.wf,Bool.and_eq_true,decide_eq_true_eq] at h3
 exact⟨k,h1,h3⟩
theorem picks_open {v:Value} {dd:DataW H} {p:List MemPlace} {base:Nat} (hv:Value.okWide Try.prog W .any base 62 v) (h:DataW.Trod enc Try.prog W 0 (fun _=>true) true 62 v dd p) (hfit:Fits 62 dd) :
  ∃ l:List Int,Sl W v 1 (l.map fun x=>[u16 x])∧Kind W v∧l.length≤140737488355328∧∀ x∈l,0≤x∧x≤65535:=by
 obtain⟨fuel,hf⟩:=h
 have hv' : Cell.okWide Try.prog W .any 0 62 v:=by
  simp only [Value.okWide,Try.underlying62] at hv
  exact hv
 have hc:v.cells.toList=[v]:=by
  simp only [Cell.okWide,Try.underlying62,Cell.ok] at hv'
  cases v<;>first | rfl | (exact absurd hv' (by simp))
 rw [hc] at hf
 obtain⟨l,a1,a3,a4,a5⟩:=sl_open (en:=fun x=>[u16 x]) (ok:=fun x=>0≤x∧x≤65535) Try.underlying62 (by decide +kernel) (fun n cs' y h hff=>read_u16 h) hf hfit hv'
 rw [show Try.prog.cellsOf 154=1 by kernel_rfl] at a1
 exact⟨l,a1,a3,Nat.le_trans a4 (by decide),a5⟩
end
theorem inv_u16 {ix:Value→Nat} (n:Int):inv Try.prog ix (u16 n)=u16 n:=by simp [inv]
theorem picks_entry {c:Nat→Value} {W:World} {v:Value} {xs:List Int} (h:Sl W v 1 (xs.map fun x=>[u16 x])):Sl (entryW Try.prog c (CD W) W) v 1 (xs.map fun x=>[u16 x]):=by
 refine h.entry ?_
 intro l hl x hx
 obtain⟨z,_,rfl⟩:=List.mem_map.1 hl
 simp only [List.mem_singleton] at hx
 subst hx
 exact inv_u16 _
end Go.Proofs.Ytedomogjmhommaa
namespace Go.Proofs.Ytedomogjmhommaa
open Go.RowKit Go.Con Go.Conc Go.ChangeShapes Go.WideShapes Go.ChangeAt
local instance dryI125:Lone:=dryL
section
variable {H:Type} {enc:TypeId×Value→H} {W:World}
theorem read_u8 {n:Nat} {cs:List Value} {y:DataW H×List MemPlace} (h:trodW enc W n 5 cs=some y):∃ k:Int,cs=[u8v k]∧(0≤k∧k≤255):=by
 obtain⟨k,h1,_,h3⟩:=DataW.trod_int Try.underlying5 h
 simp only [Lit.wf,Bool.and_eq_true,decide_eq_true_eq] at h3
 exact⟨k,h1,h3⟩
theorem u8s_open {v:Value} {dd:DataW H} {p:List MemPlace} {base:Nat} (hv:Value.okWide Try.prog W .any base 75 v) (h:DataW.Trod enc Try.prog W 0 (fun _=>true) true 75 v dd p) (hfit:Fits 75 dd) :
  ∃ l:List Int,Sl W v 1 (l.map fun x=>[u8v x])∧Kind W v∧l.length≤140737488355328∧∀ x∈l,0≤x∧x≤255:=by
 obtain⟨fuel,hf⟩:=h
 have hv' : Cell.okWide Try.prog W .any 0 75 v:=by
  simp only [Value.okWide,Try.underlying75] at hv
  exact hv
 have hc:v.cells.toList=[v]:=by
  simp only [Cell.okWide,Try.underlying75,Cell.ok] at hv'
  cases v<;>first | rfl | (exact absurd hv' (by simp))
 rw [hc] at hf
 obtain⟨l,a1,a3,a4,a5⟩:=sl_open (en:=fun x=>[u8v x]) (ok:=fun x=>0≤x∧x≤255) Try.underlying75 (by decide +kernel) (fun n cs' y h hff=>read_u8 h) hf hfit hv'
 rw [show Try.prog.cellsOf 5=1 by kernel_rfl] at a1
 exact⟨l,a1,a3,Nat.le_trans a4 (by decide),a5⟩
end
theorem inv_u8 {ix:Value→Nat} (n:Int):inv Try.prog ix (u8v n)=u8v n:=by simp [inv]
theorem u8s_entry {c:Nat→Value} {W:World} {v:Value} {xs:List Int} (h:Sl W v 1 (xs.map fun x=>[u8v x])):Sl (entryW Try.prog c (CD W) W) v 1 (xs.map fun x=>[u8v x]):=by
 refine h.entry ?_
 intro l hl x hx
 obtain⟨z,_,rfl⟩:=List.mem_map.1 hl
 simp only [List.mem_singleton] at hx
 subst hx
 exact inv_u8 _
end Go.Proofs.Ytedomogjmhommaa
namespace Go.Proofs.Ytedomogjmhommaa
open Go.RowKit Go.Con Go.Conc Go.ChangeShapes Go.WideShapes Go.ChangeAt
local instance dryIr12:Lone:=dryL
theorem body12_of:Try.f12.body=some b12:=by kernel_rfl
theorem seen_fin (d:Dry) (r:R2) (u1:Value) (l1:List Int) (u2:Value) (l2:List Int) (W:World) (hd:DryIn W d r) (a1:Sl W u1 1 (l1.map fun x=>[u16 x])) (b1:Kind W u1) (c1:l1.length≤140737488355328) (e1:∀ x∈l1,0≤x∧x≤65535) (a2:Sl W u2 1 (l2.map fun x=>[u8v x])) (b2:Kind W u2) (c2:l2.length≤140737488355328) (e2:∀ x∈l2,0≤x∧x≤255) :
  Con.Fin Try.prog (fun u W'=>u=.bool true∧Con.Left W W') (solo (G (Frame.enter Try.prog 12 #[d.val r,u1,u2] .normal) []) W) #[]:=by
 refine law_fin Try.func12 body12_of (fun v hv=>?_) fun c Post hPost=>?_
 ·simp only [List.mem_cons,List.not_mem_nil,or_false] at hv
  rcases hv with rfl | rfl | rfl
  ·exact hd.same
  ·exact Alk.slice a1.isSlice b1
  ·exact Alk.slice a2.isSlice b2
 ·obtain⟨rh,rs⟩:=r
  obtain⟨ha,hcap,q1⟩:=hd.heats.cases
  obtain⟨sa,scap,q2⟩:=hd.steps.cases
  dsimp only at q1 q2
  rw [List.length_map] at q1 q2
  subst q1 q2
  have he:=hd.entry (c:=c)
  exact seen_go _ _ _ _ Post _ _ d ha sa hcap scap u1 l1 u2 l2 he.heats he.steps hd.hl hd.sl (picks_entry a1) e1 c1 (u8s_entry a2) e2 c2 _ (by simp [Try.ntmps12]) (by simp) (by simp) (by simp) hPost
theorem seen_lifted (os:Os) (started:os.Started) (H:Type) (enc:TypeId×Value→H) :
  ReturnsInLeavingWide {} Try.checked os 12 .any (Rows.drySeenSpec.pre6 enc Try.prog Try.f12 [] false) (Rows.drySeenSpec.post enc Try.prog Try.f12 false true false false):=by
 refine returnsInLeavingWide_of_change_sized (C:=Try.checked) own_knob started Try.func12
  (ChangeSpec.witness6 (enc:=enc) (C:=Try.checked) false ⟨#[],#[.agg #[.slice none 0 0,.int .i64 0,.int .i64 0,.int .i64 0,.int .i64 0,.int .i64 0,.slice none 0 0],.slice none 0 0,.slice none 0 0],[]⟩ 8 (by kernel_rfl) (by kernel_rfl) (by kernel_rfl) (by kernel_rfl)) ?_
 intro W base args ds gs before hval0 hW _ hsz _
 have hval:∀ (j:Nat) t v,Try.f12.params[j]?=some t→args[j]?=some v→Value.okWide Try.prog W .any base t v:=hval0
 have hW':=hW
 obtain⟨p,q,hA0,hV,rfl,hfz,hnd⟩:=hW
 have hA:DataW.TrodAll enc Try.prog W 0 (fun _=>true) true Try.f12.params.toList args.toList ds p:=hA0
 rw [Try.params12] at hA hval
 obtain⟨v0,v1,v2,d0,d1,d2,p0,p1,p2,rfl,rfl,rfl,h0,h1,h2⟩:=trodAll_three hA
 obtain⟨rfl,rfl⟩:=trodVars_none hV
 have hfit:∀ (j:Nat) (t:TypeId) (dd:DataW H),Try.f12.params.toList[j]?=some t→[d0,d1,d2][j]?=some dd→Fits t dd:=fun j t dd ht hdd n hn=>by
  have:=List.all_eq_true.1 hsz n (DataW.weights_mem_each (P:=Try.prog) (j:=j) (t:=t) (d:=dd) (by
   have:(Try.f12.params.toList++[])[j]?=some t:=by rw [List.append_nil];exact ht
   exact this) (by
   have:([d0,d1,d2]++[])[j]?=some dd:=by rw [List.append_nil];exact hdd
   exact this) n hn)
  simpa using this
 have hpq:Try.f12.params.toList=[27,62,75]:=by rw [Try.params12]
 rw [hpq] at hfit
 obtain⟨d,r,rfl,hd⟩:=dry_open (hval 0 27 v0 rfl rfl) h0 (hfit 0 27 d0 rfl rfl)
 obtain⟨l1,a1,b1,c1,e1⟩:=picks_open (hval 1 62 v1 rfl rfl) h1 (hfit 1 62 d1 rfl rfl)
 obtain⟨l2,a2,b2,c2,e2⟩:=u8s_open (hval 2 75 v2 rfl rfl) h2 (hfit 2 75 d2 rfl rfl)
 clear hA0 hval0
 simp only [List.append_nil] at hW'
 have hlt:∀ x∈p0++(p1++(p2++([]))),x.block<W.heap.size:=fun x hx=>by
  have:=hW'.lt x (by simpa using hx)
  simpa using this
 refine fin_post (seen_fin d r v1 l1 v2 l2 W hd a1 b1 c1 e1 a2 b2 c2 e2) fun W' hl=>?_
 have ha:=trodAll_mk3 (left_trod (by kernel_rfl) (of_decide_eq_true (by kernel_rfl)) h0 hl fun x hx=>hlt x (by simp [hx])) (left_trod (by kernel_rfl) (of_decide_eq_true (by kernel_rfl)) h1 hl fun x hx=>hlt x (by simp [hx])) (left_trod (by kernel_rfl) (of_decide_eq_true (by kernel_rfl)) h2 hl fun x hx=>hlt x (by simp [hx]))
 try simp only [List.append_assoc] at hW'
 exact⟨[d0,d1,d2],[],p0++(p1++p2),[],_,[],hW',trodAll_mk1 (shut_bool Try.underlying4 _),ha,rfl,left_kept hl _,fun h=>by cases h⟩
theorem seen_holds:Rows.DrySeenSaid :=
 OpenClaim.holds_of_wide_leaving 12 Try.f12 rfl rfl rfl rfl rfl rfl rfl ⟨rfl,rfl,rfl,rfl,rfl⟩ rfl rfl rfl rfl rfl (by kernel_rfl) Try.func12 (by kernel_rfl)
  (of_decide_eq_true (by kernel_rfl)) (by unfold Func.isWrapper;first | (rw [if_pos (by decide +kernel)];kernel_rfl) | (rw [if_neg (by decide +kernel)];exact⟨rfl,rfl⟩))
  (fun os started H enc _=>seen_lifted os started H enc)
end Go.Proofs.Ytedomogjmhommaa
