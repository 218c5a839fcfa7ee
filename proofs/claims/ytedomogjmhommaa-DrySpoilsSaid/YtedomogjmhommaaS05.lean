/- For every drying and picks the law DrySpoils returns true, does not panic, and leaves what came in as it was. Conditions: none but those of the statement itself. -/
import Derived.Test.YtedomogjmhommaaS04
set_option linter.all false
set_option maxRecDepth 100000
set_option maxHeartbeats 8000000
namespace Go.Proofs.Ytedomogjmhommaa
open Go.RowKit Go.Con Go.Conc Go.ChangeShapes Go.WideShapes Go.ChangeAt
local instance dryI90:Lone:=dryL
theorem own_knob:ownKnob Try.prog.godebug=none:=by kernel_rfl
theorem laid_out:laidOutB Try.prog=true:=by kernel_rfl
abbrev CD (W:World) (b:Nat):Prop:=∃ cs e fz,W.heap[b]?=some (Obj.cells cs e fz)
section
variable {W:World} {c:Nat→Value}
theorem entry_row {b:Nat} {cs:Array Value} {e:TypeId} {fz:Nat×Nat} (h:W.heap[b]?=some (.cells cs e fz)):(entryW Try.prog c (CD W) W).heap[b]?=some (.cells (invA Try.prog (ixOf c) cs) e (0,cs.size)):=by
 rw [entry_get,h]
 simp only [Option.map_some]
 rw [if_pos ⟨_,_,_,h⟩]
theorem entry_cell {p:Addr} {v:Value} (h:W.cell? p=some v) (hv:inv Try.prog (ixOf c) v=v):(entryW Try.prog c (CD W) W).cell? p=some v:=by
 unfold World.cell? at h ⊢
 split at h
 ·rename_i cs e fz hh
  rw [entry_row hh]
  dsimp only
  split at h
  ·cases h
  ·rename_i hsp
   rw [if_neg hsp,invA_eq,Array.getElem?_map,h]
   simp [hv]
 ·cases h
theorem Sl.entry {v:Value} {sz:Nat} {xs:List (List Value)} (h:Sl W v sz xs) (hx:∀ l∈xs,∀ x∈l,inv Try.prog (ixOf c) x=x):Sl (entryW Try.prog c (CD W) W) v sz xs:=by
 obtain⟨cap,h | ⟨b,off,h1,h2,h3⟩⟩:=h
 ·exact⟨cap,.inl h⟩
 ·refine⟨cap,.inr ⟨b,off,h1,by rw [entry_size];exact h2,fun j k l x hj hk=>entry_cell (h3 j k l x hj hk) ?_⟩⟩
  exact hx l (List.mem_of_getElem? hj) x (List.mem_of_getElem? hk)
theorem Kind.entry {v:Value} (h:Kind W v):Kind (entryW Try.prog c (CD W) W) v:=fun a n k e=>by
 obtain⟨cs,t,fz,hh⟩:=h a n k e
 exact⟨_,_,_,entry_row hh⟩
theorem inv_num {ix:Value→Nat} (n:Int):inv Try.prog ix (num n)=num n:=by simp [inv]
theorem inv_bool {ix:Value→Nat} (b:Bool):inv Try.prog ix (.bool b)=.bool b:=by simp [inv]
theorem DryIn.entry {d:Dry} {r:R2} (h:DryIn W d r):DryIn (entryW Try.prog c (CD W) W) d r:=by
 refine⟨h.heats.entry ?_,h.steps.entry ?_,h.kh.entry,h.ks.entry,h.hl,h.sl⟩
 ·intro l hl x hx
  obtain⟨z,_,rfl⟩:=List.mem_map.1 hl
  simp only [List.mem_cons,List.not_mem_nil,or_false] at hx
  rcases hx with rfl | rfl<;>exact inv_num _
 ·intro l hl x hx
  obtain⟨z,_,rfl⟩:=List.mem_map.1 hl
  simp only [List.mem_cons,List.not_mem_nil,or_false] at hx
  rcases hx with rfl | rfl | rfl | rfl | rfl | rfl<;>first | exact inv_num _ | exact inv_bool _
theorem entry_empty:EmptyDef (entryW Try.prog c (CD W) W):=by
 intro b o ho
 rw [entry_get] at ho
 cases hh:W.heap[b]? with
 | none=>rw [hh] at ho;cases ho
 | some o' =>
  rw [hh] at ho
  simp only [Option.map_some,Option.some.injEq] at ho
  split at ho
  ·rename_i hd
   obtain⟨cs,e,fz,h2⟩:=hd
   rw [hh] at h2
   cases h2
   subst ho;rfl
  ·subst ho;rfl
end
def Alk (W:World) (E:Nat→Prop) (v:Value):Prop:=(∀ c,ren (tokRn c) v=v)∧ren (RA (gd Try.prog)) v=ren (RB (gd Try.prog) (CD W) E) v
theorem Alk.num {W:World} {E:Nat→Prop} (n:Int):Alk W E (num n):=⟨fun c=>by simp [ren],by simp [ren]⟩
theorem Alk.bool {W:World} {E:Nat→Prop} (n:Bool):Alk W E (.bool n):=⟨fun c=>by simp [ren],by simp [ren]⟩
theorem Alk.undef {W:World} {E:Nat→Prop}:Alk W E undef:=⟨fun c=>ren_undef,by rw [ren_undef,ren_undef]⟩
theorem Alk.slice {W:World} {E:Nat→Prop} {v:Value} (hs:∃ a n k,v=.slice a n k) (hk:Kind W v):Alk W E v:=by
 obtain⟨a,n,k,rfl⟩:=hs
 refine⟨fun c=>?_,?_⟩
 ·cases a with
  | none=>simp [ren]
  | some a=>simp [ren,renAddr,tokRn]
 ·cases a with
  | none=>simp [ren]
  | some a =>
   obtain⟨cs,e,fz,h⟩:=hk a n k rfl
   have:(RA (gd Try.prog)).p a.block=(RB (gd Try.prog) (CD W) E).p a.block:=by
    show dbl (gd Try.prog).n a.block=dblD (gd Try.prog).n (CD W) a.block
    exact dbl_eq.2 (.inr ⟨cs,e,fz,h⟩)
   simp [ren,renAddr,this]
theorem Alk.agg {W:World} {E:Nat→Prop} {cs:Array Value} (h:∀ v∈cs.toList,Alk W E v):Alk W E (.agg cs):=by
 have key:∀ ρ σ:Rn,(∀ v∈cs.toList,ren ρ v=ren σ v)→cs.map (ren ρ)=cs.map (ren σ):=by
  intro ρ σ hh
  apply Array.map_congr_left
  intro v hv
  exact hh v (by simpa using hv)
 refine⟨fun c=>?_,?_⟩
 ·simp only [ren,renA_eq]
  congr 1
  have:cs.map (ren (tokRn c))=cs.map id:=by
   apply Array.map_congr_left
   intro v hv
   exact (h v (by simpa using hv)).1 c
  rw [this];simp
 ·simp only [ren,renA_eq]
  congr 1
  exact key _ _ fun v hv=>(h v hv).2
theorem Sl.isSlice {W:World} {v:Value} {sz:Nat} {xs:List (List Value)} (h:Sl W v sz xs):∃ a n k,v=.slice a n k:=by
 obtain⟨a,k,e⟩:=h.cases
 exact⟨a,_,k,e⟩
theorem DryIn.same {W:World} {E:Nat→Prop} {d:Dry} {r:R2} (h:DryIn W d r):Alk W E (d.val r):=by
 refine Alk.agg fun v hv=>?_
 simp only [List.mem_cons,List.not_mem_nil,or_false] at hv
 rcases hv with rfl | rfl | rfl | rfl | rfl | rfl | rfl
 ·exact Alk.slice h.heats.isSlice h.kh
 ·exact Alk.num _
 ·exact Alk.num _
 ·exact Alk.num _
 ·exact Alk.num _
 ·exact Alk.num _
 ·exact Alk.slice h.steps.isSlice h.ks
theorem frame_same {W:World} {E:Nat→Prop} {f:FuncId} {args:Array Value} {n:Nat} {body:Code} (h:∀ v∈args.toList,Alk W E v) :
  supF Try.prog (CD W) E (Fr f (args++Array.replicate n undef) [.code body])∧∀ c,renFrame (tokRn c) (Fr f (args++Array.replicate n undef) [.code body])=Fr f (args++Array.replicate n undef) [.code body]:=by
 have hall:∀ v∈(args++Array.replicate n undef),Alk W E v:=by
  intro v hv
  rcases Array.mem_append.1 hv with hv | hv
  ·exact h v (by simpa using hv)
  ·obtain⟨_,rfl⟩:=Array.mem_replicate.1 hv
   exact Alk.undef
 refine⟨?_,fun c=>?_⟩
 ·unfold supF renFrame
  have:(args++Array.replicate n undef).map (ren (RA (gd Try.prog)))=(args++Array.replicate n undef).map (ren (RB (gd Try.prog) (CD W) E)):=Array.map_congr_left fun v hv=>(hall v hv).2
  simp only [this,List.map_cons,List.map_nil,renItem,Option.map_none]
 ·unfold renFrame
  have:(args++Array.replicate n undef).map (ren (tokRn c))=(args++Array.replicate n undef).map id:=Array.map_congr_left fun v hv=>(hall v hv).1 c
  simp only [this,List.map_cons,List.map_nil,renItem,Option.map_none,Array.map_id]
theorem law_fin {W:World} {f:FuncId} {fn:Func} {body:Code} {args:Array Value} (hf:Try.prog.funcs[f]?=some fn) (hb:fn.body=some body) (ha:∀ v∈args.toList,Alk W (fun _=>False) v)
  (hgo:∀ (c:Nat→Value) (Post:Value→World→Prop),(∀ Fz1 ρ D own A fr W1 W',Here Try.prog true (fun _=>False) Fz1 (fun x=>x<W.heap.size) W ρ D own A fr [] W1 W'→Post (ren ρ (.bool true)) W') →
   GoM Try.prog true (fun _=>False) (CD W) (fun x=>x<W.heap.size) W (AtEnd Try.prog Post) ⟨false,0,0,fun _ _ _ _ _=>False⟩ [] (Fr f (args++Array.replicate (fn.ntmps-args.size) undef) [.code body]) [] (entryW Try.prog c (CD W) W)) :
  Con.Fin Try.prog (fun u W'=>u=.bool true∧Con.Left W W') (solo (G (Frame.enter Try.prog f args .normal) []) W) #[]:=by
 obtain⟨c,htok,hc⟩:=tok_table (allLeaves W)
 obtain⟨h1,h2⟩:=frame_same (f:=f) (n:=fn.ntmps-args.size) (body:=body) ha
 rw [Fr_enter hf hb]
 refine GoM.begin (D:=CD W) (c:=c) (E:=fun _=>False) (fun ρ=>by simp [ren]) (fun b hb=>by rw [no_globals] at hb;omega) (fun b h=>h) hc htok h1 (h2 c) entry_empty fun Post hPost=>hgo c Post fun Fz1 ρ D own A fr W1 W' h=>hPost ρ D own A fr W1 W' (.inr ⟨Fz1,h⟩)
section
variable {H:Type} {enc:TypeId×Value→H}
theorem left_trod {t:TypeId} (hr:Try.prog.readableRec t=true) (hrow:t<Try.prog.types.size) {W W' : World} {v:Value} {d:DataW H} {ps:List MemPlace} (h:DataW.Trod enc Try.prog W 0 (fun _=>true) true t v d ps) (hl:Con.Left W W') (hlt:∀ x∈ps,x.block<W.heap.size) :
  DataW.Trod enc Try.prog W' 0 (fun b=>decide (b<W.heap.size)) true t v d ps:=by
 have hb:Below W.heap.size W { W' with tape:=W.tape }:=⟨hl.os,rfl,hl.output,hl.size,hl.heap⟩
 obtain⟨fuel,h2⟩:=Below.trod laid_out hr hrow h hb hlt
 exact⟨fuel,by rw [← h2];exact DataW.trod_heap (w:=W') (w':={ W' with tape:=W.tape }) rfl _ _ _⟩
theorem left_kept {W W' : World} (hl:Con.Left W W') (may:MemPlace→Prop):W.keptBut W' may:=by
 refine⟨hl.os,hl.output,fun i hi=>?_⟩
 rw [hl.heap i hi]
 split<;>simp_all
end
theorem fin_post {W:World} {m:Machine} {Post:Value→World→Prop} (h:Con.Fin Try.prog (fun u W'=>u=.bool true∧Con.Left W W') m #[]) (hp:∀ W',Con.Left W W'→Post (.bool true) W') :
  ∃ M last o w' t',runNT Try.prog (M+1) m #[]=(.ended o w',t')∧runN Try.prog M m=.next last∧step Try.prog last=.ended o w'∧Conc.Good Try.prog Post last o w' t':=by
 obtain⟨M,last,o,w',t',h1,h2,h3,h4⟩:=h
 exact⟨M,last,o,w',t',h1,h2,h3,h4.mono fun v ⟨hv,hl⟩=>by subst hv;exact hp _ hl⟩
end Go.Proofs.Ytedomogjmhommaa
namespace Go.Proofs.Ytedomogjmhommaa
open Go.RowKit Go.Con Go.Conc Go.Shelf
local instance dryI113:Lone:=dryL
noncomputable def ops10_2:Array Oper:=opsOf x10_2
theorem x10_2_eq:x10_2=.region 2 ops10_2 false:=by kernel_rfl
theorem spoils_go (E Fz Arg:Nat→Prop) (W0:World) (Post:Value→World→Prop) (φ:Ph) (W:World) (d:Dry) (ha sa:Option Addr) (hcap scap:Nat) (u:Value) (picks:List Int)
  (hh:Sl W (.slice ha d.heats.length hcap) 2 (d.heats.map two)) (hss:Sl W (.slice sa d.steps.length scap) 6 (d.steps.map Stp.cells)) (hl:d.heats.length≤140737488355328) (sl:d.steps.length≤140737488355328)
  (hu:Sl W u 1 (picks.map fun x=>[u16 x])) (hpx:∀ x∈picks,0≤x∧x≤65535) (hpl:picks.length≤140737488355328)
  (t:Array Value) (hs:t.size=112) (h0:t[0]?=some (d.val ⟨.slice ha d.heats.length hcap,.slice sa d.steps.length scap⟩)) (h1:t[1]?=some (u))
  (hPost:∀ Fz1 ρ D own A fr W1 W',Here Try.prog true E Fz1 Arg W0 ρ D own A fr [] W1 W'→Post (ren ρ (.bool true)) W') :
  GoM Try.prog true E Fz Arg W0 (AtEnd Try.prog Post) φ [] (Fr 10 t [.code b10]) [] W:=by
 rw [b10_eq]
 refine Gm.seq ?_
 refine Gm.lone (F:=FW) (fun tt WW=>(tt.size=112∧tt[1]?=some (u)∧tt[2]?=some (ptr W.heap.size))∧WW.heap=(W.alloc (.cells (d.cellsA ⟨.slice ha d.heats.length hcap,.slice sa d.steps.length scap⟩) 27)).heap) rfl rfl trivial FW_ok (by kernel_rfl) (by kernel_rfl) (fun τ=>?_) ?_
 ·refine wpIn_mono (f10_0 d ha sa d.heats.length hcap d.steps.length scap u t hs h0 h1 { W with tape:=τ }) ?_
  rintro e a w' ⟨k1,k2,i0,rfl⟩
  exact⟨k1,k2,i0,rfl⟩
 rintro t1 W1 ⟨⟨s1,m1_1,m1_2⟩,hW1⟩
 have nA:=alloc_nx (Nx.refl W) (.cells (d.cellsA ⟨.slice ha d.heats.length hcap,.slice sa d.steps.length scap⟩) 27 (0,0))
 have oA:OldC (W.alloc (.cells (d.cellsA ⟨.slice ha d.heats.length hcap,.slice sa d.steps.length scap⟩) 27)) W1:=OldC.same hW1
 have o1:OldC W W1:=(OldC.nx nA).trans oA
 have hB:DBox W1 W.heap.size d ⟨.slice ha d.heats.length hcap,.slice sa d.steps.length scap⟩:=⟨by rw [hW1];simp,fun i v hv=>oA.at (row_cell (al1 rfl).2.2 hv)⟩
 have hh:=hh.oc o1
 have hss:=hss.oc o1
 have hu:=hu.oc o1
 clear nA oA o1 hW1 hs h0 h1
 generalize W.heap.size=p1 at m1_2 hB
 refine Gm.seq ?_
 refine Gm.seq ?_
 refine Gm.lone (F:=FW) (fun tt WW=>(tt.size=112∧tt[1]?=some (u)∧tt[2]?=some (ptr p1)∧tt[20]?=some (.bool (out11 d)))∧OldC W1 WW) rfl rfl trivial FW_ok (by kernel_rfl) (by kernel_rfl) (fun τ=>?_) ?_
 ·refine wpIn_mono (f10_1 d ⟨.slice ha d.heats.length hcap,.slice sa d.steps.length scap⟩ p1 u t1 s1 m1_1 m1_2 { W1 with tape:=τ } (hB.oc (OldC.same rfl)) (hh.oc (OldC.same rfl)) (hss.oc (OldC.same rfl)) hl sl) ?_
  rintro e a w' ⟨k1,k2,k3,k4⟩
  exact⟨k1,k2,k3,nx_tape k4⟩
 rintro t2 W2 ⟨⟨s2,m2_1,m2_2,m2_20⟩,o2⟩
 have hB:=hB.oc o2
 have hh:=hh.oc o2
 have hss:=hss.oc o2
 have hu:=hu.oc o2
 clear o2
 clear s1 m1_1 m1_2
 by_cases hg:out11 d=true
 ·rw [hg] at m2_20
  refine Gm.cond (b:=true) (eval_tmp m2_20) rfl ?_
  refine Gm.seq ?_
  rw [x10_2_eq]
  refine Gm.region ?_
  rw [show List.range ops10_2.size=[0,1] by kernel_rfl]
  refine Gm.enter (o:=⟨some 21,.call { callee:=.value (.func 17),args:=#[],argTypes:=#[] },_,_,_,none⟩) (c:={ callee:=.value (.func 17),args:=#[],argTypes:=#[] }) (g:=17) (fn:=Try.f17) (body:=b17) rfl rfl rfl rfl (by kernel_rfl) Try.func17 body17_of (by kernel_rfl) ?_
  refine dries_go E Fz Arg W0 _ φ _ [] W2 _ ?_ fun φ1 Wz Fz1 oz=>?_
  ·simp [Try.ntmps17]
  rw [Fr_finish rfl]
  change GoM Try.prog true E Fz1 Arg W0 _ φ1 [] (Fr 10 (putD t2 (some 21) (.bool true)) _) [] Wz
  refine Gm.op (o:=⟨some 4,.assign (.tmp 21),_,_,_,none⟩) (.bool true) Wz rfl rfl (by kernel_rfl) rfl (as_run _ (eval_tmp (by simp [putD,s2]))) id ?_
  refine Gm.regionEnd ?_
  refine Gm.done Try.func10 (by kernel_rfl) (results10 (.bool true) _ (by simp [putD,s2])) ?_
  exact fun ρ D own A fr W' h=>hPost _ ρ D own A fr _ W' h
 have hg' : out11 d=false:=by simpa using hg
 rw [hg'] at m2_20
 have hof:greatD d=false∧dryF d=0:=by
  unfold out11 at hg'
  simp only [Bool.or_eq_false_iff,decide_eq_false_iff_not,Decidable.not_not,ne_eq] at hg'
  exact hg'
 obtain⟨hgr,hF0⟩:=hof
 have hgl:d.heats.length≤40∧d.steps.length≤40:=by
  unfold greatD at hgr
  simp only [Bool.or_eq_false_iff,decide_eq_false_iff_not,Nat.not_lt] at hgr
  exact hgr
 have hO:=dryF_ok hF0
 refine Gm.cond (b:=false) (eval_tmp m2_20) rfl ?_
 refine Gm.skip ?_
 have hd:DrySl W2 d ⟨.slice ha d.heats.length hcap,.slice sa d.steps.length scap⟩:=⟨hh,hss,by omega,by omega⟩
 clear hh hss hg hg' m2_20 hgr
 generalize hr:(⟨.slice ha d.heats.length hcap,.slice sa d.steps.length scap⟩:R2)=r at *
 clear hr
 have hpF:=planP_ok hO hF0 picks
 have hplen:=planP_len d picks
 have hpb:=planP_bd hO picks
 have ham:=airP_mem hO picks
 have hal:=airP_len d picks
 refine Gm.seq ?_
 refine Gm.lone (F:=FW) (fun tt WW=>∃ vp va,(tt.size=112∧tt[2]?=some (ptr p1)∧tt[5]?=some (vp)∧tt[6]?=some (va))∧OldC W2 WW∧Sl WW vp 1 ((planP d picks).map one)∧Sl WW va 1 ((airP d picks).map one)) rfl rfl trivial FW_ok (by kernel_rfl) (by kernel_rfl) (fun τ=>?_) ?_
 ·refine wpIn_mono (f10_3 d r p1 u t2 s2 m2_1 m2_2 { W2 with tape:=τ } (hB.oc (OldC.same rfl)) (hd.oc (OldC.same rfl)) hO picks (hu.oc (OldC.same rfl)) hpx hpl) ?_
  rintro e a w' ⟨k1,k2,vp,va,k3,k4,y0,y1⟩
  exact⟨k1,k2,vp,va,k3,nx_tape k4,y0,y1⟩
 rintro t3 W3 ⟨vp,va,⟨s3,m3_2,m3_5,m3_6⟩,o3,hp,hA⟩
 have hB:=hB.oc o3
 have hd:=hd.oc o3
 clear o3
 clear s2 m2_1 m2_2
 clear hu hpx hpl
 generalize planP d picks=plan at *
 generalize airP d picks=other at *
 have hs5:=hO.s5
 have hPA:=airs_pa hO hplen hpb ham
 have hlaw:=spoils_law plan other hpF ham
 obtain⟨sp,hsp⟩:∃ sp,spoilF d plan=sp:=⟨_,rfl⟩
 rw [hsp] at hlaw
 refine Gm.seq ?_
 refine Gm.lone (F:=FW) (fun tt WW=>∃ v7,(tt.size=112∧tt[2]?=some (ptr p1)∧tt[5]?=some (vp)∧tt[6]?=some (va)∧tt[7]?=some (v7)∧tt[8]?=some (num sp.2.1)∧tt[9]?=some (.bool sp.2.2.1)∧tt[10]?=some (num sp.2.2.2))∧OldC W3 WW∧Sl WW v7 1 (sp.1.map one)) rfl rfl trivial FW_ok (by kernel_rfl) (by kernel_rfl) (fun τ=>?_) ?_
 ·refine wpIn_mono (f10_4 d r p1 vp va plan sp t3 s3 m3_2 m3_5 m3_6 { W3 with tape:=τ } (hB.oc (OldC.same rfl)) (hd.oc (OldC.same rfl)) (hp.oc (OldC.same rfl)) (by omega) hsp) ?_
  rintro e a w' ⟨k1,k2,v7,k3,k4,y0⟩
  exact⟨k1,k2,v7,k3,nx_tape k4,y0⟩
 rintro t4 W4 ⟨v7,⟨s4,m4_2,m4_5,m4_6,m4_7,m4_8,m4_9,m4_10⟩,o4,h7⟩
 have hB:=hB.oc o4
 have hd:=hd.oc o4
 have hp:=hp.oc o4
 have hA:=hA.oc o4
 clear o4
 clear s3 m3_2 m3_5 m3_6
 have hsp2:sp.2.2.2=0:=by
  rcases hlaw with ⟨h,_⟩ | ⟨a,k,_,_,h,_⟩<;>rw [h]
 rw [hsp2] at m4_10
 refine Gm.seq ?_
 refine Gm.lone (F:=FW) (fun tt WW=>(tt.size=112∧tt[2]?=some (ptr p1)∧tt[5]?=some (vp)∧tt[6]?=some (va)∧tt[7]?=some (v7)∧tt[8]?=some (num sp.2.1)∧tt[9]?=some (.bool sp.2.2.1))∧OldC W4 WW) rfl rfl trivial FW_ok (by kernel_rfl) (by kernel_rfl) (fun τ=>?_) ?_
 ·refine wpIn_mono (f10_5 p1 vp va v7 (num sp.2.1) sp.2.2.1 t4 s4 m4_2 m4_5 m4_6 m4_7 m4_8 m4_9 m4_10 { W4 with tape:=τ } ) ?_
  rintro e a w' ⟨k1,k2,k3,rfl⟩
  exact⟨k1,k2,k3,OldC.same rfl⟩
 rintro t5 W5 ⟨⟨s5,m5_2,m5_5,m5_6,m5_7,m5_8,m5_9⟩,o5⟩
 have hB:=hB.oc o5
 have hd:=hd.oc o5
 have hp:=hp.oc o5
 have hA:=hA.oc o5
 have h7:=h7.oc o5
 clear o5
 clear s4 m4_2 m4_5 m4_6 m4_7 m4_8 m4_9 m4_10
 obtain⟨kb,hkb⟩:∃ k,brk d (followS d d.start plan other)=k:=⟨_,rfl⟩
 rw [hkb] at hlaw
 refine Gm.seq ?_
 refine Gm.lone (F:=FW) (fun tt WW=>(tt.size=112∧tt[2]?=some (ptr p1)∧tt[5]?=some (vp)∧tt[6]?=some (va)∧tt[7]?=some (v7)∧tt[8]?=some (num sp.2.1)∧tt[9]?=some (.bool sp.2.2.1)∧tt[11]?=some (num kb))∧OldC W5 WW) rfl rfl trivial FW_ok (by kernel_rfl) (by kernel_rfl) (fun τ=>?_) ?_
 ·refine wpIn_mono (f10_7 d r p1 vp va v7 (num sp.2.1) sp.2.2.1 plan other kb t5 s5 m5_2 m5_5 m5_6 m5_7 m5_8 m5_9 { W5 with tape:=τ } (hB.oc (OldC.same rfl)) (hd.oc (OldC.same rfl)) (hp.oc (OldC.same rfl)) (hA.oc (OldC.same rfl)) hO hPA hplen (by omega) hkb) ?_
  rintro e a w' ⟨k1,k2,k3,k4⟩
  exact⟨k1,k2,k3,nx_tape k4⟩
 rintro t7 W7 ⟨⟨s7,m7_2,m7_5,m7_6,m7_7,m7_8,m7_9,m7_11⟩,o7⟩
 have hB:=hB.oc o7
 have hd:=hd.oc o7
 have hp:=hp.oc o7
 have hA:=hA.oc o7
 have h7:=h7.oc o7
 clear o7
 clear s5 m5_2 m5_5 m5_6 m5_7 m5_8 m5_9
 refine Gm.seq ?_
 refine Gm.seq ?_
 refine Gm.lone (F:=FW) (fun tt WW=>(tt.size=112∧tt[2]?=some (ptr p1)∧tt[5]?=some (vp)∧tt[6]?=some (va)∧tt[7]?=some (v7)∧tt[8]?=some (num sp.2.1)∧tt[9]?=some (.bool sp.2.2.1)∧tt[11]?=some (num kb)∧tt[43]?=some (.bool (!sp.2.2.1)))∧OldC W7 WW) rfl rfl trivial FW_ok (by kernel_rfl) (by kernel_rfl) (fun τ=>?_) ?_
 ·refine wpIn_mono (f10_8 p1 vp va v7 (num sp.2.1) sp.2.2.1 kb t7 s7 m7_2 m7_5 m7_6 m7_7 m7_8 m7_9 m7_11 { W7 with tape:=τ } ) ?_
  rintro e a w' ⟨k1,k2,k3,rfl⟩
  exact⟨k1,k2,k3,OldC.same rfl⟩
 rintro t8 W8 ⟨⟨s8,m8_2,m8_5,m8_6,m8_7,m8_8,m8_9,m8_11,m8_43⟩,o8⟩
 have hB:=hB.oc o8
 have hd:=hd.oc o8
 have hp:=hp.oc o8
 have hA:=hA.oc o8
 have h7:=h7.oc o8
 clear o8
 clear s7 m7_2 m7_5 m7_6 m7_7 m7_8 m7_9 m7_11
 rcases hlaw with ⟨h,rfl⟩ | ⟨a,k,ham2,hk,h,hk1,hk2,hk3⟩
 ·subst h
  refine Gm.cond (b:=true) (eval_tmp m8_43) rfl ?_
  refine Gm.seq ?_
  obtain⟨la,lc,e7⟩:=h7.cases
  subst e7
  exact spoils_none E Fz Arg W0 Post φ W8 la lc t8 s8 m8_7 m8_8 m8_11 hPost
 subst h
 refine Gm.cond (b:=false) (eval_tmp m8_43) rfl ?_
 refine Gm.skip ?_
 have hfo:=follow_of hpF ham2
 have hPA2:=airs_pa hO hplen hpb ham2
 have hal2:=(airs_mem.1 ham2).1
 have hLl:=followS_len d d.start plan a hPA2.len
 dsimp only at m8_8 m8_9 h7 m8_43
 clear m8_9 m8_43
 refine Gm.seq ?_
 refine Gm.lone (F:=FW) (fun tt WW=>∃ vl,(tt.size=112∧tt[2]?=some (ptr p1)∧tt[6]?=some (va)∧tt[7]?=some (v7)∧tt[8]?=some (num k)∧tt[11]?=some (num kb)∧tt[12]?=some (vl)∧tt[10]?=some (num 0))∧OldC W8 WW∧Sl WW vl 3 ((followS d d.start plan a).map St.cells)) rfl rfl trivial FW_ok (by kernel_rfl) (by kernel_rfl) (fun τ=>?_) ?_
 ·refine wpIn_mono (f10_10 d r p1 vp va v7 (num k) kb plan a _ t8 s8 m8_2 m8_5 m8_6 m8_7 m8_8 m8_11 { W8 with tape:=τ } (hB.oc (OldC.same rfl)) (hd.oc (OldC.same rfl)) (hp.oc (OldC.same rfl)) (h7.oc (OldC.same rfl)) (by omega) (by omega) hfo) ?_
  rintro e a w' ⟨k1,k2,vl,k3,k4,y0⟩
  exact⟨k1,k2,vl,k3,nx_tape k4,y0⟩
 rintro t10 W10 ⟨vl,⟨s10,m10_2,m10_6,m10_7,m10_8,m10_11,m10_12,m10_10⟩,o10,hL⟩
 have hB:=hB.oc o10
 have hd:=hd.oc o10
 have hA:=hA.oc o10
 have h7:=h7.oc o10
 clear o10
 clear s8 m8_2 m8_5 m8_6 m8_7 m8_8 m8_11
 refine Gm.seq ?_
 refine Gm.lone (F:=FW) (fun tt WW=>(tt.size=112∧tt[2]?=some (ptr p1)∧tt[6]?=some (va)∧tt[7]?=some (v7)∧tt[8]?=some (num k)∧tt[11]?=some (num kb)∧tt[12]?=some (vl))∧OldC W10 WW) rfl rfl trivial FW_ok (by kernel_rfl) (by kernel_rfl) (fun τ=>?_) ?_
 ·refine wpIn_mono (f10_11 d r p1 va v7 vl k kb _ t10 s10 m10_2 m10_6 m10_7 m10_8 m10_11 m10_12 m10_10 { W10 with tape:=τ } (hB.oc (OldC.same rfl)) (hd.oc (OldC.same rfl)) (hL.oc (OldC.same rfl)) (by omega) hk) ?_
  rintro e a w' ⟨k1,k2,k3,k4⟩
  exact⟨k1,k2,k3,nx_tape k4⟩
 rintro t11 W11 ⟨⟨s11,m11_2,m11_6,m11_7,m11_8,m11_11,m11_12⟩,o11⟩
 have hB:=hB.oc o11
 have hd:=hd.oc o11
 have hA:=hA.oc o11
 have h7:=h7.oc o11
 have hL:=hL.oc o11
 clear o11
 clear s10 m10_2 m10_6 m10_7 m10_8 m10_11 m10_12 m10_10
 have hkp:∀ (j:Nat) (x:Stp) (s:St),j≤k→d.steps[j]?=some x→(followS d d.start plan a)[j]?=some s→keepsB x s=decide (j<k):=by
  intro j x s hj hx hs
  rcases Nat.lt_or_ge j k with hlt | hge
  ·have:=hk2 j hlt
   unfold brkAt at this
   rw [hx,hs] at this
   rw [decide_eq_true hlt]
   simpa using this
  ·have e:j=k:=by omega
   subst e
   unfold brkAt at hk1
   rw [hx,hs] at hk1
   rw [decide_eq_false (by omega)]
   simpa using hk1
 refine Gm.seq ?_
 refine Gm.lone (F:=FW) (fun tt WW=>(tt.size=112∧tt[6]?=some (va)∧tt[7]?=some (v7)∧tt[11]?=some (num kb))∧OldC W11 WW) rfl rfl trivial FW_ok (by kernel_rfl) (by kernel_rfl) (fun τ=>?_) ?_
 ·refine wpIn_mono (f10_13 d r p1 va v7 vl k kb _ t11 s11 m11_2 m11_6 m11_7 m11_8 m11_11 m11_12 { W11 with tape:=τ } (hB.oc (OldC.same rfl)) (hd.oc (OldC.same rfl)) (hL.oc (OldC.same rfl)) (by omega) hk (by omega) hkp) ?_
  rintro e a w' ⟨k1,k2,k3,k4⟩
  exact⟨k1,k2,k3,nx_tape k4⟩
 rintro t13 W13 ⟨⟨s13,m13_6,m13_7,m13_11⟩,o13⟩
 have hA:=hA.oc o13
 have h7:=h7.oc o13
 clear o13
 clear s11 m11_2 m11_6 m11_7 m11_8 m11_11 m11_12
 refine Gm.seq ?_
 by_cases hne:kb=-1
 ·subst hne
  exact spoils_end1 E Fz Arg W0 Post φ W13 va v7 t13 s13 m13_6 m13_7 m13_11 hPost
 ·rcases hk3 with h | h
  ·exact absurd h hne
  ·exact spoils_end2 E Fz Arg W0 Post φ W13 va v7 kb other a t13 s13 m13_6 m13_7 m13_11 hne hA h7 (by omega) (by omega) h hPost
end Go.Proofs.Ytedomogjmhommaa
namespace Go.Proofs.Ytedomogjmhommaa
open Go.RowKit Go.Con Go.Conc Go.ChangeShapes Go.WideShapes Go.ChangeAt
local instance dryI109:Lone:=dryL
section
variable {H:Type} {enc:TypeId×Value→H} {W:World}
theorem read_u16 {n:Nat} {cs:List Value} {y:DataW H×List MemPlace} (h:trodW enc W n 154 cs=some y):∃ k:Int,cs=[u16 k]∧(0≤k∧k≤65535):=by
 obtain⟨k,h1,_,h3⟩:=DataW.trod_int Try.underlying154 h
 simp only [Lit.wf,Bool.and_eq_true,decide_eq_true_eq] at h3
 exact⟨k,h1,h3⟩
theorem picks_open {v:Value} {dd:DataW H} {p:List MemPlace} {base:Nat} (hv:Value.okWide Try.prog W .any base 62 v) (h:DataW.Trod enc Try.prog W 0 (fun _=>true) true 62 v dd p) (hfit:Fits 62 dd) :
  ∃ l:List Int,Sl W v 1 (l.map fun x=>[u16 x])∧Kind W v∧l.length≤140737488355328∧∀ x∈l,0≤x∧x≤65535:=by
 obtain⟨fuel,hf⟩:=h
 have hv' : Cell.okWide Try.prog W .any 0 62 v:=by
  simp only [Value.okWide,Try.underlying62] at hv
  exact hv
 have hc:v.cells.toList=[v]:=by
  simp only [Cell.okWide,Try.underlying62,Cell.ok] at hv'
  cases v<;>first | rfl | (exact absurd hv' (by simp))
 rw [hc] at hf
 obtain⟨l,a1,a3,a4,a5⟩:=sl_open (en:=fun x=>[u16 x]) (ok:=fun x=>0≤x∧x≤65535) Try.underlying62 (by decide +kernel) (fun n cs' y h hff=>read_u16 h) hf hfit hv'
 rw [show Try.prog.cellsOf 154=1 by kernel_rfl] at a1
 exact⟨l,a1,a3,Nat.le_trans a4 (by decide),a5⟩
end
theorem inv_u16 {ix:Value→Nat} (n:Int):inv Try.prog ix (u16 n)=u16 n:=by simp [inv]
theorem picks_entry {c:Nat→Value} {W:World} {v:Value} {xs:List Int} (h:Sl W v 1 (xs.map fun x=>[u16 x])):Sl (entryW Try.prog c (CD W) W) v 1 (xs.map fun x=>[u16 x]):=by
 refine h.entry ?_
 intro l hl x hx
 obtain⟨z,_,rfl⟩:=List.mem_map.1 hl
 simp only [List.mem_singleton] at hx
 subst hx
 exact inv_u16 _
end Go.Proofs.Ytedomogjmhommaa
namespace Go.Proofs.Ytedomogjmhommaa
open Go.RowKit Go.Con Go.Conc Go.ChangeShapes Go.WideShapes Go.ChangeAt
local instance dryIr10:Lone:=dryL
theorem body10_of:Try.f10.body=some b10:=by kernel_rfl
theorem spoils_fin (d:Dry) (r:R2) (u1:Value) (l1:List Int) (W:World) (hd:DryIn W d r) (a1:Sl W u1 1 (l1.map fun x=>[u16 x])) (b1:Kind W u1) (c1:l1.length≤140737488355328) (e1:∀ x∈l1,0≤x∧x≤65535) :
  Con.Fin Try.prog (fun u W'=>u=.bool true∧Con.Left W W') (solo (G (Frame.enter Try.prog 10 #[d.val r,u1] .normal) []) W) #[]:=by
 refine law_fin Try.func10 body10_of (fun v hv=>?_) fun c Post hPost=>?_
 ·simp only [List.mem_cons,List.not_mem_nil,or_false] at hv
  rcases hv with rfl | rfl
  ·exact hd.same
  ·exact Alk.slice a1.isSlice b1
 ·obtain⟨rh,rs⟩:=r
  obtain⟨ha,hcap,q1⟩:=hd.heats.cases
  obtain⟨sa,scap,q2⟩:=hd.steps.cases
  dsimp only at q1 q2
  rw [List.length_map] at q1 q2
  subst q1 q2
  have he:=hd.entry (c:=c)
  exact spoils_go _ _ _ _ Post _ _ d ha sa hcap scap u1 l1 he.heats he.steps hd.hl hd.sl (picks_entry a1) e1 c1 _ (by simp [Try.ntmps10]) (by simp) (by simp) hPost
theorem spoils_lifted (os:Os) (started:os.Started) (H:Type) (enc:TypeId×Value→H) :
  ReturnsInLeavingWide {} Try.checked os 10 .any (Rows.drySpoilsSpec.pre6 enc Try.prog Try.f10 [] false) (Rows.drySpoilsSpec.post enc Try.prog Try.f10 false true false false):=by
 refine returnsInLeavingWide_of_change_sized (C:=Try.checked) own_knob started Try.func10
  (ChangeSpec.witness6 (enc:=enc) (C:=Try.checked) false ⟨#[],#[.agg #[.slice none 0 0,.int .i64 0,.int .i64 0,.int .i64 0,.int .i64 0,.int .i64 0,.slice none 0 0],.slice none 0 0],[]⟩ 8 (by kernel_rfl) (by kernel_rfl) (by kernel_rfl) (by kernel_rfl)) ?_
 intro W base args ds gs before hval0 hW _ hsz _
 have hval:∀ (j:Nat) t v,Try.f10.params[j]?=some t→args[j]?=some v→Value.okWide Try.prog W .any base t v:=hval0
 have hW':=hW
 obtain⟨p,q,hA0,hV,rfl,hfz,hnd⟩:=hW
 have hA:DataW.TrodAll enc Try.prog W 0 (fun _=>true) true Try.f10.params.toList args.toList ds p:=hA0
 rw [Try.params10] at hA hval
 obtain⟨v0,v1,d0,d1,p0,p1,rfl,rfl,rfl,h0,h1⟩:=trodAll_two hA
 obtain⟨rfl,rfl⟩:=trodVars_none hV
 have hfit:∀ (j:Nat) (t:TypeId) (dd:DataW H),Try.f10.params.toList[j]?=some t→[d0,d1][j]?=some dd→Fits t dd:=fun j t dd ht hdd n hn=>by
  have:=List.all_eq_true.1 hsz n (DataW.weights_mem_each (P:=Try.prog) (j:=j) (t:=t) (d:=dd) (by
   have:(Try.f10.params.toList++[])[j]?=some t:=by rw [List.append_nil];exact ht
   exact this) (by
   have:([d0,d1]++[])[j]?=some dd:=by rw [List.append_nil];exact hdd
   exact this) n hn)
  simpa using this
 have hpq:Try.f10.params.toList=[27,62]:=by rw [Try.params10]
 rw [hpq] at hfit
 obtain⟨d,r,rfl,hd⟩:=dry_open (hval 0 27 v0 rfl rfl) h0 (hfit 0 27 d0 rfl rfl)
 obtain⟨l1,a1,b1,c1,e1⟩:=picks_open (hval 1 62 v1 rfl rfl) h1 (hfit 1 62 d1 rfl rfl)
 clear hA0 hval0
 simp only [List.append_nil] at hW'
 have hlt:∀ x∈p0++(p1++([])),x.block<W.heap.size:=fun x hx=>by
  have:=hW'.lt x (by simpa using hx)
  simpa using this
 refine fin_post (spoils_fin d r v1 l1 W hd a1 b1 c1 e1) fun W' hl=>?_
 have ha:=trodAll_mk2 (left_trod (by kernel_rfl) (of_decide_eq_true (by kernel_rfl)) h0 hl fun x hx=>hlt x (by simp [hx])) (left_trod (by kernel_rfl) (of_decide_eq_true (by kernel_rfl)) h1 hl fun x hx=>hlt x (by simp [hx]))
 try simp only [List.append_assoc] at hW'
 exact⟨[d0,d1],[],p0++p1,[],_,[],hW',trodAll_mk1 (shut_bool Try.underlying4 _),ha,rfl,left_kept hl _,fun h=>by cases h⟩
theorem spoils_holds:Rows.DrySpoilsSaid :=
 OpenClaim.holds_of_wide_leaving 10 Try.f10 rfl rfl rfl rfl rfl rfl rfl ⟨rfl,rfl,rfl,rfl,rfl⟩ rfl rfl rfl rfl rfl (by kernel_rfl) Try.func10 (by kernel_rfl)
  (of_decide_eq_true (by kernel_rfl)) (by unfold Func.isWrapper;first | (rw [if_pos (by decide +kernel)];kernel_rfl) | (rw [if_neg (by decide +kernel)];exact⟨rfl,rfl⟩))
  (fun os started H enc _=>spoils_lifted os started H enc)
end Go.Proofs.Ytedomogjmhommaa
