/- For every drying and plan the law DryPlans returns true (Blind, Spoil and Steam agree with the specification), does not panic, and leaves what came in as it was. Conditions: none but those of the statement itself. -/
import Derived.Test.YtedomogjmhommaaP07
set_option linter.all false
set_option maxRecDepth 100000
set_option maxHeartbeats 8000000
namespace Go.Proofs.Ytedomogjmhommaa
open Go.RowKit Go.Con Go.Conc Go.ChangeShapes Go.WideShapes Go.ChangeAt
local instance zrz:Lone:=dryL
theorem zop:Try.f4.body=some b4:=by kernel_rfl
theorem znJ (d:Dry) (r:R2) (u1:Value) (l1:List Int) (W:World) (hd:DryIn W d r) (a1:Sl W u1 1 (l1.map one)) (b1:Kind W u1) (c1:l1.length≤140737488355328) :
  Con.Fin Try.prog (fun u W'=>u=.bool true∧Con.Left W W') (solo (G (Frame.enter Try.prog 4 #[d.val r,u1] .normal) []) W) #[]:=by
 refine zpW Try.func4 zop (fun v hv=>?_) fun c Post hPost=>?_
 ·simp only [List.mem_cons,List.not_mem_nil,or_false] at hv
  rcases hv with rfl | rfl
  ·exact hd.same
  ·exact Alk.slice a1.isSlice b1
 ·obtain⟨rh,rs⟩:=r
  obtain⟨ha,hcap,q1⟩:=hd.heats.cases
  obtain⟨sa,scap,q2⟩:=hd.steps.cases
  dsimp only at q1 q2
  rw [List.length_map] at q1 q2
  subst q1 q2
  have he:=hd.entry (c:=c)
  exact zo1 _ _ _ _ Post _ _ d ha sa hcap scap u1 l1 he.heats he.steps hd.hl hd.sl (zlZ a1) c1 _ (by simp [Try.ntmps4]) (by simp) (by simp) hPost
theorem zjB (os:Os) (started:os.Started) (H:Type) (enc:TypeId×Value→H) :
  ReturnsInLeavingWide {} Try.checked os 4 .any (Rows.dryPlansSpec.pre6 enc Try.prog Try.f4 [] false) (Rows.dryPlansSpec.post enc Try.prog Try.f4 false true false false):=by
 refine returnsInLeavingWide_of_change_sized (C:=Try.checked) zo0 started Try.func4
  (ChangeSpec.witness6 (enc:=enc) (C:=Try.checked) false ⟨#[],#[.agg #[.slice none 0 0,.int .i64 0,.int .i64 0,.int .i64 0,.int .i64 0,.int .i64 0,.slice none 0 0],.slice none 0 0],[]⟩ 8 (by kernel_rfl) (by kernel_rfl) (by kernel_rfl) (by kernel_rfl)) ?_
 intro W base args ds gs before hval0 hW _ hsz _
 have hval:∀ (j:Nat) t v,Try.f4.params[j]?=some t→args[j]?=some v→Value.okWide Try.prog W .any base t v:=hval0
 have hW':=hW
 obtain⟨p,q,hA0,hV,rfl,hfz,hnd⟩:=hW
 have hA:DataW.TrodAll enc Try.prog W 0 (fun _=>true) true Try.f4.params.toList args.toList ds p:=hA0
 rw [Try.params4] at hA hval
 obtain⟨v0,v1,d0,d1,p0,p1,rfl,rfl,rfl,h0,h1⟩:=trodAll_two hA
 obtain⟨rfl,rfl⟩:=trodVars_none hV
 have hfit:∀ (j:Nat) (t:TypeId) (dd:DataW H),Try.f4.params.toList[j]?=some t→[d0,d1][j]?=some dd→Fits t dd:=fun j t dd ht hdd n hn=>by
  have:=List.all_eq_true.1 hsz n (DataW.weights_mem_each (P:=Try.prog) (j:=j) (t:=t) (d:=dd) (by
   have:(Try.f4.params.toList++[])[j]?=some t:=by rw [List.append_nil];exact ht
   exact this) (by
   have:([d0,d1]++[])[j]?=some dd:=by rw [List.append_nil];exact hdd
   exact this) n hn)
  simpa using this
 have hpq:Try.f4.params.toList=[27,38]:=by rw [Try.params4]
 rw [hpq] at hfit
 obtain⟨d,r,rfl,hd⟩:=zoz (hval 0 27 v0 rfl rfl) h0 (hfit 0 27 d0 rfl rfl)
 obtain⟨l1,a1,b1,c1⟩:=znj (hval 1 38 v1 rfl rfl) h1 (hfit 1 38 d1 rfl rfl)
 clear hA0 hval0
 simp only [List.append_nil] at hW'
 have hlt:∀ x∈p0++(p1++([])),x.block<W.heap.size:=fun x hx=>by
  have:=hW'.lt x (by simpa using hx)
  simpa using this
 refine zoK (znJ d r v1 l1 W hd a1 b1 c1) fun W' hl=>?_
 have ha:=trodAll_mk2 (zjo (by kernel_rfl) (of_decide_eq_true (by kernel_rfl)) h0 hl fun x hx=>hlt x (by simp [hx])) (zjo (by kernel_rfl) (of_decide_eq_true (by kernel_rfl)) h1 hl fun x hx=>hlt x (by simp [hx]))
 try simp only [List.append_assoc] at hW'
 exact⟨[d0,d1],[],p0++p1,[],_,[],hW',trodAll_mk1 (shut_bool Try.underlying4 _),ha,rfl,znv hl _,fun h=>by cases h⟩
theorem plans_holds:Rows.DryPlansSaid :=
 OpenClaim.holds_of_wide_leaving 4 Try.f4 rfl rfl rfl rfl rfl rfl rfl ⟨rfl,rfl,rfl,rfl,rfl⟩ rfl rfl rfl rfl rfl (by kernel_rfl) Try.func4 (by kernel_rfl)
  (of_decide_eq_true (by kernel_rfl)) (by unfold Func.isWrapper;first | (rw [if_pos (by decide +kernel)];kernel_rfl) | (rw [if_neg (by decide +kernel)];exact⟨rfl,rfl⟩))
  (fun os started H enc _=>zjB os started H enc)
end Go.Proofs.Ytedomogjmhommaa
