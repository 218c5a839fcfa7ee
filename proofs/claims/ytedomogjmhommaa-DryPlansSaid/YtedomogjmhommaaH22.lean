import Derived.Test.YtedomogjmhommaaH13
import Derived.Test.YtedomogjmhommaaH21
set_option linter.all false
set_option maxRecDepth 100000
set_option maxHeartbeats 8000000
namespace Go.Proofs.Ytedomogjmhommaa
open Go.RowKit Go.Shelf
noncomputable def b65:Code:=match Try.f65.body with | some c=>c | none=>.skip
noncomputable def x65a:Code:=match b65 with | .seq x _=>x | c=>c
noncomputable def x65b:Code:=match b65 with | .seq _ y=>y | c=>c
theorem zqs:b65=.seq x65a x65b:=by kernel_rfl
theorem zj7 {F:Fence} {nF:Nat} {w:World} {o:Oper} {a:Act} {K:Act→World→Prop} {Q:Exit→Act→World→Prop} (hro:F.round=none∨∃ l,F.round=some l) (m x v:Operand) (t:TypeId) (hop:o.op=Op.insert t m x v) (ht:Try.prog.underlying t=some (.map 24 4)) (b n:Nat) (X:St→Prop) (s:St) (hm:a.eval m=.map (some b)) (hx:a.eval x=s.val) (hv:a.eval v=.bool true) (hs:StI s) (h:SetM w b n X) (hn:n<maxLen)
  (hK:∀ w',SetM w' b (n+1) (fun t=>X t∨t=s)→w.grownBy w' (some b)→K (a.put o.dst undef) w'):o.wpIn F nF Try.prog a w K Q:=by
 obtain⟨l,hl⟩:=zl1 hs
 obtain⟨D,hown,hset⟩:=h
 obtain⟨w',hrun,r1,r2⟩:=hown.update K24 ht hn hl (plainElem_bool Try.underlying4 true)
 unfold Oper.wpIn
 refine⟨by simp [Oper.about,hop],?_⟩
 rw [Oper.semAt_plain F _ _ (by rw [hop];intro c hc';cases hc')]
 simp [execOp,hop,hm,hx,hv,hrun,Result.andThen]
 exact hK w' ⟨_,r1,zgN hset hl⟩ r2
theorem zqT (d:Dry) (hO:d.Ok) (hsO:d.start.Ok d.heats.length) (hsI:StI d.start) (B p0 p1 p2 p3 h:Nat) (x:Stp) (hx:d.steps[0]?=some x) (w:World) (hst:StoveAt w B d) (hh:h<d.heats.length) (hw:0≤d.start.h∧d.start.h≤4)
  (r0:w.cell? ⟨p0,0,none⟩=some (ptr B)) (r3:w.cell? ⟨p1,3,none⟩=some (num d.start.w)) (r4:w.cell? ⟨p1,4,none⟩=some (num d.start.c)) (r5:w.cell? ⟨p1,5,none⟩=some (num d.start.h)) (r2:w.cell? ⟨p2,0,none⟩=some (num h))
  (l0:p0<w.heap.size) (l1:p1<w.heap.size) (l2:p2<w.heap.size) :
  x65a.wpIn FW 0 Try.prog (fun e a w'=>e=.normal∧a.defers=[]∧∃ v,a.tmps.size=23∧a.tmps[3]?=some (ptr p3)∧a.tmps[4]?=some v∧a.tmps[5]?=some (.bool (zbt d (zaY d (d.steps.drop 1)) x [d.start] d.start.h h).2)∧Nx w w'∧FlI w' w.heap.size v (zbt d (zaY d (d.steps.drop 1)) x [d.start] d.start.h h).1)
   ⟨#[ptr p0,ptr p1,ptr p2,ptr p3,undef,undef,undef,undef,undef,undef,undef,undef,undef,undef,undef,undef,undef,undef,undef,undef,undef,undef,undef],[]⟩ w:=by
 have hs5:=hO.s5
 have hlen:0<d.steps.length:=(List.getElem?_eq_some_iff.1 hx).1
 have hpow:1 * 4 ^ (d.steps.length-0)≤1000000:=by
  have:4 ^ (d.steps.length-0)≤4 ^ 5:=Nat.pow_le_pow_right (by omega) (by omega)
  omega
 have k66:=fun (w1:World) (M:Nat) (n1:Nx w w1) (hM:SetM w1 M 1 (·∈[d.start]))=>zgD d hO B 0 x hx (zgl d hO B (d.steps.length-1) 1 (by omega)) [d.start] d.start.h w1 M 1 h (hst.nx n1) hM (by simpa using hsO) hw hpow hh
 simp only [Nat.zero_add] at k66
 generalize zbt d (zaY d (d.steps.drop 1)) x [d.start] d.start.h h=g at k66
 have hmm:=@run_makeMap Try.prog
 simp only [x65a,b65,Try.f65]
 refine zat (Nx w) 10 (by kernel_rfl) ?_
 obtain⟨Z,G,hN,hG,hG'⟩:=zaC (C:=Nx w) (x:=w) (Nx.refl _)
 have r0:=fun z=>(Kc.nx (hG' z)).cell r0
 have r3:=fun z=>(Kc.nx (hG' z)).cell r3
 have r4:=fun z=>(Kc.nx (hG' z)).cell r4
 have r5:=fun z=>(Kc.nx (hG' z)).cell r5
 have r2:=fun z=>(Kc.nx (hG' z)).cell r2
 change Go.wpAnyZ _ _ _ _ _ _ _ _ 16 #[false,false,false,false,false,false,false,false,false,false,false,false,false,false,false,false] _ _
 have n7:Nx w w.drew:=Nx.drew (Nx.refl w)
 generalize w.drew=V at n7 ⊢
 refine Go.zqE 0 hG (by kernel_rfl) (fun _ _ _ h=>by cases h.1) rfl ?_;intro o ho K hK;simp at ho;subst ho;gi_big_quiet_op;go_big_quiet_on
 refine Go.zqE 2 hG (by kernel_rfl) (fun _ _ _ h=>by cases h.1) rfl ?_;intro o ho K hK;simp at ho;subst ho;gi_big_quiet_op;go_big_quiet_on
 refine Go.zqE 3 hG (by kernel_rfl) (fun _ _ _ h=>by cases h.1) rfl ?_;intro o ho K hK;simp at ho;subst ho;gi_big_quiet_op;go_big_quiet_on
 refine Go.zqE 6 hG (by kernel_rfl) (fun _ _ _ h=>by cases h.1) rfl ?_;intro o ho K hK;simp at ho;subst ho;gi_big_quiet_op;go_big_quiet_on
 refine Go.zqE 7 hG (by kernel_rfl) (fun _ _ _ h=>by cases h.1) rfl ?_;intro o ho K hK;simp at ho;subst ho;gi_big_quiet_op;go_big_quiet_on
 refine Go.zqE 8 hG (by kernel_rfl) (fun _ _ _ h=>by cases h.1) rfl ?_;intro o ho K hK;simp at ho;subst ho;gi_big_quiet_op;go_big_quiet_on
 refine Go.zqE 9 hG (by kernel_rfl) (fun _ _ _ h=>by cases h.1) rfl ?_;intro o ho K hK;simp at ho;subst ho;gi_big_quiet_op;go_big_quiet_on
 clear hG hG' hN r0 r3 r4 r5 r2
 refine Go.zoE 1 (by kernel_rfl) rfl ?_ ?_;rotate_left;intro o ho K hK;simp at ho;subst ho
 gi_wp2_with fail
 generalize hW8:V.alloc (.map #[] 0)=W8
 obtain⟨n8,s8,g8⟩:=al1 hW8
 clear hW8
 have hset0:=zgc g8
 have n78:=n7.trans n8
 have zV:=n7.size
 clear hmm s8 g8
 generalize V.heap.size=M at *
 refine Go.zoE 4 (by kernel_rfl) rfl ?_ ?_;rotate_left;intro o ho K hK;simp at ho;subst ho
 refine zj7 (.inl rfl) _ _ _ 104 rfl Try.underlying104 M 0 (fun _=>False) d.start rfl rfl rfl hsI hset0 (by unfold maxLen;omega) ?_
 intro w3 hset3 hg3
 have n3:Nx w w3:=⟨hg3.os.trans n78.os,hg3.tape.trans n78.tape,hg3.output.trans n78.output,Nat.le_trans n78.size hg3.size,fun i hi=>(hg3.block i (by have:=n78.size;omega) (by simp;omega)).trans (n78.block i hi)⟩
 refine hK _ _ ?_
 simp only [Act.put,List.setIfInBounds_toArray,List.set_cons_succ,List.set_cons_zero]
 refine Go.zoE 5 (by kernel_rfl) rfl ?_ ?_;rotate_left;intro o ho K hK;simp at ho;subst ho
 gi_wp2_with fail
 refine Go.zoE 10 (by kernel_rfl) rfl ?_ ?_;rotate_left;intro o ho K hK;simp at ho;subst ho
 gi_wp2_with (first | (gi_at_call 66;refine CallsIn.mono (k66 _ _ n3 (hset3.congr (by intro t;simp))) ?_;rintro e w5 ⟨v,rfl,n5,hfl⟩) | gi_in)
 have hfl:=FlI.base hfl n3.size
 refine Go.zoE 11 (by kernel_rfl) rfl ?_ ?_;rotate_left;intro o ho K hK;simp at ho;subst ho
 gi_wp2_with fail
 refine Go.zwE 12 13 (by kernel_rfl) rfl rfl ?_ ?_ ?_;rotate_left;(all_goals (try (intro o ho K hK;simp at ho;subst ho)))
 ·gi_wp2_with fail
  refine Go.zwE 13 14 (by kernel_rfl) rfl rfl ?_ ?_ ?_;rotate_left;(all_goals (try (intro o ho K hK;simp at ho;subst ho)))
  ·gi_wp2_with fail
   refine Go.zoE 14 (by kernel_rfl) rfl ?_ ?_;rotate_left;intro o ho K hK;simp at ho;subst ho
   gi_wp2_with fail
   refine Go.zoE 15 (by kernel_rfl) rfl ?_ ?_;rotate_left;intro o ho K hK;simp at ho;subst ho
   gi_wp2_with fail
   refine zar (by kernel_rfl) (fun h=>absurd h (by decide)) ⟨rfl,rfl,rfl,rfl,v,rfl,rfl,n3.trans n5,hfl⟩
   all_goals (intro h;exact absurd h (by decide))
  ·gi_wp2_with fail
   refine Go.zoE 13 (by kernel_rfl) rfl ?_ ?_;rotate_left;intro o ho K hK;simp at ho;subst ho
   gi_wp2_with fail
   refine Go.zoE 15 (by kernel_rfl) rfl ?_ ?_;rotate_left;intro o ho K hK;simp at ho;subst ho
   gi_wp2_with fail
   refine zar (by kernel_rfl) (fun h=>absurd h (by decide)) ⟨rfl,rfl,rfl,rfl,v,rfl,rfl,n3.trans n5,hfl⟩
   all_goals (intro h;exact absurd h (by decide))
  all_goals (intro h;exact absurd h (by decide))
 ·gi_wp2_with fail
  refine Go.zoE 12 (by kernel_rfl) rfl ?_ ?_;rotate_left;intro o ho K hK;simp at ho;subst ho
  gi_wp2_with fail
  refine Go.zoE 14 (by kernel_rfl) rfl ?_ ?_;rotate_left;intro o ho K hK;simp at ho;subst ho
  gi_wp2_with fail
  refine Go.zoE 15 (by kernel_rfl) rfl ?_ ?_;rotate_left;intro o ho K hK;simp at ho;subst ho
  gi_wp2_with fail
  refine zar (by kernel_rfl) (fun h=>absurd h (by decide)) ⟨rfl,rfl,rfl,rfl,v,rfl,rfl,n3.trans n5,hfl⟩
  all_goals (intro h;exact absurd h (by decide))
 all_goals (intro h;first | exact n7 | exact absurd h (by decide) | exact n3 | exact n78)
end Go.Proofs.Ytedomogjmhommaa
