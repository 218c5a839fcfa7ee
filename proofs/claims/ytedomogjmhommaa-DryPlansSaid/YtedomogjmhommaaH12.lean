import Derived.Test.YtedomogjmhommaaH11
import Derived.Test.YtedomogjmhommaaH09
set_option linter.all false
set_option maxRecDepth 100000
set_option maxHeartbeats 8000000
namespace Go.Proofs.Ytedomogjmhommaa
open Go.RowKit Go.Shelf
theorem T38:ElemT 38 3 (num 0) 1 8:=.mk' Try.underlying38 (by kernel_rfl) (by kernel_rfl) (by decide)
def zbt (d:Dry) (rec:List St→Int→List Int×Bool) (x:Stp) (l:List St) (was:Int) (h:Nat):List Int×Bool :=
 if mayB d.heats.length x was h=true∧keepL d x h l=true then ((h:Int) :: (rec (afterL d x h l) h).1,(rec (afterL d x h l) h).2) else ([],false)
def zdz (p:Nat→List Int×Bool) (n:Nat):List Int×Bool:=match (List.range n).find? (fun h=>(p h).2) with | some h=>p h | none=>([],false)
def zaY (d:Dry):List Stp→List St→Int→List Int×Bool
 | [],_,_=>([],true)
 | x :: xs,l,was=>zdz (zbt d (zaY d xs) x l was) d.heats.length
theorem zgB {p:Nat→List Int×Bool} {n k:Nat} (h:∀ j,j<k→(p j).2=false) (hk:k<n) (hp:(p k).2=true):zdz p n=p k:=by
 unfold zdz
 have:(List.range n).find? (fun h=>(p h).2)=some k:=by
  rw [List.find?_range_eq_some]
  exact⟨hp,by simpa using hk,fun j hj=>by simp [h j hj]⟩
 rw [this]
theorem zhE {p:Nat→List Int×Bool} {n:Nat} (h:∀ j,j<n→(p j).2=false):zdz p n=([],false):=by
 unfold zdz
 have:(List.range n).find? (fun h=>(p h).2)=none:=by
  rw [List.find?_range_eq_none]
  exact fun j hj=>by simp [h j hj]
 rw [this]
theorem zna {p:Nat→List Int×Bool} {n m:Nat} (h:∀ j,(p j).1.length≤m):(zdz p n).1.length≤m:=by
 unfold zdz
 split
 ·exact h _
 ·exact Nat.zero_le _
theorem zeC (d:Dry):∀ (xs:List Stp) (l:List St) (was:Int),(zaY d xs l was).1.length≤xs.length
 | [],_,_=>Nat.le_refl _
 | x :: xs,l,was=>by
  simp only [zaY]
  refine zna fun j=>?_
  unfold zbt
  split
  ·have:=zeC d xs (afterL d x j l) j
   simp only [List.length_cons]
   omega
  ·exact Nat.zero_le _
def FlI (w:World) (base:Nat) (v:Value) (xs:List Int):Prop :=
 (v=.slice none 0 0∧xs=[])∨∃ (g cap:Nat) (ys:List Int),v=.slice (some ⟨g,0,none⟩) xs.length cap∧base≤g∧0<xs.length∧w.heap[g]?=some (.cells ((xs++ys).map num).toArray 3 (0,0))
theorem FlI.sl {w:World} {base:Nat} {v:Value} {xs:List Int} (h:FlI w base v xs):Sl w v 1 (xs.map one):=by
 obtain⟨rfl,rfl⟩ | ⟨g,cap,ys,rfl,hb,h0,hg⟩:=h
 ·exact⟨0,.inl ⟨rfl,rfl⟩⟩
 ·refine⟨cap,.inr ⟨g,0,by simp,zav hg,fun j k l x hj hk=>?_⟩⟩
  rw [List.getElem?_map] at hj
  cases hx:xs[j]? with
  | none=>rw [hx] at hj;cases hj
  | some y =>
   rw [hx] at hj
   cases hj
   have hk0:k=0:=by
    have:=(List.getElem?_eq_some_iff.1 hk).1
    simp at this
    omega
   subst hk0
   cases hk
   refine zaa hg ?_
   have hjl:=(List.getElem?_eq_some_iff.1 hx).1
   rw [List.getElem?_toArray,List.map_append,List.getElem?_append_left (by simpa using hjl),List.getElem?_map]
   simp [hx]
theorem FlI.nx {w w' : World} {base:Nat} {v:Value} {xs:List Int} (h:FlI w base v xs) (n:Nx w w'):FlI w' base v xs:=by
 obtain h | ⟨g,cap,ys,rfl,hb,h0,hg⟩:=h
 ·exact .inl h
 ·exact .inr ⟨g,cap,ys,rfl,hb,h0,(n.block g (zav hg)).trans hg⟩
theorem FlI.base {w:World} {b b' : Nat} {v:Value} {xs:List Int} (h:FlI w b v xs) (hb:b'≤b):FlI w b' v xs:=by
 obtain h | ⟨g,cap,ys,rfl,hb',h0,hg⟩:=h
 ·exact .inl h
 ·exact .inr ⟨g,cap,ys,rfl,by omega,h0,hg⟩
theorem zoh (k:Nat):(Builtin.zeroCells (num 0).cells k).toList=(List.replicate k (0:Int)).map num:=by
 simp only [Builtin.zeroCells,Value.cells]
 apply List.ext_getElem
 ·simp
 ·intro i h1 h2
  simp [Nat.mod_one]
theorem zp5 (w:World) (g:Nat) (h:Int) (hg:w.heap[g]?=some (.cells #[num h] 3 (0,0))) (base:Nat) (hb:base≤g) (u:Value) (xs:List Int) (hu:FlI w base u xs) (hl:xs.length≤1000000) :
  ∃ v' w',(Builtin.append_ #[38,38] 38 #[.slice (some ⟨g,0,none⟩) 1 1,u]).run Try.prog w=.ok v' w'∧FlI w' base v' (h :: xs)∧w.grownBy w' none:=by
 obtain⟨i,hi,hz,hs,hby⟩:=T38.info
 obtain⟨rfl,rfl⟩ | ⟨b,cap,ys,rfl,hbb,h0,hgb⟩:=hu
 ·refine⟨.slice (some ⟨g,0,none⟩) 1 1,w,?_,.inr ⟨g,1,[],rfl,hb,by simp,hg⟩,World.grownBy.refl _ _⟩
  simp [Builtin.append_,run_underlying T38.und,sizeOf,typeInfo,hi,Builtin.lenOf,Builtin.firstCells,storeCells]
 ·have hS:FlI w base (.slice (some ⟨b,0,none⟩) xs.length cap) xs:=.inr ⟨b,cap,ys,rfl,hbb,h0,hgb⟩
  have hr:=run_append_grow (P:=Try.prog) w 38 38 3 i (num 0) T38.und hi hz ⟨g,0,none⟩ 1 1 [num h] (by rw [hs];rfl) (fun j v hv=>by
   have hj:j=0:=by have:=(List.getElem?_eq_some_iff.1 hv).1;simp at this;omega
   subst hj
   cases hv
   rw [addr_add]
   exact zaa hg rfl) ⟨b,0,none⟩ xs.length cap (xs.map num) (by rw [hs];simp) (fun j v hv=>by
   rw [addr_add,Nat.zero_add]
   refine zaa hgb ?_
   have hjl:=(List.getElem?_eq_some_iff.1 hv).1
   rw [List.length_map] at hjl
   rw [List.getElem?_toArray,List.map_append,List.getElem?_append_left (by simpa using hjl)]
   exact hv) (by omega) (by omega) (growslice_fits (by omega) (by rw [hby];omega))
  refine⟨_,_,hr,.inr ⟨w.heap.size,grownCap w (1+xs.length) 1 3,List.replicate (grownCap w (1+xs.length) 1 3-(1+xs.length)) 0,?_,by have:=zav hg;omega,by simp,?_⟩,⟨rfl,rfl,rfl,by simp,fun k hk _=>heap_alloc_old w.drew _ hk⟩⟩
  ·rw [List.length_cons,Nat.add_comm]
  ·refine (heap_alloc_new w.drew _).trans (congrArg some (congrArg (fun c=>Obj.cells c 3 (0,0)) ?_))
   apply Array.ext'
   simp only [Array.toList_append,zoh,List.map_append,List.map_cons,List.cons_append]
   rfl
theorem zj8 {F:Fence} {nF:Nat} {w:World} {ops:Array Oper} {rest:List Oper} {o:Oper} {a:Act} {Q:Exit→Act→World→Prop} (hgd:o.guard=none) (s x:Operand)
  (ho:o.op=.call { callee:=.builtin .append,args:=#[s,x],argTypes:=#[38,38] }) (hty:o.type=38) (g:Nat) (h:Int) (hs:a.eval s=.slice (some ⟨g,0,none⟩) 1 1) (hg:w.heap[g]?=some (.cells #[num h] 3 (0,0))) (base:Nat) (hb:base≤g) (u:Value) (xs:List Int) (hx:a.eval x=u) (hu:FlI w base u xs) (hl:xs.length≤1000000)
  (hK:∀ v' w',FlI w' base v' (h :: xs)→w.grownBy w' none→wpListIn F nF Try.prog ops Q rest (a.put o.dst v') w') :
  wpListIn F nF Try.prog ops Q (o :: rest) a w:=by
 refine wpListIn_plain hgd fun K hK'=>?_
 obtain⟨v',w',r1,r2,r3⟩:=zp5 w g h hg base hb u xs hu hl
 unfold Oper.wpIn
 refine⟨by simp [Oper.about,ho,resolve,Target.leads,Sem.run_pure],?_⟩
 rw [Oper.semAt_plain F _ _ (by rw [ho];intro c hc';cases hc')]
 simp [execOp,ho,resolve,invoke,builtin,hs,hx,hty,r1,Result.andThen]
 exact hK' _ _ (hK v' w' r2 r3)
end Go.Proofs.Ytedomogjmhommaa
namespace Go.Proofs.Ytedomogjmhommaa
open Go.RowKit Go.Shelf
abbrev blV (v:Value) (b:Bool):Value:=.tuple #[v,.bool b]
abbrev BL (d:Dry) (B k:Nat):Prop:=∀ (l:List St) (was:Int) (w:World) (M n:Nat),StoveAt w B d→SetM w M n (·∈l)→(∀ s∈l,s.Ok d.heats.length)→0≤was∧was≤4→n * 4 ^ (d.steps.length-k)≤1000000 →
 CallsIn FW 0 Try.prog 97 #[ptr B,num k,.map (some M),num was] w fun e w'=>∃ v,e=.returned (blV v (zaY d (d.steps.drop k) l was).2)∧Nx w w'∧FlI w' w.heap.size v (zaY d (d.steps.drop k) l was).1
theorem zp3 {t:Array Value} {W:World} {v:Value} {b:Bool} (h1:t[10]?=some v) (h2:t[11]?=some (.bool b)):(results Try.f66 t).run Try.prog W=.ok (blV v b) W:=by
 simp [results,Try.results66,go_sem,h1,h2]
theorem zp4 {t:Array Value} {W:World} {v:Value} {b:Bool} (h1:t[8]?=some v) (h2:t[9]?=some (.bool b)):(results Try.f97 t).run Try.prog W=.ok (blV v b) W:=by
 simp [results,Try.results97,go_sem,h1,h2]
theorem zgD (d:Dry) (hO:d.Ok) (B k:Nat) (x:Stp) (hx:d.steps[k]?=some x) (ih:BL d B (k+1)) (l:List St) (was:Int) (w:World) (M n h:Nat) (hst:StoveAt w B d) (hM:SetM w M n (·∈l)) (hl:∀ s∈l,s.Ok d.heats.length) (hw:0≤was∧was≤4) (hn:n * 4 ^ (d.steps.length-k)≤1000000) (hh:h<d.heats.length) :
  CallsIn FW 0 Try.prog 66 #[ptr B,num k,.map (some M),num was,num h] w fun e w'=>∃ v,e=.returned (blV v (zbt d (zaY d (d.steps.drop (k+1))) x l was h).2)∧Nx w w'∧FlI w' w.heap.size v (zbt d (zaY d (d.steps.drop (k+1))) x l was h).1:=by
 have hkl:k<d.steps.length:=(List.getElem?_eq_some_iff.1 hx).1
 have hs5:=hO.s5
 have hstx:=hO.st x (List.mem_of_getElem? hx)
 have hh4:=hO.h4
 obtain⟨v,c7,hsl⟩:=hst.stages
 obtain⟨a,cap,rfl⟩:=hsl.cases
 rw [List.length_map] at c7 hsl
 obtain⟨b,off,rfl,hbl,hcl⟩:=hsl.get (by simp;omega)
 have e0:w.cell? ⟨b,off+k * 7,none⟩=some (num x.lo):=Sl.at hcl (Nx.refl w) hbl hx 0 (v:=num x.lo) rfl
 have e1:w.cell? ⟨b,off+k * 7+1,none⟩=some (num x.hi):=Sl.at hcl (Nx.refl w) hbl hx 1 (v:=num x.hi) rfl
 have e2:w.cell? ⟨b,off+k * 7+2,none⟩=some (.bool x.tended):=Sl.at hcl (Nx.refl w) hbl hx 2 (v:=.bool x.tended) rfl
 have e3:w.cell? ⟨b,off+k * 7+3,none⟩=some (num x.wlo):=Sl.at hcl (Nx.refl w) hbl hx 3 (v:=num x.wlo) rfl
 have e4:w.cell? ⟨b,off+k * 7+4,none⟩=some (num x.whi):=Sl.at hcl (Nx.refl w) hbl hx 4 (v:=num x.whi) rfl
 have e5:w.cell? ⟨b,off+k * 7+5,none⟩=some (num x.col):=Sl.at hcl (Nx.refl w) hbl hx 5 (v:=num x.col) rfl
 have e6:w.cell? ⟨b,off+k * 7+6,none⟩=some (num d.heats.length):=Sl.at hcl (Nx.refl w) hbl hx 6 (v:=num d.heats.length) rfl
 have hBl:=hst.lt
 clear hsl hcl
 have hp1:1≤4 ^ (d.steps.length-k):=Nat.one_le_pow _ _ (by omega)
 have hpk:4 ^ (d.steps.length-k)=4 * 4 ^ (d.steps.length-(k+1)):=by
  rw [show d.steps.length-k=(d.steps.length-(k+1))+1 by omega,Nat.pow_succ]
  omega
 have hn1:n≤1000000000:=by
  have:=Nat.mul_le_mul_left n hp1
  omega
 have hn4:4 * n * 4 ^ (d.steps.length-(k+1))≤1000000:=by
  rw [hpk,← Nat.mul_assoc,Nat.mul_comm n 4] at hn
  exact hn
 have k91:=fun (w1:World)=>zkz d.heats.length x was h w1 (by omega) (by omega)
 have k75:=fun (w1:World) (n1:Nx w w1)=>zgj d hO B k x hx M n l hl h _ (zdW hh) hn1 w1 (hst.nx n1) (hM.kept (n1.grown none) (by simp))
 have hok:∀ s∈afterL d x h l,s.Ok d.heats.length:=fun t ht=>by
  obtain⟨s,hs,a,ha,rfl⟩:=mem_after.1 ht
  have:=zeI ha
  exact zep hO (List.mem_of_getElem? (zdW hh)) (hl s hs) (by omega) (by omega)
 obtain⟨g,hg⟩:∃ g,zbt d (zaY d (d.steps.drop (k+1))) x l was h=g:=⟨_,rfl⟩
 rw [hg]
 have HG:=Lib.hid hg
 have HN4:=Lib.hid hn4
 clear hg hp1 hpk hn hn4 hn1
 cases hm:mayB d.heats.length x was h with
 | false =>
  have HR:Hid (g=([],false)):=by show _=_;rw [← HG.out];unfold zbt;rw [if_neg (by rw [hm];simp)]
  rw [hm] at k91
  gi_enter Try.func66,Try.ntmps66
  gi_wp2_with (first | (gi_at_call 91;refine CallsIn.mono (k91 _) ?_;rintro e w2 ⟨rfl,n2⟩) | gi_in)
  refine bodyPost_ret (zp3 rfl rfl) rfl ⟨_,by rw [HR.out]<;>rfl,n2,.inl ⟨rfl,by rw [HR.out]⟩⟩
 | true =>
  rw [hm] at k91
  cases hkp:keepL d x h l with
  | false =>
   have HR:Hid (g=([],false)):=by show _=_;rw [← HG.out];unfold zbt;rw [if_neg (by rw [hkp];simp)]
   rw [hkp] at k75
   gi_enter Try.func66,Try.ntmps66
   gi_wp2_with (first | (gi_at_call 91;refine CallsIn.mono (k91 _) ?_;rintro e w2 ⟨rfl,n2⟩) | (gi_at_call 75;refine CallsIn.mono (k75 _ n2) ?_;rintro e w3 ⟨M',rfl,n3,hM3,hl3⟩) | gi_in)
   refine bodyPost_ret (zp3 rfl rfl) rfl ⟨_,by rw [HR.out]<;>rfl,n2.trans n3,.inl ⟨rfl,by rw [HR.out]⟩⟩
  | true =>
   have HR:Hid (g=((h:Int) :: (zaY d (d.steps.drop (k+1)) (afterL d x h l) h).1,(zaY d (d.steps.drop (k+1)) (afterL d x h l) h).2)):=by show _=_;rw [← HG.out];unfold zbt;rw [if_pos ⟨hm,hkp⟩]
   rw [hkp] at k75
   have k97:=fun (w3:World) (M' : Nat) (n3:Nx w w3) (hM3:SetM w3 M' (4 * n) (·∈afterL d x h l))=>ih (afterL d x h l) h w3 M' (4 * n) (hst.nx n3) hM3 hok (by omega) HN4.out
   have hbl:=zeC d (d.steps.drop (k+1)) (afterL d x h l) h
   rw [List.length_drop] at hbl
   rw [show ((k+1:Nat):Int)=(k:Int)+1 by omega] at k97
   generalize zaY d (d.steps.drop (k+1)) (afterL d x h l) h=q at *
   obtain⟨q1,q2⟩:=q
   dsimp only at k97 HR hbl
   gi_enter Try.func66,Try.ntmps66
   gi_upto_region 7 with (first | (gi_at_call 91;refine CallsIn.mono (k91 _) ?_;rintro e w2 ⟨rfl,n2⟩) | (gi_at_call 75;refine CallsIn.mono (k75 _ n2) ?_;rintro e w3 ⟨M',rfl,n3,hM3,hl3⟩) | (gi_at_call 97;refine CallsIn.mono (k97 _ _ (n2.trans n3) hM3) ?_;rintro e w4 ⟨v4,rfl,n4,hF4⟩) | gi_in)
   have nw4:=n2.trans (n3.trans n4)
   have hF:=hF4.base (b':=w.heap.size) (by have:=n2.size;have:=n3.size;omega)
   clear hF4 k75 k91 k97
   gi_wp2_with (first | (gi_at_builtin;refine zj8 rfl _ _ rfl rfl w4.heap.size h rfl zaT w.heap.size nw4.size v4 q1 rfl (hF.nx (zaj (Nx.refl _) _)) (by omega) ?_;intro v5 w5 hF5 hg5;simp only [Act.put,List.setIfInBounds_toArray,List.set_cons_succ,List.set_cons_zero]) | gi_in)
   refine bodyPost_ret (zp3 rfl rfl) rfl ⟨_,by rw [HR.out]<;>rfl,Below.grown (zaj nw4 _) hg5 (zaj nw4 _).size (fun r e=>by cases e),by rw [HR.out];exact hF5⟩
theorem zkb (d:Dry) (hO:d.Ok) (B:Nat):BL d B d.steps.length:=by
 intro l was w M n hst hM hl hw hn
 rw [List.drop_length]
 obtain⟨v,c7,hsl⟩:=hst.stages
 obtain⟨a,cap,rfl⟩:=hsl.cases
 rw [List.length_map] at c7
 have hBl:=hst.lt
 have hs5:=hO.s5
 clear hsl hn
 gi_enter Try.func97,Try.ntmps97
 gi_wp2
 exact bodyPost_ret (zp4 rfl rfl) rfl ⟨_,rfl,Nx.refl _,.inl ⟨rfl,rfl⟩⟩
theorem zi0 (d:Dry) (hO:d.Ok) (B k:Nat) (x:Stp) (hx:d.steps[k]?=some x) (ih:BL d B (k+1)):BL d B k:=by
 intro l was w M n hst hM hl hw hn
 have k66:=fun (h:Nat) (hh:h<d.heats.length) (w1:World) (n1:Nx w w1)=>zgD d hO B k x hx ih l was w1 M n h (hst.nx n1) (hM.kept (n1.grown none) (by simp)) hl hw hn hh
 have hkl:k<d.steps.length:=(List.getElem?_eq_some_iff.1 hx).1
 rw [zdx hx]
 obtain⟨v,c7,hsl⟩:=hst.stages
 obtain⟨a,cap,rfl⟩:=hsl.cases
 rw [List.length_map] at c7
 obtain⟨v2,ch,hsh⟩:=hst.heats
 obtain⟨a2,cap2,rfl⟩:=hsh.cases
 rw [List.length_map] at ch
 have hBl:=hst.lt
 have hs5:=hO.s5
 have hh4:=hO.h4
 have hkne:((k:Int) == (d.steps.length:Int))=false:=beq_false_of_ne (by omega)
 obtain⟨g,hg⟩:∃ g,zaY d (x :: d.steps.drop (k+1)) l was=g:=⟨_,rfl⟩
 rw [hg]
 have HG:Hid (zdz (zbt d (zaY d (d.steps.drop (k+1))) x l was) d.heats.length=g):=hg
 generalize zbt d (zaY d (d.steps.drop (k+1))) x l was=p at HG k66
 clear hsl hn hg hsh
 gi_enter Try.func97,Try.ntmps97
 gi_wp2
 gi_loopw [26] (fun i wr=>∃ q:Nat,q≤d.heats.length∧i=num q∧(∀ j,j<q→(p j).2=false)∧Nx w wr) (fun i _=>d.heats.length-(intOf i).toNat)
 case atStart=>exact⟨0,Nat.zero_le _,rfl,fun j h=>absurd h (Nat.not_lt_zero _),Nx.refl _⟩
 case round =>
  obtain⟨q,hq,rfl,hbad,nr⟩:=hrel
  have HB:=Lib.hid hbad
  clear hbad c7 ch
  by_cases hlt:q<d.heats.length
  ·have k66:=k66 q hlt wr nr
   cases hp:(p q).2 with
   | true =>
    rw [hp] at k66
    have HR:Hid (p q=g):=by show _=_;rw [← HG.out];exact (zgB HB.out hlt hp).symm
    have HP:=Lib.hid hp
    clear hp
    gi_wp2_with (first | (gi_at_call 66;refine CallsIn.mono k66 ?_;rintro e w2 ⟨v2,rfl,n2,hF2⟩) | gi_in)
    refine bodyPost_ret (zp4 rfl rfl) rfl ⟨_,by rw [← HR.out,HP.out]<;>rfl,nr.trans n2,by rw [← HR.out];exact hF2.base (by have:=nr.size;omega)⟩
   | false =>
    rw [hp] at k66
    have hp':=Lib.hid hp
    clear hp
    gi_wp2_with (first | (gi_at_call 66;refine CallsIn.mono k66 ?_;rintro e w2 ⟨v2,rfl,n2,hF2⟩) | gi_in)
    exact⟨⟨q+1,hlt,by simp,fun j hj=>by
     rcases Nat.lt_succ_iff_lt_or_eq.1 hj with hj | rfl
     ·exact HB.out j hj
     ·exact hp'.out,nr.trans n2⟩,by simp [intOf];omega⟩
  ·obtain rfl:q=d.heats.length:=by omega
   have HR:Hid (g=([],false)):=by show _=_;rw [← HG.out];exact zhE HB.out
   gi_wp2
   exact bodyPost_ret (zp4 rfl rfl) rfl ⟨_,by rw [HR.out]<;>rfl,nr,.inl ⟨rfl,by rw [HR.out]⟩⟩
theorem zgl (d:Dry) (hO:d.Ok) (B:Nat):∀ (j k:Nat),k+j=d.steps.length→BL d B k
 | 0,k,h=>by
  obtain rfl:k=d.steps.length:=by omega
  exact zkb d hO B
 | j+1,k,h=>zi0 d hO B k _ (List.getElem?_eq_getElem (by omega)) (zgl d hO B j (k+1) (by omega))
end Go.Proofs.Ytedomogjmhommaa
namespace Go.Proofs.Ytedomogjmhommaa
open Go.RowKit Go.Shelf
def zci (d:Dry) (plan:List Int):Nat→List St
 | 0=>[d.start]
 | i+1=>match d.steps[i]?,plan[i]? with | some x,some h=>afterL d x h.toNat (zci d plan i) | _,_=>[]
def zco (f:St→Int):List St→Int×Int
 | []=>(0,0)
 | s :: l=>(l.foldl (fun m t=>min m (f t)) (f s),l.foldl (fun m t=>max m (f t)) (f s))
def zcp (d:Dry) (plan:List Int):(Int×Int)×(Int×Int)×Int :=
 if zbp d plan≠0 then ((0,0),(0,0),zbp d plan) else (zco (fun s=>d.start.w-s.w) (zci d plan plan.length),zco (fun s=>d.start.c-s.c) (zci d plan plan.length),0)
def IsSpan (f:St→Int) (l:List St) (p:Int×Int):Prop:=((∃ s∈l,f s=p.1)∧∀ s∈l,p.1≤f s)∧(∃ s∈l,f s=p.2)∧∀ s∈l,f s≤p.2
theorem IsSpan.unique {f:St→Int} {l k:List St} {p q:Int×Int} (h:IsSpan f l p) (h2:IsSpan f k q) (e:∀ s,s∈l↔s∈k):p=q:=by
 obtain⟨⟨⟨s1,a1,b1⟩,c1⟩,⟨s2,a2,b2⟩,c2⟩:=h
 obtain⟨⟨⟨t1,x1,y1⟩,z1⟩,⟨t2,x2,y2⟩,z2⟩:=h2
 have h1:=c1 t1 ((e t1).2 x1)
 have h2:=z1 s1 ((e s1).1 a1)
 have h3:=c2 t2 ((e t2).2 x2)
 have h4:=z2 s2 ((e s2).1 a2)
 refine Prod.ext ?_ ?_<;>omega
theorem IsSpan.one (f:St→Int) (s:St):IsSpan f [s] (f s,f s):=⟨⟨⟨s,by simp,rfl⟩,by simp⟩,⟨s,by simp,rfl⟩,by simp⟩
theorem IsSpan.cons {f:St→Int} {l:List St} {p:Int×Int} (h:IsSpan f l p) (s:St):IsSpan f (s :: l) (min p.1 (f s),max p.2 (f s)):=by
 obtain⟨⟨⟨s1,a1,b1⟩,c1⟩,⟨s2,a2,b2⟩,c2⟩:=h
 refine⟨⟨?_,fun t ht=>?_⟩,?_,fun t ht=>?_⟩
 ·by_cases hlt:p.1≤f s
  ·exact⟨s1,List.mem_cons_of_mem _ a1,by dsimp only;omega⟩
  ·exact⟨s,List.mem_cons_self ..,by dsimp only;omega⟩
 ·rcases List.mem_cons.1 ht with rfl | ht
  ·dsimp only;omega
  ·have:=c1 t ht;dsimp only;omega
 ·by_cases hlt:f s≤p.2
  ·exact⟨s2,List.mem_cons_of_mem _ a2,by dsimp only;omega⟩
  ·exact⟨s,List.mem_cons_self ..,by dsimp only;omega⟩
 ·rcases List.mem_cons.1 ht with rfl | ht
  ·dsimp only;omega
  ·have:=c2 t ht;dsimp only;omega
theorem IsSpan.congr {f:St→Int} {l k:List St} {p:Int×Int} (h:IsSpan f l p) (e:∀ s,s∈l↔s∈k):IsSpan f k p:=by
 obtain⟨⟨⟨s1,a1,b1⟩,c1⟩,⟨s2,a2,b2⟩,c2⟩:=h
 exact⟨⟨⟨s1,(e s1).1 a1,b1⟩,fun s hs=>c1 s ((e s).2 hs)⟩,⟨s2,(e s2).1 a2,b2⟩,fun s hs=>c2 s ((e s).2 hs)⟩
theorem zjJ (f:St→Int):∀ (l k:List St) (p:Int×Int),IsSpan f k p→IsSpan f (k++l) (l.foldl (fun m t=>min m (f t)) p.1,l.foldl (fun m t=>max m (f t)) p.2)
 | [],k,p,h=>by rw [List.append_nil];exact h
 | s :: l,k,p,h=>by
  have h1:=zjJ f l (k++[s]) _ ((h.cons s).congr (k:=k++[s]) (fun t=>by simp [or_comm]))
  rw [List.append_assoc] at h1
  exact h1
theorem zdK (f:St→Int) {l:List St} (h:l≠[]):IsSpan f l (zco f l):=by
 cases l with
 | nil=>exact absurd rfl h
 | cons s l=>exact zjJ f l [s] (f s,f s) (IsSpan.one f s)
theorem zcY {d:Dry} {plan:List Int} {i:Nat} {x:Stp} {h:Int} (hx:d.steps[i]?=some x) (hh:plan[i]?=some h):zci d plan (i+1)=afterL d x h.toNat (zci d plan i):=by rw [zci,hx,hh]
theorem zie {d:Dry} (hO:d.Ok) {plan:List Int} (hp:∀ h∈plan,0≤h∧h≤(d.heats.length:Int)-1):∀ i,(∀ s∈zci d plan i,s.Ok d.heats.length)
 | 0,s,hs=>by
  simp only [zci,List.mem_singleton] at hs
  subst hs
  exact stF_ok.1 hO.start
 | i+1,s,hs=>by
  cases hx:d.steps[i]? with
  | none=>rw [zci,hx] at hs;exact absurd hs (List.not_mem_nil)
  | some x =>
   cases hh:plan[i]? with
   | none=>rw [zci,hx,hh] at hs;exact absurd hs (List.not_mem_nil)
   | some h =>
    rw [zcY hx hh] at hs
    obtain⟨t,ht,a,ha,rfl⟩:=mem_after.1 hs
    have h1:=hp h (List.mem_of_getElem? hh)
    have h2:=zeI ha
    have h3:=(hO.st x (List.mem_of_getElem? hx)).1
    exact zep hO (List.mem_of_getElem? (zdW (by omega))) (zie hO hp i t ht) (by omega) (by omega)
theorem zol {d:Dry} {x:Stp} {h:Nat} {l:List St} (hx:x.lo≤x.hi) (hl:l≠[]):afterL d x h l≠[]:=by
 cases l with
 | nil=>exact absurd rfl hl
 | cons s l =>
  intro e
  have hm:za9 d (zaM d h) s h x.lo∈afterL d x h (s :: l):=mem_after.2 ⟨s,by simp,x.lo,by
   simp only [Stp.damps,zbj,List.mem_map,List.mem_range]
   exact⟨0,by omega,by simp⟩,rfl⟩
  rw [e] at hm
  exact absurd hm (List.not_mem_nil)
theorem zf6 {d:Dry} (hO:d.Ok) {plan:List Int} (hl:plan.length=d.steps.length):∀ i,i≤plan.length→zci d plan i≠[]
 | 0,_=>by simp [zci]
 | i+1,hi=>by
  have hx:d.steps[i]?=some (d.steps[i]'(by omega)):=List.getElem?_eq_getElem (by omega)
  have hh:plan[i]?=some (plan[i]'(by omega)):=List.getElem?_eq_getElem (by omega)
  rw [zcY hx hh]
  exact zol (hO.st _ (List.mem_of_getElem? hx)).1.2.1 (zf6 hO hl i (by omega))
theorem zf2 {F:Fence} {nF:Nat} {w:World} {ops:Array Oper} {rest:List Oper} {o:Oper} {a:Act} {Q:Exit→Act→World→Prop} (hg:o.guard=none) (m x v:Operand) (t:TypeId) (hop:o.op=Op.insert t m x v) (ht:Try.prog.underlying t=some (.map 24 4)) (b n:Nat) (X:St→Prop) (s:St) (hm:a.eval m=.map (some b)) (hx:a.eval x=s.val) (hv:a.eval v=.bool true) (hs:StI s) (h:SetM w b n X) (hn:n<maxLen)
  (hK:∀ w',SetM w' b (n+1) (fun t=>X t∨t=s)→w.grownBy w' (some b)→wpListIn F nF Try.prog ops Q rest (a.put o.dst undef) w'):wpListIn F nF Try.prog ops Q (o :: rest) a w:=by
 refine wpListIn_plain hg fun K hK'=>?_
 obtain⟨l,hl⟩:=zl1 hs
 obtain⟨D,hown,hset⟩:=h
 obtain⟨w',hrun,r1,r2⟩:=hown.update K24 ht hn hl (plainElem_bool Try.underlying4 true)
 unfold Oper.wpIn
 refine⟨by simp [Oper.about,hop],?_⟩
 rw [Oper.semAt_plain F _ _ (by rw [hop];intro c hc';cases hc')]
 simp [execOp,hop,hm,hx,hv,hrun,Result.andThen]
 exact hK' _ _ (hK w' ⟨_,r1,zgN hset hl⟩ r2)
end Go.Proofs.Ytedomogjmhommaa
