import Derived.Test.YtedomogjmhommaaH44
import Derived.Test.YtedomogjmhommaaH19
import Derived.Test.YtedomogjmhommaaH21
import Derived.Test.YtedomogjmhommaaH13
import Derived.Test.YtedomogjmhommaaH12
import Derived.Test.YtedomogjmhommaaH17
import Derived.Test.YtedomogjmhommaaH10
set_option linter.all false
set_option maxRecDepth 100000
set_option maxHeartbeats 8000000
namespace Go.Proofs.Ytedomogjmhommaa
open Go.RowKit Go.Con Go.Conc
local instance zrs:Lone:=dryL
noncomputable def ops14:Array Oper:=opsOf y14
theorem zpG:y14=.region 14 ops14 false:=by kernel_rfl
theorem zpK {d:Dry} (hO:d.Ok) (x:Stp) (h:Nat):(ansB d x h).1.length≤1000000000:=by
 have hs:=hO.s5
 unfold ansB zbt
 split
 ·have:=zeC d (d.steps.drop 1) (afterL d x h [d.start]) h
  rw [List.length_drop] at this
  simp only [List.length_cons]
  omega
 ·simp
theorem zn8 {s x:List Int×Bool} (h:(x.2 && (!s.2 || decide (cmpL x.1 s.1<0)))=true):takeB s x=(x.1,true):=by
 unfold takeB
 rw [if_pos]
 simp only [Bool.and_eq_true,Bool.or_eq_true,Bool.not_eq_true',decide_eq_true_eq] at h
 exact h
theorem zpp {s x:List Int×Bool} (h:(x.2 && (!s.2 || decide (cmpL x.1 s.1<0)))=false):takeB s x=s:=by
 unfold takeB
 rw [if_neg]
 intro hc
 have:(x.2 && (!s.2 || decide (cmpL x.1 s.1<0)))=true:=by
  simp only [Bool.and_eq_true,Bool.or_eq_true,Bool.not_eq_true',decide_eq_true_eq]
  exact hc
 rw [this] at h
 cases h
theorem znN (E Arg Fz:Nat→Prop) (W0:World) (Q:(Nat→Prop)→(Nat→Prop)→Goroutine→World→Prop) (cs:List Frame) (k:List Item) (Wh:World) (p1 p0 pc B c n:Nat) (d:Dry) (r:R2) (x:Stp) (hd:DOk d x) (hn:n=d.heats.length) (hW:BW Wh p1 p0 pc B c d r)
  (hcont:∀ (W1:World) (t1:Array Value) (v:Value) (s:List Int×Bool),OldC Wh W1→BF t1 p1 p0 pc v s.2→Sl W1 v 1 (s.1.map one)→s=zdz (ansB d x) n→GoM Try.prog true E Fz Arg W0 Q ⟨true,c,0,zeX W0.heap.size d x⟩ [] (Fr 23 t1 k) cs W1) :
  ∀ (q j:Nat) (pend done:List Nat) (W:World) (t:Array Value) (v:Value) (s:List Int×Bool),pend.length=q→q+j=n→OldC Wh W→BF t p1 p0 pc v s.2→t[34]?=some (num n)→t[35]?=some (num j)→Sl W v 1 (s.1.map one)→s.1.length≤1000000000→BestB (ansB d x) done s→(∀ h,h<n→h∈pend∨h∈done)→(∀ h∈pend,h<n)→(∀ h∈done,h<n) →
   GoM Try.prog true E Fz Arg W0 Q ⟨true,c,0,zeX W0.heap.size d x⟩ pend (Fr 23 t (.code yX2 :: .inLoop yX2 :: .inBlock 3 :: k)) cs W:=by
 have h4:=hd.ok.h4
 have hpost:∀ kk own A v W,(⟨true,c,0,zeX W0.heap.size d x⟩:Ph).posts kk own A v W→zdR W0.heap.size (KB (ansB d x kk)) own A v W:=fun kk own A v W h=>h
 intro q
 induction q with
 | zero =>
  intro j pend done W t v s hp hj hO hB h34 h35 hv hl hbest hall hlt hlt2
  obtain rfl:pend=[]:=List.eq_nil_of_length_eq_zero hp
  obtain⟨sa,scap,rfl⟩:=hv.cases
  rw [List.length_map] at hv hB
  rw [zog]
  refine Gm.seq ?_
  refine Gm.lone (F:=FW) (fun t1 W1=>BF t1 p1 p0 pc (.slice sa s.1.length scap) s.2∧t1[36]?=some (.bool (decide ((j:Int)<n)))∧W1.heap=W.heap) rfl rfl trivial zbl (by kernel_rfl) (by kernel_rfl) (fun τ=>?_) ?_
  ·refine wpIn_mono (bl13 p0 p1 pc n j sa s.1.length scap s.2 t hB.size hB.h1 hB.h2 hB.h3 hB.h5 hB.h6 h34 h35 { W with tape:=τ }) ?_
   rintro e a w' ⟨k1,k2,⟨m,m1,m2,m3,m5,m6,m34,m35,m36⟩,rfl⟩
   exact⟨k1,k2,⟨m,m1,m2,m3,m5,m6⟩,m36,rfl⟩
  rintro t1 W1 ⟨hB1,h36,hW1⟩
  refine Gm.seq ?_
  have hb:decide ((j:Int)<n)=false:=by simp;omega
  refine Gm.cond (b:=false) (by rw [← hb];exact zam h36) rfl ?_
  refine Gm.exit [.code (.seq (.block 4 (.seq y14 (.seq x23_15 (.cond (.tmp 51) y16 .skip)))) y17),.inLoop (.seq y13 (.seq (.cond (.tmp 36) .skip (.exit 3)) (.seq (.block 4 (.seq y14 (.seq x23_15 (.cond (.tmp 51) y16 .skip)))) y17))),.inBlock 3] rfl ?_
  exact hcont W1 t1 _ s (hO.trans (OldC.same hW1)) hB1 (hv.oc (OldC.same hW1)) (hbest.all (fun k hk=>(hall k hk).resolve_left (List.not_mem_nil)) hlt2)
 | succ q ih =>
  intro j pend done W t v s hp hj hO hB h34 h35 hv hl hbest hall hlt hlt2
  have hne:pend≠[]:=by intro e;rw [e] at hp;cases hp
  obtain⟨sa,scap,rfl⟩:=hv.cases
  rw [List.length_map] at hv hB
  rw [zog]
  refine Gm.seq ?_
  refine Gm.lone (F:=FW) (fun t1 W1=>(BF t1 p1 p0 pc (.slice sa s.1.length scap) s.2∧t1[34]?=some (num n)∧t1[35]?=some (num j))∧t1[36]?=some (.bool (decide ((j:Int)<n)))∧W1.heap=W.heap) rfl rfl trivial zbl (by kernel_rfl) (by kernel_rfl) (fun τ=>?_) ?_
  ·refine wpIn_mono (bl13 p0 p1 pc n j sa s.1.length scap s.2 t hB.size hB.h1 hB.h2 hB.h3 hB.h5 hB.h6 h34 h35 { W with tape:=τ }) ?_
   rintro e a w' ⟨k1,k2,⟨m,m1,m2,m3,m5,m6,m34,m35,m36⟩,rfl⟩
   exact⟨k1,k2,⟨⟨m,m1,m2,m3,m5,m6⟩,m34,m35⟩,m36,rfl⟩
  rintro t1 W1 ⟨⟨hB1,q34,q35⟩,h36,hW1⟩
  refine Gm.seq ?_
  have hb:decide ((j:Int)<n)=true:=by simp;omega
  refine Gm.cond (b:=true) (by rw [← hb];exact zam h36) rfl ?_
  refine Gm.skip (Gm.seq (Gm.block (Gm.seq ?_)))
  have hO1:OldC Wh W1:=hO.trans (OldC.same hW1)
  have hv1:=hv.oc (OldC.same hW1)
  clear hO hB h34 h35 h36 hv hW1
  rw [zpG]
  refine Gm.region ?_
  rw [show List.range ops14.size=[0,1,2,3] by kernel_rfl]
  have hz:=hB1.size
  refine Gm.op (o:=⟨some 37,.load 111 (.tmp 6),_,_,_,none⟩) (.chan (some (2 * c))) W1 rfl rfl (by kernel_rfl) rfl (zgP _ (zam hB1.h6) (hW.oc hO1).cc) id ?_
  have rest:∀ (kk:Nat) (W2:World) (ao:Option Addr) (cap:Nat),kk∈pend→OldC W1 W2→Sl W2 (.slice ao (ansB d x kk).1.length cap) 1 ((ansB d x kk).1.map one) →
    GoM Try.prog true E Fz Arg W0 Q ⟨true,c,0,zeX W0.heap.size d x⟩ (pend.erase kk) (Fr 23 (putD (putD t1 (some 37) (.chan (some (2 * c)))) (some 38) (.agg #[.slice ao (ansB d x kk).1.length cap,.bool (ansB d x kk).2]))
     (.inRegion ops14 [2,3] :: .code (.seq x23_15 (.cond (.tmp 51) y16 .skip)) :: .inBlock 4 :: .code y17 :: .inLoop (.seq y13 (.seq (.cond (.tmp 36) .skip (.exit 3)) (.seq (.block 4 (.seq (.region 14 ops14 false) (.seq x23_15 (.cond (.tmp 51) y16 .skip)))) y17))) :: .inBlock 3 :: k)) cs W2:=by
   intro kk W2 ao cap hkk hO12 hx2
   have hxl:=zpK hd.ok x kk
   have hbest2:BestB (ansB d x) (kk :: done) (takeB s (ansB d x kk)):=hbest.step (fun h hf=>zko (d:=d) (rec:=zaY d (d.steps.drop 1)) (x:=x) (l:=[d.start]) (was:=d.start.h) hf) kk
   generalize hxs:takeB s (ansB d x kk)=tk at hbest2
   generalize ansB d x kk=xs at hx2 hxl hxs ⊢
   refine Gm.op (o:=⟨some 8,.alloc 115,_,_,_,none⟩) (ptr W2.heap.size) (W2.alloc (.cells #[.slice none 0 0,.bool false] 115)) rfl rfl (by kernel_rfl) rfl (ziX _) (fun h=>h.alloc rfl) ?_
   obtain⟨n3,s3,g3⟩:=al1 (w:=W2) (o1:=.cells #[.slice none 0 0,.bool false] 115 (0,0)) rfl
   generalize W2.alloc (.cells #[.slice none 0 0,.bool false] 115)=W3 at n3 s3 g3 ⊢
   have f3:∀ i,W3.frozen? ⟨W2.heap.size,i,none⟩=false:=fun i=>by unfold World.frozen?;dsimp only;rw [g3];simp
   refine Gm.skipOp (o:=⟨none,.store 115 (.tmp 8) (.tmp 38),_,_,_,none⟩) ((W3.setCell ⟨W2.heap.size,0,none⟩ (.slice ao xs.1.length cap)).setCell ⟨W2.heap.size,1,none⟩ (.bool xs.2)) rfl rfl (by kernel_rfl) rfl (zjX _ (zam (by simp [putD,hz])) (zam (by simp [putD,hz])) (zaa g3 rfl) (zaa g3 rfl) (f3 0) (f3 1)) (fun h=>(h.setCell _ _).setCell _ _) ?_
   have g4:=set2 (v0:=.slice ao xs.1.length cap) (v1:=.bool xs.2) g3
   have n4:Nx W2 ((W3.setCell ⟨W2.heap.size,0,none⟩ (.slice ao xs.1.length cap)).setCell ⟨W2.heap.size,1,none⟩ (.bool xs.2)):=(n3.set (Nat.le_refl _)).set (Nat.le_refl _)
   generalize (W3.setCell ⟨W2.heap.size,0,none⟩ (.slice ao xs.1.length cap)).setCell ⟨W2.heap.size,1,none⟩ (.bool xs.2)=W4 at g4 n4 ⊢
   have o4:OldC W1 W4:=hO12.trans (OldC.nx n4)
   have hx4:=hx2.oc (OldC.nx n4)
   have hv4:=hv1.oc o4
   have hO4:=hO1.trans o4
   clear n3 s3 g3 f3 n4 o4 hx2 hO12
   generalize hg:W2.heap.size=g at g4 ⊢
   have hB2:BF (putD (putD (putD (putD t1 (some 37) (.chan (some (2 * c)))) (some 38) (.agg #[.slice ao xs.1.length cap,.bool xs.2])) (some 8) (ptr g)) none undef) p1 p0 pc (.slice sa s.1.length scap) s.2:=⟨by simp [putD,hz],by simp [putD,hB1.h1],by simp [putD,hB1.h2],by simp [putD,hB1.h3],by simp [putD,hB1.h5],by simp [putD,hB1.h6]⟩
   have r34:(putD (putD (putD (putD t1 (some 37) (.chan (some (2 * c)))) (some 38) (.agg #[.slice ao xs.1.length cap,.bool xs.2])) (some 8) (ptr g)) none undef)[34]?=some (num n):=by simp [putD,q34]
   have r35:(putD (putD (putD (putD t1 (some 37) (.chan (some (2 * c)))) (some 38) (.agg #[.slice ao xs.1.length cap,.bool xs.2])) (some 8) (ptr g)) none undef)[35]?=some (num j):=by simp [putD,q35]
   have r8:(putD (putD (putD (putD t1 (some 37) (.chan (some (2 * c)))) (some 38) (.agg #[.slice ao xs.1.length cap,.bool xs.2])) (some 8) (ptr g)) none undef)[8]?=some (ptr g):=by simp [putD,hz]
   generalize putD (putD (putD (putD t1 (some 37) (.chan (some (2 * c)))) (some 38) (.agg #[.slice ao xs.1.length cap,.bool xs.2])) (some 8) (ptr g)) none undef=t2 at hB2 r34 r35 r8 ⊢
   refine Gm.regionEnd (Gm.seq ?_)
   generalize hbb:(xs.2 && (!s.2 || decide (cmpL xs.1 s.1<0)))=bb
   refine Gm.lone (F:=FW) (fun t3 W5=>(BF t3 p1 p0 pc (.slice sa s.1.length scap) s.2∧t3[8]?=some (ptr g)∧t3[34]?=some (num n)∧t3[35]?=some (num j))∧t3[51]?=some (.bool bb)∧W5.heap=W4.heap) rfl rfl trivial zbl (by kernel_rfl) (by kernel_rfl) (fun τ=>?_) ?_
   ·refine wpIn_mono (bl15 p0 p1 pc n j sa scap s.1 xs.1 s.2 xs.2 g (.slice ao xs.1.length cap) t2 hB2.size hB2.h1 hB2.h2 hB2.h3 hB2.h5 hB2.h6 r8 r34 r35 { W4 with tape:=τ } g4 (hx4.oc (OldC.same rfl)) (hv4.oc (OldC.same rfl)) hxl hl) ?_
    rintro e a w' ⟨k1,k2,⟨m,m1,m2,m3,m5,m6,m8,m34,m35,m51⟩,rfl⟩
    rw [hbb] at m51
    exact⟨k1,k2,⟨⟨m,m1,m2,m3,m5,m6⟩,m8,m34,m35⟩,m51,rfl⟩
   rintro t3 W5 ⟨⟨hB3,u8,u34,u35⟩,h51,hW5⟩
   have c5:W5.cell? ⟨g,0,none⟩=some (.slice ao xs.1.length cap):=zaa (by rw [hW5];exact g4) rfl
   have hx5:=hx4.oc (OldC.same hW5)
   have hv5:=hv4.oc (OldC.same hW5)
   have hO5:=hO4.trans (OldC.same hW5)
   clear hx4 hv4 hO4 hB2 r34 r35 r8 g4
   have fin:∀ (W6:World) (t4:Array Value) (za:Option Addr) (zc:Nat) (s' : List Int×Bool),s'=takeB s xs→W6.heap=W5.heap→BF t4 p1 p0 pc (.slice za s'.1.length zc) s'.2→t4[34]?=some (num n)→t4[35]?=some (num j)→Sl W6 (.slice za s'.1.length zc) 1 (s'.1.map one)→s'.1.length≤1000000000 →
     GoM Try.prog true E Fz Arg W0 Q ⟨true,c,0,zeX W0.heap.size d x⟩ (pend.erase kk) (Fr 23 t4 (.inBlock 4 :: .code y17 :: .inLoop (.seq y13 (.seq (.cond (.tmp 36) .skip (.exit 3)) (.seq (.block 4 (.seq (.region 14 ops14 false) (.seq x23_15 (.cond (.tmp 51) y16 .skip)))) y17))) :: .inBlock 3 :: k)) cs W6:=by
    intro W6 t4 za zc s' hs' hW6 hB4 v34 v35 hv6 hl6
    refine Gm.inBlock ?_
    refine Gm.lone (F:=FW) (fun t5 W7=>(BF t5 p1 p0 pc (.slice za s'.1.length zc) s'.2∧t5[34]?=some (num n)∧t5[35]?=some (num (j+1)))∧W7.heap=W6.heap) rfl rfl trivial zbl (by kernel_rfl) (by kernel_rfl) (fun τ=>?_) ?_
    ·refine wpIn_mono (bl17 p0 p1 pc n j za s'.1.length zc s'.2 (by omega) t4 hB4.size hB4.h1 hB4.h2 hB4.h3 hB4.h5 hB4.h6 v34 v35 { W6 with tape:=τ }) ?_
     rintro e a w' ⟨k1,k2,⟨m,m1,m2,m3,m5,m6,m34,m35⟩,rfl⟩
     exact⟨k1,k2,⟨⟨m,m1,m2,m3,m5,m6⟩,m34,m35⟩,rfl⟩
    rintro t5 W7 ⟨⟨hB5,w34,w35⟩,hW7⟩
    refine Gm.inLoop ?_
    rw [← zpG,← zog]
    refine ih (j+1) (pend.erase kk) (kk :: done) W7 t5 _ s' (by rw [List.length_erase_of_mem hkk];omega) (by omega) (hO5.trans (OldC.same (hW7.trans hW6))) hB5 w34 w35 (hv6.oc (OldC.same hW7)) hl6 (by rw [hs',hxs];exact hbest2) (fun h hh=>?_) (fun h hh=>hlt h (List.mem_of_mem_erase hh)) fun h hh=>?_
    ·rcases hall h hh with h1 | h1
     ·by_cases e:h=kk
      ·exact .inr (by rw [e];exact List.mem_cons_self ..)
      ·exact .inl ((List.mem_erase_of_ne e).2 h1)
     ·exact .inr (List.mem_cons_of_mem _ h1)
    ·rcases List.mem_cons.1 hh with rfl | hh
     ·exact hlt _ hkk
     ·exact hlt2 h hh
   cases bb with
   | true =>
    refine Gm.cond (b:=true) (zam h51) rfl ?_
    refine Gm.lone (F:=FW) (fun t4 W6=>(BF t4 p1 p0 pc (.slice ao xs.1.length cap) true∧t4[34]?=some (num n)∧t4[35]?=some (num j))∧W6.heap=W5.heap) rfl rfl trivial zbl (by kernel_rfl) (by kernel_rfl) (fun τ=>?_) ?_
    ·refine wpIn_mono (bl16 p0 p1 pc n j sa s.1.length scap s.2 g ao xs.1.length cap t3 hB3.size hB3.h1 hB3.h2 hB3.h3 hB3.h5 hB3.h6 u34 u35 u8 { W5 with tape:=τ } c5) ?_
     rintro e a w' ⟨k1,k2,⟨m,m1,m2,m3,m5,m6,m34,m35⟩,rfl⟩
     exact⟨k1,k2,⟨⟨m,m1,m2,m3,m5,m6⟩,m34,m35⟩,rfl⟩
    rintro t4 W6 ⟨⟨hB4,v34,v35⟩,hW6⟩
    exact fin W6 t4 ao cap (xs.1,true) (zn8 hbb).symm hW6 hB4 v34 v35 (hx5.oc (OldC.same hW6)) hxl
   | false =>
    refine Gm.cond (b:=false) (zam h51) rfl ?_
    refine Gm.skip ?_
    exact fin W5 t3 sa scap s (zpp hbb).symm rfl hB3 u34 u35 hv5 hl
  refine Gm.recv (K:=fun kk=>KB (ansB d x kk)) (o:=⟨some 38,.recv 111 (.tmp 37) false,_,_,_,none⟩) (x:=.tmp 37) rfl rfl rfl (zam (by simp [putD,hz])) rfl hne (fun e w he=>zo3 e w he) hpost ?_ ?_
  ·rintro kk hkk h ⟨h1,h2⟩ _
   rw [h1 0]
   have:=rest kk W1 none 0 hkk (OldC.refl _) (by rw [h2];exact⟨0,.inl ⟨rfl,rfl⟩⟩)
   rw [h2] at this
   exact this
  ·rintro kk hkk h cells e fz ⟨cap,ys,h1,rfl,rfl,hpos,rfl⟩
   rw [h1]
   refine rest kk _ (some ⟨W1.heap.size,0,none⟩) cap hkk (OldC.heap (by simp) fun b hb=>by simp [Array.getElem?_push,Nat.ne_of_lt hb]) ?_
   exact FlI.sl (base:=0) (.inr ⟨W1.heap.size,cap,ys,rfl,Nat.zero_le _,hpos,by simp⟩)
end Go.Proofs.Ytedomogjmhommaa
namespace Go.Proofs.Ytedomogjmhommaa
open Go.RowKit Go.Con Go.Conc
local instance zrt:Lone:=dryL
noncomputable def ops6:Array Oper:=opsOf y6
theorem zrq:y6=.region 6 ops6 false:=by kernel_rfl
theorem zg0 (v u x:Value) (t:Array Value) (h:t[2]?=some v) (h5:t[3]?=some u) (h6:t[4]?=some x) (σ:Rn):ResultsC Try.prog Try.f23 (t.map (ren σ)) (ren σ (.tuple #[v,u,x])):=by
 have hr:Try.f23.results=#[.tmp 2,.tmp 3,.tmp 4]:=rfl
 have e4:(t.map (ren σ))[2]?=some (ren σ v):=by rw [Array.getElem?_map,h];rfl
 have e5:(t.map (ren σ))[3]?=some (ren σ u):=by rw [Array.getElem?_map,h5];rfl
 have e6:(t.map (ren σ))[4]?=some (ren σ x):=by rw [Array.getElem?_map,h6];rfl
 simp only [ren,renA,renL]
 refine fun w=>⟨?_,?_⟩
 ·simp [results,hr,h,h5,h6]
 ·simp [results,hr]
def zb5 (d:Dry):List Int×Bool×Int :=
 if dryF d≠0 then ([],false,dryF d) else if d.steps=[] then ([],true,0) else ((zaY d d.steps [d.start] d.start.h).1,(zaY d d.steps [d.start] d.start.h).2,0)
theorem zhz {d:Dry} (h:dryF d≠0):zb5 d=([],false,dryF d):=by unfold zb5;rw [if_pos h]
theorem zhA {d:Dry} (h:dryF d=0) (h2:d.steps=[]):zb5 d=([],true,0):=by unfold zb5;rw [if_neg (by simpa using h),if_pos h2]
theorem zhB {d:Dry} {x:Stp} (h:dryF d=0) (hx:d.steps[0]?=some x):zb5 d=((zdz (ansB d x) d.heats.length).1,(zdz (ansB d x) d.heats.length).2,0):=by
 have hne:d.steps≠[]:=by intro e;rw [e] at hx;cases hx
 have hs:d.steps=x :: d.steps.drop 1:=by
  cases hd:d.steps with
  | nil=>exact absurd hd hne
  | cons y l=>rw [hd] at hx;cases hx;rfl
 have hb:zaY d d.steps [d.start] d.start.h=zdz (ansB d x) d.heats.length:=by
  conv=>lhs;rw [hs]
  rfl
 unfold zb5
 rw [if_neg (by simpa using h),if_neg hne,hb]
theorem zk2 (E Fz Arg:Nat→Prop) (W0:World) (Q:(Nat→Prop)→(Nat→Prop)→Goroutine→World→Prop) (φ:Ph) (c0:Frame) (cs:List Frame) (W:World) (d:Dry) (ha sa:Option Addr) (hcap scap:Nat) (hd:DrySl W d ⟨.slice ha d.heats.length hcap,.slice sa d.steps.length scap⟩) (t:Array Value) (hs:t.size=57) (h0:t[0]?=some (d.val ⟨.slice ha d.heats.length hcap,.slice sa d.steps.length scap⟩))
  (hcont:∀ (φ1:Ph) (W1:World) (Fz1:Nat→Prop) (v:Value),OldC W W1→Sl W1 v 1 ((zb5 d).1.map one)→GoM Try.prog true E Fz1 Arg W0 Q φ1 [] (c0.finish (.tuple #[v,.bool (zb5 d).2.1,num (zb5 d).2.2])) cs W1) :
  GoM Try.prog true E Fz Arg W0 Q φ [] (Fr 23 t [.code b23]) (c0 :: cs) W:=by
 generalize hr:(⟨.slice ha d.heats.length hcap,.slice sa d.steps.length scap⟩:R2)=r at hd h0
 rw [zqr]
 refine Gm.seq ?_
 refine Gm.lone (F:=FW) (fun t1 W1=>(t1.size=57∧t1[1]?=some (ptr W.heap.size)∧t1[2]?=some (.slice none 0 0)∧t1[3]?=some (.bool false))∧W1.heap=(W.alloc (.cells (d.cellsA r) 27)).heap) rfl rfl trivial zbl (by kernel_rfl) (by kernel_rfl) (fun τ=>?_) ?_
 ·refine wpIn_mono (bl0 r.h r.s d t hs h0 { W with tape:=τ }) ?_
  rintro e a w' ⟨k1,k2,⟨m,m1,m2,m3,m4⟩,rfl⟩
  exact⟨k1,k2,⟨m,m1,m2,m3⟩,rfl⟩
 rintro t1 W1 ⟨⟨s1,m1,m2,m3⟩,hW1⟩
 have o1:OldC W W1:=OldC.al hW1
 have hb1:DBox W1 W.heap.size d r:=by
  obtain⟨_,h⟩:=DBox.of (w:=W) (d:=d) (r:=r) (fz:=(0,0)) (e:=27) rfl
  exact h.oc (OldC.same hW1)
 have hd1:=hd.oc o1
 generalize W.heap.size=p1 at m1 hb1
 clear hW1 hs h0
 refine Gm.seq ?_
 subst hr
 by_cases h:dryF d=0
 case neg =>
  refine Gm.lone (F:=FW) (fun t2 W2=>∃ p0,(t2.size=57∧t2[1]?=some (ptr p1)∧t2[2]?=some (.slice none 0 0)∧t2[3]?=some (.bool false)∧t2[4]?=some (num (dryF d))∧t2[5]?=some (ptr p0))∧OldC W1 W2) rfl rfl trivial zbl (by kernel_rfl) (by kernel_rfl) (fun τ=>?_) ?_
  ·refine wpIn_mono (zpL d p1 ha sa hcap scap t1 s1 m1 m2 m3 { W1 with tape:=τ } (hd1.oc (OldC.same rfl)) (hb1.oc (OldC.same rfl)) h) ?_
   rintro e a w' ⟨k1,k2,p0,n0,n1,n2,n3,n4,n5,n6,n7⟩
   exact⟨k1,k2,p0,⟨n0,n1,n2,n3,n4,n5⟩,OldC.heap n6 n7⟩
  rintro t2 W2 ⟨p0,⟨n0,n1,n2,n3,n4,n5⟩,o2⟩
  refine Gm.seq (Gm.block (Gm.seq ?_))
  refine Gm.lone (F:=FW) (fun t3 W3=>(t3.size=57∧t3[4]?=some (num (dryF d))∧t3[14]?=some (.bool true))∧OldC W2 W3) rfl rfl trivial zbl (by kernel_rfl) (by kernel_rfl) (fun τ=>?_) ?_
  ·refine wpIn_mono (bl2b p0 p1 (dryF d) h t2 n0 n1 n2 n3 n5 n4 { W2 with tape:=τ }) ?_
   rintro e a w' ⟨k1,k2,⟨j0,j1,j2,j3,j5,j4,j14⟩,rfl⟩
   exact⟨k1,k2,⟨j0,j4,j14⟩,OldC.same rfl⟩
  rintro t3 W3 ⟨⟨j0,j4,j14⟩,o3⟩
  refine Gm.cond (b:=true) (zam j14) rfl ?_
  refine Gm.seq ?_
  refine Gm.lone (F:=FW) (fun t4 W4=>(t4[2]?=some (.slice none 0 0)∧t4[3]?=some (.bool false)∧t4[4]?=some (num (dryF d)))∧OldC W3 W4) rfl rfl trivial zbl (by kernel_rfl) (by kernel_rfl) (fun τ=>?_) ?_
  ·refine wpIn_mono (bl3 (dryF d) t3 j0 j4 { W3 with tape:=τ }) ?_
   rintro e a w' ⟨k1,k2,⟨i0,i2,i3,i4⟩,rfl⟩
   exact⟨k1,k2,⟨i2,i3,i4⟩,OldC.same rfl⟩
  rintro t4 W4 ⟨⟨i2,i3,i4⟩,o4⟩
  refine Gm.ret Try.func23 (zg0 _ _ _ t4 i2 i3 i4) ?_
  have:=hcont φ W4 Fz (.slice none 0 0) (o1.trans (o2.trans (o3.trans o4))) (by rw [zhz h];exact⟨0,.inl ⟨rfl,rfl⟩⟩)
  rw [zhz h] at this
  exact this
 have hO:=zdc h
 have hsO:=stF_ok.1 hO.start
 have hsI:=hsO.i hO.h4.2
 have h4:=hO.h4
 refine Gm.lone (F:=FW) (fun t2 W2=>∃ p0 B,(t2.size=57∧t2[1]?=some (ptr p1)∧t2[2]?=some (.slice none 0 0)∧t2[3]?=some (.bool false)∧t2[4]?=some (num 0)∧t2[5]?=some (ptr p0))∧W2.cell? ⟨p0,0,none⟩=some (ptr B)∧StoveAt W2 B d∧OldC W1 W2) rfl rfl trivial zbl (by kernel_rfl) (by kernel_rfl) (fun τ=>?_) ?_
 ·refine wpIn_mono (zqt d p1 ha sa hcap scap t1 s1 m1 m2 m3 { W1 with tape:=τ } (hd1.oc (OldC.same rfl)) (hb1.oc (OldC.same rfl)) h) ?_
  rintro e a w' ⟨k1,k2,p0,B,n0,n1,n2,n3,n4,n5,n6,n7,n8,n9,n10⟩
  exact⟨k1,k2,p0,B,⟨n0,n1,n2,n3,n4,n5⟩,n7,n8,OldC.heap n9 n10⟩
 rintro t2 W2 ⟨p0,B,⟨n0,n1,n2,n3,n4,n5⟩,c0',hst,o2⟩
 have hb2:=hb1.oc o2
 have o12:=o1.trans o2
 clear hd1 hb1 s1 m1 m2 m3 o1 o2
 refine Gm.seq (Gm.block (Gm.seq ?_))
 refine Gm.lone (F:=FW) (fun t3 W3=>(t3.size=57∧t3[1]?=some (ptr p1)∧t3[2]?=some (.slice none 0 0)∧t3[3]?=some (.bool false)∧t3[5]?=some (ptr p0)∧t3[4]?=some (num 0)∧t3[14]?=some (.bool false))∧W3.heap=W2.heap) rfl rfl trivial zbl (by kernel_rfl) (by kernel_rfl) (fun τ=>?_) ?_
 ·refine wpIn_mono (bl2a p0 p1 t2 n0 n1 n2 n3 n5 n4 { W2 with tape:=τ }) ?_
  rintro e a w' ⟨k1,k2,k3,rfl⟩
  exact⟨k1,k2,k3,rfl⟩
 rintro t3 W3 ⟨⟨j0,j1,j2,j3,j5,j4,j14⟩,hW3⟩
 have o3:=OldC.same hW3
 have hb3:=hb2.oc o3
 refine Gm.cond (b:=false) (zam j14) rfl ?_
 refine Gm.seq ?_
 refine Gm.lone (F:=FW) (fun t4 W4=>(t4.size=57∧t4[1]?=some (ptr p1)∧t4[2]?=some (.slice none 0 0)∧t4[3]?=some (.bool false)∧t4[5]?=some (ptr p0)∧t4[4]?=some (num 0)∧t4[18]?=some (.bool ((d.steps.length:Int) == 0)))∧W4.heap=W3.heap) rfl rfl trivial zbl (by kernel_rfl) (by kernel_rfl) (fun τ=>?_) ?_
 ·refine wpIn_mono (bl4 p0 p1 ha sa d.heats.length hcap d.steps.length scap t3 j0 j1 j2 j3 j5 j4 { W3 with tape:=τ } (hb3.at' 0 _ rfl) (hb3.at' 6 _ rfl)) ?_
  rintro e a w' ⟨k1,k2,k3,rfl⟩
  exact⟨k1,k2,k3,rfl⟩
 rintro t4 W4 ⟨⟨i0,i1,i2,i3,i5,i4,i18⟩,hW4⟩
 have o4:=o3.trans (OldC.same hW4)
 cases hsteps:d.steps with
 | nil =>
  rw [hsteps] at i18
  refine Gm.cond (b:=true) (zam i18) rfl ?_
  refine Gm.seq ?_
  refine Gm.lone (F:=FW) (fun t5 W5=>(t5[2]?=some (.slice none 0 0)∧t5[3]?=some (.bool true)∧t5[4]?=some (num 0))∧OldC W4 W5) rfl rfl trivial zbl (by kernel_rfl) (by kernel_rfl) (fun τ=>?_) ?_
  ·refine wpIn_mono (bl5 t4 i0 { W4 with tape:=τ }) ?_
   rintro e a w' ⟨k1,k2,⟨l0,l2,l3,l4⟩,rfl⟩
   exact⟨k1,k2,⟨l2,l3,l4⟩,OldC.same rfl⟩
  rintro t5 W5 ⟨⟨l2,l3,l4⟩,o5⟩
  refine Gm.ret Try.func23 (zg0 _ _ _ t5 l2 l3 l4) ?_
  have:=hcont φ W5 Fz (.slice none 0 0) (o12.trans (o4.trans o5)) (by rw [zhA h hsteps];exact⟨0,.inl ⟨rfl,rfl⟩⟩)
  rw [zhA h hsteps] at this
  exact this
 | cons x xs =>
  have hx:d.steps[0]?=some x:=by rw [hsteps];rfl
  have hlz:((d.steps.length:Int) == 0)=false:=by rw [hsteps];simp;omega
  rw [hlz] at i18
  refine Gm.cond (b:=false) (zam i18) rfl ?_
  refine Gm.skip (Gm.inBlock (Gm.seq ?_))
  clear hlz hsteps xs j0 j1 j2 j3 j4 j5 j14 n0 n1 n2 n3 n4 n5 hb3
  have hb4:=hb2.oc o4
  have hst4:=hst.oc o4
  have c4:=o4.at c0'
  have o14:=o12.trans o4
  clear hb2 hst c0' o12 o4 o3 hW3 hW4
  rw [zrq]
  refine Gm.region ?_
  rw [show List.range ops6.size=[0,1,2] by kernel_rfl]
  refine GoM.mkchan (o:=⟨some 23,.makeChan 111 (.const (.int .i64 0)),_,_,_,none⟩) (cap:=0) (posts:=zeX W0.heap.size d x) rfl rfl rfl rfl rfl rfl (fun σ w _=>zor _ w rfl) fun c=>?_
  rw [zbg rfl]
  change GoM Try.prog true E Fz Arg W0 Q _ [] (Fr 23 (putD t4 (some 23) (.chan (some (2 * c)))) _) _ W4
  refine Gm.op (o:=⟨some 6,.alloc 111,_,_,_,none⟩) (ptr W4.heap.size) (W4.alloc (.cells #[.chan none] 111)) rfl rfl (by kernel_rfl) rfl (ziW _) (fun h=>h.alloc rfl) ?_
  obtain⟨n5,s5,g5⟩:=al1 (w:=W4) (o1:=.cells #[.chan none] 111 (0,0)) rfl
  generalize W4.alloc (.cells #[.chan none] 111)=W5 at n5 s5 g5 ⊢
  refine Gm.skipOp (o:=⟨none,.store 111 (.tmp 6) (.tmp 23),_,_,_,none⟩) (W5.setCell ⟨W4.heap.size,0,none⟩ (.chan (some (2 * c)))) rfl rfl (by kernel_rfl) rfl (zjW _ (zam (by simp [putD,i0])) (zam (by simp [putD,i0])) (zaa g5 rfl) (by unfold World.frozen?;dsimp only;rw [g5];simp)) (fun h=>h.setCell _ _) ?_
  have o6:OldC W4 (W5.setCell ⟨W4.heap.size,0,none⟩ (.chan (some (2 * c)))):=OldC.nx (n5.set (Nat.le_refl _))
  have cc6:(W5.setCell ⟨W4.heap.size,0,none⟩ (.chan (some (2 * c)))).cell? ⟨W4.heap.size,0,none⟩=some (.chan (some (2 * c))):=World.cell?_setCell_same _ _ _ (zaa g5 rfl)
  generalize W5.setCell ⟨W4.heap.size,0,none⟩ (.chan (some (2 * c)))=W6 at o6 cc6 ⊢
  clear n5 s5 g5
  have hB5:BF (putD (putD (putD t4 (some 23) (.chan (some (2 * c)))) (some 6) (ptr W4.heap.size)) none undef) p1 p0 W4.heap.size (.slice none 0 0) false:=⟨by simp [putD,i0],by simp [putD,i1],by simp [putD,i2],by simp [putD,i3],by simp [putD,i5],by simp [putD,i0]⟩
  generalize putD (putD (putD t4 (some 23) (.chan (some (2 * c)))) (some 6) (ptr W4.heap.size)) none undef=t5 at hB5 ⊢
  have hW6:BW W6 p1 p0 W4.heap.size B c d ⟨.slice ha d.heats.length hcap,.slice sa d.steps.length scap⟩:=⟨hb4.oc o6,hst4.oc o6,o6.at c4,cc6⟩
  have o16:=o14.trans o6
  generalize W4.heap.size=pc at hB5 hW6 ⊢
  clear hb4 hst4 c4 cc6 o6 o14 i0 i1 i2 i3 i4 i5 i18
  have hdk:DOk d x:=⟨hO,hsO,hsI,hx,by have:=hsO.h;omega⟩
  refine Gm.regionEnd (Gm.seq (Gm.seq ?_))
  refine Gm.lone (F:=FW) (fun t7 W7=>(BF t7 p1 p0 pc (.slice none 0 0) false∧t7[26]?=some (num d.heats.length)∧t7[27]?=some (num 0))∧W7.heap=W6.heap) rfl rfl trivial zbl (by kernel_rfl) (by kernel_rfl) (fun τ=>?_) ?_
  ·refine wpIn_mono (bl7 p0 p1 pc ha sa d.heats.length hcap d.steps.length scap t5 hB5.size hB5.h1 hB5.h2 hB5.h3 hB5.h5 hB5.h6 { W6 with tape:=τ } (hW6.box.at' 0 _ rfl) (hW6.box.at' 6 _ rfl)) ?_
   rintro e a w' ⟨k1,k2,⟨m,m1,m2,m3,m5,m6,m26,m27⟩,rfl⟩
   exact⟨k1,k2,⟨⟨m,m1,m2,m3,m5,m6⟩,m26,m27⟩,rfl⟩
  rintro t7 W7 ⟨⟨hB7,h26,h27⟩,hW7⟩
  refine Gm.block (Gm.loop ?_)
  refine zmm E Arg W0 Q (c0 :: cs) _ W6 p1 p0 pc B c d.heats.length d _ x hdk rfl hW6 ?_ d.heats.length 0 Fz W7 t7 (by omega) (OldC.same hW7) hB7 h26 h27
  intro W8 Fz8 t8 o8 hB8
  refine Gm.seq (Gm.seq ?_)
  have hW8:=hW6.oc o8
  refine Gm.lone (F:=FW) (fun t9 W9=>(BF t9 p1 p0 pc (.slice none 0 0) false∧t9[34]?=some (num d.heats.length)∧t9[35]?=some (num 0))∧W9.heap=W8.heap) rfl rfl trivial zbl (by kernel_rfl) (by kernel_rfl) (fun τ=>?_) ?_
  ·refine wpIn_mono (bl12 p0 p1 pc ha sa d.heats.length hcap d.steps.length scap t8 hB8.size hB8.h1 hB8.h2 hB8.h3 hB8.h5 hB8.h6 { W8 with tape:=τ } (hW8.box.at' 0 _ rfl) (hW8.box.at' 6 _ rfl)) ?_
   rintro e a w' ⟨k1,k2,⟨m,m1,m2,m3,m5,m6,m26,m27⟩,rfl⟩
   exact⟨k1,k2,⟨⟨m,m1,m2,m3,m5,m6⟩,m26,m27⟩,rfl⟩
  rintro t9 W9 ⟨⟨hB9,h34,h35⟩,hW9⟩
  refine Gm.block (Gm.loop ?_)
  refine znN E Arg Fz8 W0 Q (c0 :: cs) _ W6 p1 p0 pc B c d.heats.length d _ x hdk rfl hW6 ?_ d.heats.length 0 (kks d.heats.length) [] W9 t9 (.slice none 0 0) ([],false) (znr _) (by omega) (o8.trans (OldC.same hW9)) hB9 h34 h35 ⟨0,.inl ⟨rfl,rfl⟩⟩ (by simp) (BestB.nil _) (fun k hk=>.inl (mem_kks.2 hk)) (fun k hk=>mem_kks.1 hk) (fun k hk=>absurd hk (List.not_mem_nil))
  intro W10 t10 v s o10 hB10 hv10 hs10
  obtain⟨va,vc,rfl⟩:=hv10.cases
  rw [List.length_map] at hv10 hB10
  refine Gm.seq ?_
  refine Gm.lone (F:=FW) (fun t11 W11=>(t11[2]?=some (.slice va s.1.length vc)∧t11[3]?=some (.bool s.2)∧t11[4]?=some (num 0))∧W11.heap=W10.heap) rfl rfl trivial zbl (by kernel_rfl) (by kernel_rfl) (fun τ=>?_) ?_
  ·refine wpIn_mono (bl18 p0 p1 pc va s.1.length vc s.2 t10 hB10.size hB10.h1 hB10.h2 hB10.h3 hB10.h5 hB10.h6 { W10 with tape:=τ }) ?_
   rintro e a w' ⟨k1,k2,⟨l0,l2,l3,l4⟩,rfl⟩
   exact⟨k1,k2,⟨l2,l3,l4⟩,rfl⟩
  rintro t11 W11 ⟨⟨l2,l3,l4⟩,hW11⟩
  refine Gm.ret Try.func23 (zg0 _ _ _ t11 l2 l3 l4) ?_
  have:=hcont ⟨true,c,0,zeX W0.heap.size d x⟩ W11 Fz8 (.slice va s.1.length vc) (o16.trans (o10.trans (OldC.same hW11))) (by rw [zhB h hx,← hs10];exact hv10.oc (OldC.same hW11))
  rw [zhB h hx,← hs10] at this
  exact this
end Go.Proofs.Ytedomogjmhommaa
namespace Go.Proofs.Ytedomogjmhommaa
theorem zqv:dryF exD=0:=by decide +kernel
theorem zm9:zgr exD 1 ⟨800,200,1⟩=(2,true,0):=by decide +kernel
theorem zla:(ze0 exD).2=(true,0):=by decide +kernel
theorem zoG:(ze0 exD).1.length=4:=by decide +kernel
theorem zoD:zaY exD exD.steps [exD.start] exD.start.h=([1,2,2],true):=by decide +kernel
theorem zoI:zbL exD [0,1,1]=([0,0,0],1,true,0):=by decide +kernel
theorem zoF:zgx exD [1,2,2] [⟨1,350,380⟩]=([(0,0),(0,0),(0,2)],0):=by decide +kernel
theorem zoJ:zcp exD [1,2,2]=((720,825),(20,20),0):=by decide +kernel
theorem zoH:(ze0 exD).1[2]?=some [⟨400,200,2⟩,⟨490,200,1⟩]:=by decide +kernel
end Go.Proofs.Ytedomogjmhommaa
namespace Go.Proofs.Ytedomogjmhommaa
open Go.RowKit Go.Shelf
end Go.Proofs.Ytedomogjmhommaa
namespace Go.Proofs.Ytedomogjmhommaa
open Go.RowKit
abbrev u16 (x:Int):Value:=.int .u16 x
def pick (l:List Int) (k:Nat):Int:=l.getD k 0
end Go.Proofs.Ytedomogjmhommaa
namespace Go.Proofs.Ytedomogjmhommaa
open Go.RowKit
theorem zd2 (u v:Value) (xs ys:List Int) (w:World) (hu:Sl w u 1 (xs.map one)) (hv:Sl w v 1 (ys.map one)) (hl:xs.length≤1000000000) (hl2:ys.length≤1000000000):CallsIn FW 0 Try.prog 25 #[u,v] w fun e w'=>e=.returned (.bool (decide (xs=ys)))∧Nx w w':=by
 obtain⟨a,cap,rfl⟩:=hu.cases
 obtain⟨a2,cap2,rfl⟩:=hv.cases
 rw [List.length_map] at *
 rw [List.length_map] at *
 have HU:=Lib.hid hu
 have HV:=Lib.hid hv
 clear hu hv
 obtain⟨g,hg⟩:∃ g,decide (xs=ys)=g:=⟨_,rfl⟩
 rw [hg]
 have HG:Hid (g=decide (xs=ys)):=hg.symm
 clear hg
 by_cases hlen:xs.length=ys.length
 case neg =>
  have HR:Hid (g=false):=by show _=_;rw [HG.out];exact decide_eq_false fun e=>hlen (by rw [e])
  have b1:((xs.length:Int) != (ys.length:Int))=true:=by simp;omega
  gi_enter Try.func25,Try.ntmps25
  gi_wp2
  go_ret
  exact⟨by rw [HR.out]<;>rfl,Nx.refl _⟩
 case pos =>
 have b1:((xs.length:Int) != (ys.length:Int))=false:=by simp [hlen]
 have HL:=Lib.hid hlen
 clear hlen
 gi_enter Try.func25,Try.ntmps25
 gi_wp2
 clear b1
 gi_loopw [5] (fun i wr=>∃ k:Nat,k≤xs.length∧i=num k∧(∀ j,j<k→xs[j]?=ys[j]?)∧Nx w wr) (fun i _=>xs.length-(intOf i).toNat)
 case atStart=>exact⟨0,Nat.zero_le _,rfl,fun j h=>absurd h (Nat.not_lt_zero _),Nx.refl _⟩
 case round =>
  obtain⟨k,hk,rfl,hno,nr⟩:=hrel
  have HN:=Lib.hid hno
  clear hno
  by_cases hlt:k<xs.length
  ·obtain⟨b,off,rfl,hbl,hcl⟩:=(HU.out).get (by simp;omega)
   have hlt2:k<ys.length:=by have:=HL.out;omega
   obtain⟨b',off',rfl,hbl',hcl'⟩:=(HV.out).get (by simp;omega)
   have hh:xs[k]?=some xs[k]:=List.getElem?_eq_getElem hlt
   have hy:ys[k]?=some ys[k]:=List.getElem?_eq_getElem hlt2
   generalize xs[k]=x at hh
   generalize ys[k]=y at hy
   have e0:wr.cell? ⟨b,off+k,none⟩=some (num x):=Sl.at1 hcl nr hbl hh
   have f0:wr.cell? ⟨b',off' + k,none⟩=some (num y):=Sl.at1 hcl' nr hbl' hy
   have HX:=Lib.hid hh
   have HY:=Lib.hid hy
   clear hcl hcl' hh hy
   by_cases hxy:x=y
   ·have HN2:=Lib.hid (show ∀ j,j<k+1→xs[j]?=ys[j]? from fun j hj=>by
     rcases Nat.lt_succ_iff_lt_or_eq.1 hj with hj | rfl
     ·exact HN.out j hj
     ·rw [HX.out,HY.out,hxy])
    have bx:(x != y)=false:=by simp [hxy]
    clear hxy
    gi_upto_region 6 with fail
    gi_big_quiet_th (fail)
    gi_wp2
    exact⟨⟨k+1,hlt,by simp,HN2.out,nr.drewN _⟩,by simp [intOf];omega⟩
   ·have HR:Hid (g=false):=by
     show _=_
     rw [HG.out]
     refine decide_eq_false fun e=>hxy ?_
     have h1:=HX.out
     rw [e,HY.out] at h1
     exact (Option.some.inj h1).symm
    have bx:(x != y)=true:=by simp [hxy]
    clear hxy
    gi_upto_region 6 with fail
    gi_big_quiet_th (fail)
    gi_wp2
    go_ret
    exact⟨by rw [HR.out]<;>rfl,nr.drewN _⟩
  ·obtain rfl:k=xs.length:=by omega
   have HR:Hid (g=true):=by
    show _=_
    rw [HG.out]
    refine decide_eq_true (List.ext_getElem? fun j=>?_)
    by_cases hj:j<xs.length
    ·exact HN.out j hj
    ·rw [List.getElem?_eq_none (by omega),List.getElem?_eq_none (by have:=HL.out;omega)]
   gi_wp2
   go_ret
   exact⟨by rw [HR.out]<;>rfl,nr⟩
end Go.Proofs.Ytedomogjmhommaa
