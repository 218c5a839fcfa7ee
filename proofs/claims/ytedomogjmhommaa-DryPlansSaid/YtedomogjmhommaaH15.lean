import Derived.Test.YtedomogjmhommaaH14
import Derived.Test.YtedomogjmhommaaH11
import Derived.Test.YtedomogjmhommaaH02
import Derived.Test.YtedomogjmhommaaH12
import Derived.Laws.MakeOwn
import Derived.Test.YtedomogjmhommaaH10
import Derived.Test.YtedomogjmhommaaH13
import Derived.Shelf.SlSortCmp.NoneTotal
import Derived.Ground.SlsfProg
set_option linter.all false
set_option maxRecDepth 100000
set_option maxHeartbeats 8000000
namespace Go.Proofs.Ytedomogjmhommaa
open Go.RowKit Go.Shelf
attribute [local go_sem] Oper.semAt_some
abbrev DmR (lo hi:Int):={ x:Int // lo≤x∧x≤hi }
theorem zi8 (n:Nat) (hn:1≤n) (Bw:Nat) (lo hi:Int) (w:World) (h1:w.cell? ⟨Bw,0,none⟩=some (num lo)) (h2:w.cell? ⟨Bw,1,none⟩=some (num hi)) (hB:Bw<w.heap.size) (hl:0≤lo∧lo≤hi∧hi≤3) :
  SeqStopsK FW n Try.prog 93 #[.pointer (some ⟨Bw,0,none⟩)] (fun x:DmR lo hi=>#[num x.1]) (KpB Bw)
   (fun xs=>xs.map (·.1)=zbj lo (hi+1-lo).toNat) (fun pre=>∃ k,k≤(hi+1-lo).toNat∧pre.map (·.1)=zbj lo k) (hi+1-lo).toNat w:=by
 intro l J Jx W hW hJ hJx hY h0
 have hWB:KpB Bw w W:=⟨hW.size,hW.block Bw hB⟩
 gi_enter Try.func93,Try.ntmps93
 have e1:=hWB.cell h1
 gi_wp2
 clear e1
 gi_loopw [3] (fun h wr=>∃ pre:List (DmR lo hi),h=num (lo+pre.length)∧pre.length≤(hi+1-lo).toNat∧pre.map (·.1)=zbj lo pre.length∧KpB Bw w wr∧J pre wr) (fun h _=>(hi+1-intOf h).toNat)
 case atStart=>exact⟨[],by simp,by simp,rfl,hWB,h0⟩
 case round =>
  obtain⟨pre,rfl,hlen,hpre,hK,hJs⟩:=hrel
  have f1:=hK.cell h1
  have f2:=hK.cell h2
  by_cases hlt:pre.length<(hi+1-lo).toNat
  ·obtain⟨fn,tmps,assign,body,hy,hR⟩:=hY pre ⟨lo+pre.length,by omega⟩ wr hJs hlt
   dsimp only at hy
   have hle:lo+(pre.length:Int)≤hi:=by omega
   gi_wp2
   refine hR.mono ?_
   rintro e W3 (⟨rfl,hJ3,hk3⟩ | ⟨rfl,hJx3⟩)
   ·gi_wp2
    go_roundw
    case rel=>exact⟨pre++[⟨lo+pre.length,by omega⟩],by simp;omega,by simp;omega,by simp [hpre,zcC],zl3 hK hk3,hJ3⟩
    case measure=>simp [intOf];omega
   ·gi_wp2
    refine bodyPost_ret (results_none rfl _ _ _) rfl ?_
    exact⟨⟨_,rfl⟩,.inr ⟨_,⟨pre.length+1,by omega,by simp [hpre,zcC]⟩,hJx3⟩⟩
  ·have hle:¬ lo+(pre.length:Int)≤hi:=by omega
   gi_wp2
   go_end0
   exact⟨⟨_,rfl⟩,.inl ⟨pre,hpre.trans (by congr 1;omega),hJs⟩⟩
def zhm (xs:List Stp) (p:List Int) (ys:List Int):List (List Int):=ys.flatMap fun a=>(zaH xs).map fun t=>(p++[a])++t
theorem zhI {xs:List Stp} {p:List Int} {ys:List Int} {a:Int}:zhm xs p (ys++[a])=zhm xs p ys++(zaH xs).map fun t=>(p++[a])++t:=by simp [zhm,List.flatMap_append]
theorem znb {x:Stp} {xs:List Stp} {p:List Int} {ys:List Int} (h:ys=x.damps):zhm xs p ys=(zaH (x :: xs)).map (p++·):=by
 rw [zaH,← h,List.map_flatMap]
 unfold zhm
 simp [List.map_map,Function.comp_def]
theorem znc {x:Stp} {xs:List Stp} {p:List Int} {ys:List Int} {k:Nat} (hk:k≤(x.hi+1-x.lo).toNat) (h:ys=zbj x.lo k):zhm xs p ys <+: (zaH (x :: xs)).map (p++·):=by
 have e:∃ more,x.damps=zbj x.lo k++more:=by
  refine⟨(x.damps).drop k,?_⟩
  have h1:x.damps.take k=zbj x.lo k:=by
   unfold Stp.damps zbj
   rw [← List.map_take,List.take_range,Nat.min_eq_left hk]
  rw [← h1,List.take_append_drop]
 obtain⟨more,e⟩:=e
 rw [zaH,e,List.flatMap_append,List.map_append]
 refine⟨_,congrArg (·++_) ?_⟩
 rw [← h,List.map_flatMap]
 unfold zhm
 simp [List.map_map,Function.comp_def]
theorem zlh {N0 B Co:Nat} {d:Dry} {qx:Option Nat} {W W' : World} {b:Nat} {v:Value} {e:TypeId} {fz:Nat×Nat} (h:KpR N0 (Tw N0 B Co d) qx W W') (hg:W'.heap[b]?=some (.cells #[v] e fz)):KpR N0 (Tw N0 B Co d) qx W (W'.setCell ⟨b,0,none⟩ v):=by
 have hs:∀ r,(W'.setCell ⟨b,0,none⟩ v).heap[r]?=W'.heap[r]?:=fun r=>by
  by_cases hr:r=b
  ·subst hr;rw [zaA hg,hg];rfl
  ·exact zae hr
 exact⟨by rw [zay];exact h.size,fun t=>(h.st t).same (by rw [zay];exact Nat.le_refl _) (fun b' _=>hs b'),fun r o h1 h2 h3 h4=>(hs r).trans (h.kp r o h1 h2 h3 h4)⟩
theorem zrj {N0 B Co:Nat} {d:Dry} {W W' : World} {i:Nat} {v:Value} (h:KpR N0 (Tw N0 B Co d) (some (N0+1)) W W'):KpR N0 (Tw N0 B Co d) (some (N0+1)) W (W'.setCell ⟨N0+1,i,none⟩ v) :=
 ⟨by rw [zay];exact h.size,fun t=>(h.st t).same (by rw [zay];exact Nat.le_refl _) (fun b' hb'=>zae (by omega)),fun r o h1 h2 h3 h4=>(zae (fun e=>h2 (by rw [e]))).trans (h.kp r o h1 h2 h3 h4)⟩
theorem znt {N0 B Co D:Nat} {d:Dry} {qx:Option Nat} {W W' : World} {o' : Obj} (h:KpR N0 (Tw N0 B Co d) qx W W') (hD:N0≤D) (hW:W.heap.size≤D):KpR N0 (Tw N0 B Co d) qx W (W'.putObj D o') :=
 ⟨by simp;exact h.size,fun t=>(h.st t).same (by simp) (fun b' hb'=>World.putObj_heap_other (by omega)),fun r o h1 h2 h3 h4=>(World.putObj_heap_other (by have:=zav h3;omega)).trans (h.kp r o h1 h2 h3 h4)⟩
theorem KpR.row {N0 B Co:Nat} {d:Dry} {qx:Option Nat} {X U U' : World} {row:Option Nat} (h:KpR N0 (Tw N0 B Co d) qx X U) (hg:U.grownBy U' row) (hne:∀ r,row=some r→X.heap.size≤r) (hN:N0≤X.heap.size):KpR N0 (Tw N0 B Co d) qx X U' :=
 ⟨Nat.le_trans h.size hg.size,fun t=>(h.st t).same hg.size (fun b hb=>hg.block b (by have:=h.size;omega) (fun e=>by have:=hne b e.symm;omega)),fun r o q1 q2 q3 q4=>(hg.block r (zav (h.kp r o q1 q2 q3 q4)) (fun e=>by have:=hne r e.symm;have:=zav q3;omega)).trans (h.kp r o q1 q2 q3 q4)⟩
theorem zk4 {x:Stp} {a:Int} (h:x.lo≤a∧a≤x.hi):a∈x.damps:=by
 simp only [Stp.damps,zbj,List.mem_map,List.mem_range]
 exact⟨(a-x.lo).toNat,by omega,by omega⟩
theorem set_mid (p rs:List Int) (r0 a:Int):(((p++r0 :: rs).map num).toArray).setIfInBounds p.length (num a)=(((p++[a])++rs).map num).toArray:=by
 apply Array.ext'
 simp only [Array.toList_setIfInBounds,List.map_append,List.map_cons,List.map_nil,List.append_assoc,List.singleton_append,List.cons_append,List.nil_append]
 rw [List.set_append_right _ _ (by simp)]
 simp
theorem zob (d:Dry) (hO:d.Ok) (B Co N0 l:Nat) (J Jx:List (List Int)→World→Prop) (hJ:AbQ N0 J) (hJx:AbX N0 Jx) (k j:Nat) (x:Stp) (hx:d.steps[k]?=some x) (ih:WkC d B Co N0 l J Jx (k+1) j) (hkj:k+j+1=d.steps.length):WkC d B Co N0 l J Jx k (j+1):=by
 intro p rest pre W hp hr hW hq hj hval
 have hkl:k<d.steps.length:=(List.getElem?_eq_some_iff.1 hx).1
 rw [zdx hx] at hval ⊢
 have hs5:=hO.s5
 have hstx:=hO.st x (List.mem_of_getElem? hx)
 have hN:N0+3<W.heap.size:=zav hW.c4
 have hst:=hW.t.stove
 have hBl:=hst.lt
 obtain⟨v,c7,hsl⟩:=hst.stages
 obtain⟨a,cap,rfl⟩:=hsl.cases
 rw [List.length_map] at c7 hsl
 obtain⟨b,off,rfl,hbl,hcl⟩:=hsl.get (by simp;omega)
 have e0:W.cell? ⟨b,off+k * 7,none⟩=some (num x.lo):=Sl.at hcl (Nx.refl W) hbl hx 0 (v:=num x.lo) rfl
 have e1:W.cell? ⟨b,off+k * 7+1,none⟩=some (num x.hi):=Sl.at hcl (Nx.refl W) hbl hx 1 (v:=num x.hi) rfl
 have e2:W.cell? ⟨b,off+k * 7+2,none⟩=some (.bool x.tended):=Sl.at hcl (Nx.refl W) hbl hx 2 (v:=.bool x.tended) rfl
 have e3:W.cell? ⟨b,off+k * 7+3,none⟩=some (num x.wlo):=Sl.at hcl (Nx.refl W) hbl hx 3 (v:=num x.wlo) rfl
 have e4:W.cell? ⟨b,off+k * 7+4,none⟩=some (num x.whi):=Sl.at hcl (Nx.refl W) hbl hx 4 (v:=num x.whi) rfl
 have e5:W.cell? ⟨b,off+k * 7+5,none⟩=some (num x.col):=Sl.at hcl (Nx.refl W) hbl hx 5 (v:=num x.col) rfl
 have co:=hW.t.box
 apply anyN (n:=4)
 refine callsIn_of_wp_marks Try.func101 rfl trivial ?_ rfl
 simp only [Try.ntmps101,List.size_toArray,List.length_cons,List.length_nil,Nat.reduceAdd,Nat.reduceSub,Array.replicate_succ,Array.replicate_zero,List.push_toArray,List.append_toArray,List.nil_append,List.cons_append]
 clear hsl hcl hst
 gi_upto_region 1 with fail
 generalize hVn:(W.alloc _).alloc _=V
 obtain⟨nV,sV,g5,g6⟩:=al2 hVn
 have hjV:J pre V:=by rw [← hVn];exact hJ.alloc _ (hJ.alloc _ hj)
 clear hVn
 have kc:=Kc.nx nV
 have c1:=zaa (i:=0) ((nV.block _ (by omega)).trans hW.c1) rfl
 have c5:=zaa (i:=0) g5 rfl
 have hqV:=(nV.block (N0+1) (by omega)).trans hq
 have kV:KpR N0 (Tw N0 B Co d) (some (N0+1)) W V:=KpR.nx nV (by omega)
 have g6N:N0≤W.heap.size+1:=by omega
 replace c7:=kc.cell c7
 replace co:=kc.cell co
 replace e0:=kc.cell e0
 replace e1:=kc.cell e1
 replace e2:=kc.cell e2
 replace e3:=kc.cell e3
 replace e4:=kc.cell e4
 replace e5:=kc.cell e5
 have hkne:((k:Int) == (d.steps.length:Int))=false:=beq_false_of_ne (by omega)
 have SV:=Lib.hid sV
 clear kc nV sV
 generalize hSg:W.heap.size=S at *
 have k60:=fun (w1:World)=>zeH x w1
 gi_upto_region 3 with fail
 refine zaX 8 rfl (by kernel_rfl) (by kernel_rfl) ?_
 simp only [List.take_succ_cons,List.take_zero,List.drop_succ_cons,List.drop_zero]
 repeat (gi_big_quiet_step (fail))
 refine wpQuietIn_nil ?_
 rintro w' ⟨nq,rfl⟩
 have nq4:Nx V (V.drewN nq):=(Nx.refl V).drewN nq
 have hjq:J pre (V.drewN nq):=hJ _ V _ none hjV (nq4.grown none) (fun r e=>by cases e)
 generalize V.drewN nq=V4 at nq4 hjq ⊢
 gi_wp2_with (first | (gi_at_call 60;refine CallsIn.mono (anyN (k60 _)) ?_;rintro e w4 ⟨rfl,hw4⟩;replace hw4:=hw4.symm;subst hw4) | gi_in)
 generalize hXn:V4.alloc _=X
 obtain⟨nX,sX,gX⟩:=al1 hXn
 have b0:X.cell? ⟨V4.heap.size,0,none⟩=some (num x.lo):=zaa gX rfl
 have b1:X.cell? ⟨V4.heap.size,1,none⟩=some (num x.hi):=zaa gX rfl
 have hjX:J pre X:=by rw [← hXn];exact hJ.alloc _ hjq
 have hlX:V4.heap.size<X.heap.size:=by omega
 have hVs:S+2≤V4.heap.size:=by have:=SV.out;have:=nq4.size;omega
 have hBN:N0≤V4.heap.size:=by omega
 have nVX:=nq4.trans nX
 have hVl:S+2≤V.heap.size:=by have:=SV.out;omega
 have gS:=(nVX.block S (by omega)).trans g5
 have gS1:=(nVX.block (S+1) (by omega)).trans g6
 have hqX:=(nVX.block (N0+1) (by omega)).trans hqV
 have kX:KpR N0 (Tw N0 B Co d) (some (N0+1)) W X:=kV.trans (KpR.nx nVX (by omega))
 have gX':=gX
 clear hXn e0 e1 e2 e3 e4 e5 c7 co c1 c5 hqV kV g5 g6 nq4 nX hjq hjV sX gX
 generalize V4.heap.size=Bw at *
 have hWX:Wl X d B Co N0 l:=hW.kp kX
 refine Go.wpIn_rangeFunc_ownG rfl (by omega) rfl trivial (enters_of Try.func93 (by kernel_rfl) rfl) (zi8 3 (by omega) Bw x.lo x.hi X b0 b1 hlX hstx.1) zl3 (zoP hlX) (Go.RowKit.Below.refl _ _) (fun _=>rfl) (fun ys U=>J (pre++zhm (d.steps.drop (k+1)) p (ys.map (·.1))) U∧KpR N0 (Tw N0 B Co d) (some (N0+1)) X U∧∃ rest',rest'.length=j+1∧U.heap[N0+1]?=some (.cells ((p++rest').map num).toArray 3 (0,0))) (fun c ys U=>c=.ret∧KpR N0 (Tw N0 B Co d) (some (N0+1)) X U∧∃ init a qs,ys=init++[a]∧(qs <+: (zaH (d.steps.drop (k+1))).map fun t=>(p++[a.1])++t)∧Jx (pre++(zhm (d.steps.drop (k+1)) p (init.map (·.1))++qs)) U) ?hI ?hIx ?h0 (fun x_1=>{ tmps:=#[Go.Proofs.Ytedomogjmhommaa.num ↑k,Go.Proofs.Ytedomogjmhommaa.ptr (N0+2),Go.Proofs.Ytedomogjmhommaa.ptr N0,Go.Proofs.Ytedomogjmhommaa.ptr Co,Go.Proofs.Ytedomogjmhommaa.ptr (N0+3),Go.Value.pointer (Option.some { block:=S,off:=0 }),Go.Value.pointer (Option.some { block:=S+1,off:=0 }),Go.Proofs.Ytedomogjmhommaa.num (Subtype.val x_1),Go.Proofs.Ytedomogjmhommaa.num ↑k,Go.Value.slice (Option.some { block:=N0+1,off:=0 }) (List.length (Go.Proofs.Ytedomogjmhommaa.Dry.steps d)) (List.length (Go.Proofs.Ytedomogjmhommaa.Dry.steps d)),Go.Value.int Go.IntKind.i64 ↑(List.length (Go.Proofs.Ytedomogjmhommaa.Dry.steps d)),Go.Value.bool Bool.false,Go.undef,Go.undef,Go.undef,Go.Proofs.Ytedomogjmhommaa.ptr B,Go.Value.pointer (Option.some { block:=B,off:=0 }),Go.Value.pointer (Option.some { block:=B,off:=7 }),Go.Value.slice (Option.some { block:=b,off:=off }) (List.length (Go.Proofs.Ytedomogjmhommaa.Dry.steps d)) cap,Go.Proofs.Ytedomogjmhommaa.num ↑k,Go.Value.pointer (Option.some { block:=b,off:=off+k * 7 }),Go.Value.pointer (Option.some { block:=b,off:=off+k * 7 }),Go.Value.agg #[Go.Proofs.Ytedomogjmhommaa.num (Go.Proofs.Ytedomogjmhommaa.Stp.lo x),Go.Proofs.Ytedomogjmhommaa.num (Go.Proofs.Ytedomogjmhommaa.Stp.hi x),Go.Value.bool (Go.Proofs.Ytedomogjmhommaa.Stp.tended x),Go.Proofs.Ytedomogjmhommaa.num (Go.Proofs.Ytedomogjmhommaa.Stp.wlo x),Go.Proofs.Ytedomogjmhommaa.num (Go.Proofs.Ytedomogjmhommaa.Stp.whi x),Go.Proofs.Ytedomogjmhommaa.num (Go.Proofs.Ytedomogjmhommaa.Stp.col x)],Go.Value.func (Go.Fn.func 93) #[] #[Go.Value.pointer (Option.some { block:=Bw,off:=0 })],Go.Proofs.Ytedomogjmhommaa.num (Subtype.val x_1),Go.undef,Go.undef,Go.undef,Go.undef,Go.undef,Go.undef,Go.undef,Go.undef,Go.undef],defers:=[] }) ?assign ?body ?done ?stop
 case hI =>
  rintro ys U U' row ⟨h1,h2,rest',h3,h4⟩ hg hr
  have hne:∀ r,row=some r→X.heap.size≤r:=fun r e=>(hr r e).1
  refine⟨hJ _ _ _ row h1 hg (fun r e=>⟨by have:=hne r e;omega,by obtain⟨_,o,ho,hc⟩:=hr r e;exact⟨o,ho,Hd.non hc⟩⟩),h2.row hg hne (by omega),rest',h3,?_⟩
  exact (hg.block _ (zav h4) (fun e=>by have:=hne _ e.symm;omega)).trans h4
 case hIx =>
  rintro c ys U U' row ⟨h0,h2,init,a,qs,h3,h4,h5⟩ hg hr
  have hne:∀ r,row=some r→X.heap.size≤r:=fun r e=>(hr r e).1
  exact⟨h0,h2.row hg hne (by omega),init,a,qs,h3,h4,hJx _ _ _ row h5 hg (fun r e=>⟨by have:=hne r e;omega,by obtain⟨_,o,ho,hc⟩:=hr r e;exact⟨o,ho,.inl hc⟩⟩)⟩
 case h0=>exact⟨by simpa [zhm] using hjX,KpR.refl _ _ _ _,rest,hr,hqX⟩
 case assign =>
  intro l x W K hK
  gi_wp2
  exact hK
 case body =>
  rintro ll ys a U ⟨hU1,hU2,rest',hU3,hU4⟩ hlen
  obtain⟨r0,rs,rfl⟩:∃ r0 rs,rest'=r0 :: rs:=by cases rest' with | nil=>simp at hU3 | cons r0 rs=>exact⟨r0,rs,rfl⟩
  have hWU:=hWX.kp hU2
  have kS:=hU2.kp S _ (by omega) (by simp;omega) gS (zbf (by decide) (by decide))
  have kS1:=hU2.kp (S+1) _ (by omega) (by simp;omega) gS1 (zbf (by decide) (by decide))
  have c1:=zaa (i:=0) hWU.c1 rfl
  have c5:=zaa (i:=0) kS rfl
  have cq:U.cell? ⟨N0+1,k,none⟩=some (num r0):=zaa hU4 (by rw [List.getElem?_toArray,List.getElem?_map,← hp,List.getElem?_append_right (Nat.le_refl _),Nat.sub_self];rfl)
  have fq:=zac (i:=k) hU4
  gi_upto_region 6 with fail
  have hqU1:(U.setCell ⟨N0+1,k,none⟩ (num a.1)).heap[N0+1]?=some (.cells (((p++[a.1])++rs).map num).toArray 3 (0,0)):=by
   rw [zaA hU4,← hp,set_mid]
  have hJ1:=zh9 hJ (i:=k) (v:=num a.1) hU1 (show N0≤N0+1 by omega) hU4 (by decide) (by decide)
  have k1:KpR N0 (Tw N0 B Co d) (some (N0+1)) U (U.setCell ⟨N0+1,k,none⟩ (num a.1)):=zrj (KpR.refl _ _ _ _)
  have hsz1:(U.setCell ⟨N0+1,k,none⟩ (num a.1)).heap.size=U.heap.size:=zay
  clear c1 c5 cq fq
  generalize U.setCell ⟨N0+1,k,none⟩ (num a.1)=U1 at hqU1 hJ1 k1 hsz1 ⊢
  have hW1:=hWU.kp k1
  have kS':=k1.kp S _ (by omega) (by simp;omega) kS (zbf (by decide) (by decide))
  have kS1':=k1.kp (S+1) _ (by omega) (by simp;omega) kS1 (zbf (by decide) (by decide))
  have c4:=zaa (i:=0) hW1.c4 rfl
  have c5:=zaa (i:=0) kS' rfl
  have hrsl:rs.length=j:=by simpa using hU3
  have ih':=ih (p++[a.1]) rs _ U1 (by simp [hp]) hrsl hW1 hqU1 hJ1 (fun t ht=>by
   rw [List.append_assoc]
   refine hval _ ?_
   simp only [zaH,List.mem_flatMap,List.mem_map,List.singleton_append]
   exact⟨a.1,zk4 a.2,t,ht,rfl⟩)
  rw [show ((k+1:Nat):Int)=(k:Int)+1 by omega] at ih'
  have hXU:=hU2.size
  gi_upto_region 7 with (first | (gi_at_call 101;refine CallsIn.mono (CallsIn.inRound ll (anyN ih')) ?_;rintro e w5 (⟨rfl,hJ5,hk5,rest5,hr5,hq5⟩ | ⟨rfl,hk5,qs,hqs,hJ5⟩)) | gi_in)
  ·have k15:=k1.trans hk5
   have gB:=hU2.kp Bw _ hBN (by simp;omega) gX' (zbf (by decide) (by decide))
   refine (show KeepsFrom X.heap.size U _∧KpB Bw U _∧(_∧_∧_) from ⟨⟨k15.size,fun r o h1 h2 h3=>k15.kp r o (by omega) (by simp;omega) h2 (Hd.non h3)⟩,⟨k15.size,(k15.kp Bw _ hBN (by simp;omega) gB (zbf (by decide) (by decide))).trans gB.symm⟩,?_,hU2.trans k15,a.1 :: rest5,by simp [hr5],?_⟩)
   ·rw [List.map_append,List.map_cons,List.map_nil,zhI,← List.append_assoc]
    exact hJ5
   ·rw [hq5,List.append_assoc]
    rfl
  ·have k15:=k1.trans hk5
   have h6:=hk5.kp (S+1) _ (by omega) (by simp;omega) kS1' (zbf (by decide) (by decide))
   have c6:=zaa (i:=0) h6 rfl
   have f6:=zac (i:=0) h6
   gi_wp2
   have kk:=zlh (hU2.trans k15) h6
   have kk2:=zlh k15 h6
   refine (show KeepsFrom X.heap.size U _∧(_∧_∧_) from ⟨⟨kk2.size,fun r o h1 h2 h3=>kk2.kp r o (by omega) (by simp;omega) h2 (Hd.non h3)⟩,rfl,kk,ys,a,qs,rfl,hqs,?_⟩)
   rw [← List.append_assoc]
   exact zmM hJx hJ5 (by omega) h6
 case done =>
  rintro D ys U hD hS ⟨hU1,hU2,rest',hr',hq'⟩ hK
  have h6:=hU2.kp (S+1) _ (by omega) (by simp;omega) gS1 (zbf (by decide) (by decide))
  have c6:=zaa (i:=0) h6 rfl
  have f6:=zac (i:=0) h6
  have hXS:S+1<X.heap.size:=zav gS1
  rw [znb hS] at hU1
  gi_wp2
  have hK':=(zae (i:=0) (v:=.bool true) (show D≠S+1 by omega)).trans hK
  refine⟨by simp,.inl ⟨_,_,rfl,run_takeDeferred hK',?_⟩⟩
  have h7:=(World.putObj_heap_other (o:=.deferred none) (show S+1≠D by omega)).trans (zaA (i:=0) (v:=.bool true) h6)
  refine⟨_,zlu rfl h7,.inl ⟨rfl,AbQ.putObj hJ _ (zh9 hJ hU1 (by omega) h6 (by decide) (by decide)) (by omega) hK' rfl,znt (zkv (kX.trans hU2) (by omega) (by omega)) (by omega) (by omega),rest',hr',?_⟩⟩
  exact (World.putObj_heap_other (by omega)).trans ((zae (by omega)).trans hq')
 case stop =>
  rintro D c ys U hD ⟨k',hk',hys⟩ ⟨rfl,hU2,init,a,qs,rfl,hqs,hJ5⟩ hK
  have h6:=hU2.kp (S+1) _ (by omega) (by simp;omega) gS1 (zbf (by decide) (by decide))
  have hXS:S+1<X.heap.size:=zav gS1
  gi_wp2
  refine⟨by simp,.inl ⟨_,_,rfl,run_takeDeferred hK,?_⟩⟩
  have h7:=(World.putObj_heap_other (o:=.deferred none) (show S+1≠D by omega)).trans h6
  refine⟨_,zlu rfl h7,.inr ⟨rfl,znt (kX.trans hU2) (by omega) (by omega),_,?_,AbX.putObj hJx _ hJ5 (by omega) hK rfl⟩⟩
  have hp2:=znc (x:=x) (xs:=d.steps.drop (k+1)) (p:=p) hk' hys
  rw [List.map_append,List.map_cons,List.map_nil,zhI] at hp2
  exact ((List.prefix_append_right_inj _).2 hqs).trans hp2
theorem zlH (d:Dry) (hO:d.Ok) (B Co N0 l:Nat) (J Jx:List (List Int)→World→Prop) (hJ:AbQ N0 J) (hJx:AbX N0 Jx) (hY:HY2 d B Co N0 l J Jx):∀ (j k:Nat),k+j=d.steps.length→WkC d B Co N0 l J Jx k j
 | 0,k,h=>by
  obtain rfl:k=d.steps.length:=by omega
  exact zpu d hO B Co N0 l J Jx hJ hJx hY
 | j+1,k,h=>zob d hO B Co N0 l J Jx hJ hJx k j _ (List.getElem?_eq_getElem (by omega)) (zlH d hO B Co N0 l J Jx hJ hJx hY j (k+1) (by omega)) (by omega)
end Go.Proofs.Ytedomogjmhommaa
namespace Go.Proofs.Ytedomogjmhommaa
open Go.RowKit Go.Shelf
attribute [local go_sem] Oper.semAt_some
theorem znx (k:Nat):madeCells (num 0).cells k=((List.replicate k (0:Int)).map num).toArray:=by
 apply Array.ext'
 simp only [madeCells,Value.cells]
 apply List.ext_getElem
 ·simp
 ·intro i h1 h2
  simp [Nat.mod_one]
theorem zqA (n:Nat) (hn:n≤1000) (V:World):(Instr.makeSlice 38 (num n) (num n)).run Try.prog V=.ok (.slice (some ⟨V.heap.size,0,none⟩) n n) (V.alloc (.cells ((List.replicate n (0:Int)).map num).toArray 3)):=by
 obtain⟨i,hi,hz,hs,hby⟩:=T38.info
 have:=run_makeSlice (P:=Try.prog) (w:=V) 38 3 i (num 0) T38.und hi hz .i64 .i64 n n (by omega) (Int.le_refl _) (by rw [hs];simp;omega) (by rw [hby];omega) (by omega)
 rw [Int.toNat_natCast,hs,Nat.mul_one,znx] at this
 exact this
theorem zhx (d:Dry) (hO:d.Ok) (B Co:Nat) (w:World) (hst:StoveAt w B d) (hco:w.cell? ⟨Co,0,none⟩=some (ptr B)) :
  ziU FW 3 Try.prog 100 #[ptr Co] (fun _:List Int=>#[.slice (some ⟨w.heap.size+2+1,0,none⟩) d.steps.length d.steps.length]) (KpR (w.heap.size+2) (Tw (w.heap.size+2) B Co d) none) (Rv d (w.heap.size+2)) (w.heap.size+2) (fun xs=>xs=zaH d.steps) (fun pre=>pre <+: zaH d.steps) w:=by
 intro l J Jx W hW hsz hJ hJx hY h0
 obtain⟨N0,hN⟩:∃ N0,w.heap.size+2=N0:=⟨_,rfl⟩
 rw [hN] at hJ hJx hY hsz
 have hs5:=hO.s5
 have hstW:StoveAt W B d:=hst.nx hW
 have hcoW:=(Kc.nx hW).cell hco
 have hT0:Tw N0 B Co d W:=⟨hst.kc (Kc.nx (⟨hW.os,hW.tape,hW.output,by rw [zcq,hsz];have:=hW.size;omega,fun b hb=>(zhC (by omega)).trans (hW.block b hb)⟩:Nx w (cutW N0 W))),by rw [zf4 (by obtain⟨o,ho,_⟩:=cells_of_cell hco;have:=zav ho;show Co<N0;simp only at this;omega)];exact hcoW⟩
 obtain⟨v,c7,hsl⟩:=hstW.stages
 obtain⟨a,cap,rfl⟩:=hsl.cases
 rw [List.length_map] at c7 hsl
 have hBl:=hstW.lt
 clear hsl hst hco hW
 gi_enter Try.func100,Try.ntmps100
 gi_upto_region 1 with fail
 generalize hVn:W.alloc _=V
 obtain⟨nV,sV,g0⟩:=al1 hVn
 have hjV:J [] V:=by rw [← hVn];exact hJ.alloc _ h0
 clear hVn
 rw [hsz] at g0 sV
 have kc:=Kc.nx nV
 have c7V:=kc.cell c7
 have coV:=kc.cell hcoW
 have SV:=Lib.hid sV
 clear sV c7 hcoW
 have hmk:=zqA d.steps.length (by omega)
 gi_upto_region 2 with fail
 generalize hUn:(V.alloc _).alloc _=U
 obtain⟨nU,sU,g1,g2⟩:=al2 hUn
 have hjU:J [] U:=by rw [← hUn];exact hJ.alloc _ (hJ.alloc _ hjV)
 clear hUn hmk
 have g0U:=(nU.block _ (zav g0)).trans g0
 rw [SV.out] at g1 g2 sU ⊢
 have SU:=Lib.hid sU
 clear sU
 gi_upto_region 3 with fail
 generalize hYn:U.alloc _=Y
 obtain⟨nY,sY,g3⟩:=al1 hYn
 have hjY:J [] Y:=by rw [← hYn];exact hJ.alloc _ hjU
 clear hYn
 rw [SU.out] at g3 sY ⊢
 have c3:=zaa (i:=0) g3 rfl
 have f3:=zac (i:=0) g3
 have hN3:N0+1+2=N0+3:=by omega
 rw [hN3] at g3 c3 f3 sY ⊢
 have hN2:N0+1+1=N0+2:=by omega
 rw [hN2] at g2 ⊢
 have hS:(store ⟨N0+3,0,none⟩ (.func (.func 101) #[] #[ptr (N0+2),ptr N0,ptr Co,ptr (N0+3)])).run Try.prog Y=.ok () (Y.setCell ⟨N0+3,0,none⟩ (.func (.func 101) #[] #[ptr (N0+2),ptr N0,ptr Co,ptr (N0+3)])):=by
  simp [store,Sem.run,c3,f3]
 gi_upto_region 4 with fail
 have hjZ:=zh9 hJ (i:=0) (v:=.func (.func 101) #[] #[ptr (N0+2),ptr N0,ptr Co,ptr (N0+3)]) hjY (by omega) g3 (by decide) (by decide)
 have q3:=zaA (i:=0) (v:=.func (.func 101) #[] #[ptr (N0+2),ptr N0,ptr Co,ptr (N0+3)]) g3
 have hVs:=SV.out
 have hUs:=SU.out
 have o0:=(zae (i:=0) (v:=.func (.func 101) #[] #[ptr (N0+2),ptr N0,ptr Co,ptr (N0+3)]) (show N0≠N0+3 by omega)).trans ((nY.block N0 (by omega)).trans g0U)
 have o1:=(zae (i:=0) (v:=.func (.func 101) #[] #[ptr (N0+2),ptr N0,ptr Co,ptr (N0+3)]) (show N0+1≠N0+3 by omega)).trans ((nY.block (N0+1) (by omega)).trans g1)
 have o2:=(zae (i:=0) (v:=.func (.func 101) #[] #[ptr (N0+2),ptr N0,ptr Co,ptr (N0+3)]) (show N0+2≠N0+3 by omega)).trans ((nY.block (N0+2) (by omega)).trans g2)
 have hTZ:Tw N0 B Co d (Y.setCell ⟨N0+3,0,none⟩ (.func (.func 101) #[] #[ptr (N0+2),ptr N0,ptr Co,ptr (N0+3)])):=hT0.same (by rw [zay];omega) (fun b hb=>(zae (by omega)).trans ((nY.block b (by omega)).trans ((nU.block b (by omega)).trans (nV.block b (by omega)))))
 generalize Y.setCell ⟨N0+3,0,none⟩ (.func (.func 101) #[] #[ptr (N0+2),ptr N0,ptr Co,ptr (N0+3)])=Z at hjZ q3 o0 o1 o2 hTZ ⊢
 have hW:Wl Z d B Co N0 l:=⟨hTZ,o0,o2,q3⟩
 have k101:=zlH d hO B Co N0 l J Jx hJ hJx (fun pre x W1 hj hR=>anyY (m:=3-1) (hY pre x W1 hj hR)) d.steps.length 0 (by omega) [] (List.replicate d.steps.length 0) [] Z rfl (by simp) hW (by rw [o1,List.nil_append];simp) hjZ (fun t ht=>by simpa using ht)
 have c4:=zaa (i:=0) q3 rfl
 rw [List.drop_zero] at k101
 gi_wp2_with (first | (gi_at_call 101;refine CallsIn.mono (anyN k101) ?_;rintro e w5 (⟨rfl,hJ5,_⟩ | ⟨rfl,_,qs,hqs,hJ5⟩)) | gi_in)
 ·go_end0
  exact⟨⟨_,rfl⟩,.inl ⟨_,rfl,by simpa using hJ5⟩⟩
 ·go_end0
  exact⟨⟨_,rfl⟩,.inr ⟨qs,by simpa using hqs,by simpa using hJ5⟩⟩
end Go.Proofs.Ytedomogjmhommaa
namespace Go.Proofs.Ytedomogjmhommaa
open Go.RowKit
def zeD (d:Dry) (l:List St) (k:Nat):Bool:=match d.steps[k]?,l[k]? with | some x,some s=>!za5 x s | _,_=>false
def brk (d:Dry) (l:List St):Int:=zcM (zeD d l) l.length
theorem zlB {w:World} {base:Nat} {v:Value} {xs:List St} (h:w.ownsRow base 24 3 v xs.length (xs.map St.cells).flatten):Sl w v 3 (xs.map St.cells) :=
 zcF (fun y hy=>by obtain⟨x,_,rfl⟩:=List.mem_map.1 hy;rfl) (by simp) h
end Go.Proofs.Ytedomogjmhommaa
namespace Go.Proofs.Ytedomogjmhommaa
open Go.RowKit Go.Shelf
theorem Sl.one {w w' : World} {v:Value} {sz r:Nat} {xs:List (List Value)} {y:Value} {e:TypeId} {fz:Nat×Nat} (h:Sl w v sz xs) (hr:w.heap[r]?=some (.cells #[y] e fz)) (h2:∀ l∈xs,2≤l.length) (hb:But [r] w w'):Sl w' v sz xs:=by
 obtain⟨cap,h | ⟨b,off,h1,h3,h4⟩⟩:=h
 ·exact⟨cap,.inl h⟩
 ·refine⟨cap,.inr ⟨b,off,h1,Nat.lt_of_lt_of_le h3 hb.size,fun j k l x hj hl=>?_⟩⟩
  by_cases hbr:b=r
  ·subst hbr
   exfalso
   have hlen:=h2 l (List.mem_of_getElem? hj)
   have c1:=h4 j 1 l _ hj (List.getElem?_eq_getElem (by omega))
   unfold World.cell? at c1
   dsimp only at c1
   rw [hr] at c1
   have:=(Array.getElem?_eq_some_iff.1 c1).1
   simp at this
  ·exact hb.cell (by simpa using hbr) (h4 j k l x hj hl)
theorem StoveAt.one {w w' : World} {B r:Nat} {d:Dry} {y:Value} {e:TypeId} {fz:Nat×Nat} (h:StoveAt w B d) (hr:w.heap[r]?=some (.cells #[y] e fz)) (hb:But [r] w w'):StoveAt w' B d:=by
 have hBr:B≠r:=fun e=>by
  subst e
  have c1:=h.soak
  unfold World.cell? at c1
  dsimp only at c1
  rw [hr] at c1
  have:=(Array.getElem?_eq_some_iff.1 c1).1
  simp at this
 have k:∀ {i:Nat} {v:Value},w.cell? ⟨B,i,none⟩=some v→w'.cell? ⟨B,i,none⟩=some v:=fun h'=>hb.cell (by simpa using hBr) h'
 exact⟨Nat.lt_of_lt_of_le h.lt hb.size,h.heats.imp fun _ x=>⟨k x.1,x.2.one hr (fun l hl=>by obtain⟨p,_,rfl⟩:=List.mem_map.1 hl;exact Nat.le_refl 2) hb⟩,k h.soak,k h.brittle,k h.s0,k h.s1,k h.s2,h.steps.imp fun _ x=>⟨k x.1,x.2.one hr (by simp) hb⟩,h.stages.imp fun _ x=>⟨k x.1,x.2.one hr (by simp [zd5]) hb⟩⟩
theorem Tw.one {N0 B Co r:Nat} {d:Dry} {w w' : World} {y:Value} {e:TypeId} {fz:Nat×Nat} (h:Tw N0 B Co d w) (hr:w.heap[r]?=some (.cells #[y] e fz)) (hb:But [r] w w') (hrN:r<N0) (hC:Co≠r) (hN:N0≤w.heap.size):Tw N0 B Co d w':=by
 have hc:But [r] (cutW N0 w) (cutW N0 w'):=⟨hb.os,hb.tape,hb.output,by rw [zcq,zcq];have:=hb.size;omega,fun b hbl hn=>by
  rw [zcq] at hbl
  rw [zhC (by omega),zhC (by omega)]
  exact hb.block b (by omega) hn⟩
 exact⟨h.1.one ((zhC hrN).trans hr) hc,hc.cell (by simpa using hC) h.2⟩
theorem zhv (B:Nat) (w:World):CallsIn FW 0 Try.prog 71 #[ptr B] w fun e w'=>e=.returned (.func (.func 100) #[] #[ptr w.heap.size])∧w'=w.alloc (.cells #[ptr B] 87):=by
 gi_enter Try.func71,Try.ntmps71
 gi_wp2
 go_ret
 exact⟨by simp,rfl⟩
theorem zjv (l:List Int):∀ y∈l.map one,y.length=1:=by simp
theorem zcj (l:List Int):(l.map one).flatten=l.map num:=by
 induction l with
 | nil=>rfl
 | cons a l ih=>rw [List.map_cons,List.flatten_cons,ih];rfl
theorem znT {W:World} {q:Nat} {a:List Int} {n c:Nat} (h:W.heap[q]?=some (.cells (a.map num).toArray 3 (0,0))) (hn:a.length=n):Sl W (.slice (some ⟨q,0,none⟩) n c) 1 (a.map one):=by
 refine⟨c,.inr ⟨q,0,by rw [List.length_map,hn],zav h,fun j k l x hj hk=>?_⟩⟩
 rw [List.getElem?_map] at hj
 cases hx:a[j]? with
 | none=>rw [hx] at hj;cases hj
 | some y =>
  rw [hx] at hj
  cases hj
  have hk0:k=0:=by
   have:=(List.getElem?_eq_some_iff.1 hk).1
   simp at this
   omega
  subst hk0
  cases hk
  refine zaa h ?_
  rw [List.getElem?_toArray,List.getElem?_map]
  simp [hx]
theorem zoY (l:List Int):∀ y∈l.map one,∀ x∈y,x.oneCell'=true:=by simp [Value.oneCell']
theorem zkh (a:Addr) (n c:Nat) (xs:List Int) (w:World) (hu:Sl w (.slice (some a) n c) 1 (xs.map one)) (hl:xs.length≤1000000000):CallsIn FW 0 Try.prog 74 #[.slice (some a) n c] w fun e w'=>∃ v,e=.returned v∧Nx w w'∧w'.ownsRow w.heap.size 3 1 v xs.length (xs.map num):=by
 have hnil:=fun W=>Lib.run_eql_slice_nil (P:=Try.prog) W 38 3 (some a) n c 0 0 Try.underlying38
 gi_enter Try.func74,Try.ntmps74
 gi_upto_region 3 with fail
 gi_wp2_with ((gi_at_builtin;refine zcx T38 rfl _ _ rfl rfl w.heap.size (.slice (some ⟨w.heap.size,0,none⟩) 0 0) 0 [] rfl (zgb zaT (Nat.le_refl _)) rfl _ (xs.map one) rfl (hu.nx (zaj (Nx.refl _) _)) (zjv _) (zoY _) (by simp;omega) (by simp;omega) (by simp) ?_;intro v3 w9 o9 g9 a9;simp only [Act.put,List.setIfInBounds_toArray,List.set_cons_succ,List.set_cons_zero]))
 go_ret
 refine⟨_,rfl,Below.grown (zaj (Nx.refl _) _) g9 (by simp) (fun r e=>by cases e;exact Nat.le_refl _),?_⟩
 rw [List.nil_append,zcj,List.length_map] at o9
 exact o9
def ziG (d:Dry) (plan:List Int):Option (List Int)→List Int×Int×Bool×Int
 | some a=>(a,brk d (zaq d d.start plan a),true,0)
 | none=>([],0,false,0)
def zbL (d:Dry) (plan:List Int):List Int×Int×Bool×Int :=
 if zbp d plan≠0 then ([],0,false,zbp d plan) else ziG d plan ((zaH d.steps).find? (fun a=>decide (0≤brk d (zaq d d.start plan a))))
theorem airs_mem {xs:List Stp} {a:List Int}:a∈zaH xs↔a.length=xs.length∧∀ (i:Nat) (x:Stp) (y:Int),xs[i]?=some x→a[i]?=some y→y∈x.damps:=by
 induction xs generalizing a with
 | nil =>
  simp only [zaH,List.mem_singleton]
  constructor
  ·rintro rfl;exact⟨rfl,fun i x y h=>by simp at h⟩
  ·rintro ⟨h,_⟩;exact List.eq_nil_of_length_eq_zero h
 | cons x xs ih =>
  simp only [zaH,List.mem_flatMap,List.mem_map]
  constructor
  ·rintro ⟨y,hy,t,ht,rfl⟩
   obtain⟨h1,h2⟩:=ih.1 ht
   refine⟨by simp [h1],fun i x' y' hx hy'=>?_⟩
   cases i with
   | zero=>simp at hx hy';subst hx;subst hy';exact hy
   | succ i=>exact h2 i x' y' (by simpa using hx) (by simpa using hy')
  ·rintro ⟨h1,h2⟩
   cases a with
   | nil=>simp at h1
   | cons y t=>exact⟨y,h2 0 x y rfl rfl,t,ih.2 ⟨by simpa using h1,fun i x' y' hx hy'=>h2 (i+1) x' y' (by simpa using hx) (by simpa using hy')⟩,rfl⟩
theorem zfe {d:Dry} (hO:d.Ok) {plan a:List Int} (hpl:plan.length=d.steps.length) (hpp:∀ h∈plan,0≤h∧h≤(d.heats.length:Int)-1) (ha:a∈zaH d.steps):PA d plan a:=by
 obtain⟨h1,h2⟩:=airs_mem.1 ha
 refine⟨by omega,hpp,fun y hy=>?_⟩
 obtain⟨i,hi,rfl⟩:=List.mem_iff_getElem.1 hy
 have hx:d.steps[i]?=some (d.steps[i]'(by omega)):=List.getElem?_eq_getElem (by omega)
 have:=zeI (h2 i _ _ hx (List.getElem?_eq_getElem hi))
 have h3:=(hO.st _ (List.mem_of_getElem? hx)).1
 omega
end Go.Proofs.Ytedomogjmhommaa
namespace Go.Proofs.Ytedomogjmhommaa
open Go.RowKit
theorem zkq (d:Dry) {s:St} {hs aa:List Int} {k:Nat} (h:hs.length=aa.length) (hk:k<hs.length):(zaq d s hs aa)[k]?=some (stAt d s hs aa (k+1)):=by
 have hka:k<aa.length:=by omega
 have h1:=zcO d s hs aa k _ _ (List.getElem?_eq_getElem hk) (List.getElem?_eq_getElem hka)
 have hl:=zbu d s hs aa h
 have h2:((zaq d s hs aa).take (k+1))[k]?=some (stAt d s hs aa (k+1)):=by
  rw [h1,List.getElem?_append_right (by rw [List.length_take];omega),List.length_take,hl]
  rw [show k-min k hs.length=0 by omega]
  rfl
 rw [List.getElem?_take,if_pos (by omega)] at h2
 exact h2
end Go.Proofs.Ytedomogjmhommaa
namespace Go.Proofs.Ytedomogjmhommaa
open Go.RowKit
structure Sn where
 step:Int
 lo:Int
 hi:Int
abbrev Sn.cells (x:Sn):List Value:=[num x.step,num x.lo,num x.hi]
def ziD (d:Dry) (x:Sn):Int:=if ¬ (0≤x.step∧x.step≤(d.steps.length:Int)-1) then 6 else if insB (x.lo,x.hi) 0 5000=false then 1 else 0
def ziE (d:Dry) (seen:List Sn):Int:=if 8<seen.length then 2 else orF (seen.map (ziD d))
end Go.Proofs.Ytedomogjmhommaa
namespace Go.Proofs.Ytedomogjmhommaa
open Go.RowKit
def zdu (l:List St) (x:Sn):Bool:=match l[x.step.toNat]? with | some s=>decide (x.lo≤s.w∧s.w≤x.hi) | none=>false
def zee (l:List St) (seen:List Sn):Bool:=seen.all (zdu l)
end Go.Proofs.Ytedomogjmhommaa
namespace Go.Proofs
open Go.Shelf Go.RowKit Go.Lib Go.Sort
def Try.sortSt_ren : Go.Shelf.Ren := ⟨fun | 6 => 94 | 15 => 104 | 14 => 103 | 28 => 114 | 29 => 115 | 20 => 106 | 21 => 107 | 22 => 108 | 23 => 109 | 24 => 110 | 25 => 111 | 26 => 112 | 27 => 113 | 46 => 116 | 47 => 117 | 48 => 118 | 49 => 119 | 50 => 120 | 57 => 121 | n => n, fun | 22 => 69 | 24 => 24 | 25 => 109 | 3 => 3 | 39 => 157 | 0 => 0 | 53 => 166 | 55 => 168 | 4 => 4 | 46 => 160 | 45 => 159 | 50 => 142 | 5 => 5 | 9 => 9 | 66 => 169 | 70 => 173 | 76 => 175 | 77 => 176 | n => n, fun | n => n⟩
theorem Try.sortSt : Go.Proofs.SlLaysF0.n6 Try.prog Try.sortSt_ren := {
  mixed := by kernel_rfl
  f6 := ⟨Try.f94.name, by decide, Try.func94.trans (congrArg some (by kernel_rfl))⟩
  f14 := ⟨Try.f103.name, by decide, Try.func103.trans (congrArg some (by kernel_rfl))⟩
  f15 := Try.func104.trans (congrArg some (by kernel_rfl))
  f20 := ⟨Try.f106.name, by decide, Try.func106.trans (congrArg some (by kernel_rfl))⟩
  f21 := ⟨Try.f107.name, by decide, Try.func107.trans (congrArg some (by kernel_rfl))⟩
  f22 := ⟨Try.f108.name, by decide, Try.func108.trans (congrArg some (by kernel_rfl))⟩
  f23 := ⟨Try.f109.name, by decide, Try.func109.trans (congrArg some (by kernel_rfl))⟩
  f24 := ⟨Try.f110.name, by decide, Try.func110.trans (congrArg some (by kernel_rfl))⟩
  f25 := ⟨Try.f111.name, by decide, Try.func111.trans (congrArg some (by kernel_rfl))⟩
  f26 := ⟨Try.f112.name, by decide, Try.func112.trans (congrArg some (by kernel_rfl))⟩
  f27 := ⟨Try.f113.name, by decide, Try.func113.trans (congrArg some (by kernel_rfl))⟩
  f28 := Try.func114.trans (congrArg some (by kernel_rfl))
  f29 := Try.func115.trans (congrArg some (by kernel_rfl))
  f46 := ⟨Try.f116.name, by decide, Try.func116.trans (congrArg some (by kernel_rfl))⟩
  f47 := Try.func117.trans (congrArg some (by kernel_rfl))
  f48 := Try.func118.trans (congrArg some (by kernel_rfl))
  f49 := ⟨Try.f119.name, by decide, Try.func119.trans (congrArg some (by kernel_rfl))⟩
  f50 := ⟨Try.f120.name, by decide, Try.func120.trans (congrArg some (by kernel_rfl))⟩
  f57 := ⟨Try.f121.name, by decide, Try.func121.trans (congrArg some (by kernel_rfl))⟩
  t0 := Try.underlying0
  a0 := Try.isAgg0
  z0 := Try.sizeOf0
  v0 := Try.zeroValue0
  t3 := Try.underlying3
  a3 := Try.isAgg3
  z3 := Try.sizeOf3
  v3 := Try.zeroValue3
  t4 := Try.underlying4
  a4 := Try.isAgg4
  z4 := Try.sizeOf4
  v4 := Try.zeroValue4
  t5 := Try.underlying5
  a5 := Try.isAgg5
  z5 := Try.sizeOf5
  v5 := Try.zeroValue5
  t9 := Try.underlying9
  a9 := Try.isAgg9
  z9 := Try.sizeOf9
  v9 := Try.zeroValue9
  t22 := Try.underlying69
  a22 := Try.isAgg69
  z22 := Try.sizeOf69
  v22 := Try.zeroValue69
  t25 := Try.underlying109
  a25 := Try.isAgg109
  z25 := Try.sizeOf109
  v25 := Try.zeroValue109
  t39 := Try.underlying157
  a39 := Try.isAgg157
  z39 := Try.sizeOf157
  v39 := Try.zeroValue157
  t45 := Try.underlying159
  a45 := Try.isAgg159
  z45 := Try.sizeOf159
  v45 := Try.zeroValue159
  t46 := Try.underlying160
  a46 := Try.isAgg160
  z46 := Try.sizeOf160
  v46 := Try.zeroValue160
  t50 := Try.underlying142
  a50 := Try.isAgg142
  z50 := Try.sizeOf142
  v50 := Try.zeroValue142
  t53 := Try.underlying166
  a53 := Try.isAgg166
  z53 := Try.sizeOf166
  v53 := Try.zeroValue166
  t55 := Try.underlying168
  a55 := Try.isAgg168
  z55 := Try.sizeOf168
  v55 := Try.zeroValue168
  t66 := Try.underlying169
  a66 := Try.isAgg169
  z66 := Try.sizeOf169
  v66 := Try.zeroValue169
  t70 := Try.underlying173
  a70 := Try.isAgg173
  z70 := Try.sizeOf173
  v70 := Try.zeroValue173
  t76 := Try.underlying175
  a76 := Try.isAgg175
  z76 := Try.sizeOf175
  v76 := Try.zeroValue175
  t77 := Try.underlying176
  a77 := Try.isAgg176
  z77 := Try.sizeOf176
  v77 := Try.zeroValue176 }
end Go.Proofs
namespace Go.Proofs.Ytedomogjmhommaa
open Go.RowKit Go.Shelf Go.Lib Go.Sort
theorem aE24 (w:World):(isAgg (Try.sortSt_ren.t 24)).run Try.prog w=.ok true w:=by kernel_rfl
theorem zE24 (w:World):(Go.sizeOf (Try.sortSt_ren.t 24)).run Try.prog w=.ok 3 w:=by kernel_rfl
theorem f94:Try.sortSt_ren.f 6=94:=by kernel_rfl
theorem e63:∀ args w,(callFunc 63 args).run Try.prog w=.ok (.enter 63 args) w:=enters_of Try.func63 (by kernel_rfl) rfl
theorem zmZ (m:Nat) [Inhabited (StM m)] (hm:m≤4) (blk off size:Nat) (w:World):CmpLays Try.prog 63 #[] (fun x:StM m=>x.1.cells) 3 (fun x y=>zc1 x.1 y.1) blk off size w:=fun q os dk _ x y=>by
 have h:=callsIn_wide.1 (zjw x.1 y.1 m (sortWorldK (fun x:StM m=>x.1.cells) 3 w blk off q dk os) x.2 y.2 hm)
 refine h.mono ?_
 rintro e w' ⟨rfl,rfl⟩
 refine⟨rfl,0,#[.cells #[num x.1.w,num x.1.c,num x.1.h] 24,.cells #[num y.1.w,num y.1.c,num y.1.h] 24,.cells #[num (x.1.w-y.1.w),num (x.1.c-y.1.c),num (x.1.h-y.1.h)] 3],?_⟩
 rw [alloc_eq_grow,alloc_eq_grow,alloc_eq_grow,grow_grow,grow_grow]
 rfl
end Go.Proofs.Ytedomogjmhommaa
namespace Go.Proofs.Ytedomogjmhommaa
open Go.RowKit Go.Shelf Go.Lib Go.Sort
abbrev encM (m:Nat):StM m→List Value:=fun x=>x.1.cells
abbrev attM {m:Nat} (xs:List St) (hok:∀ s∈xs,s.Ok m):List (StM m):=xs.pmap (fun s h=>(⟨s,h⟩:StM m)) hok
theorem zon {m:Nat} {xs:List St} (hok:∀ s∈xs,s.Ok m):(attM xs hok).map (·.1)=xs:=by
 rw [List.map_pmap]
 simp
theorem zjg {m:Nat} [Inhabited (StM m)] (d:Array (StM m)) {j:Nat} (hj:j<d.size * 3):((d.toList.map (·.1)).map St.cells).flatten[j]?=some (flatK (encM m) 3 d)[j]!:=by
 have hi:j / 3<d.size:=Nat.div_lt_of_lt_mul (by omega)
 rw [get_flatK _ _ _ _ (by simpa using hj)]
 have h1:=zii (sz:=3) ((d.toList.map (·.1)).map St.cells) (j / 3) (j % 3) (d[j / 3]).1.cells ((d[j / 3]).1.cells[j % 3]!) (fun y hy=>by obtain⟨x,_,rfl⟩:=List.mem_map.1 hy;rfl) (by simp [hi]) (by
  have h3:j % 3<(d[j / 3]).1.cells.length:=Nat.mod_lt _ (by decide)
  rw [List.getElem?_eq_getElem h3,getElem!_pos (d[j / 3]).1.cells (j % 3) h3])
 rw [show j / 3 * 3+j % 3=j by omega] at h1
 rw [h1,getElem!_pos d (j / 3) hi]
theorem holds_of {m:Nat} [Inhabited (StM m)] {W:World} {g:Nat} {cur:Array Value} (d:Array (StM m)) (hg:W.heap[g]?=some (.cells cur 24 (0,0))) (ht:cur.toList.take (d.size * 3)=((d.toList.map (·.1)).map St.cells).flatten):HoldsK (encM m) 3 W g 0 d:=by
 intro j hj
 rw [size_flatK] at hj
 refine⟨zaa hg ?_,zac hg⟩
 have h1:=zjg d hj
 rw [← ht,List.getElem?_take,if_pos hj] at h1
 rw [Nat.zero_add]
 simpa using h1
end Go.Proofs.Ytedomogjmhommaa
