import Derived.Test.YtbbanmifdbeneaaDoorF32
import Derived.Test.YtbbanmifdbeneaaDoorF11
set_option linter.all false
set_option maxRecDepth 100000
set_option maxHeartbeats 4000000
open Go.World renaming alloc → jqa
namespace Go.Proofs.YtbbanmifdbeneaaDoor
open Go.RowKit
def exL:Lg:=⟨-1,1,[(1,13,15),(0,15,16),(1,17,19)]⟩
theorem zqv (tmps:Array Value) (W:World) (b0 b1:Nat) (c0 c1:Array Value) (h0:tmps[0]?=some (.pointer (some ⟨b0,0,none⟩))) (h1:tmps[1]?=some (.pointer (some ⟨b1,0,none⟩))) (z0:c0.size=14) (z1:c1.size=3) (e0:W.heap[b0]?=some (.cells c0 31 (0,0))) (e1:W.heap[b1]?=some (.cells c1 37 (0,0))) :
  (results Tryd.f22 tmps).run Tryd.prog W=.ok (.tuple #[.agg c0,.agg c1]) W:=by
 have cc:∀ i (h:i<14),W.cell? ⟨b0,i,none⟩=some (c0[i]):=fun i h=>by unfold World.cell?;dsimp only;rw [e0];simp [z0,h]
 have cd:∀ i (h:i<3),W.cell? ⟨b1,i,none⟩=some (c1[i]):=fun i h=>by unfold World.cell?;dsimp only;rw [e1];simp [z1,h]
 have f0:=cc 0 (by omega);have f1:=cc 1 (by omega);have f2:=cc 2 (by omega);have f3:=cc 3 (by omega);have f4:=cc 4 (by omega);have f5:=cc 5 (by omega);have f6:=cc 6 (by omega);have f7:=cc 7 (by omega);have f8:=cc 8 (by omega);have f9:=cc 9 (by omega);have f10:=cc 10 (by omega);have f11:=cc 11 (by omega);have f12:=cc 12 (by omega);have f13:=cc 13 (by omega);have g0:=cd 0 (by omega);have g1:=cd 1 (by omega);have g2:=cd 2 (by omega);clear cc cd;simp [results,Tryd.results22,go_sem,h0,h1,f0,f1,f2,f3,f4,f5,f6,f7,f8,f9,f10,f11,f12,f13,g0,g1,g2];refine⟨?_,?_⟩
 ·apply Array.ext
  ·simp [z0]
  ·intro i h1 h2
   have hi:i<14:=by rw [← z0];exact h2
   rcases i with _ | _ | _ | _ | _ | _ | _ | _ | _ | _ | _ | _ | _ | _ | i<;>first | rfl | omega
 ·apply Array.ext
  ·simp [z1]
  ·intro i h1 h2
   have hi:i<3:=by rw [← z1];exact h2
   rcases i with _ | _ | _ | i<;>first | rfl | omega
theorem zc2 {w:World} {g cap n sz e:Nat} {cs:Array Value} {xs:List (List Value)} (hg:w.heap[g]?=some (.cells cs e (0,0))) (hn:n=xs.length) (hz:∀ x∈xs,x.length=sz) (hc:cs.toList=xs.flatten):Sl w (.slice (some ⟨g,0,none⟩) n cap) sz xs:=by
 subst hn;refine⟨cap,.inr ⟨g,0,rfl,(Array.getElem?_eq_some_iff.1 hg).1,fun j k l x hj hk=>?_⟩⟩;unfold World.cell?;dsimp only;rw [hg];have key:∀ (ys:List (List Value)) (j k:Nat) (l:List Value) (x:Value),(∀ y∈ys,y.length=sz)→ys[j]?=some l→l[k]?=some x→ys.flatten[j * sz+k]?=some x:=by
  intro ys
  induction ys with
  | nil=>intro j k l x _ h;simp at h
  | cons y ys ih =>
   intro j k l x hl hj hk;have hy:=hl y (List.mem_cons_self ..)
   cases j with
   | zero =>
    simp only [List.getElem?_cons_zero,Option.some.injEq] at hj;subst hj;have:k<y.length:=(List.getElem?_eq_some_iff.1 hk).1;rw [Nat.zero_mul,Nat.zero_add,List.flatten_cons,List.getElem?_append_left this];exact hk
   | succ j =>
    rw [List.flatten_cons,List.getElem?_append_right (by rw [hy,Nat.succ_mul];omega),hy];have:(j+1) * sz+k-sz=j * sz+k:=by rw [Nat.succ_mul];omega
    rw [this];exact ih j k l x (fun y hy=>hl y (List.mem_cons_of_mem _ hy)) hj hk
 have:=key xs j k l x hz hj hk;rw [← hc] at this
 simpa using this
theorem zcl {w:World} {g n cap e:Nat} {fz:Nat×Nat} {cs:Array Value} (hg:w.heap[g]?=some (.cells cs e fz)):Kind w (.slice (some ⟨g,0,none⟩) n cap):=fun a n c h=>by
 cases h
 exact⟨_,_,_,hg⟩
theorem al2 {w W:World} {o1 o2:Obj} (h:(w.alloc o1).alloc o2=W):W.heap[w.heap.size]?=some o1∧W.heap[w.heap.size+1]?=some o2∧W.heap.size=w.heap.size+2∧Nx w W:=by
 subst h;refine⟨?_,?_,by simp,zaG (zaG (Below.refl _ _) _) _⟩
 ·rw [heap_alloc_old _ _ (by simp)];exact heap_alloc_new _ _
 ·have:=heap_alloc_new (w.alloc o1) o2
  simpa using this
theorem al3 {w W:World} {o1 o2 o3:Obj} (h:((w.alloc o1).alloc o2).alloc o3=W):W.heap[w.heap.size]?=some o1∧W.heap[w.heap.size+1]?=some o2∧W.heap[w.heap.size+1+1]?=some o3∧W.heap.size=w.heap.size+3∧Nx w W:=by
 subst h;obtain⟨h1,h2,h3,h4⟩:=al2 (w:=w) (o1:=o1) (o2:=o2) rfl;refine⟨?_,?_,?_,by simp,zaG h4 _⟩
 ·rw [heap_alloc_old _ _ (by omega)];exact h1
 ·rw [heap_alloc_old _ _ (by omega)];exact h2
 ·have:=heap_alloc_new ((w.alloc o1).alloc o2) o3
  simpa using this
theorem al4 {w W:World} {o1 o2 o3 o4:Obj} (h:(((w.alloc o1).alloc o2).alloc o3).alloc o4=W):W.heap[w.heap.size]?=some o1∧W.heap[w.heap.size+1]?=some o2∧W.heap[w.heap.size+1+1]?=some o3∧W.heap[w.heap.size+1+1+1]?=some o4∧W.heap.size=w.heap.size+4∧Nx w W:=by
 subst h;obtain⟨h1,h2,h3,h4,h5⟩:=al3 (w:=w) (o1:=o1) (o2:=o2) (o3:=o3) rfl;refine⟨?_,?_,?_,?_,by simp,zaG h5 _⟩
 ·rw [heap_alloc_old _ _ (by omega)];exact h1
 ·rw [heap_alloc_old _ _ (by omega)];exact h2
 ·rw [heap_alloc_old _ _ (by omega)];exact h3
 ·have:=heap_alloc_new (((w.alloc o1).alloc o2).alloc o3) o4
  simpa using this
theorem zjx (w:World):CallsIn FL 0 Tryd.prog 22 #[] w fun e w'=>Nx w w'∧∃ (r:zaR) (lv:Value),e=.returned (.tuple #[exD.val r,.agg #[num (-1),num 1,lv]])∧DitSl w' exD r∧Sl w' lv 3 (exL.ops.map three)∧Kind w' lv:=by
 gi_enter Tryd.func22,Tryd.ntmps22;gi_upto_region 2 with (gi_at_call 13;refine CallsIn.mono (zh6 _ _ _) ?_;rintro e w1 ⟨rfl,n1⟩)
 rename_i wa na wb nb wc nc wd nd we ne K hK;generalize hW1:jqa (jqa (jqa (jqa w _) _) _) _=W1 at na;generalize hW2:jqa (jqa (jqa wa _) _) _=W2 at nb;generalize hW:jqa (jqa w1 _) _=W;obtain⟨p0,p1,p2,p3,ps,pn⟩:=al4 hW1;obtain⟨q0,q1,q2,qs,qn⟩:=al3 hW2;obtain⟨r0,r1,rs,rn⟩:=al2 hW;clear hW hW1 hW2;have f2:Nx W2 W:=Nx.trans nb (Nx.trans nc (Nx.trans nd (Nx.trans ne (Nx.trans n1 rn))));have f1:Nx W1 W:=Nx.trans na (Nx.trans qn f2);have f0:Nx w W:=Nx.trans pn f1;have z1:=f1.size;have z2:=f2.size;have za:=na.size;have zf:W2.heap.size≤w1.heap.size:=(Nx.trans nb (Nx.trans nc (Nx.trans nd (Nx.trans ne n1)))).size;have o0:=(f1.block _ (by omega)).trans p0;have o1:=(f1.block _ (by omega)).trans p1;have o2:=(f1.block _ (by omega)).trans p2;have o3:=(f1.block _ (by omega)).trans p3;have u0:=(f2.block _ (by omega)).trans q0;have u1:=(f2.block _ (by omega)).trans q1;have u2:=(f2.block _ (by omega)).trans q2;refine wpIn_mono (zp5 W w.heap.size (w.heap.size+1) (w1.heap.size+1) (w.heap.size+1+1) (w.heap.size+1+1+1) wa.heap.size (wa.heap.size+1) (wa.heap.size+1+1) w1.heap.size _ _ _ _ _ _ _ _ _ _ _ _ _ _ _ _ _ (by omega) (by omega) (by omega) o0 o1 r1 _ _ _ _ _ _ _ _ _ _ _ _ _ _ _ _ _ _ _ _ _) ?_;rintro e a w' ⟨rfl,hd,t0,t1,kp,sz,so,st,su,v0,g,g0,g1,v1,v2⟩;refine hK _ _ (wpIn_ret (bodyPost_ret (zqv a.tmps w' _ _ _ _ t0 t1 rfl rfl v0 v1) hd ⟨?_,exR (w.heap.size+1+1) (w.heap.size+1+1+1) wa.heap.size (wa.heap.size+1) (wa.heap.size+1+1) w1.heap.size,_,rfl,?_,zc2 v2 rfl (by decide) rfl,zcl v2⟩))
 ·exact⟨so.trans f0.os,st.trans f0.tape,su.trans f0.output,Nat.le_trans f0.size sz,fun k hk=>(kp k (by omega) (by omega) (by omega)).trans (f0.block k hk)⟩
 ·have l2:=(kp _ (by omega) (by omega) (by omega)).trans o2
  have l3:=(kp _ (by omega) (by omega) (by omega)).trans o3;have m0:=(kp _ (by omega) (by omega) (by omega)).trans u0;have m1:=(kp _ (by omega) (by omega) (by omega)).trans u1;have m2:=(kp _ (by omega) (by omega) (by omega)).trans u2;have m3:=(kp _ (by omega) (by omega) (by omega)).trans r0;refine⟨zc2 l2 rfl (by decide) rfl,zc2 l3 rfl (by decide) rfl,zc2 m0 rfl (by decide) rfl,zc2 m1 rfl (by decide) rfl,zc2 m2 rfl (by decide) rfl,zc2 m3 rfl (by decide) rfl,fun a n c h=>by cases h;exact Nat.le_refl _,fun a n c h=>by cases h;exact Nat.le_refl _,fun v hv=>?_⟩;simp only [List.mem_cons,List.not_mem_nil,or_false] at hv;rcases hv with rfl | rfl | rfl | rfl | rfl | rfl
  ·exact zcl l2
  ·exact zcl l3
  ·exact zcl m0
  ·exact zcl m1
  ·exact zcl m2
  ·exact zcl m3
theorem znu (u v:Value) (l m:List Int) (w:World) (hu:Sl w u 1 (l.map fun x=>[num x])) (hv:Sl w v 1 (m.map fun x=>[num x])) (hl:l.length≤1000000) (hm:m.length≤1000000) :
  CallsIn FL 0 Tryd.prog 27 #[u,v] w fun e w'=>e=.returned (.bool (decide (l=m)))∧Nx w w':=by
 obtain⟨a,cap,rfl⟩:=hu.cases;obtain⟨a',cap',rfl⟩:=hv.cases;rw [List.length_map] at hu hv ⊢;rw [List.length_map];have n0:Nx w w:=Below.refl _ _;by_cases hlm:l.length=m.length
 rotate_left
 ·have hb:((l.length:Int) != (m.length:Int))=true:=by simp;omega
  have H:Hid (l≠m):=fun h=>hlm (by rw [h]);clear hlm hu hv;gi_enter Tryd.func27,Tryd.ntmps27;gi_wp2;go_ret;exact⟨by rw [decide_eq_false H.out];rfl,n0⟩
 have hb:((l.length:Int) != (m.length:Int))=false:=by simp [hlm]
 have HL:=Lib.hid hlm;gi_enter Tryd.func27,Tryd.ntmps27;clear hlm;gi_wp2
 gi_loopw [5] (fun i wr=>∃ k:Nat,k≤l.length∧i=num k∧(l=m↔l.drop k=m.drop k)∧Nx w wr) (fun i _=>l.length-(intOf i).toNat)
 case atStart=>exact⟨0,Nat.zero_le _,rfl,Iff.rfl,n0⟩
 case round =>
  obtain⟨k,hk,rfl,he,nr⟩:=hrel;have hlm:l.length=m.length:=HL.out;by_cases hlt:k<l.length
  ·obtain⟨b,off,ha,hbl,hcl⟩:=(hu.nx nr).get (by simp;omega)
   subst ha;have hx:l[k]?=some l[k]:=List.getElem?_eq_getElem hlt;have hdl:=List.drop_eq_getElem_cons hlt;generalize hxk:l[k]=x at hx hdl;have g1:=Sl.one hcl hx;have hlt2:k<m.length:=by omega
   obtain⟨b',off',ha',hbl',hcl'⟩:=(hv.nx nr).get (by simp;omega);subst ha';have hy:m[k]?=some m[k]:=List.getElem?_eq_getElem hlt2;have hdm:=List.drop_eq_getElem_cons hlt2;generalize hyk:m[k]=y at hy hdm;have g2:=Sl.one hcl' hy;rw [hdl,hdm,List.cons.injEq] at he;have HE:=Lib.hid he;have b1:k<l.length:=hlt;have b2:k<m.length:=hlt2;clear hcl hcl' hu hv he hdl hdm hx hy hxk hyk hlm;by_cases hxy:x=y
   ·have hb2:(x != y)=false:=by simp [hxy]
    have HE2:Hid (l=m↔l.drop (k+1)=m.drop (k+1)):=by
     show _↔_;rw [show (l=m↔_) from HE.out];simp [hxy]
    clear hxy HE;gi_upto_region 6 with fail
    gi_big_quiet_th (fail);gi_wp2;exact⟨⟨k+1,hlt,by simp,HE2.out,Nx.drewN nr _⟩,by simp [intOf];omega⟩
   ·have hb2:(x != y)=true:=by simpa using hxy
    have HE2:Hid (l≠m):=by
     show _≠_;intro h;exact hxy (HE.out.1 h).1
    clear hxy HE;gi_upto_region 6 with fail
    gi_big_quiet_th (fail);gi_wp2;go_ret;exact⟨by rw [decide_eq_false HE2.out];rfl,Nx.drewN nr _⟩
  ·obtain rfl:k=l.length:=by omega
   have HE:Hid (l=m):=by
    show _=_;rw [he,List.drop_length,hlm,List.drop_length]
   clear hu hv he hlm;gi_wp2;go_ret;exact⟨by rw [decide_eq_true HE.out];rfl,nr⟩
end Go.Proofs.YtbbanmifdbeneaaDoor
