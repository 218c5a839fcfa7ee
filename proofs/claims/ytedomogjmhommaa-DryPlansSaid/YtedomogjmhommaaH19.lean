import Derived.Test.YtedomogjmhommaaH18
import Derived.Test.YtedomogjmhommaaH13
import Derived.Laws.Rows
import Derived.Test.YtedomogjmhommaaH09
import Derived.Test.YtedomogjmhommaaH06
import Derived.Test.YtedomogjmhommaaH15
import Derived.Test.YtedomogjmhommaaH16
import Derived.Test.YtedomogjmhommaaH12
set_option linter.all false
set_option maxRecDepth 100000
set_option maxHeartbeats 8000000
namespace Go.Proofs.Ytedomogjmhommaa
open Go.RowKit Go.Shelf
theorem zht {F:Fence} {n:Nat} {P:Program} {Q:Exit→Act→World→Prop} {K:Act→World→Prop} {o:Oper} {a:Act} {w w1:World} {v:Value} (hd:∀ c,o.op≠.defer c) (hab:o.about P w a.eval=none) (hrun:(execOp a.eval o).run P w=.ok (.value v) w1) (h:K (a.put o.dst v) w1):o.wpIn F n P a w K Q:=by
 unfold Oper.wpIn
 refine⟨fun f hf=>(by rw [hab] at hf;cases hf),?_⟩
 rw [Oper.semAt_plain F _ _ hd,hrun]
 exact h
theorem zpI {F:Fence} {n:Nat} {ops:Array Oper} {C:World→Prop} {dst:Option Nat} {pos:String} {af:Array Edge} {a:Act} {i j:Nat} {x y:Int} (h1:a.eval (.tmp i)=num x) (h2:a.eval (.tmp j)=num y) {z:Int} (hz:(if y<x then y else x)=z):YieldsC F n Try.prog ops C ⟨dst,.call { callee:=.builtin .min,args:=#[.tmp i,.tmp j],argTypes:=#[3,3] },3,pos,af,none⟩ (num z) a :=
 yCP rfl (fun _=>rfl) fun w _=>by
  subst hz
  generalize a.eval=ρ at h1 h2 ⊢
  simp [execOp,resolve,invoke,builtin,go_sem,h1,h2]
  split<;>omega
theorem zpH {F:Fence} {n:Nat} {ops:Array Oper} {C:World→Prop} {dst:Option Nat} {pos:String} {af:Array Edge} {a:Act} {i j:Nat} {x y:Int} (h1:a.eval (.tmp i)=num x) (h2:a.eval (.tmp j)=num y) {z:Int} (hz:(if x<y then y else x)=z):YieldsC F n Try.prog ops C ⟨dst,.call { callee:=.builtin .max,args:=#[.tmp i,.tmp j],argTypes:=#[3,3] },3,pos,af,none⟩ (num z) a :=
 yCP rfl (fun _=>rfl) fun w _=>by
  subst hz
  generalize a.eval=ρ at h1 h2 ⊢
  simp [execOp,resolve,invoke,builtin,go_sem,h1,h2]
  split<;>omega
abbrev spc (p:Int×Int):List Value:=[num p.1,num p.2]
theorem zkJ (l:List (Int×Int)):(l.map spc).flatten.length=2 * l.length:=by
 rw [zeM (sz:=2) _ (fun y hy=>by obtain⟨p,_,rfl⟩:=List.mem_map.1 hy;rfl),List.length_map,Nat.mul_comm]
theorem zlp {w:World} {base g n cap:Nat} {l1 l2:List (Int×Int)} {p q:Int×Int} (h:w.ownsRow base 45 2 (.slice (some ⟨g,0,none⟩) n cap) n ((l1++p :: l2).map spc).flatten):((w.setCell ⟨g,l1.length * 2,none⟩ (num q.1)).setCell ⟨g,l1.length * 2+1,none⟩ (num q.2)).ownsRow base 45 2 (.slice (some ⟨g,0,none⟩) n cap) n ((l1++q :: l2).map spc).flatten:=by
 obtain⟨h1,⟨h2,_⟩ | ⟨g',cap',cur,h2,hb,hg,hc,hm,hs,ht⟩⟩:=h
 ·cases h2
 ·cases h2
  refine⟨?_,.inr ⟨g,cap,_,rfl,hb,zaA (zaA hg),hc,hm,by simpa using hs,?_⟩⟩
  ·rw [zkJ] at h1 ⊢
   simpa using h1
  ·simp only [Array.toList_setIfInBounds,List.take_set,ht]
   rw [List.map_append,List.flatten_append,List.map_append,List.flatten_append,List.map_cons,List.map_cons,List.flatten_cons,List.flatten_cons]
   have hl:=zkJ l1
   rw [List.set_append_right _ _ (by omega),List.set_append_right _ _ (by omega),show l1.length * 2-(l1.map spc).flatten.length=0 by omega,show l1.length * 2+1-(l1.map spc).flatten.length=1 by omega]
   rfl
theorem zeW {w:World} {base g n cap:Nat} {l1 l2:List (Int×Int)} {p:Int×Int} (h:w.ownsRow base 45 2 (.slice (some ⟨g,0,none⟩) n cap) n ((l1++p :: l2).map spc).flatten):w.cell? ⟨g,l1.length * 2,none⟩=some (num p.1)∧w.cell? ⟨g,l1.length * 2+1,none⟩=some (num p.2)∧w.frozen? ⟨g,l1.length * 2,none⟩=false∧w.frozen? ⟨g,l1.length * 2+1,none⟩=false:=by
 obtain⟨h1,⟨h2,_⟩ | ⟨g',cap',cur,h2,hb,hg,hc,hm,hs,ht⟩⟩:=h
 ·cases h2
 ·cases h2
  have hl:=zkJ l1
  have hfl:∀ (i:Nat) (v:Value),((l1++p :: l2).map spc).flatten[i]?=some v→cur[i]?=some v:=fun i v hv=>by
   rw [← ht,List.getElem?_take] at hv
   split at hv
   ·simpa using hv
   ·cases hv
  refine⟨zaa hg (hfl _ _ ?_),zaa hg (hfl _ _ ?_),zac hg,zac hg⟩
  ·rw [List.map_append,List.flatten_append,List.getElem?_append_right (by omega),show l1.length * 2-(l1.map spc).flatten.length=0 by omega];rfl
  ·rw [List.map_append,List.flatten_append,List.getElem?_append_right (by omega),show l1.length * 2+1-(l1.map spc).flatten.length=1 by omega];rfl
theorem Sl.ones {w w' : World} {v:Value} {sz:Nat} {bs:List Nat} {xs:List (List Value)} (h:Sl w v sz xs) (hr:∀ r∈bs,∃ y e fz,w.heap[r]?=some (.cells #[y] e fz)) (h2:∀ l∈xs,2≤l.length) (hb:But bs w w'):Sl w' v sz xs:=by
 obtain⟨cap,h | ⟨b,off,h1,h3,h4⟩⟩:=h
 ·exact⟨cap,.inl h⟩
 ·refine⟨cap,.inr ⟨b,off,h1,Nat.lt_of_lt_of_le h3 hb.size,fun j k l x hj hl=>?_⟩⟩
  by_cases hbr:b∈bs
  ·obtain⟨y,e,fz,hy⟩:=hr b hbr
   exfalso
   have hlen:=h2 l (List.mem_of_getElem? hj)
   have c1:=h4 j 1 l _ hj (List.getElem?_eq_getElem (by omega))
   unfold World.cell? at c1
   dsimp only at c1
   rw [hy] at c1
   have:=(Array.getElem?_eq_some_iff.1 c1).1
   simp at this
  ·exact hb.cell hbr (h4 j k l x hj hl)
theorem StoveAt.ones {w w' : World} {B:Nat} {d:Dry} {bs:List Nat} (h:StoveAt w B d) (hr:∀ r∈bs,∃ y e fz,w.heap[r]?=some (.cells #[y] e fz)) (hb:But bs w w'):StoveAt w' B d:=by
 have hBr:B∉bs:=fun e=>by
  obtain⟨y,e,fz,hy⟩:=hr B e
  have c1:=h.soak
  unfold World.cell? at c1
  dsimp only at c1
  rw [hy] at c1
  have:=(Array.getElem?_eq_some_iff.1 c1).1
  simp at this
 have k:∀ {i:Nat} {v:Value},w.cell? ⟨B,i,none⟩=some v→w'.cell? ⟨B,i,none⟩=some v:=fun h'=>hb.cell hBr h'
 exact⟨Nat.lt_of_lt_of_le h.lt hb.size,h.heats.imp fun _ x=>⟨k x.1,x.2.ones hr (fun l hl=>by obtain⟨p,_,rfl⟩:=List.mem_map.1 hl;exact Nat.le_refl 2) hb⟩,k h.soak,k h.brittle,k h.s0,k h.s1,k h.s2,h.steps.imp fun _ x=>⟨k x.1,x.2.ones hr (by simp) hb⟩,h.stages.imp fun _ x=>⟨k x.1,x.2.ones hr (by simp [zd5]) hb⟩⟩
structure Kz (X:World) (d:Dry) (B Co T F:Nat) (U W:World):Prop where
 but:But [T,F] X W
 kp:KpR (X.heap.size+2) (Tw (X.heap.size+2) B Co d) none U W
 kf:KeepsFrom X.heap.size U W
section
variable {X U W W' : World} {d:Dry} {B Co T F:Nat}
theorem Kz.nx (h:Kz X d B Co T F U W) (n:Nx W W') (hN:X.heap.size+2≤W.heap.size):Kz X d B Co T F U W' :=
 ⟨h.but.trans (But.nx n),h.kp.trans (KpR.nx n hN),h.kf.trans (KeepsFrom.of_grownBy (n.grown none) (by simp))⟩
theorem Kz.setT (h:Kz X d B Co T F U W) {v y:Value} {e:TypeId} {fz:Nat×Nat} (hr:W.heap[T]?=some (.cells #[y] e fz)) (hT:T<X.heap.size) (hC:Co≠T) (hN:X.heap.size+2≤W.heap.size):Kz X d B Co T F U (W.setCell ⟨T,0,none⟩ v) :=
 ⟨h.but.trans (But.set (by simp)),h.kp.trans ⟨by rw [zay];exact Nat.le_refl _,fun t=>t.one hr (But.set (by simp)) (by omega) hC hN,fun r o h1 _ h3 _=>(zae (by omega)).trans h3⟩,h.kf.trans ⟨by rw [zay];exact Nat.le_refl _,fun k o hk ho hc=>(zae (fun e=>by subst e;rw [hr] at ho;cases ho;cases hc)).trans ho⟩⟩
theorem Kz.setF (h:Kz X d B Co T F U W) {v y:Value} {e:TypeId} {fz:Nat×Nat} (hr:W.heap[F]?=some (.cells #[y] e fz)) (hT:F<X.heap.size) (hC:Co≠F) (hN:X.heap.size+2≤W.heap.size):Kz X d B Co T F U (W.setCell ⟨F,0,none⟩ v) :=
 ⟨h.but.trans (But.set (by simp)),h.kp.trans ⟨by rw [zay];exact Nat.le_refl _,fun t=>t.one hr (But.set (by simp)) (by omega) hC hN,fun r o h1 _ h3 _=>(zae (by omega)).trans h3⟩,h.kf.trans ⟨by rw [zay];exact Nat.le_refl _,fun k o hk ho hc=>(zae (fun e=>by subst e;rw [hr] at ho;cases ho;cases hc)).trans ho⟩⟩
theorem Kz.row (h:Kz X d B Co T F U W) {row:Option Nat} (hg:W.grownBy W' row) (hr:∀ r,row=some r→X.heap.size≤r∧(X.heap.size+2≤W.heap.size)∧∃ cur fz,W.heap[r]?=some (.cells cur 45 fz)) (hN:X.heap.size+2≤W.heap.size) (hL:∀ r,row=some r→X.heap.size+2≤r):Kz X d B Co T F U W' :=
 ⟨h.but.own hg (fun r e=>(hr r e).1),h.kp.trans ⟨hg.size,fun t=>t.same hg.size (fun b hb=>hg.block b (by omega) (fun e=>by have:=hL b e.symm;omega)),fun r o h1 _ h3 h4=>(hg.block r (zav h3) (fun e=>by obtain⟨_,_,cur,fz,hc⟩:=hr r e.symm;rw [hc] at h3;cases h3;exact (h4 cur fz).1 rfl)).trans h3⟩,
  h.kf.trans ⟨hg.size,fun k o hk ho hc=>(hg.block k (zav ho) (fun e=>by obtain⟨_,_,cur,fz,hcc⟩:=hr k e.symm;rw [hcc] at ho;cases ho;cases hc)).trans ho⟩⟩
end
end Go.Proofs.Ytedomogjmhommaa
namespace Go.Proofs.Ytedomogjmhommaa
open Go.RowKit Go.WideMaps
theorem g45:Try.prog.eqGuardType Try.prog.depth 45=false:=by kernel_rfl
theorem zrl:KeyLaw Try.prog 45:=deep_law_laid laidOut (m:=2) (by omega) (of_decide_eq_true (by kernel_rfl)) (by kernel_rfl) (by rw [Try.underlying45])
theorem K45:Maps.Keyed Try.prog 45:=.of_law zrl
theorem znp:Try.prog.keyType 45=true:=by kernel_rfl
theorem zmV:Try.prog.cellsOf 45=2:=by kernel_rfl
theorem zqy {a b:Int} (ha:I64 a) (hb:I64 b) (d:Nat):Try.prog.keyLits (d+2) 45 [num a,num b]=some [.int .i64 a,.int .i64 b]:=by
 unfold Program.keyLits
 rw [Try.underlying45]
 simp [zmV,cells3,zl5 ha,zl5 hb]
theorem zqx {x:Int×Int} (h:I64 x.1∧I64 x.2):∃ l,keyOf Try.prog 45 (spV x)=some l:=by
 obtain⟨n,hn⟩:=zo9
 unfold keyOf
 rw [Try.underlying45,hn]
 simp only [znp,Bool.true_and]
 rw [if_pos (by simp [spV,Value.formed,Try.underlying45,zmV]),show (spV x).cells.toList=[num x.1,num x.2] from rfl,show n+3=(n+1)+2 from rfl,zqy h.1 h.2]
 exact⟨_,rfl⟩
theorem zp8 {x y:Int×Int} (h:spV x=spV y):x=y:=by
 obtain⟨a,b⟩:=x
 obtain⟨c,e⟩:=y
 simp [spV] at h
 obtain⟨rfl,rfl⟩:=h
 rfl
theorem eq45 {s t:Int×Int} (hs:I64 s.1∧I64 s.2) (ht:I64 t.1∧I64 t.2) (w:World):(Op.equalIn 10000 45 (spV s) (spV t)).run Try.prog w=.ok (decide (s=t)) w:=by
 obtain⟨ls,h1⟩:=zqx hs
 obtain⟨lt,h2⟩:=zqx ht
 obtain⟨r,h3,h4⟩:=run_equal_deep w (m:=2) (by omega) (k:=45) (by kernel_rfl) (by rw [Try.underlying45]) h1 h2
 simp only [Op.equal,Op.maxDepth] at h3
 rw [h3]
 congr 1
 have h5:ls=lt↔s=t:=⟨fun e=>zp8 (K45.inj h1 (e ▸ h2)),fun e=>by subst e;rw [h1] at h2;exact Option.some.inj h2⟩
 by_cases e:s=t
 ·rw [decide_eq_true e];exact h4.2 (h5.2 e)
 ·rw [decide_eq_false e]
  cases r
  ·rfl
  ·exact absurd (h5.1 (h4.1 rfl)) e
theorem zg3 (u v:Value) (xs ys:List (Int×Int)) (w:World) (hxI:∀ x∈xs,I64 x.1∧I64 x.2) (hyI:∀ x∈ys,I64 x.1∧I64 x.2) (hu:Sl w u 2 (xs.map spc)) (hv:Sl w v 2 (ys.map spc)) (hl:xs.length≤1000000000) (hl2:ys.length≤1000000000):CallsIn FW 0 Try.prog 32 #[u,v] w fun e w'=>e=.returned (.bool (decide (xs=ys)))∧Nx w w':=by
 obtain⟨a,cap,rfl⟩:=hu.cases
 obtain⟨a2,cap2,rfl⟩:=hv.cases
 rw [List.length_map] at *
 rw [List.length_map] at *
 have HU:=Lib.hid hu
 have HV:=Lib.hid hv
 clear hu hv
 obtain⟨g,hg⟩:∃ g,decide (xs=ys)=g:=⟨_,rfl⟩
 rw [hg]
 have HG:Hid (g=decide (xs=ys)):=hg.symm
 clear hg
 by_cases hlen:xs.length=ys.length
 case neg =>
  have HR:Hid (g=false):=by show _=_;rw [HG.out];exact decide_eq_false fun e=>hlen (by rw [e])
  have b1:((xs.length:Int) != (ys.length:Int))=true:=by simp;omega
  gi_enter Try.func32,Try.ntmps32
  gi_wp2
  go_ret
  exact⟨by rw [HR.out]<;>rfl,Nx.refl _⟩
 case pos =>
 have b1:((xs.length:Int) != (ys.length:Int))=false:=by simp [hlen]
 have HL:=Lib.hid hlen
 clear hlen
 gi_enter Try.func32,Try.ntmps32
 gi_wp2
 clear b1
 gi_loopw [5] (fun i wr=>∃ k:Nat,k≤xs.length∧i=num k∧(∀ j,j<k→xs[j]?=ys[j]?)∧Nx w wr) (fun i _=>xs.length-(intOf i).toNat)
 case atStart=>exact⟨0,Nat.zero_le _,rfl,fun j h=>absurd h (Nat.not_lt_zero _),Nx.refl _⟩
 case round =>
  obtain⟨k,hk,rfl,hno,nr⟩:=hrel
  have HN:=Lib.hid hno
  clear hno
  by_cases hlt:k<xs.length
  ·obtain⟨b,off,rfl,hbl,hcl⟩:=(HU.out).get (by simp;omega)
   have hlt2:k<ys.length:=by have:=HL.out;omega
   obtain⟨b',off',rfl,hbl',hcl'⟩:=(HV.out).get (by simp;omega)
   have hh:xs[k]?=some xs[k]:=List.getElem?_eq_getElem hlt
   have hy:ys[k]?=some ys[k]:=List.getElem?_eq_getElem hlt2
   generalize xs[k]=x at hh
   generalize ys[k]=y at hy
   have e0:wr.cell? ⟨b,off+k * 2,none⟩=some (num x.1):=Sl.at hcl nr hbl hh 0 (v:=num x.1) rfl
   have e1:wr.cell? ⟨b,off+k * 2+1,none⟩=some (num x.2):=Sl.at hcl nr hbl hh 1 (v:=num x.2) rfl
   have f0:wr.cell? ⟨b',off' + k * 2,none⟩=some (num y.1):=Sl.at hcl' nr hbl' hy 0 (v:=num y.1) rfl
   have f1:wr.cell? ⟨b',off' + k * 2+1,none⟩=some (num y.2):=Sl.at hcl' nr hbl' hy 1 (v:=num y.2) rfl
   have hq:=fun (W1:World)=>eq45 (hxI x (List.mem_of_getElem? hh)) (hyI y (List.mem_of_getElem? hy)) W1
   simp only [spV] at hq
   have hg45:=g45
   have HX:=Lib.hid hh
   have HY:=Lib.hid hy
   clear hcl hcl' hh hy
   by_cases hxy:x=y
   ·have HN2:=Lib.hid (show ∀ j,j<k+1→xs[j]?=ys[j]? from fun j hj=>by
     rcases Nat.lt_succ_iff_lt_or_eq.1 hj with hj | rfl
     ·exact HN.out j hj
     ·rw [HX.out,HY.out,hxy])
    rw [decide_eq_true hxy] at hq
    clear hxy
    gi_upto_region 6 with fail
    gi_big_quiet_th (fail)
    gi_wp2
    exact⟨⟨k+1,hlt,by simp,HN2.out,nr.drewN _⟩,by simp [intOf];omega⟩
   ·have HR:Hid (g=false):=by
     show _=_
     rw [HG.out]
     refine decide_eq_false fun e=>hxy ?_
     have h1:=HX.out
     rw [e,HY.out] at h1
     exact (Option.some.inj h1).symm
    rw [decide_eq_false hxy] at hq
    clear hxy
    gi_upto_region 6 with fail
    gi_big_quiet_th (fail)
    gi_wp2
    go_ret
    exact⟨by rw [HR.out]<;>rfl,nr.drewN _⟩
  ·obtain rfl:k=xs.length:=by omega
   have HR:Hid (g=true):=by
    show _=_
    rw [HG.out]
    refine decide_eq_true (List.ext_getElem? fun j=>?_)
    by_cases hj:j<xs.length
    ·exact HN.out j hj
    ·rw [List.getElem?_eq_none (by omega),List.getElem?_eq_none (by have:=HL.out;omega)]
   gi_wp2
   go_ret
   exact⟨by rw [HR.out]<;>rfl,nr⟩
end Go.Proofs.Ytedomogjmhommaa
namespace Go.Proofs.Ytedomogjmhommaa
open Go.RowKit
def cmpI (x y:Int):Int:=if x<y then -1 else if y<x then 1 else 0
def cmpL:List Int→List Int→Int
 | [],[]=>0
 | [],_ :: _=>-1
 | _ :: _,[]=>1
 | x :: xs,y :: ys=>if cmpI x y≠0 then cmpI x y else cmpL xs ys
theorem zl7 (x:Int) (w:World):CallsIn FW 0 Try.prog 105 #[num x] w fun e w'=>e=.returned (.bool false)∧w'=w:=by
 have b1:(x != x)=false:=by simp
 gi_enter Try.func105,Try.ntmps105
 gi_wp2
 go_ret
 exact⟨rfl,rfl⟩
theorem zmY (x y:Int) (w:World):CallsIn FW 0 Try.prog 98 #[num x,num y] w fun e w'=>e=.returned (num (cmpI x y))∧w'=w:=by
 have k:=fun z:Int=>zl7 z
 obtain⟨g,hg⟩:∃ g,cmpI x y=g:=⟨_,rfl⟩
 rw [hg]
 have HG:Hid (g=cmpI x y):=hg.symm
 clear hg
 by_cases h1:x<y
 ·have HR:Hid (g=-1):=by show _=_;rw [HG.out,cmpI,if_pos h1]
  gi_enter Try.func98,Try.ntmps98
  gi_wp2_with (gi_at_call 105;refine CallsIn.mono (k _ _) ?_;rintro e w1 ⟨rfl,rfl⟩)
  go_ret
  exact⟨by rw [HR.out]<;>rfl,rfl⟩
 ·by_cases h2:y<x
  ·have HR:Hid (g=1):=by show _=_;rw [HG.out,cmpI,if_neg h1,if_pos h2]
   gi_enter Try.func98,Try.ntmps98
   gi_wp2_with (gi_at_call 105;refine CallsIn.mono (k _ _) ?_;rintro e w1 ⟨rfl,rfl⟩)
   go_ret
   exact⟨by rw [HR.out]<;>rfl,rfl⟩
  ·have HR:Hid (g=0):=by show _=_;rw [HG.out,cmpI,if_neg h1,if_neg h2]
   gi_enter Try.func98,Try.ntmps98
   gi_wp2_with (gi_at_call 105;refine CallsIn.mono (k _ _) ?_;rintro e w1 ⟨rfl,rfl⟩)
   go_ret
   exact⟨by rw [HR.out]<;>rfl,rfl⟩
theorem zmX (u v:Value) (xs ys:List Int) (w:World) (hu:Sl w u 1 (xs.map one)) (hv:Sl w v 1 (ys.map one)) (hl:xs.length≤1000000000) (hl2:ys.length≤1000000000):CallsIn FW 0 Try.prog 67 #[u,v] w fun e w'=>e=.returned (num (cmpL xs ys))∧w'=w:=by
 have k98:=fun (a b:Int) (w1:World)=>zmY a b w1
 obtain⟨a,cap,rfl⟩:=hu.cases
 obtain⟨a2,cap2,rfl⟩:=hv.cases
 rw [List.length_map] at *
 rw [List.length_map] at *
 have HU:=Lib.hid hu
 have HV:=Lib.hid hv
 clear hu hv
 obtain⟨g,hg⟩:∃ g,cmpL xs ys=g:=⟨_,rfl⟩
 rw [hg]
 have HG:Hid (g=cmpL xs ys):=hg.symm
 clear hg
 gi_enter Try.func67,Try.ntmps67
 gi_wp2
 gi_loopw [11] (fun i wr=>∃ k:Nat,k≤xs.length∧k≤ys.length∧i=num k∧Hid (g=cmpL (xs.drop k) (ys.drop k))∧wr=w) (fun i _=>xs.length-(intOf i).toNat)
 case atStart=>exact⟨0,Nat.zero_le _,Nat.zero_le _,rfl,HG,rfl⟩
 case round =>
  obtain⟨k,hk,hk2,rfl,HN,rfl⟩:=hrel
  by_cases hlt:k<xs.length
  ·obtain⟨b,off,rfl,hbl,hcl⟩:=(HU.out).get (by simp;omega)
   have hh:xs[k]?=some xs[k]:=List.getElem?_eq_getElem hlt
   have HD:=Lib.hid (List.drop_eq_getElem_cons hlt)
   generalize xs[k]=x at hh HD
   have e0:wr.cell? ⟨b,off+k,none⟩=some (num x):=Sl.at1 hcl (Nx.refl _) hbl hh
   clear hcl hh
   by_cases hlt2:k<ys.length
   ·obtain⟨b',off',rfl,hbl',hcl'⟩:=(HV.out).get (by simp;omega)
    have hy:ys[k]?=some ys[k]:=List.getElem?_eq_getElem hlt2
    have HE:=Lib.hid (List.drop_eq_getElem_cons hlt2)
    generalize ys[k]=y at hy HE
    have f0:wr.cell? ⟨b',off' + k,none⟩=some (num y):=Sl.at1 hcl' (Nx.refl _) hbl' hy
    clear hcl' hy
    have HZ:Hid (g=if cmpI x y≠0 then cmpI x y else cmpL (xs.drop (k+1)) (ys.drop (k+1))):=by show _=_;rw [HN.out,HD.out,HE.out];rfl
    have kk:=fun w1=>k98 x y w1
    clear k98
    generalize cmpI x y=c at HZ kk
    by_cases hc:c=0
    ·subst hc
     have HZ2:Hid (g=cmpL (xs.drop (k+1)) (ys.drop (k+1))):=by show _=_;rw [HZ.out,if_neg (by simp)]
     gi_wp2_with (gi_at_call 98;refine CallsIn.mono (kk _) ?_;rintro e w1 ⟨rfl,rfl⟩)
     exact⟨⟨k+1,hlt,hlt2,by simp,HZ2,trivial⟩,by simp [intOf];omega⟩
    ·have HZ2:Hid (g=c):=by show _=_;rw [HZ.out,if_pos hc]
     have bc:(c != 0)=true:=by simp [hc]
     gi_wp2_with (gi_at_call 98;refine CallsIn.mono (kk _) ?_;rintro e w1 ⟨rfl,rfl⟩)
     go_ret
     exact⟨by rw [HZ2.out]<;>rfl,rfl⟩
   ·obtain rfl:k=ys.length:=by omega
    have HZ:Hid (g=1):=by show _=_;rw [HN.out,HD.out,List.drop_length];rfl
    gi_wp2
    go_ret
    exact⟨by rw [HZ.out]<;>rfl,rfl⟩
  ·obtain rfl:k=xs.length:=by omega
   by_cases hlt2:xs.length<ys.length
   ·have HZ:Hid (g=-1):=by show _=_;rw [HN.out,List.drop_length,List.drop_eq_getElem_cons hlt2];rfl
    gi_wp2
    go_ret
    exact⟨by rw [HZ.out]<;>rfl,rfl⟩
   ·have HZ:Hid (g=0):=by show _=_;rw [HN.out,List.drop_length,List.drop_of_length_le (by omega)];rfl
    gi_wp2
    go_ret
    exact⟨by rw [HZ.out]<;>rfl,rfl⟩
end Go.Proofs.Ytedomogjmhommaa
namespace Go.Proofs.Ytedomogjmhommaa
open Go.RowKit
theorem zc6 (x y:Int) (w:World):CallsIn FW 0 Try.prog 48 #[num x,num y] w fun e w'=>e=.returned (spV (x,y))∧w'=w.alloc (.cells #[num x,num y] 45):=by
 gi_enter Try.func48,Try.ntmps48
 gi_wp2
 refine bodyPost_ret (results_cell_row (p:=4) (ty:=45) rfl _ _ w.heap.size 45 #[num x,num y] (0,0) _ rfl (heap_alloc_new _ _) Try.underlying45 rfl (by kernel_rfl)) rfl ?_
 exact⟨rfl,rfl⟩
end Go.Proofs.Ytedomogjmhommaa
namespace Go.Proofs.Ytedomogjmhommaa
open Go.RowKit
def exD:Dry:=⟨[(100,0),(300,10),(500,100)],100,300,⟨1000,200,0⟩,[⟨0,1,true,600,900,200⟩,⟨0,0,true,300,500,150⟩,⟨0,2,false,0,500,100⟩]⟩
theorem ze1 {w:World} {g cap n sz e:Nat} {cs:Array Value} {xs:List (List Value)} (hg:w.heap[g]?=some (.cells cs e (0,0))) (hn:n=xs.length) (hz:∀ x∈xs,x.length=sz) (hc:cs.toList=xs.flatten):Sl w (.slice (some ⟨g,0,none⟩) n cap) sz xs:=by
 subst hn
 refine⟨cap,.inr ⟨g,0,rfl,(Array.getElem?_eq_some_iff.1 hg).1,fun j k l x hj hk=>?_⟩⟩
 unfold World.cell?
 dsimp only
 rw [hg]
 have key:∀ (ys:List (List Value)) (j k:Nat) (l:List Value) (x:Value),(∀ y∈ys,y.length=sz)→ys[j]?=some l→l[k]?=some x→ys.flatten[j * sz+k]?=some x:=by
  intro ys
  induction ys with
  | nil=>intro j k l x _ h;simp at h
  | cons y ys ih =>
   intro j k l x hl hj hk
   have hy:=hl y (List.mem_cons_self ..)
   cases j with
   | zero =>
    simp only [List.getElem?_cons_zero,Option.some.injEq] at hj
    subst hj
    have:k<y.length:=(List.getElem?_eq_some_iff.1 hk).1
    rw [Nat.zero_mul,Nat.zero_add,List.flatten_cons,List.getElem?_append_left this]
    exact hk
   | succ j =>
    rw [List.flatten_cons,List.getElem?_append_right (by rw [hy,Nat.succ_mul];omega),hy]
    have:(j+1) * sz+k-sz=j * sz+k:=by rw [Nat.succ_mul];omega
    rw [this]
    exact ih j k l x (fun y hy=>hl y (List.mem_cons_of_mem _ hy)) hj hk
 have:=key xs j k l x hz hj hk
 rw [← hc] at this
 simpa using this
theorem oth7 {w:World} {b k:Nat} {v0 v1 v2 v3 v4 v5 v6:Value} (h:k≠b):(((((((w.setCell ⟨b,0,none⟩ v0).setCell ⟨b,1,none⟩ v1).setCell ⟨b,2,none⟩ v2).setCell ⟨b,3,none⟩ v3).setCell ⟨b,4,none⟩ v4).setCell ⟨b,5,none⟩ v5).setCell ⟨b,6,none⟩ v6).heap[k]?=w.heap[k]?:=by
 repeat rw [heap_setCell_other _ _ _ _ (by exact h)]
theorem nx7 {w0 w:World} {b:Nat} {v0 v1 v2 v3 v4 v5 v6:Value} (n:Nx w0 w) (h:w0.heap.size≤b):Nx w0 (((((((w.setCell ⟨b,0,none⟩ v0).setCell ⟨b,1,none⟩ v1).setCell ⟨b,2,none⟩ v2).setCell ⟨b,3,none⟩ v3).setCell ⟨b,4,none⟩ v4).setCell ⟨b,5,none⟩ v5).setCell ⟨b,6,none⟩ v6):=((((((n.set h).set h).set h).set h).set h).set h).set h
def Box7 (b:Nat) (W:World):Prop:=∀ o:Obj,((W.alloc o).cell? ⟨b,0,none⟩=some (.slice none 0 0)∧(W.alloc o).cell? ⟨b,1,none⟩=some (num 0)∧(W.alloc o).cell? ⟨b,2,none⟩=some (num 0)∧(W.alloc o).cell? ⟨b,3,none⟩=some (num 0)∧(W.alloc o).cell? ⟨b,4,none⟩=some (num 0)∧(W.alloc o).cell? ⟨b,5,none⟩=some (num 0)∧(W.alloc o).cell? ⟨b,6,none⟩=some (.slice none 0 0)) ∧
 ((W.alloc o).frozen? ⟨b,0,none⟩=false∧(W.alloc o).frozen? ⟨b,1,none⟩=false∧(W.alloc o).frozen? ⟨b,2,none⟩=false∧(W.alloc o).frozen? ⟨b,3,none⟩=false∧(W.alloc o).frozen? ⟨b,4,none⟩=false∧(W.alloc o).frozen? ⟨b,5,none⟩=false∧(W.alloc o).frozen? ⟨b,6,none⟩=false)
theorem box7 {b:Nat} {W:World} (h:W.heap[b]?=some (.cells #[.slice none 0 0,num 0,num 0,num 0,num 0,num 0,.slice none 0 0] 27 (0,0))):Box7 b W:=fun o=>by
 have hb:(W.alloc o).heap[b]?=some (.cells #[.slice none 0 0,num 0,num 0,num 0,num 0,num 0,.slice none 0 0] 27 (0,0)):=(heap_alloc_old _ _ (zav h)).trans h
 exact⟨⟨zaa hb rfl,zaa hb rfl,zaa hb rfl,zaa hb rfl,zaa hb rfl,zaa hb rfl,zaa hb rfl⟩,⟨frozen_of_row _ _ _ _ _ hb,frozen_of_row _ _ _ _ _ hb,frozen_of_row _ _ _ _ _ hb,frozen_of_row _ _ _ _ _ hb,frozen_of_row _ _ _ _ _ hb,frozen_of_row _ _ _ _ _ hb,frozen_of_row _ _ _ _ _ hb⟩⟩
theorem zoC (w:World):CallsIn FW 0 Try.prog 53 #[] w fun e w'=>∃ r,e=.returned (exD.val r)∧Nx w w'∧DrySl w' exD r:=by
 gi_enter Try.func53,Try.ntmps53
 gi_upto_region 1 with fail
 generalize hW:w.alloc _=W
 obtain⟨nW,sW,gX⟩:=al1 hW
 have HSW:=Lib.hid sW
 clear hW sW
 generalize hA:w.heap.size=A at *
 have GX:=Lib.hid gX
 have lA:=zav gX
 clear gX
 have k:∀ (x y:Int) (U:World),Nx W U→CallsIn FW 0 Try.prog 48 #[num x,num y] U fun e w'=>e=.returned (spV (x,y))∧Nx W w'∧Nx U w':=fun x y U n=>(zc6 x y U).mono fun e w' h=>⟨h.1,by rw [h.2];exact zaj n _,by rw [h.2];exact zaj (Nx.refl _) _⟩
 have k2:∀ (U:World),Nx W U→CallsIn FW 0 Try.prog 48 #[num 0,num 500] U fun e w'=>e=.returned (spV (0,500))∧Nx W w'∧Nx U w'∧Box7 A w':=fun U n=>(k 0 500 U n).mono fun e w' h=>⟨h.1,h.2.1,h.2.2,box7 ((h.2.1.block _ lA).trans GX.out)⟩
 gi_wp2_with (gi_at_call 48;first
  | (with_reducible refine CallsIn.mono (k2 _ (by first | assumption | exact zaj (Nx.refl _) _)) ?_;rintro e w1 ⟨rfl,m1,n1,bx⟩;have bx':=bx;unfold Box7 at bx';obtain⟨⟨c0,c1,c2,c3,c4,c5,c6⟩,f0,f1,f2,f3,f4,f5,f6⟩:=forall_and.1 bx' |> fun h=>(⟨⟨fun o=>(h.1 o).1,fun o=>(h.1 o).2.1,fun o=>(h.1 o).2.2.1,fun o=>(h.1 o).2.2.2.1,fun o=>(h.1 o).2.2.2.2.1,fun o=>(h.1 o).2.2.2.2.2.1,fun o=>(h.1 o).2.2.2.2.2.2⟩,fun o=>(h.2 o).1,fun o=>(h.2 o).2.1,fun o=>(h.2 o).2.2.1,fun o=>(h.2 o).2.2.2.1,fun o=>(h.2 o).2.2.2.2.1,fun o=>(h.2 o).2.2.2.2.2.1,fun o=>(h.2 o).2.2.2.2.2.2⟩:((∀ o,_)∧(∀ o,_)∧(∀ o,_)∧(∀ o,_)∧(∀ o,_)∧(∀ o,_)∧(∀ o,_))∧(∀ o,_)∧(∀ o,_)∧(∀ o,_)∧(∀ o,_)∧(∀ o,_)∧(∀ o,_)∧(∀ o,_));clear bx')
  | (with_reducible refine CallsIn.mono (k _ _ _ (by first | assumption | exact zaj (Nx.refl _) _)) ?_;rintro e w1 ⟨rfl,m1,n1⟩))
 rename_i wa ma na wb mb nb wc mc nc wd md nd
 clear c0 c1 c2 c3 c4 c5 c6 f0 f1 f2 f3 f4 f5 f6 bx k k2
 have zs:=m1.size
 have g1:=(m1.block _ lA).trans GX.out
 have nf:=Nx.trans na (Nx.trans nb (Nx.trans nc (Nx.trans nd n1)))
 have g2:=(nf.block W.heap.size (by simp)).trans (heap_alloc_new W _)
 have z2:=zav g2
 generalize hV:(w1.alloc _)=V
 have nV:Nx w1 V:=by subst hV;exact zaj (Nx.refl _) _
 have g3:V.heap[w1.heap.size]?=some (.cells #[num 0,num 1,.bool true,num 600,num 900,num 200,num 0,num 0,.bool true,num 300,num 500,num 150,num 0,num 2,.bool false,num 0,num 500,num 100] 59 (0,0)):=by subst hV;exact heap_alloc_new _ _
 have g4:=(nV.block A (by omega)).trans g1
 have g5:=(nV.block W.heap.size z2).trans g2
 clear hV
 refine bodyPost_ret (results_cell_row (p:=0) (ty:=27) rfl _ _ A 27 _ (0,0) _ rfl (set7 g4) Try.underlying27 rfl (by kernel_rfl)) rfl ?_
 refine⟨⟨_,_⟩,rfl,nx7 (nW.trans (m1.trans nV)) (by omega),?_,?_,by decide,by decide⟩
 ·exact ze1 ((oth7 (by omega)).trans g5) rfl (by decide) rfl
 ·exact ze1 ((oth7 (by omega)).trans g3) rfl (by decide) rfl
end Go.Proofs.Ytedomogjmhommaa
namespace Go.Proofs.Ytedomogjmhommaa
open Go.RowKit
def zeO (d:Dry):Bool:=decide (40<d.heats.length) || decide (40<d.steps.length)
end Go.Proofs.Ytedomogjmhommaa
namespace Go.Proofs.Ytedomogjmhommaa
open Go.RowKit
theorem zks (d:Dry) (r:R2) (w:World) (hh:Sl w r.h 2 (d.heats.map two)) (hst:Sl w r.s 6 (d.steps.map Stp.cells)) (hl:d.heats.length≤140737488355328) (sl:d.steps.length≤140737488355328):CallsIn FW 0 Try.prog 16 #[d.val r] w fun e w'=>e=.returned (.bool (zeO d))∧Nx w w':=by
 obtain⟨rh,rs⟩:=r
 obtain⟨ha,hcap,h1⟩:=hh.cases
 obtain⟨sa,scap,h2⟩:=hst.cases
 dsimp only at h1 h2
 subst h1 h2
 rw [List.length_map,List.length_map]
 clear hh hst
 obtain⟨g,hg⟩:∃ g,zeO d=g:=⟨_,rfl⟩
 rw [hg]
 have HG:Hid (g=zeO d):=hg.symm
 clear hg
 by_cases c1:40<d.heats.length
 ·have HR:Hid (g=true):=by show _=_;rw [HG.out,zeO,decide_eq_true c1];rfl
  gi_enter Try.func16,Try.ntmps16
  gi_wp2
  go_ret
  exact⟨by rw [HR.out]<;>rfl,zaj (Nx.refl _) _⟩
 ·by_cases c2:40<d.steps.length
  ·have HR:Hid (g=true):=by show _=_;rw [HG.out,zeO,decide_eq_true c2];simp
   have b2:=Lib.hid (show decide ((40:Int)<(d.steps.length:Int))=true from decide_eq_true (by omega))
   gi_enter Try.func16,Try.ntmps16
   gi_wp2
   go_ret
   exact⟨by rw [HR.out];show Ending.returned (.bool (decide ((40:Int)<(d.heats.length:Int)) || decide ((40:Int)<(d.steps.length:Int))))=_;rw [b2.out,Bool.or_true],zaj (Nx.refl _) _⟩
  ·have HR:Hid (g=false):=by show _=_;rw [HG.out,zeO,decide_eq_false c1,decide_eq_false c2];rfl
   have b1:=Lib.hid (show decide ((40:Int)<(d.heats.length:Int))=false from decide_eq_false (by omega))
   have b2:=Lib.hid (show decide ((40:Int)<(d.steps.length:Int))=false from decide_eq_false (by omega))
   gi_enter Try.func16,Try.ntmps16
   gi_wp2
   go_ret
   exact⟨by rw [HR.out];show Ending.returned (.bool (decide ((40:Int)<(d.heats.length:Int)) || decide ((40:Int)<(d.steps.length:Int))))=_;rw [b1.out,b2.out];rfl,zaj (Nx.refl _) _⟩
end Go.Proofs.Ytedomogjmhommaa
namespace Go.Proofs.Ytedomogjmhommaa
def takeB (s x:List Int×Bool):List Int×Bool:=if x.2=true∧(s.2=false∨cmpL x.1 s.1<0) then (x.1,true) else s
def BestB (p:Nat→List Int×Bool) (hs:List Nat) (s:List Int×Bool):Prop :=
 (s=([],false)∧∀ h∈hs,(p h).2=false)∨∃ h∈hs,(p h).2=true∧s=p h∧∀ k∈hs,(p k).2=true→h≤k
theorem zi7:∀ l,cmpL l l=0
 | []=>rfl
 | x :: xs=>by
  have:cmpI x x=0:=by unfold cmpI;simp
  rw [cmpL,this,if_neg (by simp)]
  exact zi7 xs
theorem zlQ {a b:Int} (t u:List Int) (h:a≠b):cmpL (a :: t) (b :: u)<0↔a<b:=by
 have h0:cmpI a b≠0:=by
  unfold cmpI
  split
  ·simp
  ·split
   ·simp
   ·omega
 rw [cmpL,if_pos h0]
 unfold cmpI
 split
 ·simp [*]
 ·split
  ·constructor
   ·intro h;omega
   ·intro h;omega
  ·omega
theorem BestB.nil (p:Nat→List Int×Bool):BestB p [] ([],false):=.inl ⟨rfl,fun _ h=>absurd h (List.not_mem_nil)⟩
theorem BestB.step {p:Nat→List Int×Bool} (hp:∀ h,(p h).2=true→∃ t,(p h).1=(h:Int) :: t) {hs:List Nat} {s:List Int×Bool} (hb:BestB p hs s) (k:Nat):BestB p (k :: hs) (takeB s (p k)):=by
 unfold takeB
 cases hk:(p k).2 with
 | false =>
  rw [if_neg (by simp)]
  rcases hb with ⟨rfl,h1⟩ | ⟨h,hm,h1,h2,h3⟩
  ·refine .inl ⟨rfl,fun j hj=>?_⟩
   rcases List.mem_cons.1 hj with rfl | hj
   ·exact hk
   ·exact h1 j hj
  ·refine .inr ⟨h,List.mem_cons_of_mem _ hm,h1,h2,fun j hj hj2=>?_⟩
   rcases List.mem_cons.1 hj with rfl | hj
   ·rw [hk] at hj2;cases hj2
   ·exact h3 j hj hj2
 | true =>
  have ek:((p k).1,true)=p k:=by rw [← hk]
  rcases hb with ⟨rfl,h1⟩ | ⟨h,hm,h1,rfl,h3⟩
  ·rw [if_pos ⟨rfl,.inl rfl⟩,ek]
   refine .inr ⟨k,List.mem_cons_self ..,hk,rfl,fun j hj hj2=>?_⟩
   rcases List.mem_cons.1 hj with rfl | hj
   ·exact Nat.le_refl _
   ·rw [h1 j hj] at hj2;cases hj2
  ·obtain⟨t,ht⟩:=hp k hk
   obtain⟨u,hu⟩:=hp h h1
   by_cases e:k=h
   ·subst e
    rw [if_neg (by rw [zi7,h1];simp)]
    refine .inr ⟨k,List.mem_cons_self ..,hk,rfl,fun j hj hj2=>?_⟩
    rcases List.mem_cons.1 hj with rfl | hj
    ·exact Nat.le_refl _
    ·exact h3 j hj hj2
   ·have hc:=zlQ (a:=(k:Int)) (b:=(h:Int)) t u (by omega)
    rw [← ht,← hu] at hc
    by_cases hlt:k<h
    ·rw [if_pos ⟨rfl,.inr (hc.2 (by omega))⟩,ek]
     refine .inr ⟨k,List.mem_cons_self ..,hk,rfl,fun j hj hj2=>?_⟩
     rcases List.mem_cons.1 hj with rfl | hj
     ·exact Nat.le_refl _
     ·have:=h3 j hj hj2;omega
    ·rw [if_neg (by
      rintro ⟨_,h4 | h4⟩
      ·rw [h1] at h4;cases h4
      ·have:=hc.1 h4;omega)]
     refine .inr ⟨h,List.mem_cons_of_mem _ hm,h1,rfl,fun j hj hj2=>?_⟩
     rcases List.mem_cons.1 hj with rfl | hj
     ·omega
     ·exact h3 j hj hj2
theorem BestB.all {p:Nat→List Int×Bool} {hs:List Nat} {s:List Int×Bool} {n:Nat} (hb:BestB p hs s) (h1:∀ k,k<n→k∈hs) (h2:∀ k∈hs,k<n):s=zdz p n:=by
 rcases hb with ⟨rfl,h3⟩ | ⟨h,hm,h3,rfl,h4⟩
 ·exact (zhE fun j hj=>h3 j (h1 j hj)).symm
 ·refine (zgB (fun j hj=>?_) (h2 h hm) h3).symm
  cases e:(p j).2 with
  | false=>rfl
  | true=>have:=h4 j (h1 j (by have:=h2 h hm;omega)) e;omega
theorem zko {d:Dry} {rec:List St→Int→List Int×Bool} {x:Stp} {l:List St} {was:Int} {h:Nat} (hf:(zbt d rec x l was h).2=true):∃ t,(zbt d rec x l was h).1=(h:Int) :: t:=by
 unfold zbt at hf ⊢
 split
 ·exact⟨_,rfl⟩
 ·next hn=>rw [if_neg hn] at hf;cases hf
end Go.Proofs.Ytedomogjmhommaa
