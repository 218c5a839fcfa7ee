import Derived.Test.YtbbanmifdbeneaaDoorF06
import Derived.Maps.AppendAt
import Derived.Maps.OwnIn
import Derived.Lib.SliceRun
import Derived.Test.YtbbanmifdbeneaaDoorF02
import Derived.RangeFuncNested
import Derived.RangeFuncBound
import Derived.RangeFuncCalls
import Derived.RangeFuncLeaves
import Derived.Shelf.Abstract
import Derived.Shelf.RegionOpen
import Derived.Stop.RegionWithIn
set_option linter.all false
set_option maxRecDepth 100000
set_option maxHeartbeats 4000000
open Go.Value renaming ownBlock → jqa
open Decidable renaming not_not → jqb
open List renaming getElem?_map → jqc, getElem?_take → jqe, getElem?_of_mem → jqf
open Option renaming map_some → jqd
open Array renaming getElem?_eq_some_iff → jqg
namespace Go.Proofs.YtbbanmifdbeneaaDoor
open Go.RowKit
theorem zdZ:∃ i:TypeInfo,Tryd.prog.info? 3=some i∧i.zero=some (num 0)∧i.size=1∧i.bytes=8:=by
 have h:(Tryd.prog.info? 3).map (fun i=>(i.zero,i.size,i.bytes))=some (some (num 0),1,8):=by kernel_rfl
 cases hi:Tryd.prog.info? 3 with
 | none=>rw [hi] at h;cases h
 | some i =>
  rw [hi] at h;simp only [jqd,Option.some.injEq,Prod.mk.injEq] at h;exact⟨i,rfl,h.1,h.2.1,h.2.2⟩
theorem zho (base:Nat) (v:Value) (xs news:List Int) (w:World) (hown:w.ownsRow base 3 1 v xs.length (xs.map num)) (a:Addr) (c:Nat) (hnews:∀ (j:Nat) (x:Int),news[j]?=some x→w.cell? (a.add j)=some (num x))
  (hn:xs.length+news.length≤1000000) (hb:base≤w.heap.size) :
  ∃ v' w',(Builtin.append_ #[48,48] 48 #[v,.slice (some a) news.length c]).run Tryd.prog w=.ok v' w'∧w'.ownsRow base 3 1 v' (xs.length+news.length) ((xs++news).map num)∧w.grownBy w' v.ownBlock ∧
   (v'=.slice none 0 0↔v=.slice none 0 0∧news.length=0)∧(v'.ownBlock=v.ownBlock∨v'.ownBlock=some w.heap.size):=by
 obtain⟨i,hi,hz,h1,h2⟩:=zdZ;have:=run_append_own_at (P:=Tryd.prog) w base 48 48 3 i (num 0) 1 8 Tryd.underlying48 hi hz h1 h2 rfl (by decide) v xs.length (xs.map num) hown a news.length c (news.map num) (by simp) (fun j u hj=>by
  rw [jqc] at hj
  cases hx:news[j]? with
  | none=>rw [hx] at hj;cases hj
  | some x=>rw [hx] at hj;simp only [jqd,Option.some.injEq] at hj;subst hj;exact hnews j x hx) (fun u hu=>by
  obtain⟨x,_,rfl⟩:=List.mem_map.1 hu;rfl) (by unfold maxLen;omega) (by omega) hb
 rw [List.map_append];exact this
theorem zb7 {w:World} {base:Nat} {v:Value} {l:List Int} (h:w.ownsRow base 3 1 v l.length (l.map num)):Sl w v 1 (l.map fun x=>[num x]):=by
 obtain⟨_,⟨rfl,hn⟩ | ⟨g,cap,cur,rfl,hb,hg,hn,hc,hcs,ht⟩⟩:=h
 ·exact⟨0,.inl ⟨by rw [List.length_eq_zero_iff.1 hn];rfl,rfl⟩⟩
 ·refine⟨cap,.inr ⟨g,0,by simp,(jqg.1 hg).1,fun j k z x hj hk=>?_⟩⟩
  rw [jqc] at hj
  cases hx:l[j]? with
  | none=>rw [hx] at hj;cases hj
  | some y =>
   rw [hx] at hj;simp only [jqd,Option.some.injEq] at hj;subst hj
   cases k with
   | zero =>
    simp at hk;subst hk;have h1:(cur.toList.take (l.length * 1))[j]?=some (num y):=by rw [ht,jqc,hx];rfl
    rw [jqe] at h1
    split at h1
    ·unfold World.cell?
     simp only [Nat.zero_add,Nat.mul_one,Nat.add_zero,hg]
     simpa using h1
    ·cases h1
   | succ k=>simp at hk
theorem Nx.grown {w w1 w2:World} {row:Option Nat} (n:Nx w w1) (g:w1.grownBy w2 row) (h:∀ r,row=some r→w.heap.size≤r):Nx w w2:=Below.grown n g n.size h
theorem zkm (a:Addr) (n cap:Nat) (w:World):(binOp BinOp.eql 48 (.slice (some a) n cap) (.slice none 0 0)).run Tryd.prog w=.ok (.bool false) w :=
 Lib.run_eql_slice_nil w 48 3 (some a) n cap 0 0 Tryd.underlying48
theorem zoe (w:World):(binOp BinOp.eql 48 (.slice none 0 0) (.slice none 0 0)).run Tryd.prog w=.ok (.bool true) w :=
 Lib.run_eql_slice_nil w 48 3 none 0 0 0 0 Tryd.underlying48
theorem ze0 {F:Fence} {nF:Nat} {w:World} {ops:Array Oper} {rest:List Oper} {o:Oper} {a:Act} {Q:Exit→Act→World→Prop} (hgd:o.guard=none) (s x:Operand)
  (ho:o.op=.call { callee:=.builtin .append,args:=#[s,x],argTypes:=#[48,48] }) (base:Nat) (v:Value) (xs:List Int) (hs:a.eval s=v) (hown:w.ownsRow base 3 1 v xs.length (xs.map num))
  (ad:Addr) (m c:Nat) (news:List Int) (hx:a.eval x=.slice (some ad) m c) (hm:m=news.length) (hnews:∀ (j:Nat) (x:Int),news[j]?=some x→w.cell? (ad.add j)=some (num x)) (hn:xs.length+news.length≤1000000) (hbase:base≤w.heap.size)
  (h:∀ v' w',w'.ownsRow base 3 1 v' (xs++news).length ((xs++news).map num)→w.grownBy w' v.ownBlock→(v'=.slice none 0 0↔v=.slice none 0 0∧news.length=0)→(v'.ownBlock=v.ownBlock∨v'.ownBlock=some w.heap.size)→wpListIn F nF Tryd.prog ops Q rest (a.put o.dst v') w') :
  wpListIn F nF Tryd.prog ops Q (o :: rest) a w:=by
 obtain⟨i,hi,hz,h1,h2⟩:=zdZ;subst hm;refine wpListIn_append_own_at w hgd s x 48 ho base 3 i (num 0) 1 8 Tryd.underlying48 hi hz h1 h2 rfl (by decide) v xs.length (xs.map num) hs hown ad news.length c (news.map num) hx (by simp) (fun j u hj=>?_) (fun u hu=>?_) (by unfold maxLen;omega) (by omega) hbase fun v' w' r1 r2 r3 r4=>?_
 ·rw [jqc] at hj
  cases hx:news[j]? with
  | none=>rw [hx] at hj;cases hj
  | some x=>rw [hx] at hj;simp only [jqd,Option.some.injEq] at hj;subst hj;exact hnews j x hx
 ·obtain⟨x,_,rfl⟩:=List.mem_map.1 hu;rfl
 ·rw [← List.map_append] at r1
  rw [← List.length_append] at r1;exact h v' w' r1 r2 r3 r4
theorem zmX (v:Value) (l:List Int) (w:World) (hv:Sl w v 1 (l.map fun x=>[num x])) (h0:0<l.length) (hl:l.length≤1000) :
  CallsIn FL 0 Tryd.prog 62 #[v] w fun e w'=>∃ v',e=.returned v'∧w'.ownsRow w.heap.size 3 1 v' l.length (l.map num)∧Nx w w':=by
 obtain⟨a,cap,rfl⟩:=hv.cases;rw [List.length_map] at hv ⊢;obtain⟨b,off,rfl,hbl,hcl⟩:=hv.get (by simp;omega);have n0:Nx w w:=Below.refl _ _;gi_enter Tryd.func62,Tryd.ntmps62;have he:=zkm ⟨b,off,none⟩ l.length cap w;have n1:Nx w (w.alloc (.cells #[] 3)):=n0.alloc (Nat.le_refl _) _;have hown:(w.alloc (.cells #[] 3)).ownsRow w.heap.size 3 1 (.slice (some ⟨w.heap.size,0,none⟩) 0 0) ([]:List Int).length (([]:List Int).map num) :=
  ⟨rfl,.inr ⟨w.heap.size,0,#[],rfl,Nat.le_refl _,heap_alloc_new w _,Nat.le_refl _,by simp [maxLen],rfl,rfl⟩⟩
 have hnews:∀ (j:Nat) (x:Int),l[j]?=some x→(w.alloc (.cells #[] 3)).cell? ((⟨b,off,none⟩:Addr).add j)=some (num x):=by
  intro j x hj;have h1:=(n1.cell (p:=⟨b,off+j * 1+0,none⟩) (by exact hbl)).trans (hcl j 0 [num x] (num x) (by simp [hj]) rfl);rw [Nat.mul_one,Nat.add_zero] at h1;by_cases hj0:j=0
  ·subst hj0;simpa [Addr.add] using h1
  ·simpa [Addr.add,hj0] using h1
 clear hcl hv
 gi_wp2_with (first | (gi_at_builtin;refine ze0 rfl _ _ rfl w.heap.size _ [] rfl hown ⟨b,off,none⟩ l.length cap l rfl rfl hnews (by simp;omega) (by simp) ?_;intro v' w1 hown1 hgrow1 hnil hat) | gi_in)
 go_ret;refine⟨v',rfl,by simpa using hown1,n1.grown hgrow1 fun r hr=>by cases hr;exact Nat.le_refl _⟩
def FlatR (w:World) (base:Nat) (v:Value) (l:List Int):Prop:=w.ownsRow base 3 1 v l.length (l.map num)∧∀ g cs t fz,v.ownBlock=some g→w.heap[g]?=some (.cells cs t fz)→∀ u∈cs,∃ n,u=num n
theorem FlatR.nil (w:World) (base:Nat):FlatR w base (.slice none 0 0) []:=⟨World.ownsRow_nil ..,fun g cs t fz h=>by cases h⟩
theorem FlatR.kept {w w' : World} {base:Nat} {v:Value} {l:List Int} {row:Option Nat} (h:FlatR w base v l) (hg:w.grownBy w' row) (hr:v.ownBlock=none∨v.ownBlock≠row):FlatR w' base v l:=by
 refine⟨h.1.kept hg hr,fun g cs t fz hv hc=>h.2 g cs t fz hv ?_⟩;obtain⟨_,⟨rfl,_⟩ | ⟨g',cap,cur,rfl,_,hh,_⟩⟩:=h.1
 ·cases hv
 ·simp only [jqa,Option.some.injEq] at hv
  subst hv;rw [← hc];refine (hg.block _ (jqg.1 hh).1 ?_).symm;rcases hr with hr | hr
  ·cases hr
  ·exact hr
theorem zeT {u:Value} {k:Nat} (h:u∈Builtin.zeroCells (num 0).cells k):u=num 0:=by
 unfold Builtin.zeroCells at h;obtain⟨i,_,rfl⟩:=Array.mem_map.1 h;have:(num 0).cells=#[num 0]:=rfl;rw [this];simp [Nat.mod_one]
theorem zgf (base:Nat) (v:Value) (xs:List Int) (x:Int) (w:World) (h:FlatR w base v xs) (a:Addr) (c:Nat) (hx:w.cell? a=some (num x)) (hn:xs.length≤1000) (hb:base≤w.heap.size) :
  ∃ v' w',(Builtin.append_ #[48,48] 48 #[v,.slice (some a) 1 c]).run Tryd.prog w=.ok v' w'∧FlatR w' base v' (xs++[x])∧w.grownBy w' v.ownBlock∧(v'.ownBlock=v.ownBlock∨v'.ownBlock=some w.heap.size):=by
 have hnews0:∀ (j:Nat) (y:Int),[x][j]?=some y→w.cell? (a.add j)=some (num y):=by
  intro j y hj
  cases j with
  | zero=>simp at hj;subst hj;exact hx
  | succ j=>simp at hj
 obtain⟨v',w',hr,hown',hg,_,hat⟩:=zho base v xs [x] w h.1 a c hnews0 (by simp;omega) hb;refine⟨v',w',hr,⟨by rw [List.length_append];exact hown',fun g cs t fz hv hc=>?_⟩,hg,hat⟩;obtain⟨i,hi,hz,h1,h2⟩:=zdZ;have hnews:∀ j u,[num x][j]?=some u→w.cell? (a.add j)=some u:=by
  intro j u hj
  cases j with
  | zero=>simp at hj;subst hj;exact hx
  | succ j=>simp at hj
 obtain⟨hlen,⟨rfl,hnil⟩ | ⟨g',cap,cur,rfl,hbg,hgh,hnc,hcm,hcs,htake⟩⟩:=h.1
 ·have hr2:=run_append_nil (P:=Tryd.prog) w 48 48 3 i (num 0) Tryd.underlying48 hi hz a 1 c [num x] (by rw [h1];rfl) hnews (by omega) (by omega) (by rw [h2];omega)
  rw [show [x].length=1 from rfl,hr2] at hr;simp only [Result.ok.injEq] at hr;obtain⟨rfl,rfl⟩:=hr;simp only [jqa,Option.some.injEq] at hv;subst hv;rw [show w.heap.size=w.drew.heap.size from rfl,heap_alloc_new w.drew] at hc;cases hc
  intro u hu;rcases Array.mem_append.1 hu with hu | hu
  ·exact⟨x,by simpa using hu⟩
  ·exact⟨0,zeT hu⟩
 ·have hflat:=h.2 g' cur 3 (0,0) rfl hgh
  by_cases hroom:xs.length+1≤cap
  ·have hr2:=run_append_room (P:=Tryd.prog) w 48 48 3 i Tryd.underlying48 hi g' xs.length cap cur hgh a 1 c [num x] (by rw [h1];rfl) hnews (by intro u hu;simp at hu;subst hu;rfl) hroom (by rw [h1];simp;omega)
   rw [show [x].length=1 from rfl,hr2] at hr;simp only [Result.ok.injEq] at hr;obtain⟨rfl,rfl⟩:=hr;simp only [jqa,Option.some.injEq] at hv;subst hv;rw [setRow_heap w _ cur _ 3 _ hgh] at hc;cases hc
   intro u hu;simp only [List.mem_toArray,List.mem_append,List.mem_singleton] at hu;rcases hu with (hu | hu) | hu
   ·exact hflat u (Array.mem_toList_iff.1 (List.mem_of_mem_take hu))
   ·exact⟨x,hu⟩
   ·exact hflat u (Array.mem_toList_iff.1 (List.mem_of_mem_drop hu))
  ·have holds:∀ j u,(xs.map num)[j]?=some u→w.cell? ((⟨g',0,none⟩:Addr).add j)=some u:=h.1.cells (g:=g') rfl
   have hr2:=run_append_grow (P:=Tryd.prog) w 48 48 3 i (num 0) Tryd.underlying48 hi hz ⟨g',0,none⟩ xs.length cap (xs.map num) (by rw [h1];simp) holds a 1 c [num x] (by rw [h1];rfl) hnews (by omega) (by omega) (growslice_fits (by omega) (by rw [h2];omega));rw [show [x].length=1 from rfl,hr2] at hr;simp only [Result.ok.injEq] at hr;obtain⟨rfl,rfl⟩:=hr;simp only [jqa,Option.some.injEq] at hv;subst hv;rw [show w.heap.size=w.drew.heap.size from rfl,heap_alloc_new w.drew] at hc;cases hc
   intro u hu;rcases Array.mem_append.1 hu with hu | hu
   ·rcases Array.mem_append.1 hu with hu | hu
    ·simp only [List.mem_toArray,List.mem_map] at hu
     obtain⟨y,_,rfl⟩:=hu;exact⟨y,rfl⟩
    ·exact⟨x,by simpa using hu⟩
   ·exact⟨0,zeT hu⟩
end Go.Proofs.YtbbanmifdbeneaaDoor
namespace Go.Proofs.YtbbanmifdbeneaaDoor
open Go.RowKit Go.Shelf
attribute [local go_sem] Oper.semAt_some
theorem anyN {n m:Nat} {f:Nat} {args:Array Value} {w:World} {R:Ending→World→Prop} (h:CallsIn FL n Tryd.prog f args w R):CallsIn FL m Tryd.prog f args w R :=
 ⟨h.1,fun cs _=>h.2 cs (fun d hd=>by cases hd)⟩
theorem zaG {w w1:World} (n:Nx w w1) (o:Obj):Nx w (w1.alloc o):=n.alloc (by exact n.size) o
theorem zaA {X:World} {cs:Array Value} {t:TypeId} {i:Nat} {v:Value} {b:Nat} (hb:b=X.heap.size) (h:cs[i]?=some v):(X.alloc (.cells cs t)).cell? ⟨b,i,none⟩=some v:=by
 have hz:=heap_alloc_new X (.cells cs t);subst hb;unfold World.cell?;dsimp only;rw [hz]
 simpa using h
abbrev Hr:={ x:Int // -1000000000≤x∧x≤100000000000 }
def ze1 (a:Int) (n:Nat):List Int:=(List.range n).map fun i:Nat=>a+(i:Int)
theorem zgi (a:Int) (n:Nat):ze1 a (n+1)=ze1 a n++[a+n]:=by simp [ze1,List.range_succ]
theorem zjz (n:Nat) (hn:1≤n) (Bo Bc:Nat) (a b c:Int) (w:World) (h1:w.cell? ⟨Bo,1,none⟩=some (num a)) (h2:w.cell? ⟨Bo,2,none⟩=some (num b)) (h3:w.cell? ⟨Bc,0,none⟩=some (num c))
  (hBo:Bo<w.heap.size) (hBc:Bc<w.heap.size) (ha:0≤a∧a≤999999999) (hb:0≤b∧b≤999999999) (hc : -100≤c∧c≤100) (hab:a≤b) :
  SeqStopsK FL n Tryd.prog 75 #[.pointer (some ⟨Bo,0,none⟩),.pointer (some ⟨Bc,0,none⟩)] (fun x:Hr=>#[num x.1]) (Below w.heap.size)
   (fun xs=>xs.map (·.1)=ze1 (a+c) (b-a).toNat) (fun pre=>∃ k,k≤(b-a).toNat∧pre.map (·.1)=ze1 (a+c) k) (b-a).toNat w:=by
 intro l J Jx W hW hJ hJx hY h0;have cc:∀ w1,Below w.heap.size w w1→w1.cell? ⟨Bo,1,none⟩=some (num a)∧w1.cell? ⟨Bo,2,none⟩=some (num b)∧w1.cell? ⟨Bc,0,none⟩=some (num c) :=
  fun w1 n1=>⟨(n1.cell (p:=⟨Bo,1,none⟩) hBo).trans h1,(n1.cell (p:=⟨Bo,2,none⟩) hBo).trans h2,(n1.cell (p:=⟨Bc,0,none⟩) hBc).trans h3⟩
 obtain⟨e1,e2,e3⟩:=cc _ hW;gi_enter Tryd.func75,Tryd.ntmps75;gi_wp2
 gi_loopw [4] (fun h wr=>∃ pre:List Hr,h=num (a+c+pre.length)∧pre.length≤(b-a).toNat∧pre.map (·.1)=ze1 (a+c) pre.length∧Below w.heap.size w wr∧J pre wr) (fun h _=>(b+c-intOf h).toNat)
 case atStart=>exact⟨[],by simp,by simp,rfl,hW,h0⟩
 case round =>
  obtain⟨pre,rfl,hlen,hpre,hB,hJs⟩:=hrel;obtain⟨f1,f2,f3⟩:=cc _ hB;by_cases hlt:pre.length<(b-a).toNat
  ·obtain⟨fn,tmps,assign,body,hy,hR⟩:=hY pre ⟨a+c+pre.length,by omega⟩ wr hJs hlt
   dsimp only at hy;gi_wp2;refine hR.mono ?_;rintro e W3 (⟨rfl,hJ3,hk3⟩ | ⟨rfl,hJx3⟩)
   ·gi_wp2
    go_roundw
    case rel=>exact⟨pre++[⟨a+c+pre.length,by omega⟩],by simp;omega,by simp;omega,by simp [hpre,zgi],hB.trans hk3,hJ3⟩
    case measure=>simp [intOf];omega
   ·gi_wp2
    refine bodyPost_ret (results_none rfl _ _ _) rfl ?_;exact⟨⟨_,rfl⟩,.inr ⟨_,⟨pre.length+1,by omega,by simp [hpre,zgi]⟩,hJx3⟩⟩
  ·gi_wp2
   go_end0
   exact⟨⟨_,rfl⟩,.inl ⟨pre,by rw [hpre];congr 1;omega,hJs⟩⟩
end Go.Proofs.YtbbanmifdbeneaaDoor
namespace Go.Proofs.YtbbanmifdbeneaaDoor
open Go.RowKit
abbrev i64r (c:Int):Prop:=-9223372036854775808≤c∧c≤9223372036854775807
abbrev rowD (b n cap:Nat):DataW Unit:=.agg [.lit (.int .i64 b),.lit (.int .i64 n),.lit (.int .i64 cap)]
structure MapB (w:World) (base M m:Nat) (keys:List Int) (oth:Int→List Int) (blk:Int→Nat):Prop where
 ltM:M<base
 hb:base≤w.heap.size
 own:∃ D,w.ownsMap Tryd.prog 3 za8 M m D∧∀ c,i64r c→Maps.has D (.int .i64 c)=decide (c∈keys) ∧
  (c∈keys→∃ cap,(∀ z,D.atKey (.int .i64 c) z=rowD (blk c) (oth c).length cap)∧w.ownsRow base 3 1 (.slice (some ⟨blk c,0,none⟩) (oth c).length cap) (oth c).length ((oth c).map num))
 inj:∀ c∈keys,∀ c'∈keys,blk c=blk c'→c=c'
 rng:∀ c∈keys,i64r c
variable {w w' : World} {base M m:Nat} {keys:List Int} {oth:Int→List Int} {blk:Int→Nat}
theorem MapB.row (h:MapB w base M m keys oth blk) {c:Int} (hc:c∈keys):∃ cap,w.ownsRow base 3 1 (.slice (some ⟨blk c,0,none⟩) (oth c).length cap) (oth c).length ((oth c).map num):=by
 obtain⟨D,_,h2⟩:=h.own;obtain⟨cap,_,h3⟩:=(h2 c (h.rng c hc)).2 hc;exact⟨cap,h3⟩
theorem MapB.le (h:MapB w base M m keys oth blk) {c:Int} (hc:c∈keys):base≤blk c∧blk c<w.heap.size:=by
 obtain⟨cap,_,⟨h1,_⟩ | ⟨g,cap',cur,h1,h2,h3,_⟩⟩:=h.row hc
 ·cases h1
 ·simp only [Value.slice.injEq,Option.some.injEq,Addr.mk.injEq] at h1
  rw [h1.1.1];exact⟨h2,(jqg.1 h3).1⟩
theorem MapB.kept (h:MapB w base M m keys oth blk) {row:Option Nat} (hg:w.grownBy w' row) (hr:∀ r,row=some r→r≠M∧∀ c∈keys,blk c≠r):MapB w' base M m keys oth blk:=by
 obtain⟨D,h1,h2⟩:=h.own;refine⟨h.ltM,Nat.le_trans h.hb hg.size,⟨D,h1.kept hg (fun e=>(hr _ e.symm).1 rfl),fun c hc=>⟨(h2 c hc).1,fun hk=>?_⟩⟩,h.inj,h.rng⟩;obtain⟨cap,h3,h4⟩:=(h2 c hc).2 hk;exact⟨cap,h3,h4.kept hg (.inr fun e=>(hr _ e.symm).2 c hk rfl)⟩
theorem MapB.look (h:MapB w base M m keys oth blk) {c:Int} (hr:i64r c):(c∈keys→∃ cap,(Instr.lookup 116 (.map (some M)) (num c) false).run Tryd.prog w=.ok (.slice (some ⟨blk c,0,none⟩) (oth c).length cap) w∧w.ownsRow base 3 1 (.slice (some ⟨blk c,0,none⟩) (oth c).length cap) (oth c).length ((oth c).map num)) ∧
  (c∉keys→(Instr.lookup 116 (.map (some M)) (num c) false).run Tryd.prog w=.ok (.slice none 0 0) w):=by
 obtain⟨D,h1,h2⟩:=h.own;obtain⟨v,ps,hrun,hR⟩:=h1.lookup zgO (t:=116) (e:=48) Tryd.underlying116 (z:=.slice none 0 0) (zoz w) (zd:=.nil) (zp:=[]) rfl (zjU hr);refine⟨fun hk=>?_,fun hk=>?_⟩
 ·obtain⟨cap,h3,h4⟩:=(h2 c hr).2 hk
  rw [h3] at hR;rw [zcX hR] at hrun;exact⟨cap,hrun,h4⟩
 ·rw [Maps.atKey_of_not_has (by rw [(h2 c hr).1];simpa using hk)] at hR
  have:v=.slice none 0 0:=by
   unfold za8 at hR
   split at hR
   ·simp at hR
   ·rfl
   ·cases hR
  rw [hrun,this]
theorem MapB.put (h:MapB w base M m keys oth blk) {c:Int} (hr:i64r c) (hk:c∉keys) {l:List Int} {cap b:Nat} (hrow:w.ownsRow base 3 1 (.slice (some ⟨b,0,none⟩) l.length cap) l.length (l.map num)) (hb:∀ c'∈keys,blk c'≠b) {D:DataW Unit}
  (hown:∀ c,i64r c→Maps.has D (.int .i64 c)=decide (c∈keys)∧(c∈keys→∃ cap,(∀ z,D.atKey (.int .i64 c) z=rowD (blk c) (oth c).length cap)∧w.ownsRow base 3 1 (.slice (some ⟨blk c,0,none⟩) (oth c).length cap) (oth c).length ((oth c).map num)))
  (hD:Maps.IsMap D) (hm:w'.ownsMap Tryd.prog 3 za8 M (m+1) (D.put (.int .i64 c) (rowD b l.length cap))) (hg:w.grownBy w' (some M)) :
  MapB w' base M (m+1) (c :: keys) (fun x=>if x=c then l else oth x) (fun x=>if x=c then b else blk x):=by
 have hM:∀ {v:Value} {n:Nat} {xs:List Value},w.ownsRow base 3 1 v n xs→w'.ownsRow base 3 1 v n xs:=by
  intro v n xs hrw;refine hrw.kept hg (.inr ?_);obtain⟨_,⟨rfl,_⟩ | ⟨g,cap',cur,rfl,h2,_⟩⟩:=hrw
  ·simp [jqa]
  ·simp only [jqa,ne_eq,Option.some.injEq]
   have:=h.ltM;omega
 refine⟨h.ltM,Nat.le_trans h.hb hg.size,⟨_,hm,fun x hx=>?_⟩,fun x hx y hy hxy=>?_,fun x hx=>?_⟩
 ·by_cases hxc:x=c
  ·subst hxc
   refine⟨by rw [Maps.has_put_same hD (show WideAt.IsKeyLit (.int .i64 x) from trivial)];simp,fun _=>⟨cap,fun z=>?_,?_⟩⟩
   ·rw [Maps.atKey_put_same hD (show WideAt.IsKeyLit (.int .i64 x) from trivial)];simp
   ·simpa using hM hrow
  ·have hne:(Lit.int .i64 x)≠.int .i64 c:=by intro e;cases e;exact hxc rfl
   obtain⟨h3,h4⟩:=hown x hx;refine⟨by rw [Maps.has_put_other hne,h3];simp [hxc],fun hk'=>?_⟩;have hk2:x∈keys:=by simpa [hxc] using hk'
   obtain⟨cap',h5,h6⟩:=h4 hk2;refine⟨cap',fun z=>?_,?_⟩
   ·rw [Maps.atKey_put_other hne,h5];simp [hxc]
   ·simpa [hxc] using hM h6
 ·by_cases hxc:x=c
  ·by_cases hyc:y=c
   ·rw [hxc,hyc]
   ·simp only [hxc,hyc,if_true,if_false] at hxy
    exact absurd hxy.symm (hb y (by simpa [hyc] using hy))
  ·by_cases hyc:y=c
   ·simp only [hxc,hyc,if_true,if_false] at hxy
    exact absurd hxy (hb x (by simpa [hxc] using hx))
   ·simp only [hxc,hyc,if_false] at hxy
    exact h.inj x (by simpa [hxc] using hx) y (by simpa [hyc] using hy) hxy
 ·rcases List.mem_cons.1 hx with rfl | hx
  ·exact hr
  ·exact h.rng x hx
theorem zdy {v:Value} {n g cap i:Nat} {l:List Int} (h:w.ownsRow base 3 1 (.slice (some ⟨g,0,none⟩) n cap) l.length (l.map num)) (hi:i<l.length) (x:Int) :
  (w.setCell ⟨g,i,none⟩ (num x)).ownsRow base 3 1 (.slice (some ⟨g,0,none⟩) n cap) (l.set i x).length ((l.set i x).map num):=by
 obtain⟨_,⟨h1,_⟩ | ⟨g',cap',cur,h1,h2,h3,h4,h5,h6,h7⟩⟩:=h
 ·cases h1
 ·simp only [Value.slice.injEq,Option.some.injEq,Addr.mk.injEq] at h1
  obtain⟨⟨rfl,_⟩,rfl,rfl⟩:=h1;have hs:=heap_setCell_same w g i cur 3 (num x) h3;refine⟨by simp,.inr ⟨g,cap,_,by simp,h2,hs,by simpa using h4,h5,by simpa using h6,?_⟩⟩;have hc:i<cur.size:=by omega
  rw [List.length_set];apply List.ext_getElem?;intro j;have h8:(cur.toList.take (l.length * 1))[j]?=(l.map num)[j]?:=by rw [h7]
  rw [jqe] at h8;rw [jqe,jqc,List.getElem?_set];rw [jqc] at h8;by_cases hij:i=j
  ·subst hij
   simp [hi,hc]
  ·simp only [hij,if_false]
   rw [← h8];simp [Array.getElem?_setIfInBounds,hij]
theorem MapB.set (h:MapB w base M m keys oth blk) {c:Int} (hc:c∈keys) {i:Nat} (hi:i<(oth c).length) (x:Int) :
  MapB (w.setCell ⟨blk c,i,none⟩ (num x)) base M m keys (fun y=>if y=c then (oth c).set i x else oth y) blk:=by
 obtain⟨D,h1,h2⟩:=h.own;have hle:=h.le hc;have hltM:=h.ltM;refine⟨h.ltM,by simpa using h.hb,⟨D,h1.setCell (by show M≠blk c;omega) _,fun y hy=>⟨(h2 y hy).1,fun hk=>?_⟩⟩,h.inj,h.rng⟩;obtain⟨cap,h3,h4⟩:=(h2 y hy).2 hk;by_cases hyc:y=c
 ·subst hyc
  have:=zdy (v:=.nilIface) h4 hi x;simp only [if_true,List.length_set] at this ⊢;exact⟨cap,h3,this⟩
 ·simp only [hyc,if_false]
  refine⟨cap,h3,?_⟩;exact ownsRow_setCell_other h4 (by simp only [jqa,ne_eq,Option.some.injEq];exact fun e=>hyc (h.inj y hk c hc e)) _
theorem MapB.at (h:MapB w base M m keys oth blk) (hm:m≤100):MapAt w M keys oth:=by
 obtain⟨D,h1,h2⟩:=h.own;refine⟨Nat.lt_of_lt_of_le h.ltM h.hb,D,m,hm,h1,fun c hc=>⟨(h2 c hc).1,fun hk=>?_⟩⟩;obtain⟨cap,h3,h4⟩:=(h2 c hc).2 hk;refine⟨blk c,cap,h3,(h.le hk).2,fun j x hj=>?_⟩;obtain⟨cap',hn | ⟨b,off,e,hb,hcs⟩⟩:=zb7 h4
 ·cases hn.2
 ·simp only [Value.slice.injEq,Option.some.injEq,Addr.mk.injEq] at e
  obtain⟨⟨rfl,rfl,_⟩,_⟩:=e;have:=hcs j 0 [num x] (num x) (by simp [hj]) rfl
  simpa using this
def zjD (w:World) (base M m:Nat) (keys:List Int) (oth:Int→List Int) (us:List Int) (c:Int) (e:Ending) (w' : World):Prop :=
 ∃ (keys' : List Int) (oth' : Int→List Int) (blk' : Int→Nat) (cap:Nat),e=.returned (.slice (some ⟨blk' c,0,none⟩) (oth' c).length cap)∧MapB w' base M (m+1) keys' oth' blk'∧w.grownBy w' (some M)∧c∈keys' ∧
   keys'=(if c∈keys then keys else c :: keys)∧oth'=(fun x=>if x=c∧c∉keys then us else oth x)
theorem zmT (P B base M m:Nat) (keys:List Int) (oth:Int→List Int) (blk:Int→Nat) (vus:Value) (us:List Int) (c:Int) (w:World) (hm:MapB w base M m keys oth blk) (hP:P<base) (hB:B<base) (hp:w.cell? ⟨P,0,none⟩=some (.pointer (some ⟨B,0,none⟩)))
  (h27:w.cell? ⟨B,27,none⟩=some vus) (h28:w.cell? ⟨B,28,none⟩=some (.map (some M))) (hus:Sl w vus 1 (us.map fun x=>[num x])) (hl:0<us.length∧us.length≤12) (hr:i64r c) (hmm:m≤100) (hpm:P≠M∧B≠M) :
  CallsIn FL 0 Tryd.prog 61 #[num c,.pointer (some ⟨P,0,none⟩)] w (zjD w base M m keys oth us c):=by
 by_cases hk:c∈keys
 ·obtain⟨cap,hrun,hrow⟩:=(hm.look hr).1 hk
  have he:=zkm ⟨blk c,0,none⟩ (oth c).length cap w;gi_enter Tryd.func61,Tryd.ntmps61;gi_wp2;go_ret;refine⟨keys,oth,blk,cap,rfl,?_,⟨rfl,rfl,rfl,Nat.le_refl _,fun _ _ _=>rfl⟩,hk,by simp [hk],by simp [hk]⟩;obtain⟨D,h1,h2⟩:=hm.own;exact⟨hm.ltM,hm.hb,⟨D,h1.mono (Nat.le_succ _),h2⟩,hm.inj,hm.rng⟩
 ·have hrun:=(hm.look hr).2 hk
  have he:=zoe w;gi_enter Tryd.func61,Tryd.ntmps61;gi_upto_region 2 with fail
  have keyC:CallsIn FL 0 Tryd.prog 62 #[vus] w.drew fun e w1=>∃ (v:Value) (w2:World),e=.returned v∧(Instr.mapUpdate 116 (.map (some M)) (num c) v).run Tryd.prog w1=.ok () w2∧Nx w w1 ∧
    ∃ b cap,(w2.cell? ⟨P,0,none⟩=some (.pointer (some ⟨B,0,none⟩))∧w2.cell? ⟨B,28,none⟩=some (.map (some M)))∧(Instr.lookup 116 (.map (some M)) (num c) false).run Tryd.prog w2=.ok (.slice (some ⟨b,0,none⟩) us.length cap) w2 ∧
     Hid (zjD w base M m keys oth us c (.returned (.slice (some ⟨b,0,none⟩) us.length cap)) w2):=by
   have nd:Nx w w.drew:=Below.drew (Below.refl _ _);have hbw:=hm.hb;refine (zmX vus us w.drew (hus.nx nd) hl.1 (by omega)).mono fun e w1 ⟨v,hv,hrow,n1⟩=>?_;have n2:Nx w w1:=Nx.trans nd n1;obtain⟨_,⟨rfl,h0⟩ | ⟨g,cap,cur,rfl,hg1,hg2,hg3⟩⟩:=hrow
   ·omega
   ·have hgw:w.heap.size≤g:=hg1
    have hrow' : w1.ownsRow base 3 1 (.slice (some ⟨g,0,none⟩) us.length cap) us.length (us.map num):=⟨by simp,.inr ⟨g,cap,cur,rfl,Nat.le_trans hbw hgw,hg2,hg3⟩⟩;have g1:w.grownBy w1 none:=⟨n2.os,n2.tape,n2.output,n2.size,fun i hi _=>n2.block i hi⟩;have hm1:MapB w1 base M m keys oth blk:=hm.kept g1 fun r e=>by cases e
    obtain⟨D,hD1,hD2⟩:=hm1.own;obtain⟨w2,hrun2,hown2,g2⟩:=hD1.update zgO Tryd.underlying116 (by unfold maxLen;omega) (zjU hr) (val:=.slice (some ⟨g,0,none⟩) us.length cap) (d:=rowD g us.length cap) (ps:=[]) rfl;have hm2:=hm1.put hr hk hrow' (fun c' hc' e=>by have:=(hm.le hc').2;omega) hD2 hD1.isMap hown2 g2;obtain⟨cap2,hlk,_⟩:=(hm2.look hr).1 (List.mem_cons_self ..);have c2:∀ q i v,q<base→q≠M→w.cell? ⟨q,i,none⟩=some v→w2.cell? ⟨q,i,none⟩=some v:=by
     intro q i v hq hqM hc;have h1:=(n2.cell (p:=⟨q,i,none⟩) (by show q<_;omega)).trans hc;unfold World.cell? at h1 ⊢;rw [g2.block q (by have:=hm1.hb;omega) (fun e=>hqM (by cases e;rfl))];exact h1
    simp only [if_true] at hlk;refine⟨_,w2,hv,hrun2,n2,g,cap2,⟨c2 P 0 _ hP hpm.1 hp,c2 B 28 _ hB hpm.2 h28⟩,hlk,c :: keys,_,_,cap2,?_,hm2,(g1.but _).trans g2,List.mem_cons_self ..,by simp [hk],?_⟩
    ·simp
    ·funext x;simp [hk]
  have hbw:=hm.hb;have cB:∀ w1,Nx w w1→w1.cell? ⟨P,0,none⟩=some (.pointer (some ⟨B,0,none⟩))∧w1.cell? ⟨B,28,none⟩=some (.map (some M)):=fun w1 n1=>⟨(n1.cell (p:=⟨P,0,none⟩) (by show P<_;omega)).trans hp,(n1.cell (p:=⟨B,28,none⟩) (by show B<_;omega)).trans h28⟩
  gi_region_with (first | (gi_at_call 62;refine CallsIn.mono keyC ?_;rintro e w1 ⟨v',w2,rfl,hup,n2,b,cap,hcs,hlk,hz⟩;obtain⟨e0,e28⟩:=cB _ n2))
  all_goals (
   gi_wp2;go_ret;exact hz.out)
structure Dit.Ok (d:Dit):Prop where
 h6:d.holders.length≤6
 names:∀ (i:Nat) (s:List UInt8),d.holders[i]?=some s→zbu s=true∧∀ j,j<i→d.holders[j]?≠some s
 t12:1≤d.turns.length∧d.turns.length≤12
 th:∀ x∈d.turns,(0≤x.1∧x.1≤(d.holders.length:Int)-1)∧(1≤x.2∧x.2≤100)
 times:d.Times
 room:d.week=0∧d.from_=0∧d.long=0∨0<d.week∧d.from_+d.long≤d.week∧d.long<d.week
 feasts:∀ (i:Nat) (x:Int×Int),d.feasts[i]?=some x→(0≤x.1∧x.1≤x.2∧x.2≤999999999)∧zdJ d.feasts i<x.1
 s8:d.swaps.length≤8
 sw:∀ s∈d.swaps,(0≤s.1∧s.1≤999999999)∧(0≤s.2.1∧s.2.1≤(d.turns.length:Int)-1)∧(0≤s.2.2∧s.2.2≤(d.turns.length:Int)-1)
 l8:d.loans.length≤8
 lo:∀ s∈d.loans,(0≤s.1∧s.1≤999999999)∧(0≤s.2.1∧s.2.1≤(d.turns.length:Int)-1)∧(0≤s.2.2∧s.2.2≤(d.holders.length:Int)-1)
 flow:0≤d.flow.1∧d.flow.1≤d.flow.2∧d.flow.2≤100000
 loss:0≤d.loss.1∧d.loss.1≤d.loss.2∧d.loss.2≤1000
 p8:d.plots.length≤8
 pl:∀ (i:Nat) (p:Plot),d.plots[i]?=some p→zbu p.name=true∧(∀ j o,j<i→d.plots[j]?=some o→o.name≠p.name)∧(0≤p.holder∧p.holder≤(d.holders.length:Int)-1)∧(0≤p.far∧p.far≤20)∧(0≤p.low∧p.low≤p.high∧p.high≤999999999)∧(0≤p.worth∧p.worth≤10000)
theorem zen {α:Type} {p:α→Bool} {l:List α} {i:Nat} (h:(l.take i).any p=false):∀ j o,j<i→l[j]?=some o→p o=false:=by
 intro j o hj ho;rw [List.any_eq_false] at h;have:o∈l.take i:=by
  refine List.mem_of_getElem? (i:=j) ?_;rw [jqe,if_pos hj];exact ho
 simpa using h o this
theorem zjS {d:Dit} (h:zaF d=0):zaI d=0∧zaJ d=0∧zaq d=0∧zaO d=0:=by
 unfold zaF at h
 split at h
 ·rename_i h0;exact absurd h h0
 ·split at h
  ·rename_i h0;exact absurd h h0
  ·split at h
   ·rename_i h0;exact absurd h h0
   ·rename_i h1 h2 h3
    exact⟨jqb.1 h1,jqb.1 h2,jqb.1 h3,h⟩
theorem zco {d:Dit} (h:zaF d=0):d.Ok:=by
 obtain⟨hp,ht,hc,hg⟩:=zjS h;unfold zaI at hp
 split at hp
 ·cases hp
 rename_i h6
 split at hp
 ·rename_i h0;exact absurd hp h0
 rename_i hn;have hn:=zcv (jqb.1 hn)
 split at hp
 ·cases hp
 rename_i h12;have h12:=jqb.1 h12;have hth:=zcv hp;unfold zaJ at ht
 split at ht
 ·cases ht
 rename_i hw
 split at ht
 ·cases ht
 rename_i hf
 split at ht
 ·cases ht
 rename_i hl
 split at ht
 ·cases ht
 rename_i hb
 split at ht
 ·cases ht
 rename_i hr
 split at ht
 ·cases ht
 rename_i hf8;have hfe:=zcv ht;unfold zaq at hc
 split at hc
 ·cases hc
 rename_i hs8
 split at hc
 ·rename_i h0;exact absurd hc h0
 rename_i hsw;have hsw:=zcv (jqb.1 hsw)
 split at hc
 ·cases hc
 rename_i hl8;have hlo:=zcv hc;unfold zaO at hg
 split at hg
 ·cases hg
 rename_i hfl;have hfl:=jqb.1 hfl
 split at hg
 ·cases hg
 rename_i hp8;have hpl:=zcv hg;have hfe2:∀ (i:Nat) (x:Int×Int),d.feasts[i]?=some x→(0≤x.1∧x.1≤x.2∧x.2≤999999999)∧zdJ d.feasts i<x.1:=by
  intro i x hx;have:=hfe i x hx;rw [Nat.zero_add] at this;unfold za0 at this
  split at this
  ·rename_i h1
   split at this
   ·cases this
   ·exact⟨h1,by omega⟩
  ·cases this
 refine⟨by omega,fun i s hi=>?_,h12,fun x hx=>?_,⟨by omega,by omega,by omega,by omega,by omega,fun x hx=>?_⟩,?_,hfe2,by omega,fun s hs=>?_,by omega,fun s hs=>?_,hfl.1,hfl.2,by omega,fun i p hi=>?_⟩
 ·have:=hn i s hi
  rw [Nat.zero_add] at this;unfold zbp at this
  split at this
  ·rename_i h1
   split at this
   ·cases this
   ·rename_i h2
    refine⟨h1,fun j hj e=>?_⟩;have:=zen (Bool.eq_false_iff.2 h2) j s hj e;simp at this
  ·cases this
 ·obtain⟨i,hi⟩:=jqf hx
  have:=hth i x hi;unfold zdl at this
  split at this
  ·rename_i h1
   split at this
   ·rename_i h2;exact⟨h1,h2⟩
   ·cases this
  ·cases this
 ·obtain⟨i,hi⟩:=jqf hx
  have:=hfe2 i x hi;omega
 ·unfold zeD at hr
  simp only [decide_eq_true_eq] at hr;omega
 ·obtain⟨i,hi⟩:=jqf hs
  have:=hsw i s hi;unfold zbX at this
  split at this
  ·rename_i h1
   split at this
   ·rename_i h2;exact⟨h1,h2⟩
   ·cases this
  ·cases this
 ·obtain⟨i,hi⟩:=jqf hs
  have:=hlo i s hi;unfold zch at this
  split at this
  ·rename_i h1
   split at this
   ·rename_i h2;exact⟨h1,h2⟩
   ·cases this
  ·cases this
 ·have:=hpl i p hi
  rw [Nat.zero_add] at this;unfold zfJ zjv at this
  split at this
  ·rename_i h1
   split at this
   ·cases this
   ·rename_i h2
    split at this
    ·rename_i h3
     split at this
     ·rename_i h4
      split at this
      ·rename_i h5
       split at this
       ·rename_i h6
        simp only [decide_eq_true_eq] at h3 h4 h5 h6;refine⟨h1,fun j o hj ho e=>?_,h3,h4,h5,h6⟩;have:=zen (Bool.eq_false_iff.2 h2) j o hj ho;simp [e] at this
       ·cases this
      ·cases this
     ·cases this
    ·cases this
  ·cases this
end Go.Proofs.YtbbanmifdbeneaaDoor
