import Derived.Test.YtbbanmifdbeneaaDoorF37
import Derived.Test.YtbbanmifdbeneaaDoorF41
import Derived.Test.YtbbanmifdbeneaaDoorF34
import Derived.Test.YtbbanmifdbeneaaDoorF38
import Derived.Test.YtbbanmifdbeneaaDoorChecked
import Derived.ProofKit
import Derived.LaidMore
import Derived.OpenShut
import Derived.Stop.Joined
import Derived.Test.YtbbanmifdbeneaaDoorTie
import Derived.Test.YtbbanmifdbeneaaDoorCards
import Derived.Conc.LeavingOf
import Derived.SevenTiedAt
import Derived.Test.YtbbanmifdbeneaaDoorF07
set_option linter.all false
set_option maxRecDepth 100000
set_option maxHeartbeats 4000000
open List renaming getElem?_eq_getElem → jqa, mem_cons → jqd, drop_succ_cons → jqf, take_succ_cons → jqg
open Array renaming replicate → jqb, map_congr_left → jqe
open Nat renaming le_trans → jqc
namespace Go.Proofs.YtbbanmifdbeneaaDoor
open Go.RowKit Go.Con Go.Conc
local instance:Lone:=zcG
section
variable {dst:Option Nat} {ty:TypeId} {pos:String} {af:Array Edge} {x y c:Nat} {w:World} {gd:Option (Nat×Bool)} (e:Operand→Value)
theorem zdB {v:Value} (h:e (.tmp x)=v) (τ:Tape):(execOp e ⟨dst,.move (.tmp x),ty,pos,af,gd⟩).run Tryd.prog { w with tape:=τ }=.ok (.value v) { w with tape:=τ }:=by
 simp [execOp,go_sem,h]
theorem zl7 {v:Value} (h:e (.tmp x)=v) (τ:Tape):(execOp e ⟨dst,.assign (.tmp x),ty,pos,af,gd⟩).run Tryd.prog { w with tape:=τ }=.ok (.value v) { w with tape:=τ }:=by
 simp [execOp,go_sem,h]
theorem zo4 {n:Int} (h:e (.tmp x)=num n) (h2:e (.tmp y)=num n) (τ:Tape):(execOp e ⟨dst,.binOp .eql 3 (.tmp x) (.tmp y) 3,ty,pos,af,gd⟩).run Tryd.prog { w with tape:=τ }=.ok (.value (.bool true)) { w with tape:=τ }:=by
 simp [execOp,go_sem,h,h2]
theorem znX {n:Int} (h:e (.tmp x)=num n) (h2:e (.tmp y)=num n) (τ:Tape):(execOp e ⟨dst,.binOp .eql 38 (.tmp x) (.tmp y) 38,ty,pos,af,gd⟩).run Tryd.prog { w with tape:=τ }=.ok (.value (.bool true)) { w with tape:=τ }:=by
 simp [execOp,go_sem,h,h2]
theorem zpo {n:Bool} (h:e (.tmp x)=.bool n) (h2:e (.tmp y)=.bool n) (τ:Tape):(execOp e ⟨dst,.binOp .eql 4 (.tmp x) (.tmp y) 4,ty,pos,af,gd⟩).run Tryd.prog { w with tape:=τ }=.ok (.value (.bool true)) { w with tape:=τ }:=by
 simp [execOp,go_sem,h,h2]
theorem zhJ {v:Value} (h:e (.tmp c)=.bool true) (h2:e (.tmp x)=v) (τ:Tape):(execOp e ⟨dst,.pick (.tmp c) (.tmp x) (.const (.bool false)),ty,pos,af,gd⟩).run Tryd.prog { w with tape:=τ }=.ok (.value v) { w with tape:=τ }:=by
 simp [execOp,go_sem,h,h2]
end
theorem zaC {t:Array Value} {i j:Nat} {v:Value} (h:i≠j):(putD t (some i) v)[j]?=t[j]?:=by
 unfold putD;exact Array.getElem?_setIfInBounds_ne h
theorem zay {t:Array Value} {i:Nat} {v:Value} (h:i<t.size):(putD t (some i) v)[i]?=some v:=by
 unfold putD;exact Array.getElem?_setIfInBounds_self_of_lt h
theorem zax {t:Array Value} {i:Nat} {v:Value}:(putD t (some i) v).size=t.size:=by
 unfold putD;exact Array.size_setIfInBounds
theorem zbI {ops:Array Oper} {o:Oper} {i d:Nat} {b:Bool} {t:Array Value} (hg:o.guard=some (i,b)) (hd:(ops[i]?).bind (·.dst)=some d) (hv:t[d]?=some (.bool b)):Region.wanted o (yielded ops t)=true:=by
 unfold Region.wanted yielded;simp [hg,hd,hv]
theorem fr20 (ev:Operand→Value):(#[]:Array Operand).map ev++jqb (Tryd.f7.ntmps-((#[]:Array Operand).map ev).size) undef=#[undef,undef,undef,undef,undef,undef,undef,undef,undef,undef,undef,undef,undef,undef,undef,undef,undef,undef,undef,undef,undef,undef,undef,undef,undef,undef,undef,undef,undef,undef,undef,undef,undef,undef,undef,undef,undef,undef,undef,undef,undef,undef,undef,undef,undef,undef,undef,undef,undef,undef,undef,undef,undef,undef,undef,undef,undef,undef,undef,undef,undef,undef,undef,undef,undef,undef,undef,undef,undef,undef,undef,undef,undef,undef,undef,undef,undef,undef,undef,undef,undef,undef,undef,undef,undef,undef,undef,undef,undef,undef,undef,undef,undef,undef,undef,undef,undef,undef,undef,undef,undef,undef,undef,undef,undef,undef,undef,undef,undef,undef,undef,undef,undef,undef,undef,undef,undef,undef,undef,undef,undef,undef,undef,undef,undef,undef,undef,undef,undef,undef,undef,undef,undef]:=by
 simp only [Tryd.ntmps7,Array.map_empty,List.size_toArray,List.length_cons,List.length_nil,Nat.reduceAdd,Nat.reduceSub,Array.replicate_succ,Array.replicate_zero,List.push_toArray,List.append_toArray,List.nil_append,List.cons_append]
theorem ziv:Tryd.f7.body=some zb3:=by kernel_rfl
end Go.Proofs.YtbbanmifdbeneaaDoor
namespace Go.Proofs.YtbbanmifdbeneaaDoor
open Go.RowKit Go.Con Go.Conc Go.ChangeShapes Go.WideShapes Go.ChangeAt
local instance:Lone:=zcG
theorem zj6 (b off k:Nat):(⟨b,off,none⟩:Addr).add k=⟨b,off+k,none⟩:=by
 unfold Addr.add;split
 ·rename_i h;subst h;rfl
 ·rfl
theorem zne {α:Type} {p:Nat→α→Prop}:∀ n:Nat,(∀ i,i<n→∃ z,p i z)→∃ l:List α,l.length=n∧∀ i z,l[i]?=some z→p i z
 | 0,_=>⟨[],rfl,fun i z h=>by simp at h⟩
 | n+1,h=>by
  obtain⟨l,h1,h2⟩:=zne n fun i hi=>h i (by omega);obtain⟨z,hz⟩:=h n (by omega);refine⟨l++[z],by simp [h1],fun i y hy=>?_⟩;rcases Nat.lt_or_ge i l.length with hi | hi
  ·rw [List.getElem?_append_left hi] at hy
   exact h2 i y hy
  ·rw [List.getElem?_append_right hi] at hy
   have h0:i-l.length=0:=by
    have:=(List.getElem?_eq_some_iff.1 hy).1;simp at this;omega
   rw [h0] at hy;simp at hy;have:i=n:=by omega
   subst this;subst hy;exact hz
section
variable {H:Type} {enc:TypeId×Value→H} {W:World}
noncomputable abbrev zjo (enc:TypeId×Value→H) (W:World):=DataW.trod enc Tryd.prog W 0 (fun _=>true) true
def Fits (t:TypeId) (d:DataW H):Prop:=∀ n∈d.weights Tryd.prog t,n≤reachBytes
theorem zem {e:TypeId} {n:Nat}:∀ {ds:List (DataW H)} {d:DataW H},d∈ds→n∈d.weights Tryd.prog e→n∈DataW.weightsAll Tryd.prog e ds
 | x :: ds,d,hd,hn=>by
  unfold DataW.weightsAll;rcases jqd.1 hd with rfl | hd
  ·exact List.mem_append_left _ hn
  ·exact List.mem_append_right _ (zem hd hn)
theorem zfb {α:Type} {en:α→List Value} {ok:α→Prop} {t e:TypeId} {fuel:Nat} {v:Value} {x:DataW H×List MemPlace} (ht:Tryd.prog.underlying t=some (.slice e)) (hbe:1≤Tryd.prog.bytesOf e)
  (hE:∀ n cs' y,zjo enc W n e cs'=some y→Fits e y.1→∃ z:α,cs'=en z∧ok z) (h:zjo enc W fuel t [v]=some x) (hfit:Fits t x.1) (hv:Cell.okWide Tryd.prog W .any 0 t v) :
  ∃ l:List α,Sl W v (Tryd.prog.cellsOf e) (l.map en)∧zo6 v∧Kind W v∧l.length≤reachBytes∧∀ z∈l,ok z:=by
 rcases DataW.trod_slice ht h with ⟨h1,_⟩ | ⟨a,len,cap,elems,rest,n,_,h1,hxx,_,hl,hm,hlen,hel,_,_⟩
 ·simp only [List.cons.injEq,and_true] at h1
  subst h1;exact⟨[],⟨0,.inl ⟨rfl,rfl⟩⟩,fun a n k e=>by cases e;exact Nat.le_refl _,fun a n k e=>(by cases e),Nat.zero_le _,fun z hz=>by cases hz⟩
 ·simp only [List.cons.injEq,and_true] at h1
  subst h1;subst hxx;have hwt:(DataW.slice (elems.map (·.1)) (rest.map (·.1)):DataW H).weights Tryd.prog t=((elems.map (·.1)).length+(rest.map (·.1)).length) * Tryd.prog.bytesOf e :: (DataW.weightsAll Tryd.prog e (elems.map (·.1))++DataW.weightsAll Tryd.prog e (rest.map (·.1))):=by
   unfold DataW.weights;rw [ht]
  unfold Fits at hfit;dsimp only at hfit;rw [hwt] at hfit;have hlb:len≤reachBytes:=by
   have h1:=hfit _ (List.mem_cons_self ..);rw [List.length_map,List.length_map,hlen] at h1;refine jqc ?_ h1;refine jqc (Nat.le_add_right len rest.length) ?_;exact Nat.le_mul_of_pos_right _ hbe
  have hef:∀ y∈elems,Fits e y.1:=fun y hy m hm=>hfit m (List.mem_cons_of_mem _ (List.mem_append_left _ (zem (List.mem_map_of_mem hy) hm)));simp only [Cell.okWide,ht,Cell.ok] at hv;obtain⟨_,_,_,hs,row,cells,hsh,_⟩:=hv;obtain⟨b,off,spot⟩:=a;dsimp only at hs hsh;subst hs;have hcells:∃ cs e fz,W.heap[b]?=some (.cells cs e fz):=by
   unfold World.shape? at hsh
   split at hsh
   ·rename_i c e f hc;exact⟨_,_,_,hc⟩
   ·cases hsh
  obtain⟨l,hl1,hl2⟩:=zne (p:=fun i (z:α)=>ok z∧∀ k y,(en z)[k]?=some y→W.cell? ⟨b,off+i * Tryd.prog.cellsOf e+k,none⟩=some y) len fun i hi=>by
   have h2:=hel i hi;rw [jqa (by omega)] at h2;obtain⟨cs',h3,h4⟩:=Option.bind_eq_some_iff.1 h2;obtain⟨z,rfl,hz⟩:=hE _ _ _ h4 (hef _ (List.getElem_mem _));obtain⟨_,hn,hc⟩:=World.cells?_some h3;refine⟨z,hz,fun k y hk=>?_⟩;have hkl:=(List.getElem?_eq_some_iff.1 hk).1;have:=hc k (by omega);rw [zj6,zj6,hk] at this;exact this
  have hlt:b<W.heap.size:=by
   obtain⟨_,_,_,hc⟩:=hcells;exact (Array.getElem?_eq_some_iff.1 hc).1
  refine⟨l,⟨cap,.inr ⟨b,off,by rw [List.length_map,hl1],hlt,fun j k z y hj hk=>?_⟩⟩,fun a n k e=>by cases e;exact hl,fun a n k e=>?_,by omega,fun z hz=>?_⟩
  ·rw [List.getElem?_map] at hj
   obtain⟨z',hz',rfl⟩:=Option.map_eq_some_iff.1 hj;exact (hl2 j z' hz').2 k y hk
  ·cases e;exact hcells
  ·obtain⟨i,hi⟩:=List.mem_iff_getElem?.1 hz
   exact (hl2 i z hi).1
theorem zbY {t:TypeId} (ht:Tryd.prog.underlying t=some (.int .i64)) {n:Nat} {cs:List Value} {y:DataW H×List MemPlace} (h:zjo enc W n t cs=some y):∃ k:Int,cs=[num k]∧True:=by
 obtain⟨k,h1,_,h3⟩:=DataW.trod_int ht h;exact⟨k,h1,trivial⟩
theorem zky {n:Nat} {cs:List Value} {y:DataW H×List MemPlace} (h:zjo enc W n 9 cs=some y) (hf:Fits 9 y.1):∃ s:List UInt8,cs=[str s]∧s.length≤reachBytes:=by
 obtain⟨s,h1,h2,h3⟩:=DataW.trod_string Tryd.underlying9 h;subst h2;exact⟨s.data.toList,by rw [h1],hf _ (by unfold DataW.weights;exact List.mem_singleton.2 rfl)⟩
theorem zeK {t:TypeId} {f0 f1:Field} (ht:Tryd.prog.underlying t=some (.struct #[f0,f1])) (t0:f0.type=3) (t1:f1.type=3) (o0:f0.offset=0) (o1:f1.offset=1) (hc:Tryd.prog.cellsOf t=2) {n:Nat} {cs:List Value} {y:DataW H×List MemPlace} (h:zjo enc W n t cs=some y) :
  ∃ z:Int×Int,cs=two z∧True:=by
 obtain⟨xs,m,_,_,hl,hx,hf⟩:=DataW.trod_struct ht h;have c3:Tryd.prog.cellsOf 3=1:=by kernel_rfl
 rw [hc] at hl
 match cs,hl with
 | [u,v],_ =>
  have h0:=hf 0 f0 rfl;have h1:=hf 1 f1 rfl;rw [t0,o0,c3,jqa (by rw [hx];simp)] at h0;rw [t1,o1,c3,jqa (by rw [hx];simp)] at h1;obtain⟨k,e0,_⟩:=zbY Tryd.underlying3 h0;obtain⟨k',e1,_⟩:=zbY Tryd.underlying3 h1;simp at e0 e1;exact⟨(k,k'),by rw [e0,e1],trivial⟩
theorem zhy {t:TypeId} {f0 f1 f2:Field} (ht:Tryd.prog.underlying t=some (.struct #[f0,f1,f2])) (t0:f0.type=3) (t1:f1.type=3) (t2:f2.type=3) (o0:f0.offset=0) (o1:f1.offset=1) (o2:f2.offset=2) (hc:Tryd.prog.cellsOf t=3) {n:Nat} {cs:List Value} {y:DataW H×List MemPlace}
  (h:zjo enc W n t cs=some y):∃ z:Int×Int×Int,cs=three z∧True:=by
 obtain⟨xs,m,_,_,hl,hx,hf⟩:=DataW.trod_struct ht h;have c3:Tryd.prog.cellsOf 3=1:=by kernel_rfl
 rw [hc] at hl
 match cs,hl with
 | [u,v,s],_ =>
  have h0:=hf 0 f0 rfl;have h1:=hf 1 f1 rfl;have h2:=hf 2 f2 rfl;rw [t0,o0,c3,jqa (by rw [hx];simp)] at h0;rw [t1,o1,c3,jqa (by rw [hx];simp)] at h1;rw [t2,o2,c3,jqa (by rw [hx];simp)] at h2;obtain⟨k,e0,_⟩:=zbY Tryd.underlying3 h0;obtain⟨k',e1,_⟩:=zbY Tryd.underlying3 h1;obtain⟨k2,e2,_⟩:=zbY Tryd.underlying3 h2;simp at e0 e1 e2;exact⟨(k,k',k2),by rw [e0,e1,e2],trivial⟩
theorem zlK {n:Nat} {cs:List Value} {y:DataW H×List MemPlace} (h:zjo enc W n 55 cs=some y) (hfit:Fits 55 y.1):∃ z:Plot,cs=Plot.cells z∧z.name.length≤reachBytes:=by
 obtain⟨xs,m,_,hyy,hl,hx,hf⟩:=DataW.trod_struct Tryd.underlying55 h;subst hyy;have hwt:(DataW.agg (xs.map (·.1)):DataW H).weights Tryd.prog 55=DataW.weightsEach Tryd.prog [9,3,3,28,3] (xs.map (·.1)):=by
  unfold DataW.weights;rw [Tryd.underlying55];rfl
 unfold Fits at hfit;dsimp only at hfit;rw [hwt] at hfit;have hx0:∀ (i:Nat) (y:DataW H×List MemPlace) (t:TypeId),xs[i]?=some y→([9,3,3,28,3]:List TypeId)[i]?=some t→Fits t y.1:=fun i y t hy ht m hm=>hfit m (DataW.weights_mem_each ht (by rw [List.getElem?_map,hy];rfl) m hm);have c3:Tryd.prog.cellsOf 3=1:=by kernel_rfl
 have c9:Tryd.prog.cellsOf 9=1:=by kernel_rfl
 have c28:Tryd.prog.cellsOf 28=2:=by kernel_rfl
 rw [show Tryd.prog.cellsOf 55=6 by kernel_rfl] at hl
 match cs,hl with
 | [u0,u1,u2,u3,u4,u5],_ =>
  have h0:=hf 0 ⟨ "Name",9,0,false,"","",0⟩ rfl;have h1:=hf 1 ⟨ "Holder",3,1,false,"","",16⟩ rfl;have h2:=hf 2 ⟨ "Far",3,2,false,"","",24⟩ rfl;have h3:=hf 3 ⟨ "Needs",28,3,false,"","",32⟩ rfl;have h4:=hf 4 ⟨ "Worth",3,5,false,"","",48⟩ rfl;rw [jqa (by rw [hx];simp)] at h0 h1 h2 h3 h4;dsimp only at h0 h1 h2 h3 h4;rw [c9] at h0;rw [c3] at h1 h2 h4;rw [c28] at h3;obtain⟨s,e0,hs⟩:=zky h0 (hx0 0 _ _ (jqa _) rfl);obtain⟨k1,e1,_⟩:=zbY Tryd.underlying3 h1;obtain⟨k2,e2,_⟩:=zbY Tryd.underlying3 h2;obtain⟨⟨k3,k4⟩,e3,_⟩:=zeK Tryd.underlying28 rfl rfl rfl rfl c28 h3;obtain⟨k5,e5,_⟩:=zbY Tryd.underlying3 h4;simp at e0 e1 e2 e3 e5;exact⟨⟨s,k1,k2,k3,k4,k5⟩,by rw [e0,e1,e2,e3.1,e3.2,e5],hs⟩
theorem znp {v:Value} {dd:DataW H} {p:List MemPlace} {base:Nat} (hv:Value.okWide Tryd.prog W .any base 31 v) (h:DataW.Trod enc Tryd.prog W 0 (fun _=>true) true 31 v dd p) (hfit:Fits 31 dd) :
  ∃ (d:Dit) (r:zaR),v=d.val r∧DitSl W d r∧d.Big:=by
 simp only [Value.okWide,Tryd.underlying31] at hv;obtain⟨cs,rfl,hsz,ts,hts,_,hcell⟩:=hv;rw [show Tryd.prog.cellTypes Tryd.prog.depth 31=some [22,23,3,3,3,3,24,25,26,3,3,3,3,29] by kernel_rfl] at hts;cases hts
 rw [show Tryd.prog.cellsOf 31=14 by kernel_rfl] at hsz;obtain⟨fuel,hf⟩:=h;simp only [Value.cells] at hf;obtain⟨xs,m,_,hyy,_,hx,hg⟩:=DataW.trod_struct Tryd.underlying31 hf;simp only [Prod.mk.injEq] at hyy;obtain⟨rfl,rfl⟩:=hyy;have hwt:(DataW.agg (xs.map (·.1)):DataW H).weights Tryd.prog 31=DataW.weightsEach Tryd.prog [22,23,3,3,3,3,24,25,26,28,28,29] (xs.map (·.1)):=by
  unfold DataW.weights;rw [Tryd.underlying31];rfl
 unfold Fits at hfit;rw [hwt] at hfit;have hx0:∀ (i:Nat) (y:DataW H×List MemPlace) (t:TypeId),xs[i]?=some y→([22,23,3,3,3,3,24,25,26,28,28,29]:List TypeId)[i]?=some t→Fits t y.1:=fun i y t hy ht m hm=>hfit m (DataW.weights_mem_each ht (by rw [List.getElem?_map,hy];rfl) m hm);obtain⟨l⟩:=cs;simp only [List.size_toArray] at hsz
 match l,hsz with
 | [u0,u1,u2,u3,u4,u5,u6,u7,u8,u9,u10,u11,u12,u13],_ =>
  have c3:Tryd.prog.cellsOf 3=1:=by kernel_rfl
  have c22:Tryd.prog.cellsOf 22=1:=by kernel_rfl
  have c23:Tryd.prog.cellsOf 23=1:=by kernel_rfl
  have c24:Tryd.prog.cellsOf 24=1:=by kernel_rfl
  have c25:Tryd.prog.cellsOf 25=1:=by kernel_rfl
  have c26:Tryd.prog.cellsOf 26=1:=by kernel_rfl
  have c29:Tryd.prog.cellsOf 29=1:=by kernel_rfl
  have c28:Tryd.prog.cellsOf 28=2:=by kernel_rfl
  have g0:=hg 0 ⟨ "Holders",22,0,false,"","",0⟩ rfl;have g1:=hg 1 ⟨ "Turns",23,1,false,"","",24⟩ rfl;have g2:=hg 2 ⟨ "Begin",3,2,false,"","",48⟩ rfl;have g3:=hg 3 ⟨ "Week",3,3,false,"","",56⟩ rfl;have g4:=hg 4 ⟨ "RestFrom",3,4,false,"","",64⟩ rfl;have g5:=hg 5 ⟨ "RestLong",3,5,false,"","",72⟩ rfl;have g6:=hg 6 ⟨ "Feasts",24,6,false,"","",80⟩ rfl;have g7:=hg 7 ⟨ "Swaps",25,7,false,"","",104⟩ rfl;have g8:=hg 8 ⟨ "Loans",26,8,false,"","",128⟩ rfl;have g9:=hg 9 ⟨ "Flow",28,9,false,"","",152⟩ rfl;have g10:=hg 10 ⟨ "Loss",28,11,false,"","",168⟩ rfl;have g11:=hg 11 ⟨ "Plots",29,13,false,"","",184⟩ rfl;rw [jqa (by rw [hx];simp)] at g0 g1 g2 g3 g4 g5 g6 g7 g8 g9 g10 g11;dsimp only at g0 g1 g2 g3 g4 g5 g6 g7 g8 g9 g10 g11;rw [c22] at g0;rw [c23] at g1;rw [c3] at g2 g3 g4 g5;rw [c24] at g6;rw [c25] at g7;rw [c26] at g8;rw [c28] at g9 g10;rw [c29] at g11;simp only [jqf,List.drop_zero,jqg,List.take_zero] at g0 g1 g2 g3 g4 g5 g6 g7 g8 g9 g10 g11;have kc:∀ (i:Nat) (y:Value) (t:TypeId),(#[u0,u1,u2,u3,u4,u5,u6,u7,u8,u9,u10,u11,u12,u13]:Array Value)[i]?=some y→([22,23,3,3,3,3,24,25,26,3,3,3,3,29]:List TypeId)[i]?=some t→i<14→Cell.okWide Tryd.prog W .any 0 t y:=by
   intro i y t hy ht hi;obtain⟨t',h1,h2⟩:=hcell i y hy;have:i % ([22,23,3,3,3,3,24,25,26,3,3,3,3,29]:List TypeId).length=i:=Nat.mod_eq_of_lt hi;rw [this,ht] at h1;cases h1
   exact h2
  obtain⟨lh,a1,a2,a3,a4,a5⟩:=zfb (en:=fun s=>[str s]) (ok:=fun s:List UInt8=>s.length≤reachBytes) Tryd.underlying22 (by decide +kernel) (fun n cs' y h hff=>zky h hff) g0 (hx0 0 _ _ (jqa _) rfl) (kc 0 _ _ rfl rfl (by decide));obtain⟨lt,b1,b2,b3,b4,b5⟩:=zfb (en:=two) (ok:=fun _=>True) Tryd.underlying23 (by decide +kernel) (fun n cs' y h hff=>zeK Tryd.underlying93 rfl rfl rfl rfl (by kernel_rfl) h) g1 (hx0 1 _ _ (jqa _) rfl) (kc 1 _ _ rfl rfl (by decide));obtain⟨lf,d1,d2,d3,d4,d5⟩:=zfb (en:=two) (ok:=fun _=>True) Tryd.underlying24 (by decide +kernel) (fun n cs' y h hff=>zeK Tryd.underlying28 rfl rfl rfl rfl (by kernel_rfl) h) g6 (hx0 6 _ _ (jqa _) rfl) (kc 6 _ _ rfl rfl (by decide));obtain⟨ls,e1,e2,e3,e4,e5⟩:=zfb (en:=three) (ok:=fun _=>True) Tryd.underlying25 (by decide +kernel) (fun n cs' y h hff=>zhy Tryd.underlying95 rfl rfl rfl rfl rfl rfl (by kernel_rfl) h) g7 (hx0 7 _ _ (jqa _) rfl) (kc 7 _ _ rfl rfl (by decide));obtain⟨lo,f1,f2,f3,f4,f5⟩:=zfb (en:=three) (ok:=fun _=>True) Tryd.underlying26 (by decide +kernel) (fun n cs' y h hff=>zhy Tryd.underlying97 rfl rfl rfl rfl rfl rfl (by kernel_rfl) h) g8 (hx0 8 _ _ (jqa _) rfl) (kc 8 _ _ rfl rfl (by decide));obtain⟨lp,p1,p2,p3,p4,p5⟩:=zfb (en:=Plot.cells) (ok:=fun p:Plot=>p.name.length≤reachBytes) Tryd.underlying29 (by decide +kernel) (fun n cs' y h hff=>zlK h hff) g11 (hx0 11 _ _ (jqa _) rfl) (kc 13 _ _ rfl rfl (by decide));obtain⟨n2,q2,_⟩:=zbY Tryd.underlying3 g2
  obtain⟨n3,q3,_⟩:=zbY Tryd.underlying3 g3;obtain⟨n4,q4,_⟩:=zbY Tryd.underlying3 g4;obtain⟨n5,q5,_⟩:=zbY Tryd.underlying3 g5;obtain⟨⟨n9,n10⟩,q9,_⟩:=zeK Tryd.underlying28 rfl rfl rfl rfl c28 g9;obtain⟨⟨n11,n12⟩,q10,_⟩:=zeK Tryd.underlying28 rfl rfl rfl rfl c28 g10;simp only [List.cons.injEq,and_true] at q2 q3 q4 q5 q9 q10;obtain⟨rfl,rfl⟩:=q9;obtain⟨rfl,rfl⟩:=q10;subst q2 q3 q4 q5;rw [show Tryd.prog.cellsOf 9=1 by kernel_rfl] at a1;rw [show Tryd.prog.cellsOf 93=2 by kernel_rfl] at b1;rw [c28] at d1;rw [show Tryd.prog.cellsOf 95=3 by kernel_rfl] at e1;rw [show Tryd.prog.cellsOf 97=3 by kernel_rfl] at f1;rw [show Tryd.prog.cellsOf 55=6 by kernel_rfl] at p1;refine⟨⟨lh,lt,n2,n3,n4,n5,lf,ls,lo,(n9,n10),(n11,n12),lp⟩,⟨u0,u1,u6,u7,u8,u13⟩,rfl,⟨a1,b1,d1,e1,f1,p1,a2,p2,?_⟩,⟨jqc a4 (by decide),jqc b4 (by decide),jqc d4 (by decide),jqc e4 (by decide),jqc f4 (by decide),jqc p4 (by decide),fun s hs=>jqc (a5 s hs) (by decide),fun p hp=>jqc (p5 p hp) (by decide)⟩⟩;intro v hv;simp only [jqd,List.not_mem_nil,or_false] at hv;rcases hv with rfl | rfl | rfl | rfl | rfl | rfl<;>assumption
end
abbrev zmo:List (String×DataW Unit):=[("crocus/turn.checks",Rows.laid_crocus_turn_checks),("crocus/turn.nowhere",Rows.laid_crocus_turn_nowhere)]
theorem zn6:ownKnob Tryd.prog.godebug=none:=by kernel_rfl
theorem znH:laidOutB Tryd.prog=true:=by kernel_rfl
theorem znv (os:Os) (args:Array Value):laidMetH Tryd.prog zmo ((World.doorLaid Tryd.prog 600 os).forCall (fun _ _=>0) ⟨#[],args,[]⟩).memory :=
 laidMetH_of_parts3 (fuel:=8) (laidMet_of_run' 8 (by kernel_rfl) (by kernel_rfl)) (by kernel_rfl) (by kernel_rfl)
theorem zpA {W:World} (h:laidMetH Tryd.prog zmo W):Glob W:=by
 obtain⟨g,t,cs,fuel,p,hg,ht,hv,hd⟩:=h.funcs (List.mem_cons_self ..);obtain rfl:=Option.some.inj ((show Tryd.prog.globalNamed "crocus/turn.checks" = some 1 by kernel_rfl).symm.trans hg);obtain rfl:=Option.some.inj ((show (Tryd.prog.globals[1]?).map (·.type)=some 133 by kernel_rfl).symm.trans ht);obtain⟨xs,m,_,hx,hl,hn,hel⟩:=DataW.trod_array Tryd.underlying133 hd;have h' : laidMet Tryd.prog [("crocus/turn.nowhere",Rows.laid_crocus_turn_nowhere)] W∧handlesMet Tryd.prog [("crocus/turn.checks",Rows.laid_crocus_turn_checks)] W:=h;obtain⟨⟨ps,⟨g1,t1,cs1,f1,p1,q1,hg1,ht1,hv1,hd1,_,_⟩,_,_⟩,_⟩:=h';have hx1:(DataW.agg [.held [40,42,99,114,111,99,117,115,47,116,117,114,110,46,100,105,116,99,104,41,46,112,101,111,112,108,101],.held [40,42,99,114,111,99,117,115,47,116,117,114,110,46,100,105,116,99,104,41,46,116,105,109,101,115],.held [40,42,99,114,111,99,117,115,47,116,117,114,110,46,100,105,116,99,104,41,46,99,104,97,110,103,101,115],.held [40,42,99,114,111,99,117,115,47,116,117,114,110,46,100,105,116,99,104,41,46,103,114,111,117,110,100]]:DataW (List UInt8))=.agg (xs.map (·.1)):=(Prod.mk.inj hx).1;simp only [DataW.agg.injEq] at hx1;rw [show Tryd.prog.cellsOf 133=4 by kernel_rfl] at hl;rw [show Tryd.prog.cellsOf 132=1 by kernel_rfl] at hel;obtain⟨l⟩:=cs;dsimp only at hl hel;have vc:=fun i=>World.var?_cell hg hv i
 match l,hl,xs,hn,hx1 with
 | [v0,v1,v2,v3],_,[x0,x1,x2,x3],_,hx1 =>
  simp only [List.map_cons,List.map_nil,List.cons.injEq,and_true] at hx1;obtain⟨y0,y1,y2,y3⟩:=hx1;have e0:=hel 0 (by decide);have e1:=hel 1 (by decide);have e2:=hel 2 (by decide);have e3:=hel 3 (by decide);simp only [Nat.zero_mul,Nat.one_mul,Nat.reduceMul,jqf,List.drop_zero,jqg,List.take_zero,List.getElem?_cons_zero,List.getElem?_cons_succ] at e0 e1 e2 e3;obtain⟨d0,q0⟩:=x0;obtain⟨d1,q1'⟩:=x1;obtain⟨d2,q2⟩:=x2;obtain⟨d3,q3⟩:=x3;dsimp only at y0 y1 y2 y3;subst y0 y1 y2 y3;obtain rfl:=func_of_trod (f0:=92) Tryd.underlying132 (by kernel_rfl) e0;obtain rfl:=func_of_trod (f0:=93) Tryd.underlying132 (by kernel_rfl) e1;obtain rfl:=func_of_trod (f0:=94) Tryd.underlying132 (by kernel_rfl) e2;obtain rfl:=func_of_trod (f0:=95) Tryd.underlying132 (by kernel_rfl) e3;obtain rfl:=Option.some.inj ((show Tryd.prog.globalNamed "crocus/turn.nowhere" = some 0 by kernel_rfl).symm.trans hg1);obtain rfl:=Option.some.inj ((show (Tryd.prog.globals[0]?).map (·.type)=some 102 by kernel_rfl).symm.trans ht1);obtain⟨zs,m2,_,hz,hl2,hzl,hf2⟩:=DataW.trod_struct Tryd.underlying102 hd1;have hz1:(DataW.agg [.lit (.int .i64 (-1)),.lit (.int .i64 (-1))]:DataW Unit)=.agg (zs.map (·.1)):=(Prod.mk.inj hz).1;simp only [DataW.agg.injEq] at hz1;rw [show Tryd.prog.cellsOf 102=2 by kernel_rfl] at hl2;obtain⟨l2⟩:=cs1;dsimp only at hl2 hf2;have vd:=fun i=>World.var?_cell hg1 hv1 i;have c3:Tryd.prog.cellsOf 3=1:=by kernel_rfl
  match l2,hl2,zs,hzl,hz1 with
  | [u0,u1],_,[z0,z1],_,hz1 =>
   simp only [List.map_cons,List.map_nil,List.cons.injEq,and_true] at hz1;obtain⟨w0,w1⟩:=hz1;have k0:=hf2 0 ⟨ "cycle",3,0,false,"","crocus/turn",0⟩ rfl;have k1:=hf2 1 ⟨ "turn",3,1,false,"","crocus/turn",8⟩ rfl;dsimp only at k0 k1;rw [c3] at k0 k1;simp only [jqf,List.drop_zero,jqg,List.take_zero,List.getElem?_cons_zero,List.getElem?_cons_succ] at k0 k1;obtain⟨n0,r0,s0,_⟩:=DataW.trod_int Tryd.underlying3 k0;obtain⟨n1,r1,s1,_⟩:=DataW.trod_int Tryd.underlying3 k1;rw [s0] at w0;rw [s1] at w1;simp only [DataW.lit.injEq,Lit.int.injEq,true_and] at w0 w1;simp only [List.cons.injEq,and_true] at r0 r1;subst w0 w1 r0 r1;have hsz:∀ {v:Value},W.cell? ⟨1,0,none⟩=some v→2≤W.heap.size:=by
    intro v hc;unfold World.cell? at hc;dsimp only at hc
    split at hc
    ·rename_i hh;exact (Array.getElem?_eq_some_iff.1 hh).1
    ·cases hc
   exact⟨hsz (vc 0),vc 0,vc 1,vc 2,vc 3,vd 0,vd 1⟩
abbrev CD (W:World) (b:Nat):Prop:=∃ cs e fz,W.heap[b]?=some (Obj.cells cs e fz)
section
variable {W:World} {c:Nat→Value}
theorem zi0 {b:Nat} {cs:Array Value} {e:TypeId} {fz:Nat×Nat} (h:W.heap[b]?=some (.cells cs e fz)):(zci Tryd.prog c (CD W) W).heap[b]?=some (.cells (invA Tryd.prog (ixOf c) cs) e (0,cs.size)):=by
 rw [zge,h];simp only [Option.map_some];rw [if_pos ⟨_,_,_,h⟩]
theorem zcj {p:Addr} {v:Value} (h:W.cell? p=some v) (hv:inv Tryd.prog (ixOf c) v=v):(zci Tryd.prog c (CD W) W).cell? p=some v:=by
 unfold World.cell? at h ⊢
 split at h
 ·rename_i cs e fz hh
  rw [zi0 hh];dsimp only
  split at h
  ·cases h
  ·rename_i hsp
   rw [if_neg hsp,zmn,Array.getElem?_map,h];simp [hv]
 ·cases h
theorem Sl.entry {v:Value} {sz:Nat} {xs:List (List Value)} (h:Sl W v sz xs) (hx:∀ l∈xs,∀ x∈l,inv Tryd.prog (ixOf c) x=x):Sl (zci Tryd.prog c (CD W) W) v sz xs:=by
 obtain⟨cap,h | ⟨b,off,h1,h2,h3⟩⟩:=h
 ·exact⟨cap,.inl h⟩
 ·refine⟨cap,.inr ⟨b,off,h1,by rw [zcL];exact h2,fun j k l x hj hk=>zcj (h3 j k l x hj hk) ?_⟩⟩
  exact hx l (List.mem_of_getElem? hj) x (List.mem_of_getElem? hk)
theorem Kind.entry {v:Value} (h:Kind W v):Kind (zci Tryd.prog c (CD W) W) v:=fun a n k e=>by
 obtain⟨cs,t,fz,hh⟩:=h a n k e;exact⟨_,_,_,zi0 hh⟩
theorem zgb {ix:Value→Nat} (n:Int):inv Tryd.prog ix (num n)=num n:=by simp [inv]
theorem zmF {ix:Value→Nat} (s:List UInt8):inv Tryd.prog ix (str s)=str s:=by simp [inv]
theorem DitSl.entry {d:Dit} {r:zaR} (h:DitSl W d r):DitSl (zci Tryd.prog c (CD W) W) d r:=by
 refine⟨h.holders.entry ?_,h.turns.entry ?_,h.feasts.entry ?_,h.swaps.entry ?_,h.loans.entry ?_,h.plots.entry ?_,h.cap0,h.cap13,fun v hv=>(h.kinds v hv).entry⟩
 all_goals (
  intro l hl x hx;obtain⟨z,_,rfl⟩:=List.mem_map.1 hl;simp only [jqd,List.not_mem_nil,or_false] at hx
  first
   | (rcases hx with rfl | rfl | rfl | rfl | rfl | rfl<;>first | exact zgb _ | exact zmF _)
   | (rcases hx with rfl | rfl | rfl<;>exact zgb _)
   | (rcases hx with rfl | rfl<;>exact zgb _)
   | (subst hx;exact zmF _))
theorem zfQ {ix:Value→Nat} {f:FuncId} (h:zaL Tryd.prog (.func f)=true):inv Tryd.prog ix (.func (.func f) #[] #[])=.func (.func f) #[] #[]:=by
 unfold inv;rw [if_pos (by rw [h];rfl)]
theorem Glob.entry (h:Glob W):Glob (zci Tryd.prog c (CD W) W) :=
 ⟨by rw [zcL];exact h.size,zcj h.c0 (zfQ (by kernel_rfl)),zcj h.c1 (zfQ (by kernel_rfl)),zcj h.c2 (zfQ (by kernel_rfl)),zcj h.c3 (zfQ (by kernel_rfl)),zcj h.n0 (zgb _),zcj h.n1 (zgb _)⟩
theorem zjF:EmptyDef (zci Tryd.prog c (CD W) W):=by
 intro b o ho;rw [zge] at ho
 cases hh:W.heap[b]? with
 | none=>rw [hh] at ho;cases ho
 | some o' =>
  rw [hh] at ho;simp only [Option.map_some,Option.some.injEq] at ho
  split at ho
  ·rename_i hd
   obtain⟨cs,e,fz,h2⟩:=hd;rw [hh] at h2;cases h2
   subst ho;rfl
  ·subst ho;rfl
theorem zmi {p:Addr} {v:Value} (h:W.cell? p=some v):CD W p.block:=by
 unfold World.cell? at h
 split at h
 ·rename_i cs e fz hh;exact⟨_,_,_,hh⟩
 ·cases h
theorem zpt (h:Glob W):∀ b,b<Tryd.prog.globals.size→CD W b:=by
 intro b hb;rw [show Tryd.prog.globals.size=2 by kernel_rfl] at hb;rcases b with _ | _ | b
 ·exact zmi h.n0
 ·exact zmi h.c0
 ·omega
end
def Same (W:World) (E:Nat→Prop) (v:Value):Prop:=(∀ c,ren (zcI c) v=v)∧ren (RA (gd Tryd.prog)) v=ren (RB (gd Tryd.prog) (CD W) E) v
theorem Same.num {W:World} {E:Nat→Prop} (n:Int):Same W E (num n):=⟨fun c=>by simp [ren],by simp [ren]⟩
theorem Same.bool {W:World} {E:Nat→Prop} (n:Bool):Same W E (.bool n):=⟨fun c=>by simp [ren],by simp [ren]⟩
theorem Same.undef {W:World} {E:Nat→Prop}:Same W E undef:=⟨fun c=>ren_undef,by rw [ren_undef,ren_undef]⟩
theorem Same.slice {W:World} {E:Nat→Prop} {v:Value} (hs:∃ a n k,v=.slice a n k) (hk:Kind W v):Same W E v:=by
 obtain⟨a,n,k,rfl⟩:=hs;refine⟨fun c=>?_,?_⟩
 ·cases a with
  | none=>simp [ren]
  | some a=>simp [ren,zak,zcI]
 ·cases a with
  | none=>simp [ren]
  | some a =>
   obtain⟨cs,e,fz,h⟩:=hk a n k rfl;have:(RA (gd Tryd.prog)).p a.block=(RB (gd Tryd.prog) (CD W) E).p a.block:=dbl_eq.2 (.inr ⟨cs,e,fz,h⟩);simp [ren,zak,this]
theorem Same.agg {W:World} {E:Nat→Prop} {cs:Array Value} (h:∀ v∈cs.toList,Same W E v):Same W E (.agg cs):=by
 have key:∀ ρ σ:Rn,(∀ v∈cs.toList,ren ρ v=ren σ v)→cs.map (ren ρ)=cs.map (ren σ):=by
  intro ρ σ hh;apply jqe;intro v hv;exact hh v (by simpa using hv)
 refine⟨fun c=>?_,?_⟩
 ·simp only [ren,zaE]
  congr 1;have:cs.map (ren (zcI c))=cs.map id:=by
   apply jqe;intro v hv;exact (h v (by simpa using hv)).1 c
  rw [this];simp
 ·simp only [ren,zaE]
  congr 1;exact key _ _ fun v hv=>(h v hv).2
theorem Sl.isSlice {W:World} {v:Value} {sz:Nat} {xs:List (List Value)} (h:Sl W v sz xs):∃ a n k,v=.slice a n k:=by
 obtain⟨a,k,e⟩:=h.cases;exact⟨a,_,k,e⟩
theorem DitSl.same {W:World} {E:Nat→Prop} {d:Dit} {r:zaR} (h:DitSl W d r):Same W E (d.val r):=by
 refine Same.agg fun v hv=>?_;have k:=fun v hv=>h.kinds v hv;simp only [jqd,List.not_mem_nil,or_false] at hv;rcases hv with rfl | rfl | rfl | rfl | rfl | rfl | rfl | rfl | rfl | rfl | rfl | rfl | rfl | rfl
 ·exact Same.slice h.holders.isSlice (k _ (by simp))
 ·exact Same.slice h.turns.isSlice (k _ (by simp))
 ·exact Same.num _
 ·exact Same.num _
 ·exact Same.num _
 ·exact Same.num _
 ·exact Same.slice h.feasts.isSlice (k _ (by simp))
 ·exact Same.slice h.swaps.isSlice (k _ (by simp))
 ·exact Same.slice h.loans.isSlice (k _ (by simp))
 ·exact Same.num _
 ·exact Same.num _
 ·exact Same.num _
 ·exact Same.num _
 ·exact Same.slice h.plots.isSlice (k _ (by simp))
theorem zlt {W:World} {E:Nat→Prop} {f:FuncId} {args:Array Value} {n:Nat} {body:Code} (h:∀ v∈args.toList,Same W E v) :
  supF Tryd.prog (CD W) E (Fr f (args++jqb n undef) [.code body])∧∀ c,zaa (zcI c) (Fr f (args++jqb n undef) [.code body])=Fr f (args++jqb n undef) [.code body]:=by
 have hall:∀ v∈(args++jqb n undef),Same W E v:=by
  intro v hv;rcases Array.mem_append.1 hv with hv | hv
  ·exact h v (by simpa using hv)
  ·obtain⟨_,rfl⟩:=Array.mem_replicate.1 hv
   exact Same.undef
 refine⟨?_,fun c=>?_⟩
 ·unfold supF zaa
  have:(args++jqb n undef).map (ren (RA (gd Tryd.prog)))=(args++jqb n undef).map (ren (RB (gd Tryd.prog) (CD W) E)):=jqe fun v hv=>(hall v hv).2;simp only [this,List.map_cons,List.map_nil,zal,Option.map_none]
 ·unfold zaa
  have:(args++jqb n undef).map (ren (zcI c))=(args++jqb n undef).map id:=jqe fun v hv=>(hall v hv).1 c;simp only [this,List.map_cons,List.map_nil,zal,Option.map_none,Array.map_id]
theorem zpy {W:World} {f:FuncId} {fn:Func} {body:Code} {args:Array Value} (hf:Tryd.prog.funcs[f]?=some fn) (hb:fn.body=some body) (hg:Glob W) (ha:∀ v∈args.toList,Same W (fun _=>False) v)
  (hgo:∀ (c:Nat→Value) (Post:Value→World→Prop),(∀ Fz1 ρ D own A fr W1 W',Here Tryd.prog true (fun _=>False) Fz1 (fun x=>x<W.heap.size) W ρ D own A fr [] W1 W'→Post (ren ρ (.bool true)) W') →
   GoM Tryd.prog true (fun _=>False) (CD W) (fun x=>x<W.heap.size) W (AtEnd Tryd.prog Post) ⟨false,0,0,fun _ _ _ _ _=>False⟩ [] (Fr f (args++jqb (fn.ntmps-args.size) undef) [.code body]) [] (zci Tryd.prog c (CD W) W)) :
  Con.Fin Tryd.prog (fun u W'=>u=.bool true∧Con.Left W W') (solo (G (Frame.enter Tryd.prog f args .normal) []) W) #[]:=by
 obtain⟨c,htok,hc⟩:=zjb (zdh W);obtain⟨h1,h2⟩:=zlt (f:=f) (n:=fn.ntmps-args.size) (body:=body) ha;rw [zhP hf hb];refine GoM.begin (D:=CD W) (c:=c) (E:=fun _=>False) (fun ρ=>by simp [ren]) zmH (zpt hg) (fun b h=>h) hc htok h1 (h2 c) zjF fun Post hPost=>hgo c Post fun Fz1 ρ D own A fr W1 W' h=>hPost ρ D own A fr W1 W' (.inr ⟨Fz1,h⟩)
section
variable {H:Type} {enc:TypeId×Value→H}
theorem zdb {a:Assume} {C:Checked} {os:Os} {f:FuncId} {fn:Func} {s:ChangeSpec} {conds:List PathCond} {apart fresh handsOn again:Bool} {X:World→Array Value→Prop}
  (hX:∀ (w w' : World) (args:Array Value),w.heap=w'.heap→X w args→X w' args)
  (own:ownKnob C.prog.godebug=none) (started:os.Started) (hfn:C.prog.funcs[f]?=some fn)
  (witness:∃ (w:World) (tape:Go.Tape) (i:Input),w.os=os∧(w.forCall tape i).Shaped C.prog∧i.vars=[]∧Input.okWide C.prog (w.forCall tape i) .any w.heap.size f i ∧
   ((s.pre enc C.prog fn conds apart (w.forCall tape i).memory i.args∧X (w.forCall tape i).memory i.args)∧sizedMet enc C.prog fn (OpenSpec.ofChange s) apart (w.forCall tape i).memory i.args)∧a.holds C.prog (lone (Frame.enter C.prog f i.args .normal) [] (w.forCall tape i)))
  (runs:∀ (W:World) (base:Nat) (args:Array Value) (ds gs:List (DataW H)) (before:List MemPlace),
   (∀ (j:Nat) t v,fn.params[j]?=some t→args[j]?=some v→Value.okWide C.prog W .any base t v) →
   DataW.Whole enc C.prog fn.params.toList s.vars apart W args.toList ds gs before →
   conds.all (PathCond.test C.prog ⟨fn.params.toList,ds,s.plain.varTypes C.prog,gs⟩)=true →
   (DataW.weightsEach C.prog (fn.params.toList++s.plain.varTypes C.prog) (ds++gs)).all (·≤reachBytes)=true→X W args →
   ∃ M last o w' t',runNT C.prog (M+1) (solo (G (Frame.enter C.prog f args .normal) []) W) #[]=(.ended o w',t')∧runN C.prog M (solo (G (Frame.enter C.prog f args .normal) []) W)=.next last ∧
    step C.prog last=.ended o w'∧Conc.Good C.prog (fun v W'=>s.post enc C.prog fn apart fresh handsOn again W args v W') last o w' t') :
  ReturnsInLeavingWide a C os f .any (fun w args=>(s.pre enc C.prog fn conds apart w args∧X w args)∧sizedMet enc C.prog fn (OpenSpec.ofChange s) apart w args) (s.post enc C.prog fn apart fresh handsOn again):=by
 refine returnsInLeavingWide_of_good own started witness ?_;intro w tape i _ _ _ hok hpre hholds;obtain⟨_,_,_,fn',hfn',_,_,_,_,hval⟩:=hok;have e:fn'=fn:=Option.some.inj (hfn'.symm.trans hfn);subst e;obtain⟨⟨⟨ds,gs,before,hw,hc⟩,hx⟩,hz⟩:=hpre;have hw':=DataW.Whole.of_heap (w':=w.forCall tape i) (by rfl) hw;obtain⟨M,last,o,w',t',h1,h2,h3,h4⟩:=runs (w.forCall tape i) w.heap.size i.args ds gs before hval hw' hc (hz.weights hw) (hX _ _ _ (by rfl) hx);exact⟨M,last,o,w',t',h1,h2,h3,h4.mono fun v hp=>ChangeSpec.post_blind hp⟩
theorem zl8 {t:TypeId} (hr:Tryd.prog.readableRec t=true) (hrow:t<Tryd.prog.types.size) {W W' : World} {v:Value} {d:DataW H} {ps:List MemPlace} (h:DataW.Trod enc Tryd.prog W 0 (fun _=>true) true t v d ps) (hl:Con.Left W W') (hlt:∀ x∈ps,x.block<W.heap.size) :
  DataW.Trod enc Tryd.prog W' 0 (fun b=>decide (b<W.heap.size)) true t v d ps:=by
 have hb:Below W.heap.size W { W' with tape:=W.tape }:=⟨hl.os,rfl,hl.output,hl.size,hl.heap⟩;obtain⟨fuel,h2⟩:=Below.trod znH hr hrow h hb hlt;exact⟨fuel,by rw [← h2];exact DataW.trod_heap (w:=W') (w':={ W' with tape:=W.tape }) rfl _ _ _⟩
theorem zl6 {W W' : World} (hl:Con.Left W W') (may:MemPlace→Prop):W.keptBut W' may:=by
 refine⟨hl.os,hl.output,fun i hi=>?_⟩;rw [hl.heap i hi]
 split<;>simp_all
end
theorem zoq {W:World} {m:Machine} {Post:Value→World→Prop} (h:Con.Fin Tryd.prog (fun u W'=>u=.bool true∧Con.Left W W') m #[]) (hp:∀ W',Con.Left W W'→Post (.bool true) W') :
  ∃ M last o w' t',runNT Tryd.prog (M+1) m #[]=(.ended o w',t')∧runN Tryd.prog M m=.next last∧step Tryd.prog last=.ended o w'∧Conc.Good Tryd.prog Post last o w' t':=by
 obtain⟨M,last,o,w',t',h1,h2,h3,h4⟩:=h;exact⟨M,last,o,w',t',h1,h2,h3,h4.mono fun v ⟨hv,hl⟩=>by subst hv;exact hp _ hl⟩
theorem zfY (Lk:Looks) {p:Pinned} {s:OpenSpec} {c:OpenClaim} (al:List (List PathCond)) (kinds:List LaidKind) (tests:Bool) (har:Bool×String) (lk g:Bool)
  (hc:c.holds p s) (hal:∀ D∈al,(c.withDomain D).holds p s) (hw:c.wfByText s=true) (hwal:∀ D∈al,(c.withDomain D).wfByText s=true)
  (htie:c.laidByTextAt Lk p kinds tests)
  (hst:c.start=.entering) (hnb:c.noBlocks=false∧c.again=false) (hm:p.checked.prog.mainIs=some (har.1,har.2.toList)) (hn:(!har.1 && har.2.isEmpty && !lk)=false)
  (hl:∀ f fn,p.checked.prog.funcNamed c.func=some f→p.checked.prog.funcs[f]?=some fn→lk=p.checked.prog.looks []∧∀ (j:Nat) t,fn.params[j]?=some t→p.checked.prog.wantsStandIn t=false)
  (hg:g=c.goesBy p.checked.prog) :
  Claim7.holds p (.plain s) { stood:={ row:=c,standIns:=[],harness:=har,looks:=lk },kinds:=[],alts:=al,goes:=g,laidByText:=true,laidKinds:=kinds,laidTests:=tests,laidLooks:=Lk }:=by
 have h6:∀ r:OpenClaim,Claim7.isSixth { stood:={ row:=r,standIns:=[],harness:=har,looks:=lk },kinds:=[] }=false:=fun r=>by simpa [Claim7.isSixth] using hn
 refine⟨Claim7.tied_new_at Lk kinds tests (Claim7.new_of_sixth hc har lk hst hnb hm (h6 c) hl) hw,fun D hD=>?_,htie,(fun h=>by cases h),hg⟩;exact Claim7.tied_new_at Lk kinds tests (Claim7.new_of_sixth (hal D hD) har lk hst hnb hm (h6 _) hl) (hwal D hD)
end Go.Proofs.YtbbanmifdbeneaaDoor
namespace Go.Proofs.YtbbanmifdbeneaaDoor
open Go.RowKit
abbrev zoB (week from_ long:Int):Prop:=week=0∧from_=0∧long=0∨0<week∧from_+long≤week∧long<week
theorem rest_step {week from_ long h:Int} (hr:zoB week from_ long) (hf:0≤from_) (hl:0≤long) (hh:0≤h) :
  zb0 week from_ long (h+1)=zb0 week from_ long h∨zb0 week from_ long (h+1)=zb0 week from_ long h+1:=by
 unfold zb0;rcases hr with ⟨rfl,rfl,rfl⟩ | ⟨h1,h2,h3⟩
 ·left;simp
 ·rw [if_neg (by omega),if_neg (by omega)]
  rw [Int.tdiv_eq_ediv_of_nonneg hh,Int.tdiv_eq_ediv_of_nonneg (show 0≤h+1 by omega),Int.tmod_eq_emod_of_nonneg hh,Int.tmod_eq_emod_of_nonneg (show 0≤h+1 by omega)];have hm:=Int.emod_nonneg h (b:=week) (by omega);have hm2:=Int.emod_lt_of_pos h h1;have he:=Int.mul_ediv_add_emod h week;by_cases hc:h % week+1<week
  ·obtain⟨e1,e2⟩:=(Int.ediv_emod_unique (a:=h+1) (q:=h / week) (r:=h % week+1) h1).2 ⟨by omega,by omega,hc⟩
   rw [e1,e2];generalize h / week * long=x;omega
  ·obtain⟨e1,e2⟩:=(Int.ediv_emod_unique (a:=h+1) (q:=h / week+1) (r:=0) h1).2 ⟨by rw [Int.mul_add];omega,by omega,h1⟩
   rw [e1,e2,Int.add_mul];generalize h / week * long=x;omega
theorem zoV {week from_ long h:Int} (hr:zoB week from_ long) (hf:0≤from_) (hl:0≤long) (hh:0≤h) :
  upS week from_ long (h+1)=upS week from_ long h∨upS week from_ long (h+1)=upS week from_ long h+1:=by
 have:=rest_step hr hf hl hh;unfold upS;omega
theorem zh9 (week from_ long a b:Int):zcZ week from_ long a b=if b≤a then 0 else upS week from_ long b-upS week from_ long a:=by
 unfold zcZ upS
 split<;>omega
theorem ziS (week from_ long a b:Int):zcZ week from_ long a (b+1)=zcZ week from_ long a b+if a≤b then upS week from_ long (b+1)-upS week from_ long b else 0:=by
 rw [zh9,zh9];by_cases h1:a≤b
 ·rw [if_neg (by omega),if_pos h1]
  by_cases h2:b≤a
  ·obtain rfl:a=b:=by omega
   rw [if_pos h2];omega
  ·rw [if_neg h2];omega
 ·rw [if_pos (by omega),if_pos (by omega),if_neg h1];omega
def sumQ {α:Type} (f:α→Int):List α→Int
 | []=>0
 | x :: l=>f x+sumQ f l
theorem zi1 {α:Type} (f:α→Int):∀ (l:List α) (c:Int),l.foldl (fun n x=>n-f x) c=c-sumQ f l
 | [],c=>by simp [sumQ]
 | x :: l,c=>by
  rw [List.foldl_cons,zi1 f l];simp only [sumQ];omega
theorem zkp {α:Type} {f g k:α→Int} (h:∀ x,f x=g x+k x):∀ l:List α,sumQ f l=sumQ g l+sumQ k l
 | []=>by simp [sumQ]
 | x :: l=>by
  have:=zkp h l;have:=h x;simp only [sumQ];omega
theorem zgo {α:Type} {f:α→Int}:∀ {l:List α},(∀ x∈l,f x=0)→sumQ f l=0
 | [],_=>rfl
 | x :: l,h=>by
  have h1:=h x (List.mem_cons_self ..);have h2:=zgo (l:=l) fun y hy=>h y (List.mem_cons_of_mem _ hy);simp only [sumQ];omega
def Srt:Int→List (Int×Int)→Prop
 | _,[]=>True
 | p,x :: l=>p<x.1∧x.1≤x.2∧Srt x.2 l
theorem zoE:∀ (l:List (Int×Int)) (p:Int),(∀ (i:Nat) (x:Int×Int),l[i]?=some x→x.1≤x.2∧(if i=0 then p else ((l[i-1]?).map (·.2)).getD 0)<x.1)→Srt p l
 | [],_,_=>trivial
 | x :: l,p,h=>by
  have h0:=h 0 x rfl;refine⟨by simpa using h0.2,h0.1,zoE l x.2 fun i y hy=>?_⟩;have h1:=h (i+1) y (by simpa using hy);refine⟨h1.1,?_⟩;have h2:=h1.2;rw [if_neg (by omega)] at h2
  cases i with
  | zero=>simpa using h2
  | succ i=>simpa using h2
theorem Dit.Ok.srt {d:Dit} (hO:d.Ok):Srt (-1) d.feasts:=zoE _ _ fun i x hx=>⟨(hO.feasts i x hx).1.2.1,(hO.feasts i x hx).2⟩
theorem zj1 {h:Int}:∀ {l:List (Int×Int)} {p:Int},Srt p l→h≤p→∀ x∈l,onF h x=false
 | y :: l,p,hs,hp,x,hx=>by
  rcases jqd.1 hx with rfl | hx
  ·have:=hs.1
   unfold onF;exact decide_eq_false (by omega)
  ·exact zj1 hs.2.2 (by have:=hs.1;have:=hs.2.1;omega) x hx
theorem zmd {h g:Int}:∀ {l:List (Int×Int)} {p:Int},Srt p l→sumQ (fun x=>if onF h x=true then g else 0) l=if l.any (onF h)=true then g else 0
 | [],_,_=>by simp [sumQ]
 | y :: l,p,hs=>by
  have ih:=zmd (h:=h) (g:=g) hs.2.2;by_cases hy:onF h y=true
  ·have hle:h≤y.2:=by
    have:=of_decide_eq_true hy;omega
   have hz:sumQ (fun x=>if onF h x=true then g else 0) l=0:=zgo fun x hx=>by rw [zj1 hs.2.2 hle x hx];rfl
   have ha:(y :: l).any (onF h)=true:=by rw [List.any_cons,hy];rfl
   rw [if_pos ha];show (if onF h y=true then g else 0)+_=g;rw [hz,if_pos hy];omega
  ·have ha:(y :: l).any (onF h)=l.any (onF h):=by rw [List.any_cons];simp [hy]
   simp only [ha];rw [← ih];show (if onF h y=true then g else 0)+_=_;rw [if_neg hy];omega
theorem zjr (d:Dit) (h:Int):d.ran h=zcZ d.week d.from_ d.long d.begin_ h-sumQ (fun x=>zcZ d.week d.from_ d.long (max d.begin_ x.1) (min h (x.2+1))) d.feasts:=by
 unfold Dit.ran ranS;rw [zi1]
theorem zkZ (week from_ long begin_ h:Int) (x:Int×Int):zcZ week from_ long (max begin_ x.1) (min (h+1) (x.2+1)) =
  zcZ week from_ long (max begin_ x.1) (min h (x.2+1))+if onF h x=true then (if begin_≤h then upS week from_ long (h+1)-upS week from_ long h else 0) else 0:=by
 by_cases h2:h≤x.2
 ·rw [show min (h+1) (x.2+1)=h+1 by omega,show min h (x.2+1)=h by omega,ziS]
  by_cases h1:x.1≤h
  ·have:onF h x=true:=decide_eq_true ⟨h1,h2⟩
   rw [if_pos this];by_cases h3:begin_≤h
   ·rw [if_pos (by omega),if_pos h3]
   ·rw [if_neg (by omega),if_neg h3]
  ·have:¬ onF h x=true:=fun h=>h1 (of_decide_eq_true h).1
   rw [if_neg this,if_neg (by omega)]
 ·have:¬ onF h x=true:=fun h=>h2 (of_decide_eq_true h).2
  rw [if_neg this,show min (h+1) (x.2+1)=min h (x.2+1) by omega];omega
theorem Dit.Ok.ran_step {d:Dit} (hO:d.Ok) {h:Int} (hh:0≤h):d.ran (h+1)=d.ran h+if d.runs h=true then 1 else 0:=by
 have hu:=zoV hO.room hO.times.from_.1 hO.times.long.1 hh;rw [zjr,zjr,ziS,zkp (fun x=>zkZ d.week d.from_ d.long d.begin_ h x),zmd hO.srt];unfold Dit.runs;generalize upS d.week d.from_ d.long (h+1)=u1 at hu ⊢;generalize upS d.week d.from_ d.long h=u0 at hu ⊢;generalize d.feasts.any (onF h)=b;generalize zcZ d.week d.from_ d.long d.begin_ h=x;generalize sumQ _ d.feasts=y;by_cases hb:d.begin_≤h
 ·rw [if_pos hb]
  cases b with
  | true=>simp;omega
  | false =>
   rcases hu with rfl | rfl
   ·simp;omega
   ·simp [hb];omega
 ·rw [if_neg hb]
  simp [hb]
theorem zjJ {d:Dit} {h:Int} (hh:h≤d.begin_):d.ran h=0:=by
 rw [zjr,zh9,if_pos hh,zgo]
 ·rfl
 ·intro x _
  rw [zh9,if_pos (by omega)]
theorem Dit.Ok.ran_add {d:Dit} (hO:d.Ok) {h:Int} (hh:0≤h):∀ n:Nat,d.ran h≤d.ran (h+n)∧d.ran (h+n)≤d.ran h+n
 | 0=>by simp
 | n+1=>by
  have ih:=hO.ran_add hh n;have hs:=hO.ran_step (h:=h+n) (by omega);have e:h+(n+1:Nat)=h+n+1:=by omega
  rw [e,hs]
  split<;>omega
theorem Dit.Ok.ran_mono {d:Dit} (hO:d.Ok) {a b:Int} (ha:0≤a) (hab:a≤b):d.ran a≤d.ran b∧d.ran b≤d.ran a+(b-a):=by
 have:=hO.ran_add ha (b-a).toNat;rw [show a+((b-a).toNat:Int)=b by omega] at this;omega
theorem Dit.Ok.ran_nonneg {d:Dit} (hO:d.Ok) (h:Int):0≤d.ran h:=by
 have hb:=hO.times.begin_;by_cases hh:0≤h
 ·have:=(hO.ran_mono (a:=0) (b:=h) (by omega) hh).1
  rwa [zjJ (h:=0) (by omega)] at this
 ·rw [zjJ (by omega)];omega
end Go.Proofs.YtbbanmifdbeneaaDoor
