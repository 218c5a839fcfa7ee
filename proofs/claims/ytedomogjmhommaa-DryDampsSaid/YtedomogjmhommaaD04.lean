import Derived.Test.YtedomogjmhommaaD03
set_option linter.all false
set_option maxRecDepth 100000
set_option maxHeartbeats 8000000
namespace Go.Proofs.Ytedomogjmhommaa
open Go.RowKit Go.Con Go.Conc Go.ChangeShapes Go.WideShapes Go.ChangeAt
local instance dryI89:Lone:=dryL
def Kind (W:World) (v:Value):Prop:=∀ a n c,v=.slice (some a) n c→∃ cs e fz,W.heap[a.block]?=some (.cells cs e fz)
abbrev three (x:Int×Int×Int):List Value:=[num x.1,num x.2.1,num x.2.2]
theorem add_none (b off k:Nat):(⟨b,off,none⟩:Addr).add k=⟨b,off+k,none⟩:=by
 unfold Addr.add
 split
 ·rename_i h;subst h;rfl
 ·rfl
theorem list_of {α:Type} {p:Nat→α→Prop}:∀ n:Nat,(∀ i,i<n→∃ z,p i z)→∃ l:List α,l.length=n∧∀ i z,l[i]?=some z→p i z
 | 0,_=>⟨[],rfl,fun i z h=>by simp at h⟩
 | n+1,h=>by
  obtain⟨l,h1,h2⟩:=list_of n fun i hi=>h i (by omega)
  obtain⟨z,hz⟩:=h n (by omega)
  refine⟨l++[z],by simp [h1],fun i y hy=>?_⟩
  rcases Nat.lt_or_ge i l.length with hi | hi
  ·rw [List.getElem?_append_left hi] at hy
   exact h2 i y hy
  ·rw [List.getElem?_append_right hi] at hy
   have h0:i-l.length=0:=by
    have:=(List.getElem?_eq_some_iff.1 hy).1
    simp at this;omega
   rw [h0] at hy
   simp at hy
   have:i=n:=by omega
   subst this;subst hy;exact hz
section
variable {H:Type} {enc:TypeId×Value→H} {W:World}
noncomputable abbrev trodW (enc:TypeId×Value→H) (W:World):=DataW.trod enc Try.prog W 0 (fun _=>true) true
def Fits (t:TypeId) (d:DataW H):Prop:=∀ n∈d.weights Try.prog t,n≤reachBytes
theorem weightsAll_mem {e:TypeId} {n:Nat}:∀ {ds:List (DataW H)} {d:DataW H},d∈ds→n∈d.weights Try.prog e→n∈DataW.weightsAll Try.prog e ds
 | x :: ds,d,hd,hn=>by
  unfold DataW.weightsAll
  rcases List.mem_cons.1 hd with rfl | hd
  ·exact List.mem_append_left _ hn
  ·exact List.mem_append_right _ (weightsAll_mem hd hn)
theorem sl_open {α:Type} {en:α→List Value} {ok:α→Prop} {t e:TypeId} {fuel:Nat} {v:Value} {x:DataW H×List MemPlace} (ht:Try.prog.underlying t=some (.slice e)) (hbe:1≤Try.prog.bytesOf e)
  (hE:∀ n cs' y,trodW enc W n e cs'=some y→Fits e y.1→∃ z:α,cs'=en z∧ok z) (h:trodW enc W fuel t [v]=some x) (hfit:Fits t x.1) (hv:Cell.okWide Try.prog W .any 0 t v) :
  ∃ l:List α,Sl W v (Try.prog.cellsOf e) (l.map en)∧Kind W v∧l.length≤reachBytes∧∀ z∈l,ok z:=by
 rcases DataW.trod_slice ht h with ⟨h1,_⟩ | ⟨a,len,cap,elems,rest,n,_,h1,hxx,_,hl,hm,hlen,hel,_,_⟩
 ·simp only [List.cons.injEq,and_true] at h1
  subst h1
  exact⟨[],⟨0,.inl ⟨rfl,rfl⟩⟩,fun a n k e=>(by cases e),Nat.zero_le _,fun z hz=>by cases hz⟩
 ·simp only [List.cons.injEq,and_true] at h1
  subst h1
  subst hxx
  have hwt:(DataW.slice (elems.map (·.1)) (rest.map (·.1)):DataW H).weights Try.prog t=((elems.map (·.1)).length+(rest.map (·.1)).length) * Try.prog.bytesOf e :: (DataW.weightsAll Try.prog e (elems.map (·.1))++DataW.weightsAll Try.prog e (rest.map (·.1))):=by
   unfold DataW.weights
   rw [ht]
  unfold Fits at hfit
  dsimp only at hfit
  rw [hwt] at hfit
  have hlb:len≤reachBytes:=by
   have h1:=hfit _ (List.mem_cons_self ..)
   rw [List.length_map,List.length_map,hlen] at h1
   refine Nat.le_trans ?_ h1
   refine Nat.le_trans (Nat.le_add_right len rest.length) ?_
   exact Nat.le_mul_of_pos_right _ hbe
  have hef:∀ y∈elems,Fits e y.1:=fun y hy m hm=>hfit m (List.mem_cons_of_mem _ (List.mem_append_left _ (weightsAll_mem (List.mem_map_of_mem hy) hm)))
  simp only [Cell.okWide,ht,Cell.ok] at hv
  obtain⟨_,_,_,hs,row,cells,hsh,_⟩:=hv
  obtain⟨b,off,spot⟩:=a
  dsimp only at hs hsh
  subst hs
  have hcells:∃ cs e fz,W.heap[b]?=some (.cells cs e fz):=by
   unfold World.shape? at hsh
   split at hsh
   ·rename_i c e f hc;exact⟨_,_,_,hc⟩
   ·cases hsh
  obtain⟨l,hl1,hl2⟩:=list_of (p:=fun i (z:α)=>ok z∧∀ k y,(en z)[k]?=some y→W.cell? ⟨b,off+i * Try.prog.cellsOf e+k,none⟩=some y) len fun i hi=>by
   have h2:=hel i hi
   rw [List.getElem?_eq_getElem (by omega)] at h2
   obtain⟨cs',h3,h4⟩:=Option.bind_eq_some_iff.1 h2
   obtain⟨z,rfl,hz⟩:=hE _ _ _ h4 (hef _ (List.getElem_mem _))
   obtain⟨_,hn,hc⟩:=World.cells?_some h3
   refine⟨z,hz,fun k y hk=>?_⟩
   have hkl:=(List.getElem?_eq_some_iff.1 hk).1
   have:=hc k (by omega)
   rw [add_none,add_none,hk] at this
   exact this
  have hlt:b<W.heap.size:=by
   obtain⟨_,_,_,hc⟩:=hcells
   exact (Array.getElem?_eq_some_iff.1 hc).1
  refine⟨l,⟨cap,.inr ⟨b,off,by rw [List.length_map,hl1],hlt,fun j k z y hj hk=>?_⟩⟩,fun a n k e=>?_,by omega,fun z hz=>?_⟩
  ·rw [List.getElem?_map] at hj
   obtain⟨z',hz',rfl⟩:=Option.map_eq_some_iff.1 hj
   exact (hl2 j z' hz').2 k y hk
  ·cases e;exact hcells
  ·obtain⟨i,hi⟩:=List.mem_iff_getElem?.1 hz
   exact (hl2 i z hi).1
theorem read_num {t:TypeId} (ht:Try.prog.underlying t=some (.int .i64)) {n:Nat} {cs:List Value} {y:DataW H×List MemPlace} (h:trodW enc W n t cs=some y):∃ k:Int,cs=[num k]∧True:=by
 obtain⟨k,h1,_,h3⟩:=DataW.trod_int ht h
 exact⟨k,h1,trivial⟩
theorem read_bool {n:Nat} {cs:List Value} {y:DataW H×List MemPlace} (h:trodW enc W n 4 cs=some y):∃ b:Bool,cs=[.bool b]∧True:=by
 obtain⟨b,h1,_⟩:=DataW.trod_bool Try.underlying4 h
 exact⟨b,h1,trivial⟩
theorem read_two {t:TypeId} {f0 f1:Field} (ht:Try.prog.underlying t=some (.struct #[f0,f1])) (t0:f0.type=3) (t1:f1.type=3) (o0:f0.offset=0) (o1:f1.offset=1) (hc:Try.prog.cellsOf t=2) {n:Nat} {cs:List Value} {y:DataW H×List MemPlace} (h:trodW enc W n t cs=some y) :
  ∃ z:Int×Int,cs=two z∧True:=by
 obtain⟨xs,m,_,_,hl,hx,hf⟩:=DataW.trod_struct ht h
 have c3:Try.prog.cellsOf 3=1:=by kernel_rfl
 rw [hc] at hl
 match cs,hl with
 | [u,v],_ =>
  have h0:=hf 0 f0 rfl
  have h1:=hf 1 f1 rfl
  rw [t0,o0,c3,List.getElem?_eq_getElem (by rw [hx];simp)] at h0
  rw [t1,o1,c3,List.getElem?_eq_getElem (by rw [hx];simp)] at h1
  obtain⟨k,e0,_⟩:=read_num Try.underlying3 h0
  obtain⟨k',e1,_⟩:=read_num Try.underlying3 h1
  simp at e0 e1
  exact⟨(k,k'),by rw [e0,e1],trivial⟩
theorem read_three {t:TypeId} {f0 f1 f2:Field} (ht:Try.prog.underlying t=some (.struct #[f0,f1,f2])) (t0:f0.type=3) (t1:f1.type=3) (t2:f2.type=3) (o0:f0.offset=0) (o1:f1.offset=1) (o2:f2.offset=2) (hc:Try.prog.cellsOf t=3) {n:Nat} {cs:List Value} {y:DataW H×List MemPlace}
  (h:trodW enc W n t cs=some y):∃ z:Int×Int×Int,cs=three z∧True:=by
 obtain⟨xs,m,_,_,hl,hx,hf⟩:=DataW.trod_struct ht h
 have c3:Try.prog.cellsOf 3=1:=by kernel_rfl
 rw [hc] at hl
 match cs,hl with
 | [u,v,s],_ =>
  have h0:=hf 0 f0 rfl
  have h1:=hf 1 f1 rfl
  have h2:=hf 2 f2 rfl
  rw [t0,o0,c3,List.getElem?_eq_getElem (by rw [hx];simp)] at h0
  rw [t1,o1,c3,List.getElem?_eq_getElem (by rw [hx];simp)] at h1
  rw [t2,o2,c3,List.getElem?_eq_getElem (by rw [hx];simp)] at h2
  obtain⟨k,e0,_⟩:=read_num Try.underlying3 h0
  obtain⟨k',e1,_⟩:=read_num Try.underlying3 h1
  obtain⟨k2,e2,_⟩:=read_num Try.underlying3 h2
  simp at e0 e1 e2
  exact⟨(k,k',k2),by rw [e0,e1,e2],trivial⟩
theorem read_step {n:Nat} {cs:List Value} {y:DataW H×List MemPlace} (h:trodW enc W n 59 cs=some y):∃ z:Stp,cs=z.cells∧True:=by
 obtain⟨xs,m,_,_,hl,hx,hf⟩:=DataW.trod_struct Try.underlying59 h
 have c3:Try.prog.cellsOf 3=1:=by kernel_rfl
 have c4:Try.prog.cellsOf 4=1:=by kernel_rfl
 have c45:Try.prog.cellsOf 45=2:=by kernel_rfl
 rw [show Try.prog.cellsOf 59=6 by kernel_rfl] at hl
 match cs,hl with
 | [u0,u1,u2,u3,u4,u5],_ =>
  have h0:=hf 0 ⟨ "Damp",45,0,false,"","",0⟩ rfl
  have h1:=hf 1 ⟨ "Tended",4,2,false,"","",16⟩ rfl
  have h2:=hf 2 ⟨ "Water",45,3,false,"","",24⟩ rfl
  have h3:=hf 3 ⟨ "Colour",3,5,false,"","",40⟩ rfl
  rw [List.getElem?_eq_getElem (by rw [hx];simp)] at h0 h1 h2 h3
  dsimp only at h0 h1 h2 h3
  rw [c45] at h0 h2
  rw [c4] at h1
  rw [c3] at h3
  obtain⟨⟨k0,k1⟩,e0,_⟩:=read_two Try.underlying45 rfl rfl rfl rfl c45 h0
  obtain⟨k2,e1,_⟩:=read_bool h1
  obtain⟨⟨k3,k4⟩,e2,_⟩:=read_two Try.underlying45 rfl rfl rfl rfl c45 h2
  obtain⟨k5,e3,_⟩:=read_num Try.underlying3 h3
  simp at e0 e1 e2 e3
  exact⟨⟨k0,k1,k2,k3,k4,k5⟩,by rw [e0.1,e0.2,e1,e2.1,e2.2,e3],trivial⟩
structure DryIn (W:World) (d:Dry) (r:R2):Prop where
 heats:Sl W r.h 2 (d.heats.map two)
 steps:Sl W r.s 6 (d.steps.map Stp.cells)
 kh:Kind W r.h
 ks:Kind W r.s
 hl:d.heats.length≤140737488355328
 sl:d.steps.length≤140737488355328
theorem dry_open {v:Value} {dd:DataW H} {p:List MemPlace} {base:Nat} (hv:Value.okWide Try.prog W .any base 27 v) (h:DataW.Trod enc Try.prog W 0 (fun _=>true) true 27 v dd p) (hfit:Fits 27 dd) :
  ∃ (d:Dry) (r:R2),v=d.val r∧DryIn W d r:=by
 simp only [Value.okWide,Try.underlying27] at hv
 obtain⟨cs,rfl,hsz,ts,hts,_,hcell⟩:=hv
 rw [show Try.prog.cellTypes Try.prog.depth 27=some [22,3,3,3,3,3,25] by kernel_rfl] at hts
 cases hts
 rw [show Try.prog.cellsOf 27=7 by kernel_rfl] at hsz
 obtain⟨fuel,hf⟩:=h
 simp only [Value.cells] at hf
 obtain⟨xs,m,_,hyy,_,hx,hg⟩:=DataW.trod_struct Try.underlying27 hf
 simp only [Prod.mk.injEq] at hyy
 obtain⟨rfl,rfl⟩:=hyy
 have hwt:(DataW.agg (xs.map (·.1)):DataW H).weights Try.prog 27=DataW.weightsEach Try.prog [22,3,3,24,25] (xs.map (·.1)):=by
  unfold DataW.weights
  rw [Try.underlying27]
  rfl
 unfold Fits at hfit
 rw [hwt] at hfit
 have hx0:∀ (i:Nat) (y:DataW H×List MemPlace) (t:TypeId),xs[i]?=some y→([22,3,3,24,25]:List TypeId)[i]?=some t→Fits t y.1:=fun i y t hy ht m hm=>hfit m (DataW.weights_mem_each ht (by rw [List.getElem?_map,hy];rfl) m hm)
 obtain⟨l⟩:=cs
 simp only [List.size_toArray] at hsz
 match l,hsz with
 | [u0,u1,u2,u3,u4,u5,u6],_ =>
  have c3:Try.prog.cellsOf 3=1:=by kernel_rfl
  have c22:Try.prog.cellsOf 22=1:=by kernel_rfl
  have c24:Try.prog.cellsOf 24=3:=by kernel_rfl
  have c25:Try.prog.cellsOf 25=1:=by kernel_rfl
  have g0:=hg 0 ⟨ "Heats",22,0,false,"","",0⟩ rfl
  have g1:=hg 1 ⟨ "Soak",3,1,false,"","",24⟩ rfl
  have g2:=hg 2 ⟨ "Brittle",3,2,false,"","",32⟩ rfl
  have g3:=hg 3 ⟨ "Start",24,3,false,"","",40⟩ rfl
  have g4:=hg 4 ⟨ "Steps",25,6,false,"","",64⟩ rfl
  rw [List.getElem?_eq_getElem (by rw [hx];simp)] at g0 g1 g2 g3 g4
  dsimp only at g0 g1 g2 g3 g4
  rw [c22] at g0;rw [c3] at g1 g2;rw [c24] at g3;rw [c25] at g4
  simp only [List.drop_succ_cons,List.drop_zero,List.take_succ_cons,List.take_zero] at g0 g1 g2 g3 g4
  have kc:∀ (i:Nat) (y:Value) (t:TypeId),(#[u0,u1,u2,u3,u4,u5,u6]:Array Value)[i]?=some y→([22,3,3,3,3,3,25]:List TypeId)[i]?=some t→i<7→Cell.okWide Try.prog W .any 0 t y:=by
   intro i y t hy ht hi
   obtain⟨t',h1,h2⟩:=hcell i y hy
   have:i % ([22,3,3,3,3,3,25]:List TypeId).length=i:=Nat.mod_eq_of_lt hi
   rw [this,ht] at h1
   cases h1
   exact h2
  obtain⟨lh,a1,a3,a4,a5⟩:=sl_open (en:=two) (ok:=fun _=>True) Try.underlying22 (by decide +kernel) (fun n cs' y h hff=>read_two Try.underlying135 rfl rfl rfl rfl (by kernel_rfl) h) g0 (hx0 0 _ _ (List.getElem?_eq_getElem _) rfl) (kc 0 _ _ rfl rfl (by decide))
  obtain⟨ls,b1,b3,b4,b5⟩:=sl_open (en:=Stp.cells) (ok:=fun _=>True) Try.underlying25 (by decide +kernel) (fun n cs' y h hff=>read_step h) g4 (hx0 4 _ _ (List.getElem?_eq_getElem _) rfl) (kc 6 _ _ rfl rfl (by decide))
  obtain⟨n1,q1,_⟩:=read_num Try.underlying3 g1
  obtain⟨n2,q2,_⟩:=read_num Try.underlying3 g2
  obtain⟨⟨n3,n4,n5⟩,q3,_⟩:=read_three Try.underlying24 rfl rfl rfl rfl rfl rfl c24 g3
  simp only [List.cons.injEq,and_true] at q1 q2 q3
  obtain⟨rfl,rfl,rfl⟩:=q3
  subst q1 q2
  rw [show Try.prog.cellsOf 135=2 by kernel_rfl] at a1
  rw [show Try.prog.cellsOf 59=6 by kernel_rfl] at b1
  exact⟨⟨lh,n1,n2,⟨n3,n4,n5⟩,ls⟩,⟨u0,u6⟩,rfl,a1,b1,a3,b3,Nat.le_trans a4 (by decide),Nat.le_trans b4 (by decide)⟩
theorem ints_open {v:Value} {dd:DataW H} {p:List MemPlace} {base:Nat} (hv:Value.okWide Try.prog W .any base 38 v) (h:DataW.Trod enc Try.prog W 0 (fun _=>true) true 38 v dd p) (hfit:Fits 38 dd) :
  ∃ l:List Int,Sl W v 1 (l.map one)∧Kind W v∧l.length≤140737488355328:=by
 obtain⟨fuel,hf⟩:=h
 have hv' : Cell.okWide Try.prog W .any 0 38 v:=by
  simp only [Value.okWide,Try.underlying38] at hv
  exact hv
 have hc:v.cells.toList=[v]:=by
  simp only [Cell.okWide,Try.underlying38,Cell.ok] at hv'
  cases v<;>first | rfl | (exact absurd hv' (by simp))
 rw [hc] at hf
 obtain⟨l,a1,a3,a4,_⟩:=sl_open (en:=one) (ok:=fun _=>True) Try.underlying38 (by decide +kernel) (fun n cs' y h hff=>read_num Try.underlying3 h) hf hfit hv'
 rw [show Try.prog.cellsOf 3=1 by kernel_rfl] at a1
 exact⟨l,a1,a3,Nat.le_trans a4 (by decide)⟩
end
end Go.Proofs.Ytedomogjmhommaa
namespace Go.Proofs.Ytedomogjmhommaa
open Go.RowKit Go.Con Go.Conc Go.ChangeShapes Go.WideShapes Go.ChangeAt
local instance dryI90:Lone:=dryL
theorem own_knob:ownKnob Try.prog.godebug=none:=by kernel_rfl
theorem laid_out:laidOutB Try.prog=true:=by kernel_rfl
abbrev CD (W:World) (b:Nat):Prop:=∃ cs e fz,W.heap[b]?=some (Obj.cells cs e fz)
section
variable {W:World} {c:Nat→Value}
theorem entry_row {b:Nat} {cs:Array Value} {e:TypeId} {fz:Nat×Nat} (h:W.heap[b]?=some (.cells cs e fz)):(entryW Try.prog c (CD W) W).heap[b]?=some (.cells (invA Try.prog (ixOf c) cs) e (0,cs.size)):=by
 rw [entry_get,h]
 simp only [Option.map_some]
 rw [if_pos ⟨_,_,_,h⟩]
theorem entry_cell {p:Addr} {v:Value} (h:W.cell? p=some v) (hv:inv Try.prog (ixOf c) v=v):(entryW Try.prog c (CD W) W).cell? p=some v:=by
 unfold World.cell? at h ⊢
 split at h
 ·rename_i cs e fz hh
  rw [entry_row hh]
  dsimp only
  split at h
  ·cases h
  ·rename_i hsp
   rw [if_neg hsp,invA_eq,Array.getElem?_map,h]
   simp [hv]
 ·cases h
theorem Sl.entry {v:Value} {sz:Nat} {xs:List (List Value)} (h:Sl W v sz xs) (hx:∀ l∈xs,∀ x∈l,inv Try.prog (ixOf c) x=x):Sl (entryW Try.prog c (CD W) W) v sz xs:=by
 obtain⟨cap,h | ⟨b,off,h1,h2,h3⟩⟩:=h
 ·exact⟨cap,.inl h⟩
 ·refine⟨cap,.inr ⟨b,off,h1,by rw [entry_size];exact h2,fun j k l x hj hk=>entry_cell (h3 j k l x hj hk) ?_⟩⟩
  exact hx l (List.mem_of_getElem? hj) x (List.mem_of_getElem? hk)
theorem Kind.entry {v:Value} (h:Kind W v):Kind (entryW Try.prog c (CD W) W) v:=fun a n k e=>by
 obtain⟨cs,t,fz,hh⟩:=h a n k e
 exact⟨_,_,_,entry_row hh⟩
theorem inv_num {ix:Value→Nat} (n:Int):inv Try.prog ix (num n)=num n:=by simp [inv]
theorem inv_bool {ix:Value→Nat} (b:Bool):inv Try.prog ix (.bool b)=.bool b:=by simp [inv]
theorem DryIn.entry {d:Dry} {r:R2} (h:DryIn W d r):DryIn (entryW Try.prog c (CD W) W) d r:=by
 refine⟨h.heats.entry ?_,h.steps.entry ?_,h.kh.entry,h.ks.entry,h.hl,h.sl⟩
 ·intro l hl x hx
  obtain⟨z,_,rfl⟩:=List.mem_map.1 hl
  simp only [List.mem_cons,List.not_mem_nil,or_false] at hx
  rcases hx with rfl | rfl<;>exact inv_num _
 ·intro l hl x hx
  obtain⟨z,_,rfl⟩:=List.mem_map.1 hl
  simp only [List.mem_cons,List.not_mem_nil,or_false] at hx
  rcases hx with rfl | rfl | rfl | rfl | rfl | rfl<;>first | exact inv_num _ | exact inv_bool _
theorem ints_entry {v:Value} {xs:List Int} (h:Sl W v 1 (xs.map one)):Sl (entryW Try.prog c (CD W) W) v 1 (xs.map one):=by
 refine h.entry ?_
 intro l hl x hx
 obtain⟨z,_,rfl⟩:=List.mem_map.1 hl
 simp only [one,List.mem_singleton] at hx
 subst hx
 exact inv_num _
theorem entry_empty:EmptyDef (entryW Try.prog c (CD W) W):=by
 intro b o ho
 rw [entry_get] at ho
 cases hh:W.heap[b]? with
 | none=>rw [hh] at ho;cases ho
 | some o' =>
  rw [hh] at ho
  simp only [Option.map_some,Option.some.injEq] at ho
  split at ho
  ·rename_i hd
   obtain⟨cs,e,fz,h2⟩:=hd
   rw [hh] at h2
   cases h2
   subst ho;rfl
  ·subst ho;rfl
end
def Alk (W:World) (E:Nat→Prop) (v:Value):Prop:=(∀ c,ren (tokRn c) v=v)∧ren (RA (gd Try.prog)) v=ren (RB (gd Try.prog) (CD W) E) v
theorem Alk.num {W:World} {E:Nat→Prop} (n:Int):Alk W E (num n):=⟨fun c=>by simp [ren],by simp [ren]⟩
theorem Alk.bool {W:World} {E:Nat→Prop} (n:Bool):Alk W E (.bool n):=⟨fun c=>by simp [ren],by simp [ren]⟩
theorem Alk.undef {W:World} {E:Nat→Prop}:Alk W E undef:=⟨fun c=>ren_undef,by rw [ren_undef,ren_undef]⟩
theorem Alk.slice {W:World} {E:Nat→Prop} {v:Value} (hs:∃ a n k,v=.slice a n k) (hk:Kind W v):Alk W E v:=by
 obtain⟨a,n,k,rfl⟩:=hs
 refine⟨fun c=>?_,?_⟩
 ·cases a with
  | none=>simp [ren]
  | some a=>simp [ren,renAddr,tokRn]
 ·cases a with
  | none=>simp [ren]
  | some a =>
   obtain⟨cs,e,fz,h⟩:=hk a n k rfl
   have:(RA (gd Try.prog)).p a.block=(RB (gd Try.prog) (CD W) E).p a.block:=by
    show dbl (gd Try.prog).n a.block=dblD (gd Try.prog).n (CD W) a.block
    exact dbl_eq.2 (.inr ⟨cs,e,fz,h⟩)
   simp [ren,renAddr,this]
theorem Alk.agg {W:World} {E:Nat→Prop} {cs:Array Value} (h:∀ v∈cs.toList,Alk W E v):Alk W E (.agg cs):=by
 have key:∀ ρ σ:Rn,(∀ v∈cs.toList,ren ρ v=ren σ v)→cs.map (ren ρ)=cs.map (ren σ):=by
  intro ρ σ hh
  apply Array.map_congr_left
  intro v hv
  exact hh v (by simpa using hv)
 refine⟨fun c=>?_,?_⟩
 ·simp only [ren,renA_eq]
  congr 1
  have:cs.map (ren (tokRn c))=cs.map id:=by
   apply Array.map_congr_left
   intro v hv
   exact (h v (by simpa using hv)).1 c
  rw [this];simp
 ·simp only [ren,renA_eq]
  congr 1
  exact key _ _ fun v hv=>(h v hv).2
theorem Sl.isSlice {W:World} {v:Value} {sz:Nat} {xs:List (List Value)} (h:Sl W v sz xs):∃ a n k,v=.slice a n k:=by
 obtain⟨a,k,e⟩:=h.cases
 exact⟨a,_,k,e⟩
theorem DryIn.same {W:World} {E:Nat→Prop} {d:Dry} {r:R2} (h:DryIn W d r):Alk W E (d.val r):=by
 refine Alk.agg fun v hv=>?_
 simp only [List.mem_cons,List.not_mem_nil,or_false] at hv
 rcases hv with rfl | rfl | rfl | rfl | rfl | rfl | rfl
 ·exact Alk.slice h.heats.isSlice h.kh
 ·exact Alk.num _
 ·exact Alk.num _
 ·exact Alk.num _
 ·exact Alk.num _
 ·exact Alk.num _
 ·exact Alk.slice h.steps.isSlice h.ks
theorem frame_same {W:World} {E:Nat→Prop} {f:FuncId} {args:Array Value} {n:Nat} {body:Code} (h:∀ v∈args.toList,Alk W E v) :
  supF Try.prog (CD W) E (Fr f (args++Array.replicate n undef) [.code body])∧∀ c,renFrame (tokRn c) (Fr f (args++Array.replicate n undef) [.code body])=Fr f (args++Array.replicate n undef) [.code body]:=by
 have hall:∀ v∈(args++Array.replicate n undef),Alk W E v:=by
  intro v hv
  rcases Array.mem_append.1 hv with hv | hv
  ·exact h v (by simpa using hv)
  ·obtain⟨_,rfl⟩:=Array.mem_replicate.1 hv
   exact Alk.undef
 refine⟨?_,fun c=>?_⟩
 ·unfold supF renFrame
  have:(args++Array.replicate n undef).map (ren (RA (gd Try.prog)))=(args++Array.replicate n undef).map (ren (RB (gd Try.prog) (CD W) E)):=Array.map_congr_left fun v hv=>(hall v hv).2
  simp only [this,List.map_cons,List.map_nil,renItem,Option.map_none]
 ·unfold renFrame
  have:(args++Array.replicate n undef).map (ren (tokRn c))=(args++Array.replicate n undef).map id:=Array.map_congr_left fun v hv=>(hall v hv).1 c
  simp only [this,List.map_cons,List.map_nil,renItem,Option.map_none,Array.map_id]
theorem law_fin {W:World} {f:FuncId} {fn:Func} {body:Code} {args:Array Value} (hf:Try.prog.funcs[f]?=some fn) (hb:fn.body=some body) (ha:∀ v∈args.toList,Alk W (fun _=>False) v)
  (hgo:∀ (c:Nat→Value) (Post:Value→World→Prop),(∀ Fz1 ρ D own A fr W1 W',Here Try.prog true (fun _=>False) Fz1 (fun x=>x<W.heap.size) W ρ D own A fr [] W1 W'→Post (ren ρ (.bool true)) W') →
   GoM Try.prog true (fun _=>False) (CD W) (fun x=>x<W.heap.size) W (AtEnd Try.prog Post) ⟨false,0,0,fun _ _ _ _ _=>False⟩ [] (Fr f (args++Array.replicate (fn.ntmps-args.size) undef) [.code body]) [] (entryW Try.prog c (CD W) W)) :
  Con.Fin Try.prog (fun u W'=>u=.bool true∧Con.Left W W') (solo (G (Frame.enter Try.prog f args .normal) []) W) #[]:=by
 obtain⟨c,htok,hc⟩:=tok_table (allLeaves W)
 obtain⟨h1,h2⟩:=frame_same (f:=f) (n:=fn.ntmps-args.size) (body:=body) ha
 rw [Fr_enter hf hb]
 refine GoM.begin (D:=CD W) (c:=c) (E:=fun _=>False) (fun ρ=>by simp [ren]) (fun b hb=>by rw [no_globals] at hb;omega) (fun b h=>h) hc htok h1 (h2 c) entry_empty fun Post hPost=>hgo c Post fun Fz1 ρ D own A fr W1 W' h=>hPost ρ D own A fr W1 W' (.inr ⟨Fz1,h⟩)
section
variable {H:Type} {enc:TypeId×Value→H}
theorem left_trod {t:TypeId} (hr:Try.prog.readableRec t=true) (hrow:t<Try.prog.types.size) {W W' : World} {v:Value} {d:DataW H} {ps:List MemPlace} (h:DataW.Trod enc Try.prog W 0 (fun _=>true) true t v d ps) (hl:Con.Left W W') (hlt:∀ x∈ps,x.block<W.heap.size) :
  DataW.Trod enc Try.prog W' 0 (fun b=>decide (b<W.heap.size)) true t v d ps:=by
 have hb:Below W.heap.size W { W' with tape:=W.tape }:=⟨hl.os,rfl,hl.output,hl.size,hl.heap⟩
 obtain⟨fuel,h2⟩:=Below.trod laid_out hr hrow h hb hlt
 exact⟨fuel,by rw [← h2];exact DataW.trod_heap (w:=W') (w':={ W' with tape:=W.tape }) rfl _ _ _⟩
theorem left_kept {W W' : World} (hl:Con.Left W W') (may:MemPlace→Prop):W.keptBut W' may:=by
 refine⟨hl.os,hl.output,fun i hi=>?_⟩
 rw [hl.heap i hi]
 split<;>simp_all
end
theorem fin_post {W:World} {m:Machine} {Post:Value→World→Prop} (h:Con.Fin Try.prog (fun u W'=>u=.bool true∧Con.Left W W') m #[]) (hp:∀ W',Con.Left W W'→Post (.bool true) W') :
  ∃ M last o w' t',runNT Try.prog (M+1) m #[]=(.ended o w',t')∧runN Try.prog M m=.next last∧step Try.prog last=.ended o w'∧Conc.Good Try.prog Post last o w' t':=by
 obtain⟨M,last,o,w',t',h1,h2,h3,h4⟩:=h
 exact⟨M,last,o,w',t',h1,h2,h3,h4.mono fun v ⟨hv,hl⟩=>by subst hv;exact hp _ hl⟩
end Go.Proofs.Ytedomogjmhommaa
namespace Go.Proofs.Ytedomogjmhommaa
open Go.RowKit Go.Con Go.Conc Go.ChangeShapes Go.WideShapes Go.ChangeAt
local instance dryI151:Lone:=dryL
section
variable {H:Type} {enc:TypeId×Value→H} {W:World}
theorem read_seen {n:Nat} {cs:List Value} {y:DataW H×List MemPlace} (h:trodW enc W n 78 cs=some y):∃ z:Sn,cs=z.cells∧True:=by
 obtain⟨xs,m,_,_,hl,hx,hf⟩:=DataW.trod_struct Try.underlying78 h
 have c3:Try.prog.cellsOf 3=1:=by kernel_rfl
 have c45:Try.prog.cellsOf 45=2:=by kernel_rfl
 rw [show Try.prog.cellsOf 78=3 by kernel_rfl] at hl
 match cs,hl with
 | [u0,u1,u2],_ =>
  have h0:=hf 0 ⟨ "Step",3,0,false,"","",0⟩ rfl
  have h1:=hf 1 ⟨ "Water",45,1,false,"","",8⟩ rfl
  rw [List.getElem?_eq_getElem (by rw [hx];simp)] at h0 h1
  dsimp only at h0 h1
  rw [c3] at h0
  rw [c45] at h1
  obtain⟨k0,e0,_⟩:=read_num Try.underlying3 h0
  obtain⟨⟨k1,k2⟩,e1,_⟩:=read_two Try.underlying45 rfl rfl rfl rfl c45 h1
  simp at e0 e1
  exact⟨⟨k0,k1,k2⟩,by rw [e0,e1.1,e1.2],trivial⟩
theorem seens_open {v:Value} {dd:DataW H} {p:List MemPlace} {base:Nat} (hv:Value.okWide Try.prog W .any base 49 v) (h:DataW.Trod enc Try.prog W 0 (fun _=>true) true 49 v dd p) (hfit:Fits 49 dd) :
  ∃ l:List Sn,Sl W v 3 (l.map Sn.cells)∧Kind W v∧l.length≤140737488355328:=by
 obtain⟨fuel,hf⟩:=h
 have hv' : Cell.okWide Try.prog W .any 0 49 v:=by
  simp only [Value.okWide,Try.underlying49] at hv
  exact hv
 have hc:v.cells.toList=[v]:=by
  simp only [Cell.okWide,Try.underlying49,Cell.ok] at hv'
  cases v<;>first | rfl | (exact absurd hv' (by simp))
 rw [hc] at hf
 obtain⟨l,a1,a3,a4,_⟩:=sl_open (en:=Sn.cells) (ok:=fun _=>True) Try.underlying49 (by decide +kernel) (fun n cs' y h hff=>read_seen h) hf hfit hv'
 rw [show Try.prog.cellsOf 78=3 by kernel_rfl] at a1
 exact⟨l,a1,a3,Nat.le_trans a4 (by decide)⟩
end
theorem seens_entry {c:Nat→Value} {W:World} {v:Value} {xs:List Sn} (h:Sl W v 3 (xs.map Sn.cells)):Sl (entryW Try.prog c (CD W) W) v 3 (xs.map Sn.cells):=by
 refine h.entry ?_
 intro l hl x hx
 obtain⟨z,_,rfl⟩:=List.mem_map.1 hl
 have hx:x∈[num z.step,num z.lo,num z.hi]:=hx
 simp only [List.mem_cons,List.not_mem_nil,or_false] at hx
 rcases hx with rfl | rfl | rfl<;>exact inv_num _
def smallO (st:Option (List (Int×Int))):Prop:=∀ D,st=some D→D.length≤5∧∀ x∈D,(0≤x.1∧x.1≤3)∧0≤x.2∧x.2≤3
theorem step_small {st:Option (List (Int×Int))} {a:List Int} (h:smallO st) (hl:a.length≤5) (ha:∀ y∈a,0≤y∧y≤3):smallO (stepD st a):=by
 intro D hD
 cases st with
 | none =>
  cases hD
  refine⟨by simpa using hl,fun x hx=>?_⟩
  obtain⟨y,hy,rfl⟩:=List.mem_map.1 hx
  exact⟨ha y hy,ha y hy⟩
 | some E =>
  cases hD
  obtain⟨h1,h2⟩:=h E rfl
  refine⟨by rw [List.length_zipWith];omega,fun x hx=>?_⟩
  obtain⟨i,hi,e⟩:=List.getElem_of_mem hx
  rw [List.getElem_zipWith] at e
  rw [List.length_zipWith] at hi
  have:=h2 _ (List.getElem_mem (show i<E.length by omega))
  have:=ha _ (List.getElem_mem (show i<a.length by omega))
  rw [← e]
  dsimp only
  omega
theorem fold_small:∀ (L:List (List Int)) (st:Option (List (Int×Int))),smallO st→(∀ a∈L,a.length≤5∧∀ y∈a,0≤y∧y≤3)→smallO (L.foldl stepD st)
 | [],st,h,_=>h
 | a :: L,st,h,hL=>fold_small L _ (step_small h (hL a (List.mem_cons_self ..)).1 (hL a (List.mem_cons_self ..)).2) fun b hb=>hL b (List.mem_cons_of_mem _ hb)
theorem damps_small (d:Dry) (plan:List Int) (seen:List Sn):(dampsF d plan seen).1.length≤1000000000∧∀ x∈(dampsF d plan seen).1,I64 x.1∧I64 x.2:=by
 unfold dampsF
 by_cases hp:planF d plan=0
 ·rw [if_neg (fun h=>h hp)]
  by_cases hs:seenF d seen=0
  ·rw [if_neg (fun h=>h hs)]
   obtain⟨hO,hpl,hpb⟩:=planF_ok hp
   have hs5:=hO.s5
   have h:smallO (dampsS d plan seen (airsL d.steps)):=fold_small _ _ (fun D h=>by cases h) fun a ha=>by
    have ha:=(List.mem_filter.1 ha).1
    have hpa:=airs_pa hO hpl hpb ha
    exact⟨by have:=(airs_mem.1 ha).1;omega,hpa.a⟩
   cases hst:dampsS d plan seen (airsL d.steps) with
   | none=>exact⟨Nat.zero_le _,fun x hx=>by cases hx⟩
   | some D =>
    obtain⟨h1,h2⟩:=h D hst
    refine⟨show D.length≤_ by omega,fun x hx=>?_⟩
    have:=h2 x hx
    unfold I64
    omega
  ·rw [if_pos hs];exact⟨Nat.zero_le _,fun x hx=>by cases hx⟩
 ·rw [if_pos hp];exact⟨Nat.zero_le _,fun x hx=>by cases hx⟩
end Go.Proofs.Ytedomogjmhommaa
namespace Go.Proofs.Ytedomogjmhommaa
open Go.RowKit Go.Con Go.Conc
structure PlA (w:World) (d:Dry) (r:R2) (p1:Nat) (vp va:Value) (plan air:List Int):Prop where
 B:DBox w p1 d r
 S:DrySl w d r
 p:Sl w vp 1 (plan.map one)
 a:Sl w va 1 (air.map one)
theorem PlA.nx {w w' : World} {d:Dry} {r:R2} {p1:Nat} {vp va:Value} {plan air:List Int} (h:PlA w d r p1 vp va plan air) (n:Nx w w'):PlA w' d r p1 vp va plan air:=⟨h.B.nx n,h.S.nx n,h.p.nx n,h.a.nx n⟩
theorem PlA.oc {w w' : World} {d:Dry} {r:R2} {p1:Nat} {vp va:Value} {plan air:List Int} (h:PlA w d r p1 vp va plan air) (o:OldC w w'):PlA w' d r p1 vp va plan air:=⟨h.B.oc o,h.S.oc o,h.p.oc o,h.a.oc o⟩
theorem OldC.set {w w' : World} (h:OldC w w') {b i:Nat} {v:Value} (hb:w.heap.size≤b):OldC w (w'.setCell ⟨b,i,none⟩ v) :=
 ⟨by rw [set_size];exact h.size,fun a ha=>by
  rw [← h.cell a ha]
  exact World.cell?_of_block (set_other (by omega))⟩
end Go.Proofs.Ytedomogjmhommaa
namespace Go.Proofs.Ytedomogjmhommaa
open Go.RowKit Go.Con Go.Conc
noncomputable def b5:Code:=match Try.f5.body with | some c=>c | none=>.skip
noncomputable def x5_0:Code:=cL b5
noncomputable def x5_1:Code:=cL (cL (cR b5))
noncomputable def x5_2:Code:=cL (cT (cR (cL (cR b5))))
noncomputable def r5_3:Code:=cR (cR b5)
noncomputable def x5_3:Code:=cL r5_3
noncomputable def x5_4:Code:=cL (cR r5_3)
noncomputable def x5_5:Code:=cL (cR (cR r5_3))
theorem b5_eq:b5=.seq x5_0 (.seq (.seq x5_1 (.cond (.tmp 22) (.seq x5_2 .ret) .skip)) (.seq x5_3 (.seq x5_4 (.seq x5_5 .ret)))):=by kernel_rfl
def out5 (d:Dry) (m me:Nat):Bool:=greatD d || decide (40<m) || decide (40<me)
theorem ex49_5 {t:Array Value} (h:t.size=49):∃ f:Nat→Value,t=#[f 0,f 1,f 2,f 3,f 4,f 5,f 6,f 7,f 8,f 9,f 10,f 11,f 12,f 13,f 14,f 15,f 16,f 17,f 18,f 19,f 20,f 21,f 22,f 23,f 24,f 25,f 26,f 27,f 28,f 29,f 30,f 31,f 32,f 33,f 34,f 35,f 36,f 37,f 38,f 39,f 40,f 41,f 42,f 43,f 44,f 45,f 46,f 47,f 48]:=by
 obtain⟨f,rfl⟩:=exN 49 h
 exact⟨f,by kernel_rfl⟩
theorem f5_0 (d:Dry) (ha sa:Option Addr) (hn hcap sn scap:Nat) (u:Value) (ue:Value) (t:Array Value) (hs:t.size=49) (h0:t[0]?=some (d.val ⟨.slice ha hn hcap,.slice sa sn scap⟩)) (h1:t[1]?=some (u)) (h2:t[2]?=some (ue)) (w:World)  :
  x5_0.wpIn FW 0 Try.prog (fun e a w'=>e=.normal∧a.defers=[]∧(a.tmps.size=49∧a.tmps[1]?=some (u)∧a.tmps[2]?=some (ue)∧a.tmps[3]?=some (ptr w.heap.size))∧w'=w.alloc (.cells (d.cellsA ⟨.slice ha hn hcap,.slice sa sn scap⟩) 27)) ⟨t,[]⟩ w:=by
 obtain⟨f,rfl⟩:=ex49_5 hs
 have g0:f 0=d.val ⟨.slice ha hn hcap,.slice sa sn scap⟩:=by simpa using h0
 have g1:f 1=u:=by simpa using h1
 have g2:f 2=ue:=by simpa using h2
 rw [g0,g1,g2] at *
 clear hs h0 h1 h2 g0 g1 g2
 simp only [x5_0,x5_1,x5_3,x5_4,r5_3,b5,Try.f5,cL,cR,cB,cT]
 gi_wp2
def Qf5_1 (w:World) (p1:Nat) (u:Value) (ue:Value) (b:Bool) (t:Array Value) (w' : World):Prop:=(t.size=49∧t[1]?=some (u)∧t[2]?=some (ue)∧t[3]?=some (ptr p1)∧t[22]?=some (.bool b))∧Nx w w'
theorem f5_1 (d:Dry) (r:R2) (p1:Nat) (ua:Option Addr) (m ucap:Nat) (ea:Option Addr) (me ecap:Nat) (t:Array Value) (hs:t.size=49) (h1:t[1]?=some (.slice ua m ucap)) (h2:t[2]?=some (.slice ea me ecap)) (h3:t[3]?=some (ptr p1)) (w:World) (hB:DBox w p1 d r) (hh:Sl w r.h 2 (d.heats.map two)) (hst:Sl w r.s 6 (d.steps.map Stp.cells)) (hl:d.heats.length≤140737488355328) (sl:d.steps.length≤140737488355328) (hm:m≤140737488355328) (hme:me≤140737488355328) :
  x5_1.wpIn FW 0 Try.prog (fun e a w'=>e=.normal∧a.defers=[]∧Qf5_1 w p1 (.slice ua m ucap) (.slice ea me ecap) (out5 d m me) a.tmps w') ⟨t,[]⟩ w:=by
 obtain⟨f,rfl⟩:=ex49_5 hs
 have g1:f 1=.slice ua m ucap:=by simpa using h1
 have g2:f 2=.slice ea me ecap:=by simpa using h2
 have g3:f 3=ptr p1:=by simpa using h3
 rw [g1,g2,g3] at *
 clear hs h1 h2 h3 g1 g2 g3
 have k16:=great16_big d r w hh hst hl sl
 have c0:w.cell? ⟨p1,0,none⟩=some (r.h):=hB.at' 0 _ rfl
 have c1:w.cell? ⟨p1,1,none⟩=some (num d.soak):=hB.at' 1 _ rfl
 have c2:w.cell? ⟨p1,2,none⟩=some (num d.brittle):=hB.at' 2 _ rfl
 have c3:w.cell? ⟨p1,3,none⟩=some (num d.start.w):=hB.at' 3 _ rfl
 have c4:w.cell? ⟨p1,4,none⟩=some (num d.start.c):=hB.at' 4 _ rfl
 have c5:w.cell? ⟨p1,5,none⟩=some (num d.start.h):=hB.at' 5 _ rfl
 have c6:w.cell? ⟨p1,6,none⟩=some (r.s):=hB.at' 6 _ rfl
 obtain⟨ov,hov⟩:∃ o,out5 d m me=o:=⟨_,rfl⟩
 rw [hov]
 unfold out5 at hov
 cases hg:greatD d with
 | true =>
  rw [hg] at k16 hov
  have ho:ov=true:=by rw [← hov];simp
  rw [ho]
  clear hB hh hst hl sl hg ho hov
  simp only [x5_0,x5_1,x5_3,x5_4,r5_3,b5,Try.f5,cL,cR,cB,cT]
  gi_wp2_with (first | (gi_at_call 16;refine CallsIn.mono k16 ?_;rintro e w1 ⟨rfl,n1⟩) | gi_in)
  exact⟨⟨rfl,rfl,rfl,rfl,rfl⟩,n1⟩
 | false =>
  rw [hg] at k16 hov
  clear hB hh hst hl sl hg
  by_cases h1:40<m
  ·have ho:ov=true:=by rw [← hov];simp [h1]
   rw [ho]
   have b1:decide ((m:Int) > 40)=true:=decide_eq_true (by omega)
   clear hov ho h1
   simp only [x5_0,x5_1,x5_3,x5_4,r5_3,b5,Try.f5,cL,cR,cB,cT]
   gi_wp2_with (first | (gi_at_call 16;refine CallsIn.mono k16 ?_;rintro e w1 ⟨rfl,n1⟩) | gi_in)
   exact⟨⟨rfl,rfl,rfl,rfl,rfl⟩,n1⟩
  ·have b1:decide ((m:Int) > 40)=false:=decide_eq_false (by omega)
   by_cases h2:40<me
   ·have ho:ov=true:=by rw [← hov];simp [h2]
    rw [ho]
    have b2:decide ((me:Int) > 40)=true:=decide_eq_true (by omega)
    clear hov ho h1 h2
    simp only [x5_0,x5_1,x5_3,x5_4,r5_3,b5,Try.f5,cL,cR,cB,cT]
    gi_wp2_with (first | (gi_at_call 16;refine CallsIn.mono k16 ?_;rintro e w1 ⟨rfl,n1⟩) | gi_in)
    exact⟨⟨rfl,rfl,rfl,rfl,rfl⟩,n1⟩
   ·have ho:ov=false:=by rw [← hov];simp [h1,h2]
    rw [ho]
    have b2:decide ((me:Int) > 40)=false:=decide_eq_false (by omega)
    clear hov ho h1 h2
    simp only [x5_0,x5_1,x5_3,x5_4,r5_3,b5,Try.f5,cL,cR,cB,cT]
    gi_wp2_with (first | (gi_at_call 16;refine CallsIn.mono k16 ?_;rintro e w1 ⟨rfl,n1⟩) | gi_in)
    exact⟨⟨rfl,rfl,rfl,rfl,rfl⟩,n1⟩
def Qf5_3 (w:World) (p1:Nat) (u:Value) (ue:Value) (D:List (Int×Int)×Int) (t:Array Value) (w' : World):Prop:=∃ v,(t.size=49∧t[1]?=some (u)∧t[2]?=some (ue)∧t[3]?=some (ptr p1)∧t[7]?=some (v)∧t[8]?=some (num D.2))∧Nx w w'∧Sl w' v 2 (D.1.map spc)
theorem f5_3 (d:Dry) (r:R2) (p1:Nat) (u:Value) (ue:Value) (plan:List Int) (seen:List Sn) (D:List (Int×Int)×Int) (t:Array Value) (hs:t.size=49) (h1:t[1]?=some (u)) (h2:t[2]?=some (ue)) (h3:t[3]?=some (ptr p1)) (w:World) (hB:DBox w p1 d r) (hd:DrySl w d r) (hp:Sl w u 1 (plan.map one)) (hl:plan.length≤1000000000) (he:Sl w ue 3 (seen.map Sn.cells)) (hl2:seen.length≤1000000000) (hD:dampsF d plan seen=D) :
  x5_3.wpIn FW 0 Try.prog (fun e a w'=>e=.normal∧a.defers=[]∧Qf5_3 w p1 u ue  D a.tmps w') ⟨t,[]⟩ w:=by
 obtain⟨f,rfl⟩:=ex49_5 hs
 have g1:f 1=u:=by simpa using h1
 have g2:f 2=ue:=by simpa using h2
 have g3:f 3=ptr p1:=by simpa using h3
 rw [g1,g2,g3] at *
 clear hs h1 h2 h3 g1 g2 g3
 have k:=damps30_any d r u ue plan seen w hd hp hl he hl2
 rw [hD] at k
 clear hD
 have c0:w.cell? ⟨p1,0,none⟩=some (r.h):=hB.at' 0 _ rfl
 have c1:w.cell? ⟨p1,1,none⟩=some (num d.soak):=hB.at' 1 _ rfl
 have c2:w.cell? ⟨p1,2,none⟩=some (num d.brittle):=hB.at' 2 _ rfl
 have c3:w.cell? ⟨p1,3,none⟩=some (num d.start.w):=hB.at' 3 _ rfl
 have c4:w.cell? ⟨p1,4,none⟩=some (num d.start.c):=hB.at' 4 _ rfl
 have c5:w.cell? ⟨p1,5,none⟩=some (num d.start.h):=hB.at' 5 _ rfl
 have c6:w.cell? ⟨p1,6,none⟩=some (r.s):=hB.at' 6 _ rfl
 obtain⟨rh,rs⟩:=r
 obtain⟨ha,hcap,e1⟩:=hd.heats.cases
 obtain⟨sa,scap,e2⟩:=hd.steps.cases
 dsimp only at e1 e2
 rw [List.length_map] at e1 e2
 subst e1 e2
 obtain⟨ua,ucap,e3⟩:=hp.cases
 obtain⟨ea,ecap,e4⟩:=he.cases
 rw [List.length_map] at e3 e4
 subst e3 e4
 obtain⟨D1,D2⟩:=D
 try dsimp only at *
 clear hB hd hp he
 simp only [x5_0,x5_1,x5_3,x5_4,r5_3,b5,Try.f5,cL,cR,cB,cT]
 gi_wp2_with (first | (gi_at_call 30;refine CallsIn.mono k ?_;rintro e w1 ⟨v,rfl,n1,hv⟩) | gi_in)
 exact⟨v,⟨rfl,rfl,rfl,rfl,rfl,rfl⟩,n1,hv⟩
def Qf5_4 (w:World) (p1:Nat) (u:Value) (ue:Value) (vl:Value) (D:List (Int×Int)×Int) (t:Array Value) (w' : World):Prop:=∃ v,(t.size=49∧t[1]?=some (u)∧t[2]?=some (ue)∧t[3]?=some (ptr p1)∧t[7]?=some (vl)∧t[8]?=some (num D.2)∧t[9]?=some (v)∧t[10]?=some (num D.2))∧Nx w w'∧Sl w' v 2 (D.1.map spc)
theorem f5_4 (d:Dry) (r:R2) (p1:Nat) (u:Value) (ue:Value) (vl:Value) (plan:List Int) (seen:List Sn) (D:List (Int×Int)×Int) (t:Array Value) (hs:t.size=49) (h1:t[1]?=some (u)) (h2:t[2]?=some (ue)) (h3:t[3]?=some (ptr p1)) (h7:t[7]?=some (vl)) (h8:t[8]?=some (num D.2)) (w:World) (hB:DBox w p1 d r) (hd:DrySl w d r) (hp:Sl w u 1 (plan.map one)) (hl:plan.length≤1000000000) (he:Sl w ue 3 (seen.map Sn.cells)) (hl2:seen.length≤1000000000) (hD:dampsF d plan seen=D) :
  x5_4.wpIn FW 0 Try.prog (fun e a w'=>e=.normal∧a.defers=[]∧Qf5_4 w p1 u ue vl D a.tmps w') ⟨t,[]⟩ w:=by
 obtain⟨f,rfl⟩:=ex49_5 hs
 have g1:f 1=u:=by simpa using h1
 have g2:f 2=ue:=by simpa using h2
 have g3:f 3=ptr p1:=by simpa using h3
 have g7:f 7=vl:=by simpa using h7
 have g8:f 8=num D.2:=by simpa using h8
 rw [g1,g2,g3,g7,g8] at *
 clear hs h1 h2 h3 h7 h8 g1 g2 g3 g7 g8
 have k:=damps31_any d r u ue plan seen w hd hp hl he hl2
 rw [hD] at k
 clear hD
 have c0:w.cell? ⟨p1,0,none⟩=some (r.h):=hB.at' 0 _ rfl
 have c1:w.cell? ⟨p1,1,none⟩=some (num d.soak):=hB.at' 1 _ rfl
 have c2:w.cell? ⟨p1,2,none⟩=some (num d.brittle):=hB.at' 2 _ rfl
 have c3:w.cell? ⟨p1,3,none⟩=some (num d.start.w):=hB.at' 3 _ rfl
 have c4:w.cell? ⟨p1,4,none⟩=some (num d.start.c):=hB.at' 4 _ rfl
 have c5:w.cell? ⟨p1,5,none⟩=some (num d.start.h):=hB.at' 5 _ rfl
 have c6:w.cell? ⟨p1,6,none⟩=some (r.s):=hB.at' 6 _ rfl
 obtain⟨rh,rs⟩:=r
 obtain⟨ha,hcap,e1⟩:=hd.heats.cases
 obtain⟨sa,scap,e2⟩:=hd.steps.cases
 dsimp only at e1 e2
 rw [List.length_map] at e1 e2
 subst e1 e2
 obtain⟨ua,ucap,e3⟩:=hp.cases
 obtain⟨ea,ecap,e4⟩:=he.cases
 rw [List.length_map] at e3 e4
 subst e3 e4
 obtain⟨D1,D2⟩:=D
 try dsimp only at *
 clear hB hd hp he
 simp only [x5_0,x5_1,x5_3,x5_4,r5_3,b5,Try.f5,cL,cR,cB,cT]
 gi_wp2_with (first | (gi_at_call 31;refine CallsIn.mono k ?_;rintro e w1 ⟨v,rfl,n1,hv⟩) | gi_in)
 exact⟨v,⟨rfl,rfl,rfl,rfl,rfl,rfl,rfl,rfl⟩,n1,hv⟩
end Go.Proofs.Ytedomogjmhommaa
