import Derived.Test.YtedomogjmhommaaH09
import Derived.Test.YtedomogjmhommaaH01
import Derived.Test.YtedomogjmhommaaH07
import Derived.Laws.StructEq
import Derived.Test.YtedomogjmhommaaH02
set_option linter.all false
set_option maxRecDepth 100000
set_option maxHeartbeats 8000000
namespace Go.Proofs.Ytedomogjmhommaa
open Go.RowKit
def zex:List St→St→List St
 | [],s=>[s]
 | x :: l,s=>if za4 x s=true then x :: zex l s else if x=s then x :: l else s :: x :: l
abbrev Srt (l:List St):Prop:=l.Pairwise fun a b=>za4 a b=true
theorem zfv {a b:St} (h:za4 a b=true):za4 b a=false:=by
 cases hb:za4 b a
 ·rfl
 ·have:=before_trans h hb;rw [before_irrefl] at this;cases this
theorem mem_with {t s:St}:∀ {l:List St},t∈zex l s↔t∈l∨t=s
 | []=>by simp [zex]
 | x :: l=>by
  unfold zex
  split
  ·rw [List.mem_cons,List.mem_cons,mem_with (l:=l),or_assoc]
  ·split
   ·rename_i h;subst h;simp only [List.mem_cons];constructor
    ·exact .inl
    ·rintro (h | h)
     ·exact h
     ·exact .inl h
   ·simp only [List.mem_cons];constructor
    ·rintro (h | h | h)
     ·exact .inr h
     ·exact .inl (.inl h)
     ·exact .inl (.inr h)
    ·rintro ((h | h) | h)
     ·exact .inr (.inl h)
     ·exact .inr (.inr h)
     ·exact .inl h
theorem zlz {s:St}:∀ {l:List St},Srt l→Srt (zex l s)
 | [],_=>by simp [zex]
 | x :: l,h=>by
  obtain⟨h1,h2⟩:=List.pairwise_cons.1 h
  unfold zex
  split
  ·rename_i hx
   refine List.pairwise_cons.2 ⟨fun t ht=>?_,zlz h2⟩
   rcases mem_with.1 ht with ht | rfl
   ·exact h1 t ht
   ·exact hx
  ·rename_i hx
   split
   ·exact h
   ·rename_i hne
    have hs:za4 s x=true:=by
     cases hb:za4 s x
     ·exact absurd (before_total (by simpa using hx) hb) hne
     ·rfl
    refine List.pairwise_cons.2 ⟨fun t ht=>?_,h⟩
    rcases List.mem_cons.1 ht with rfl | ht
    ·exact hs
    ·exact before_trans hs (h1 t ht)
theorem zh5:∀ {l k:List St},Srt l→Srt k→(∀ s,s∈l↔s∈k)→l=k
 | [],[],_,_,_=>rfl
 | [],y :: k,_,_,h=>absurd ((h y).2 (List.mem_cons_self ..)) (List.not_mem_nil)
 | x :: l,[],_,_,h=>absurd ((h x).1 (List.mem_cons_self ..)) (List.not_mem_nil)
 | x :: l,y :: k,h1,h2,h=>by
  obtain⟨a1,a2⟩:=List.pairwise_cons.1 h1
  obtain⟨b1,b2⟩:=List.pairwise_cons.1 h2
  have e:x=y:=by
   rcases List.mem_cons.1 ((h x).1 (List.mem_cons_self ..)) with e | hx
   ·exact e
   ·rcases List.mem_cons.1 ((h y).2 (List.mem_cons_self ..)) with e | hy
    ·exact e.symm
    ·have:=zfv (a1 y hy);rw [b1 x hx] at this;cases this
  subst e
  congr 1
  refine zh5 a2 b2 fun s=>?_
  have n1:∀ s∈l,s≠x:=fun s hs e=>by subst e;have:=a1 s hs;rw [before_irrefl] at this;cases this
  have n2:∀ s∈k,s≠x:=fun s hs e=>by subst e;have:=b1 s hs;rw [before_irrefl] at this;cases this
  constructor
  ·intro hs
   exact (List.mem_cons.1 ((h s).1 (List.mem_cons_of_mem _ hs))).resolve_left (n1 s hs)
  ·intro hs
   exact (List.mem_cons.1 ((h s).2 (List.mem_cons_of_mem _ hs))).resolve_left (n2 s hs)
theorem znB {xs:List St} {s:St}:s∈zfX xs↔s∈xs:=(List.mergeSort_perm xs _).mem_iff
theorem zpn {xs:List St} (h:xs.Nodup):Srt (zfX xs):=by
 have h1:(zfX xs).Nodup:=(List.mergeSort_perm xs _).nodup_iff.2 h
 have h2:(zfX xs).Pairwise fun a b=>(!decide (zc1 b a<0))=true:=by
  refine List.pairwise_mergeSort (fun a b c hab hbc=>?_) (fun a b=>?_) xs
  ·rw [zbk,Bool.not_eq_true'] at *
   exact zeA hbc hab
  ·rw [zbk,zbk]
   cases hb:za4 b a
   ·simp
   ·simp [zfv hb]
 refine (h1.and h2).imp fun {a b} hab=>?_
 obtain⟨hne,hle⟩:=hab
 rw [zbk,Bool.not_eq_true'] at hle
 cases hb:za4 a b
 ·exact absurd (before_total hb hle) hne
 ·rfl
def setS (l:List St):List St:=l.foldl zex []
theorem zlj {s:St}:∀ (l k:List St),s∈l.foldl zex k↔s∈k∨s∈l
 | [],k=>by simp
 | x :: l,k=>by rw [List.foldl_cons,zlj l,mem_with,List.mem_cons,or_assoc]
theorem zly:∀ (l k:List St),Srt k→Srt (l.foldl zex k)
 | [],_,h=>h
 | x :: l,k,h=>zly l _ (zlz h)
theorem znA {l:List St} {s:St}:s∈setS l↔s∈l:=by simp [setS,zlj]
theorem zqd (l:List St):Srt (setS l):=zly l [] List.Pairwise.nil
end Go.Proofs.Ytedomogjmhommaa
namespace Go.Proofs.Ytedomogjmhommaa
open Go.RowKit
theorem zo7 {t e:TypeId} {z:Value} {sz by_:Nat} (T:ElemT t e z sz by_) (base:Nat) (w:World) (v:Value) (rows:List (List Value)) (hown:w.ownsRow base e sz v rows.length rows.flatten) (u:Value) (news:List (List Value)) (hr:∀ y∈news,y.length=sz) (h1:∀ y∈news,∀ x∈y,x.oneCell'=true) (hu:Sl w u sz news)
  (hl:(rows.length+news.length) * by_≤140737488355328) (hm:rows.length+news.length≤281474976710656) (hb:base≤w.heap.size) :
  ∃ v' w',(Builtin.append_ #[t,t] t #[v,u]).run Try.prog w=.ok v' w'∧w'.ownsRow base e sz v' (rows++news).length (rows++news).flatten∧w.grownBy w' v.ownBlock∧(v'.ownBlock=v.ownBlock∨v'.ownBlock=some w.heap.size):=by
 obtain⟨i,hi,hz,hs,hby⟩:=T.info
 obtain⟨cap,⟨h0,rfl⟩ | ⟨b,off,rfl,hbl,hc⟩⟩:=hu
 ·subst h0
  refine⟨v,w,?_,by rw [List.append_nil];exact hown,World.grownBy.refl _ _,.inl rfl⟩
  obtain⟨_,⟨rfl,h0⟩ | ⟨g,cap',cur,rfl,hb',hg,hc,hm',hs',ht⟩⟩:=hown
  ·simp [Builtin.append_,run_underlying T.und,sizeOf,typeInfo,hi,Builtin.lenOf,Builtin.firstCells,storeCells]
  ·simp [Builtin.append_,run_underlying T.und,sizeOf,typeInfo,hi,Builtin.lenOf,Builtin.firstCells,storeCells,hc]
 ·obtain⟨v',w',r1,r2,r3,_,r5⟩:=run_append_own_at (P:=Try.prog) w base t t e i z sz by_ T.und hi hz hs hby T.zs T.pos v rows.length rows.flatten hown ⟨b,off,none⟩ news.length cap news.flatten (by rw [zeM news hr]) (fun j x hj=>by
   obtain⟨l,g1,g2⟩:=zpS T.pos hr hj
   have:=hc (j / sz) (j % sz) l x g1 g2
   rw [addr_add]
   rw [show off+j / sz * sz+j % sz=off+j by have:=Nat.div_add_mod j sz;rw [Nat.mul_comm] at this;omega] at this
   exact this) (fun x hx=>by
   obtain⟨y,hy,hxy⟩:=List.mem_flatten.1 hx
   exact h1 y hy x hxy) (by unfold maxLen;omega) hl hb
  rw [← List.flatten_append,← List.length_append] at r2
  exact⟨v',w',r1,r2,r3,r5⟩
theorem zcx {F:Fence} {nF:Nat} {t e:TypeId} {z:Value} {sz by_:Nat} (T:ElemT t e z sz by_) {w:World} {ops:Array Oper} {rest:List Oper} {o:Oper} {a:Act} {Q:Exit→Act→World→Prop} (hgd:o.guard=none) (s x:Operand)
  (ho:o.op=.call { callee:=.builtin .append,args:=#[s,x],argTypes:=#[t,t] }) (hty:o.type=t) (base:Nat) (v:Value) (n:Nat) (rows:List (List Value)) (hs:a.eval s=v) (hown:w.ownsRow base e sz v n rows.flatten) (hn:rows.length=n)
  (u:Value) (news:List (List Value)) (hx:a.eval x=u) (hu:Sl w u sz news) (hnew:∀ y∈news,y.length=sz) (h1:∀ y∈news,∀ x∈y,x.oneCell'=true)
  (hl:(n+news.length) * by_≤140737488355328) (hm:n+news.length≤281474976710656) (hb:base≤w.heap.size)
  (h:∀ v' w',w'.ownsRow base e sz v' (rows++news).length (rows++news).flatten→w.grownBy w' v.ownBlock→(v'.ownBlock=v.ownBlock∨v'.ownBlock=some w.heap.size)→wpListIn F nF Try.prog ops Q rest (a.put o.dst v') w') :
  wpListIn F nF Try.prog ops Q (o :: rest) a w:=by
 refine wpListIn_plain hgd fun K hK=>?_
 subst hn
 obtain⟨v',w',r1,r2,r3,r4⟩:=zo7 T base w v rows hown u news hnew h1 hu hl hm hb
 unfold Oper.wpIn
 refine⟨by simp [Oper.about,ho,resolve,Target.leads,Sem.run_pure],?_⟩
 rw [Oper.semAt_plain F _ _ (by rw [ho];intro c hc';cases hc')]
 simp [execOp,ho,resolve,invoke,builtin,hs,hx,hty,r1,Result.andThen]
 exact hK _ _ (h v' w' r2 r3 r4)
end Go.Proofs.Ytedomogjmhommaa
namespace Go.Proofs.Ytedomogjmhommaa
open Go.RowKit
theorem g24:Try.prog.eqGuardType Try.prog.depth 24=false:=by kernel_rfl
theorem eq24 {s t:St} (hs:StI s) (ht:StI t) (w:World):(Op.equalIn 10000 24 s.val t.val).run Try.prog w=.ok (decide (s=t)) w:=by
 obtain⟨ls,h1⟩:=zl1 hs
 obtain⟨lt,h2⟩:=zl1 ht
 obtain⟨r,h3,h4⟩:=run_equal_deep w (m:=2) (by omega) (k:=24) (by kernel_rfl) (by rw [Try.underlying24]) h1 h2
 simp only [Op.equal,Op.maxDepth] at h3
 rw [h3]
 congr 1
 have h5:ls=lt↔s=t:=⟨fun e=>ziR (K24.inj h1 (e ▸ h2)),fun e=>by subst e;rw [h1] at h2;exact Option.some.inj h2⟩
 by_cases e:s=t
 ·rw [decide_eq_true e];exact h4.2 (h5.2 e)
 ·rw [decide_eq_false e]
  cases r
  ·rfl
  ·exact absurd (h5.1 (h4.1 rfl)) e
end Go.Proofs.Ytedomogjmhommaa
namespace Go.Proofs.Ytedomogjmhommaa
open Go.RowKit
theorem zmj (u v:Value) (xs ys:List St) (w:World) (hu:Sl w u 3 (xs.map St.cells)) (hv:Sl w v 3 (ys.map St.cells)) (hl:xs.length≤1000000000) (hl2:ys.length≤1000000000) (hxI:∀ x∈xs,StI x) (hyI:∀ x∈ys,StI x):CallsIn FW 0 Try.prog 46 #[u,v] w fun e w'=>e=.returned (.bool (decide (xs=ys)))∧Nx w w':=by
 obtain⟨a,cap,rfl⟩:=hu.cases
 obtain⟨a2,cap2,rfl⟩:=hv.cases
 rw [List.length_map] at *
 rw [List.length_map] at *
 have HU:=Lib.hid hu
 have HV:=Lib.hid hv
 clear hu hv
 obtain⟨g,hg⟩:∃ g,decide (xs=ys)=g:=⟨_,rfl⟩
 rw [hg]
 have HG:Hid (g=decide (xs=ys)):=hg.symm
 clear hg
 by_cases hlen:xs.length=ys.length
 case neg =>
  have HR:Hid (g=false):=by show _=_;rw [HG.out];exact decide_eq_false fun e=>hlen (by rw [e])
  have b1:((xs.length:Int) != (ys.length:Int))=true:=by simp;omega
  gi_enter Try.func46,Try.ntmps46
  gi_wp2
  go_ret
  exact⟨by rw [HR.out]<;>rfl,Nx.refl _⟩
 case pos =>
 have b1:((xs.length:Int) != (ys.length:Int))=false:=by simp [hlen]
 have HL:=Lib.hid hlen
 clear hlen
 gi_enter Try.func46,Try.ntmps46
 gi_wp2
 clear b1
 gi_loopw [5] (fun i wr=>∃ k:Nat,k≤xs.length∧i=num k∧(∀ j,j<k→xs[j]?=ys[j]?)∧Nx w wr) (fun i _=>xs.length-(intOf i).toNat)
 case atStart=>exact⟨0,Nat.zero_le _,rfl,fun j h=>absurd h (Nat.not_lt_zero _),Nx.refl _⟩
 case round =>
  obtain⟨k,hk,rfl,hno,nr⟩:=hrel
  have HN:=Lib.hid hno
  clear hno
  by_cases hlt:k<xs.length
  ·obtain⟨b,off,rfl,hbl,hcl⟩:=(HU.out).get (by simp;omega)
   have hlt2:k<ys.length:=by have:=HL.out;omega
   obtain⟨b',off',rfl,hbl',hcl'⟩:=(HV.out).get (by simp;omega)
   have hh:xs[k]?=some xs[k]:=List.getElem?_eq_getElem hlt
   have hy:ys[k]?=some ys[k]:=List.getElem?_eq_getElem hlt2
   generalize xs[k]=x at hh
   generalize ys[k]=y at hy
   have e0:wr.cell? ⟨b,off+k * 3,none⟩=some (num x.w):=Sl.at hcl nr hbl hh 0 (v:=num x.w) rfl
   have e1:wr.cell? ⟨b,off+k * 3+1,none⟩=some (num x.c):=Sl.at hcl nr hbl hh 1 (v:=num x.c) rfl
   have e2:wr.cell? ⟨b,off+k * 3+2,none⟩=some (num x.h):=Sl.at hcl nr hbl hh 2 (v:=num x.h) rfl
   have f0:wr.cell? ⟨b',off' + k * 3,none⟩=some (num y.w):=Sl.at hcl' nr hbl' hy 0 (v:=num y.w) rfl
   have f1:wr.cell? ⟨b',off' + k * 3+1,none⟩=some (num y.c):=Sl.at hcl' nr hbl' hy 1 (v:=num y.c) rfl
   have f2:wr.cell? ⟨b',off' + k * 3+2,none⟩=some (num y.h):=Sl.at hcl' nr hbl' hy 2 (v:=num y.h) rfl
   have hq:=fun (W1:World)=>eq24 (hxI x (List.mem_of_getElem? hh)) (hyI y (List.mem_of_getElem? hy)) W1
   have hg24:=g24
   have HX:=Lib.hid hh
   have HY:=Lib.hid hy
   clear hcl hcl' hh hy
   by_cases hxy:x=y
   ·have HN2:=Lib.hid (show ∀ j,j<k+1→xs[j]?=ys[j]? from fun j hj=>by
     rcases Nat.lt_succ_iff_lt_or_eq.1 hj with hj | rfl
     ·exact HN.out j hj
     ·rw [HX.out,HY.out,hxy])
    rw [decide_eq_true hxy] at hq
    clear hxy
    gi_upto_region 6 with fail
    gi_big_quiet_th (fail)
    gi_wp2
    exact⟨⟨k+1,hlt,by simp,HN2.out,nr.drewN _⟩,by simp [intOf];omega⟩
   ·have HR:Hid (g=false):=by
     show _=_
     rw [HG.out]
     refine decide_eq_false fun e=>hxy ?_
     have h1:=HX.out
     rw [e,HY.out] at h1
     exact (Option.some.inj h1).symm
    rw [decide_eq_false hxy] at hq
    clear hxy
    gi_upto_region 6 with fail
    gi_big_quiet_th (fail)
    gi_wp2
    go_ret
    exact⟨by rw [HR.out]<;>rfl,nr.drewN _⟩
  ·obtain rfl:k=xs.length:=by omega
   have HR:Hid (g=true):=by
    show _=_
    rw [HG.out]
    refine decide_eq_true (List.ext_getElem? fun j=>?_)
    by_cases hj:j<xs.length
    ·exact HN.out j hj
    ·rw [List.getElem?_eq_none (by omega),List.getElem?_eq_none (by have:=HL.out;omega)]
   gi_wp2
   go_ret
   exact⟨by rw [HR.out]<;>rfl,nr⟩
end Go.Proofs.Ytedomogjmhommaa
namespace Go.Proofs.Ytedomogjmhommaa
open Go.RowKit
theorem zgT {w:World} {base e sz n m:Nat} {v:Value} {xs:List Value} (h:w.ownsRow base e sz v n xs) (h2:m=n):w.ownsRow base e sz v m xs:=h2 ▸ h
theorem zo6 (l:List St):∀ y∈l.map St.cells,y.length=3:=by simp
theorem zgb {w:World} {base e sz g:Nat} (hg:w.heap[g]?=some (.cells #[] e (0,0))) (hb:base≤g):w.ownsRow base e sz (.slice (some ⟨g,0,none⟩) 0 0) 0 [] :=
 ⟨by simp,.inr ⟨g,0,#[],rfl,hb,hg,Nat.le_refl _,by simp [maxLen],by simp,by simp⟩⟩
end Go.Proofs.Ytedomogjmhommaa
namespace Go.Proofs.Ytedomogjmhommaa
open Go.RowKit Go.Shelf
structure But (bs:List Nat) (w w' : World):Prop where
 os:w'.os=w.os
 tape:w'.tape=w.tape
 output:w'.output=w.output
 size:w.heap.size≤w'.heap.size
 block:∀ b,b<w.heap.size→b∉bs→w'.heap[b]?=w.heap[b]?
theorem But.refl (bs:List Nat) (w:World):But bs w w:=⟨rfl,rfl,rfl,Nat.le_refl _,fun _ _ _=>rfl⟩
theorem But.trans {bs:List Nat} {a b c:World} (h:But bs a b) (k:But bs b c):But bs a c :=
 ⟨k.os.trans h.os,k.tape.trans h.tape,k.output.trans h.output,Nat.le_trans h.size k.size,fun i hi hn=>(k.block i (Nat.lt_of_lt_of_le hi h.size) hn).trans (h.block i hi hn)⟩
theorem But.nx {bs:List Nat} {a b:World} (h:Nx a b):But bs a b:=⟨h.os,h.tape,h.output,h.size,fun i hi _=>h.block i hi⟩
theorem But.grown {bs:List Nat} {a b:World} {row:Option Nat} (h:a.grownBy b row) (hr:∀ r,row=some r→r∈bs∨a.heap.size≤r):But bs a b :=
 ⟨h.os,h.tape,h.output,h.size,fun i hi hn=>h.block i hi (fun e=>by rcases hr i e.symm with h1 | h1;exact hn h1;omega)⟩
theorem But.set {bs:List Nat} {a:World} {b i:Nat} {v:Value} (h:b∈bs):But bs a (a.setCell ⟨b,i,none⟩ v) :=
 ⟨rfl,rfl,rfl,by rw [zay];exact Nat.le_refl _,fun k _ hn=>zae (fun e=>hn (e ▸ h))⟩
theorem But.toNx {bs:List Nat} {w a b:World} (n:Nx w a) (h:But bs a b) (hb:∀ r∈bs,w.heap.size≤r):Nx w b :=
 ⟨h.os.trans n.os,h.tape.trans n.tape,h.output.trans n.output,Nat.le_trans n.size h.size,fun i hi=>(h.block i (Nat.lt_of_lt_of_le hi n.size) (fun e=>by have:=hb i e;omega)).trans (n.block i hi)⟩
theorem But.cell {bs:List Nat} {a b:World} (h:But bs a b) {p i:Nat} {v:Value} (hp:p∉bs) (hc:a.cell? ⟨p,i,none⟩=some v):b.cell? ⟨p,i,none⟩=some v:=by
 obtain⟨o,ho,_⟩:=cells_of_cell hc
 exact (World.cell?_of_block (h.block _ (Array.getElem?_eq_some_iff.1 ho).1 hp)).trans hc
theorem But.own {bs:List Nat} {x a b:World} (h:But bs x a) {row:Option Nat} (hg:a.grownBy b row) (hr:∀ r,row=some r→x.heap.size≤r):But bs x b :=
 ⟨hg.os.trans h.os,hg.tape.trans h.tape,hg.output.trans h.output,Nat.le_trans h.size hg.size,fun i hi hn=>(hg.block i (Nat.lt_of_lt_of_le hi h.size) (fun e=>by have:=hr i e.symm;omega)).trans (h.block i hi hn)⟩
theorem But.mono {bs cs:List Nat} {a b:World} (h:But bs a b) (hs:∀ r∈bs,r∈cs):But cs a b:=⟨h.os,h.tape,h.output,h.size,fun i hi hn=>h.block i hi (fun e=>hn (hs i e))⟩
theorem But.keeps {B:Nat} {bs:List Nat} {a b:World} (h:But bs a b) (hb:∀ r∈bs,r<B):KeepsFrom B a b :=
 ⟨h.size,fun k o hk ho _=>(h.block k (Array.getElem?_eq_some_iff.1 ho).1 (fun e=>by have:=hb k e;omega)).trans ho⟩
theorem SetM.blk {w w' : World} {b n:Nat} {X:St→Prop} (h:SetM w b n X) (hb:w'.heap[b]?=w.heap[b]?):SetM w' b n X:=by
 obtain⟨D,⟨es,cl,h1,h2⟩,h3⟩:=h
 exact⟨D,⟨es,cl,hb.trans h1,h2⟩,h3⟩
theorem SetM.lt {w:World} {b n:Nat} {X:St→Prop} (h:SetM w b n X):b<w.heap.size:=by
 obtain⟨D,h1,_⟩:=h
 exact h1.lt
theorem SetM.map {w:World} {b n:Nat} {X:St→Prop} (h:SetM w b n X):∃ es cl,w.heap[b]?=some (.map es cl):=by
 obtain⟨D,⟨es,cl,h1,_⟩,_⟩:=h
 exact⟨es,cl,h1⟩
theorem SetM.congr {w:World} {b n:Nat} {X Y:St→Prop} (h:SetM w b n X) (e:∀ s,X s↔Y s):SetM w b n Y:=by
 rw [show Y=X from funext fun s=>propext (e s).symm]
 exact h
theorem SetM.more {w:World} {b n m:Nat} {X:St→Prop} (h:SetM w b n X) (hm:n≤m):SetM w b m X:=by
 obtain⟨D,⟨es,cl,h1,h2,h3,h4⟩,h5⟩:=h
 exact⟨D,⟨es,cl,h1,h2,Nat.le_trans h3 hm,h4⟩,h5⟩
def afterL (d:Dry) (x:Stp) (h:Nat) (l:List St):List St:=l.flatMap fun s=>x.damps.map fun a=>za9 d (zaM d h) s h a
def keepL (d:Dry) (x:Stp) (h:Nat) (l:List St):Bool:=(afterL d x h l).all (za5 x)
theorem zio {F:Fence} {n:Nat} {P:Program} {fn:Func} {tmps:Array Value} {R:Ending→World→Prop} {B:Nat}:∀ {ds:List Deferred} {w:World},Marks B ds w→(∀ w',Below B w w'→(∀ (b:Nat) (o:Obj),w.heap[b]?=some o→o≠.deferred (some [])→w'.heap[b]?=some o)→∃ v,(results fn tmps).run P w'=.ok v w'∧R (.returned v) w')→B≤w.heap.size→LeavesInM F n P fn tmps R ds .returning w:=by
 rintro ds w ⟨Ds,rfl,hn,hd⟩ hr hB
 induction Ds generalizing w with
 | nil=>exact hr w (Below.refl _ _) (fun _ _ h _=>h)
 | cons D Ds ih =>
  obtain⟨h1,h2⟩:=List.nodup_cons.1 hn
  have hD:=hd D (by simp)
  have hb:Below B w (w.putObj D (.deferred none)):=(Below.refl B w).grown (grownBy_putObj' w D _) hB (fun k e=>by cases e;exact hD.1)
  refine⟨by simp,.inl ⟨_,_,rfl,run_takeDeferred hD.2,?_⟩⟩
  refine ih h2 (fun E hE=>⟨(hd E (by simp [hE])).1,?_⟩) (fun w' hw' hk=>hr w' (hb.trans hw') (fun b o hb hne=>hk b o ((World.putObj_heap_other (fun e=>hne (by rw [e,hD.2] at hb;exact (Option.some.inj hb).symm))).trans hb) hne)) (Nat.le_trans hB hb.size)
  exact (World.putObj_heap_other (fun e=>h1 (by rw [← e];exact hE))).trans (hd E (by simp [hE])).2
theorem RgS.blk {w w' : World} {b r n:Nat} {X:St→Prop} {xs:List St} {cnt:Nat} (h:RgS w b r n X xs cnt) (hb:w'.heap[b]?=w.heap[b]?) (hr:w'.heap[r]?=w.heap[r]?):RgS w' b r n X xs cnt:=by
 obtain⟨D,left,⟨es,clock,since,seen,c0,h1,F,hs,hD,h2,rest⟩,k2,k3⟩:=h
 exact⟨D,left,⟨es,clock,since,seen,c0,hb.trans h1,F,hs,hD,hr.trans h2,rest⟩,k2,k3⟩
theorem zhi {F:Fence} {nF:Nat} {w:World} {o:Oper} {a:Act} {K:Act→World→Prop} {Q:Exit→Act→World→Prop} (hro:F.round=none∨∃ l,F.round=some l) (m x v:Operand) (t:TypeId) (hop:o.op=Op.mapUpdate t m x v) (ht:Try.prog.underlying t=some (.map 24 4)) (b n:Nat) (X:St→Prop) (s:St) (hm:a.eval m=.map (some b)) (hx:a.eval x=s.val) (hv:a.eval v=.bool true) (hs:StI s) (h:SetM w b n X) (hn:n<maxLen)
  (hK:∀ w',SetM w' b (n+1) (fun t=>X t∨t=s)→w.grownBy w' (some b)→K (a.put o.dst undef) w'):o.wpIn F nF Try.prog a w K Q:=by
 obtain⟨l,hl⟩:=zl1 hs
 obtain⟨D,hown,hset⟩:=h
 obtain⟨w',hrun,r1,r2⟩:=hown.update K24 ht hn hl (plainElem_bool Try.underlying4 true)
 unfold Oper.wpIn
 refine⟨by simp [Oper.about,hop],?_⟩
 rw [Oper.semAt_plain F _ _ (by rw [hop];intro c hc';cases hc')]
 simp [execOp,hop,hm,hx,hv,hrun,Result.andThen]
 exact hK w' ⟨_,r1,zgN hset hl⟩ r2
end Go.Proofs.Ytedomogjmhommaa
