import Derived.Test.YtedomogjmhommaaH35
set_option linter.all false
set_option maxRecDepth 100000
set_option maxHeartbeats 8000000
namespace Go.Con
open Go Go.Conc
variable [Lone]
theorem zhR {gs:Array Goroutine} {f:Goroutine→Goroutine} {j:Nat} {x:Goroutine} (h:∀ (i:Nat) (g:Goroutine),i≠j→gs[i]?=some g→f g=g):(gs.map f).setIfInBounds j x=gs.setIfInBounds j x:=by
 apply Array.ext_getElem?
 intro i
 by_cases e:j=i
 ·subst e
  by_cases hl:j<gs.size
  ·rw [Array.getElem?_setIfInBounds_self_of_lt (by simpa using hl),Array.getElem?_setIfInBounds_self_of_lt hl]
  ·rw [Array.getElem?_eq_none (by simpa using hl),Array.getElem?_eq_none (by simpa using hl)]
 ·rw [Array.getElem?_setIfInBounds_ne e,Array.getElem?_setIfInBounds_ne e,Array.getElem?_map]
  cases hg:gs[i]? with
  | none=>rfl
  | some g=>simp [h i g (Ne.symm e) hg]
def SentAt (φ:Ph) (t:Trace) (l:List Ws) (num j:Nat) (v:Value):Prop :=
 (∃ n k own A W0,l[j]?=some (.sent n k own A v W0)) ∧
 ∃ p x,t[p]?=some x∧x.g=j∧x.act=.send φ.c num∧∀ (i:Nat) (op:MemOp),t[i]?=some op→op.g=j→op.act.touch?.isSome=true→i<p
theorem SentAt.app {φ:Ph} {t u:Trace} {l:List Ws} {num j:Nat} {v:Value} (h:SentAt φ t l num j v) (hu:∀ op∈u,op.g=j→op.act.touch?=none):SentAt φ (t++u) l num j v:=by
 obtain⟨h1,p,x,h2,h3,h4,h5⟩:=h
 have hp:=lt_size_of_getElem? h2
 refine⟨h1,p,x,by rw [getElem?_append_old hp];exact h2,h3,h4,fun i op hi hg hs=>?_⟩
 rcases getElem?_append_cases hi with ⟨_,h⟩ | ⟨_,h⟩
 ·exact h5 i op h hg hs
 ·rw [hu op h hg] at hs;cases hs
theorem SentAt.set {φ:Ph} {t:Trace} {l:List Ws} {num j i:Nat} {v:Value} {y:Ws} (h:SentAt φ t l num j v) (hij:i≠j):SentAt φ t (l.set i y) num j v:=by
 obtain⟨⟨n,k,own,A,W0,h1⟩,h2⟩:=h
 exact⟨⟨n,k,own,A,W0,by rw [List.getElem?_set_ne hij];exact h1⟩,h2⟩
structure Cfg (P:Program) (φ:Ph) (pend:List Nat) (own A:Nat→Prop) (gs:Array Goroutine) (W:World) (t:Trace) (Z:Nat→Option Zone) (l:List Ws) (L:List Nat) (buf:Array Value) (r:Nat):Prop where
 zc:ZC φ gs.size W t Z
 z0:Z 0=some ⟨own,A⟩
 len:l.length=gs.size
 pos:0<gs.size
 head:l[0]?=some (.gone 0)
 ok:∀ (j:Nat) (x:Ws) (g:Goroutine),j≠0→l[j]?=some x→gs[j]?=some g→WOk P φ W x g (Z j)
 perm:(l.filterMap Ws.key).Perm pend
 cap:φ.cap=0∨pend.length≤φ.cap
 noPark:φ.cap≠0→∀ (j k:Nat) (own A:Nat→Prop) (v:Value) (W0:World),l[j]?≠some (Ws.parked k own A v W0)
 chan:φ.on=true→W.heap[φ.c]?=some (.chan φ.cap buf false (r+L.length) r false)
 bsize:buf.size=L.length
 fifo:∀ i j,L[i]?=some j→∃ v,buf[i]?=some v∧SentAt φ t l (r+i) j v
 sentIn:∀ (j n k:Nat) (own A:Nat→Prop) (v:Value) (W0:World),l[j]?=some (Ws.sent n k own A v W0)→j∈L
 nodup:L.Nodup
 zero:φ.cap=0→L=[]
section
variable {P:Program} {φ:Ph} {pend:List Nat} {own A:Nat→Prop} {gs:Array Goroutine} {W:World} {t:Trace} {Z:Nat→Option Zone} {l:List Ws} {L:List Nat} {buf:Array Value} {r:Nat}
theorem zfz {A:Nat→Prop} (W:World) (d:Nat):Env A W (W.at d):=⟨fun _ _=>rfl,Nat.le_refl _,rfl,rfl⟩
theorem Cfg.at (h:Cfg P φ pend own A gs W t Z l L buf r) (d:Nat):Cfg P φ pend own A gs (W.at d) t Z l L buf r :=
 { h with zc:=h.zc.world rfl,ok:=fun j x g hj hx hg=>(h.ok j x g hj hx hg).env fun _ _=>zfz W d,chan:=h.chan }
theorem Cfg.ws (h:Cfg P φ pend own A gs W t Z l L buf r) {j:Nat} {g:Goroutine} (hj:j≠0) (hg:gs[j]?=some g):∃ x,l[j]?=some x∧WOk P φ W x g (Z j):=by
 have hlt:=(Array.getElem?_eq_some_iff.1 hg).1
 have:j<l.length:=by rw [h.len];exact hlt
 exact⟨l[j],List.getElem?_eq_getElem this,h.ok j _ g hj (List.getElem?_eq_getElem this) hg⟩
theorem Cfg.acc (h:Cfg P φ pend own A gs W t Z l L buf r):Acc (LLt P) l:=by
 refine zkZ fun x hx=>?_
 obtain⟨j,hj⟩:=List.getElem?_of_mem hx
 by_cases e:j=0
 ·subst e
  rw [h.head] at hj
  cases hj
  exact zkY 0
 ·have hlt:j<gs.size:=by rw [← h.len];exact (List.getElem?_eq_some_iff.1 hj).1
  exact (h.ok j x _ e hj (Array.getElem?_eq_getElem hlt)).acc
theorem Cfg.fifo_ne (h:Cfg P φ pend own A gs W t Z l L buf r) {j:Nat} (hj:j∈L):j≠0:=by
 rintro rfl
 obtain⟨i,hi⟩:=List.getElem?_of_mem hj
 obtain⟨v,_,⟨n,k,own,A,W0,h1⟩,_⟩:=h.fifo i 0 hi
 rw [h.head] at h1
 cases h1
def zhu (φ:Ph) (l:List Ws) (L:List Nat) (g0:Goroutine):Prop :=
 g0.status=.running∨((∃ g2 z ok,g0=parked g2 #[rcase φ.c z] (.recv ok))∧L=[]∧φ.on=true∧∀ (j k:Nat) (own A:Nat→Prop) (v:Value) (W0:World),l[j]?≠some (Ws.parked k own A v W0))
theorem zju {W' : World} {Z' : Nat→Option Zone} {j:Nat} {y:Ws} {g' : Goroutine} (hok:∀ (i:Nat) (x:Ws) (g:Goroutine),i≠0→l[i]?=some x→gs[i]?=some g→WOk P φ W x g (Z i))
  (hs:∀ (i:Nat) (x:Ws) (g:Goroutine),i≠0→i≠j→WOk P φ W x g (Z i)→WOk P φ W' x g (Z' i)) (hy:WOk P φ W' y g' (Z' j)) :
  ∀ (i:Nat) (x:Ws) (g:Goroutine),i≠0→(l.set j y)[i]?=some x→(gs.setIfInBounds j g')[i]?=some g→WOk P φ W' x g (Z' i):=by
 intro i x g hi hx hg
 by_cases e:j=i
 ·subst e
  have h1:j<l.length:=by
   rcases Nat.lt_or_ge j l.length with h | h
   ·exact h
   ·rw [List.getElem?_eq_none (by simpa using h)] at hx;cases hx
  have h2:j<gs.size:=by
   rcases Nat.lt_or_ge j gs.size with h | h
   ·exact h
   ·rw [Array.getElem?_eq_none (by simpa using h)] at hg;cases hg
  rw [List.getElem?_set_self h1] at hx
  rw [Array.getElem?_setIfInBounds_self_of_lt h2] at hg
  cases hx;cases hg
  exact hy
 ·rw [List.getElem?_set_ne e] at hx
  rw [Array.getElem?_setIfInBounds_ne e] at hg
  exact hs i x g hi (Ne.symm e) (hok i x g hi hx hg)
theorem zlq {l:List Ws}:∀ {j:Nat} {x y:Ws},l[j]?=some x→y.key=x.key→(l.set j y).filterMap Ws.key=l.filterMap Ws.key:=by
 induction l with
 | nil=>intro j x y h;cases h
 | cons a l ih =>
  intro j x y h hk
  cases j with
  | zero =>
   simp only [List.getElem?_cons_zero,Option.some.injEq] at h
   subst h
   simp [List.filterMap_cons,hk]
  | succ j =>
   simp only [List.getElem?_cons_succ] at h
   simp [List.filterMap_cons,ih h hk]
theorem znH {l:List Ws}:∀ {j:Nat} {x y:Ws} {k:Nat},l[j]?=some x→x.key=some k→y.key=none→(l.filterMap Ws.key).Perm (k :: (l.set j y).filterMap Ws.key):=by
 induction l with
 | nil=>intro j x y k h;cases h
 | cons a l ih =>
  intro j x y k h hk hy
  cases j with
  | zero =>
   simp only [List.getElem?_cons_zero,Option.some.injEq] at h
   subst h
   simp [hk,hy]
  | succ j =>
   simp only [List.getElem?_cons_succ] at h
   have:=ih h hk hy
   simp only [List.set_cons_succ,List.filterMap_cons]
   cases a.key with
   | none=>exact this
   | some k2=>exact (this.cons k2).trans (List.Perm.swap _ _ _)
theorem zfm {l:List Ws} {j:Nat} {x y:Ws} {k:Nat} (hp:(l.filterMap Ws.key).Perm pend) (h:l[j]?=some x) (hk:x.key=some k) (hy:y.key=none):k∈pend∧((l.set j y).filterMap Ws.key).Perm (pend.erase k):=by
 have h1:=(znH h hk hy).symm.trans hp
 have h2:k∈pend:=h1.mem_iff.1 (List.mem_cons_self ..)
 refine⟨h2,?_⟩
 have:=h1.erase k
 rwa [List.erase_cons_head] at this
theorem Cfg.offers (h:Cfg P φ pend own A gs W t Z l L buf r) {g0:Goroutine} (h0:gs[0]?=some g0) {i j:Nat} {g:Goroutine} (hg:(gs.setIfInBounds j ph)[i]?=some g) (c:Nat) :
  (i=0∧i≠j∧g=g0)∨offersAt g c false=[]:=by
 rcases getElem?_stand gs j i g hg with ⟨_,rfl⟩ | ⟨hij,hg⟩
 ·exact .inr rfl
 ·by_cases e:i=0
  ·subst e;rw [h0] at hg;cases hg;exact .inl ⟨rfl,hij,rfl⟩
  ·obtain⟨x,hx,hok⟩:=h.ws e hg
   right
   cases x with
   | parked k own A v W0=>obtain⟨_,_,_,_,g2,zz,n,rfl,_⟩:=hok;exact offersAt_parked_send' ..
   | live k own A g0 W0=>exact offersAt_of_not_blocked (by rw [hok.1,hok.2.2.2.2.running];simp) ..
   | sent n =>
    have:=hok.1
    refine offersAt_of_not_blocked ?_ ..
    cases n with
    | zero=>rw [show g.status=_ from this];simp
    | succ n=>rcases this with h | h
              ·rw [h];simp
              ·rw [h.1];simp
   | gone n =>
    have:=hok.1
    refine offersAt_of_not_blocked ?_ ..
    cases n with
    | zero=>rw [show g.status=_ from this];simp
    | succ n=>rcases this with h | h
              ·rw [h];simp
              ·rw [h.1];simp
theorem Cfg.offersT (h:Cfg P φ pend own A gs W t Z l L buf r) {g0:Goroutine} (h0:gs[0]?=some g0) (hm:offersAt g0 φ.c true=[]) {i j:Nat} {g:Goroutine} (hg:(gs.setIfInBounds j ph)[i]?=some g) :
  offersAt g φ.c true=[]∨(i≠0∧i≠j∧gs[i]?=some g∧∃ k own A v W0,l[i]?=some (.parked k own A v W0)):=by
 rcases getElem?_stand gs j i g hg with ⟨_,rfl⟩ | ⟨hij,hg⟩
 ·exact .inl rfl
 ·by_cases e:i=0
  ·subst e;rw [h0] at hg;cases hg;exact .inl hm
  ·obtain⟨x,hx,hok⟩:=h.ws e hg
   cases x with
   | parked k own A v W0=>exact .inr ⟨e,hij,hg,k,own,A,v,W0,hx⟩
   | live k own A g0 W0=>exact .inl (offersAt_of_not_blocked (by rw [hok.1,hok.2.2.2.2.running];simp) ..)
   | sent n =>
    have:=hok.1
    refine .inl (offersAt_of_not_blocked ?_ ..)
    cases n with
    | zero=>rw [show g.status=_ from this];simp
    | succ n=>rcases this with h | h
              ·rw [h];simp
              ·rw [h.1];simp
   | gone n =>
    have:=hok.1
    refine .inl (offersAt_of_not_blocked ?_ ..)
    cases n with
    | zero=>rw [show g.status=_ from this];simp
    | succ n=>rcases this with h | h
              ·rw [h];simp
              ·rw [h.1];simp
end
end Go.Con
namespace Go.Con
open Go Go.Conc
variable [Lone]
theorem zlR:∀ (l:List Ws) (J:List Nat),J.Nodup→(∀ i∈J,∃ x k,l[i]?=some x∧x.key=some k)→J.length≤(l.filterMap Ws.key).length:=by
 intro l
 induction l with
 | nil =>
  intro J _ h
  cases J with
  | nil=>exact Nat.zero_le _
  | cons i J=>obtain⟨x,k,h1,_⟩:=h i (List.mem_cons_self ..);cases h1
 | cons a l ih =>
  intro J hn h
  have hnd:((J.filter (fun i=>decide (i≠0))).map (fun i=>i-1)).Nodup:=by
   unfold List.Nodup
   rw [List.pairwise_map]
   refine (hn.filter _).imp_of_mem ?_
   intro x y hx hy hxy
   have h1:x≠0:=by simpa using (List.mem_filter.1 hx).2
   have h2:y≠0:=by simpa using (List.mem_filter.1 hy).2
   omega
  have hlen:=ih _ hnd (by
   intro i hi
   obtain⟨i',hi',rfl⟩:=List.mem_map.1 hi
   obtain⟨h1,h2⟩:=List.mem_filter.1 hi'
   have h2' : i'≠0:=by simpa using h2
   obtain⟨x,k,h3,h4⟩:=h i' h1
   refine⟨x,k,?_,h4⟩
   cases i' with
   | zero=>exact (h2' rfl).elim
   | succ m=>exact h3)
  rw [List.length_map] at hlen
  have hcnt:J.length=(J.filter (fun i=>decide (i≠0))).length+J.count 0:=by
   have h2:=List.length_eq_countP_add_countP (fun i=>decide (i≠0)) (l:=J)
   rw [List.countP_eq_length_filter] at h2
   rw [h2]
   congr 1
   show List.countP _ J=List.countP _ J
   congr 1
   funext i
   by_cases e:i=0<;>simp [e]
  have hc1:J.count 0≤1:=List.nodup_iff_count.1 hn 0
  by_cases h0:0∈J
  ·obtain⟨x,k,h1,h2⟩:=h 0 h0
   simp only [List.getElem?_cons_zero,Option.some.injEq] at h1
   subst h1
   simp only [List.filterMap_cons,h2,List.length_cons]
   omega
  ·have:J.count 0=0:=List.count_eq_zero.2 h0
   simp only [List.filterMap_cons]
   split
   ·omega
   ·simp only [List.length_cons];omega
theorem zd1 (t:Trace) (a b:MemOp):t++#[a,b]=(t.push a).push b:=by apply Array.ext';simp
theorem zc3 (t:Trace) (a b c d:MemOp):t++#[a,b,c,d]=(((t.push a).push b).push c).push d:=by apply Array.ext';simp
theorem zpy (t:Trace) (a b c d:MemOp):((((t.push a).push b).push c).push d)[t.size]?=some a:=by
 rw [← zc3,Array.getElem?_append_right (Nat.le_refl _)];simp
theorem zpz (t:Trace) (a b c d:MemOp):((((t.push a).push b).push c).push d)[t.size+3]?=some d:=by
 rw [← zc3,Array.getElem?_append_right (by omega)];simp
theorem size_setChan (W:World) (c cap:Nat) (buf:Array Value) (cl:Bool) (s r:Nat) (tm:Bool):(W.setChan c cap buf cl s r tm).heap.size=W.heap.size:=by simp [World.setChan]
theorem zaW {A:Nat→Prop} {W:World} {c cap:Nat} {buf:Array Value} {cl:Bool} {s r:Nat} {tm:Bool} (h:∀ x,A x→x≠c):Env A W (W.setChan c cap buf cl s r tm) :=
 ⟨fun x hx=>by simp only [World.setChan];rw [Array.getElem?_setIfInBounds_ne (Ne.symm (h x hx))],by rw [size_setChan];exact Nat.le_refl _,rfl,rfl⟩
theorem zdi {W:World} {c cap:Nat} {buf:Array Value} {cl:Bool} {s r:Nat} {tm:Bool} (h:c<W.heap.size):(W.setChan c cap buf cl s r tm).heap[c]?=some (.chan cap buf cl s r tm):=by
 simp [World.setChan,Array.getElem?_setIfInBounds_self_of_lt h]
section
variable {P:Program} {φ:Ph} {pend:List Nat} {own A:Nat→Prop} {gs:Array Goroutine} {W:World} {t:Trace} {Z:Nat→Option Zone} {l:List Ws} {L:List Nat} {buf:Array Value} {r:Nat}
theorem zeS {l:List Ws} {j:Nat} {x y:Ws} (hx:l[j]?=some x):(l.set j y)[j]?=some y:=List.getElem?_set_self (List.getElem?_eq_some_iff.1 hx).1
theorem zdS {gs:Array Goroutine} {j:Nat} {g y:Goroutine} (hg:gs[j]?=some g):(gs.setIfInBounds j y)[j]?=some y:=Array.getElem?_setIfInBounds_self_of_lt (Array.getElem?_eq_some_iff.1 hg).1
theorem zgU {j:Nat} {x y:Ws} (hp:(l.filterMap Ws.key).Perm pend) (hx:l[j]?=some x) (hk:y.key=x.key):((l.set j y).filterMap Ws.key).Perm pend:=by
 rw [zlq hx hk];exact hp
theorem Cfg.notIn (h:Cfg P φ pend own A gs W t Z l L buf r) {j:Nat} {x:Ws} (hx:l[j]?=some x) (hn:∀ n k own A v W0,x≠.sent n k own A v W0):j∉L:=by
 intro hj
 obtain⟨i,hi⟩:=List.getElem?_of_mem hj
 obtain⟨v,_,⟨n,k,own,A,W0,h1⟩,_⟩:=h.fifo i j hi
 rw [hx] at h1
 cases h1
 exact hn _ _ _ _ _ _ rfl
theorem Cfg.chanKeep (h:Cfg P φ pend own A gs W t Z l L buf r) {i:Nat} {z:Zone} (hz:Z i=some z) {W1:World} {es:Array Event} (hd:Does z.own z.A W W1 es) (hon:φ.on=true):W1.heap[φ.c]?=W.heap[φ.c]? :=
 hd.keep _ (h.zc.chan hon) fun ho=>(h.zc.low i z _ hz (h.zc.sub i z _ hz ho)).2 hon rfl
theorem Cfg.still (h:Cfg P φ pend own A gs W t Z l L buf r) {g0:Goroutine} (h0:gs[0]?=some g0) (hm:zhu φ l L g0) {j:Nat} (hj:j≠0) {a a' : Goroutine} {W1:World} (hc:φ.on=true→W1.heap[φ.c]?=W.heap[φ.c]?) :
  (gs.map (woken P a a' W1)).setIfInBounds j a'=gs.setIfInBounds j a':=by
 refine zhR fun i g hi hg=>?_
 by_cases e:i=0
 ·subst e
  rw [h0] at hg
  cases hg
  rcases hm with hr | ⟨⟨g2,z,ok,rfl⟩,_,hon,_⟩
  ·exact woken_run hr
  ·exact woken_recv_open _ _ ((hc hon).trans (h.chan hon))
 ·obtain⟨x,hx,hok⟩:=h.ws e hg
  exact hok.woken fun hon=>(hc hon).trans (h.chan hon)
theorem zhQ {g0:Goroutine} (hm:zhu φ l L g0) {j:Nat} {y:Ws} (hy:∀ k own A v W0,y≠.parked k own A v W0):zhu φ (l.set j y) L g0:=by
 rcases hm with h | ⟨a,b,c,d⟩
 ·exact .inl h
 ·refine .inr ⟨a,b,c,fun i k own A v W0 hi=>?_⟩
  by_cases e:j=i
  ·subst e
   have hlt:j<l.length:=by
    rcases Nat.lt_or_ge j l.length with h | h
    ·exact h
    ·rw [List.getElem?_eq_none (by simpa using h)] at hi;cases hi
   rw [List.getElem?_set_self hlt] at hi
   cases hi
   exact hy _ _ _ _ _ rfl
  ·rw [List.getElem?_set_ne e] at hi
   exact d i k own A v W0 hi
theorem zcb (h:φ.cap≠0→∀ (j k:Nat) (own A:Nat→Prop) (v:Value) (W0:World),l[j]?≠some (Ws.parked k own A v W0)) {j:Nat} {y:Ws} (hy:φ.cap≠0→∀ k own A v W0,y≠.parked k own A v W0) :
  φ.cap≠0→∀ (i k:Nat) (own A:Nat→Prop) (v:Value) (W0:World),(l.set j y)[i]?≠some (Ws.parked k own A v W0):=by
 intro hc i k own A v W0 hi
 by_cases e:j=i
 ·subst e
  have hlt:j<l.length:=by
   rcases Nat.lt_or_ge j l.length with h | h
   ·exact h
   ·rw [List.getElem?_eq_none (by simpa using h)] at hi;cases hi
  rw [List.getElem?_set_self hlt] at hi
  cases hi
  exact hy hc _ _ _ _ _ rfl
 ·rw [List.getElem?_set_ne e] at hi
  exact h hc i k own A v W0 hi
theorem zcB (h:∀ (j n k:Nat) (own A:Nat→Prop) (v:Value) (W0:World),l[j]?=some (Ws.sent n k own A v W0)→j∈L) {j:Nat} {y:Ws} (hy:(∀ n k own A v W0,y≠.sent n k own A v W0)∨j∈L) :
  ∀ (i n k:Nat) (own A:Nat→Prop) (v:Value) (W0:World),(l.set j y)[i]?=some (Ws.sent n k own A v W0)→i∈L:=by
 intro i n k own A v W0 hi
 by_cases e:j=i
 ·subst e
  rcases hy with hy | hy
  ·have hlt:j<l.length:=by
    rcases Nat.lt_or_ge j l.length with h | h
    ·exact h
    ·rw [List.getElem?_eq_none (by simpa using h)] at hi;cases hi
   rw [List.getElem?_set_self hlt] at hi
   cases hi
   exact (hy _ _ _ _ _ _ rfl).elim
  ·exact hy
 ·rw [List.getElem?_set_ne e] at hi
  exact h i n k own A v W0 hi
theorem znD {fn:FuncId} {pos:String} {es:Array Event} {i j:Nat} (hij:j≠i):∀ op∈MemOp.ofEvents i fn pos es,op.g=j→op.act.touch?=none:=by
 intro op hop hg
 obtain⟨e,_,rfl⟩:=Go.Conc.mem_ofEvents hop
 exact (hij hg.symm).elim
theorem Cfg.worker (h:Cfg P φ pend own A gs W t Z l L buf r) {g0:Goroutine} (h0:gs[0]?=some g0) (hm:zhu φ l L g0) {sl:Option (Nat×Nat)} {j:Nat} {g:Goroutine} (hj:j≠0) (hg:gs[j]?=some g) (hrun:g.status=.running) :
  (∃ gs' W' ops Z' l' L' buf',runT P (crowd gs W sl) j=(.next (crowd gs' W' sl),ops)∧LLt P l' l∧gs'[0]?=some g0∧Env A W W'∧zhu φ l' L' g0∧Cfg P φ pend own A gs' W' (t++ops) Z' l' L' buf' r) ∨
  (∃ g2 z ok gs' W' ops Z' l' k ownk Ak v Wk,g0=parked g2 #[rcase φ.c z] (.recv ok)∧runT P (crowd gs W sl) j=(.next (crowd gs' W' sl),ops)∧k∈pend∧φ.posts k ownk Ak v Wk∧Env Ak Wk W'∧Env A W W' ∧
   gs'[0]?=some (g2.finishComm P #[rcase φ.c z] (.recv ok) 0 v true)∧Cfg P φ (pend.erase k) (fun b=>own b∨ownk b) (fun b=>A b∨Ak b) gs' W' (t++ops) Z' l' [] #[] (r+1)∧(∀ x,ownk x→¬ A x)):=by
 obtain⟨x,hx,hok⟩:=h.ws hj hg
 have hlt:j<gs.size:=(Array.getElem?_eq_some_iff.1 hg).1
 have hj0:(j == 0)=false:=by simpa using hj
 have leave:∀ {n:Nat} (y:Nat→Ws),QuitsIn P n g→(∀ m,m<n→WLt P (y m) x)→(∀ m,(y m).key=x.key)→(∀ m k own A v W0,y m≠.parked k own A v W0)→((∀ m n k own A v W0,y m≠.sent n k own A v W0)∨((∃ n k own A v W0,x=.sent n k own A v W0∧∀ m,y m=.sent m k own A v W0)∧j∈L)) →
   (∀ m g',QuitsIn P m g'→WOk P φ W (y m) g' (Z j))→(∃ gs' W' ops Z' l' L' buf',runT P (crowd gs W sl) j=(.next (crowd gs' W' sl),ops)∧LLt P l' l∧gs'[0]?=some g0∧Env A W W'∧zhu φ l' L' g0∧Cfg P φ pend own A gs' W' (t++ops) Z' l' L' buf' r):=by
  intro n y hq hlt1 hkey hnp hs hwok
  cases n with
  | zero=>rw [show g.status=_ from hq] at hrun;cases hrun
  | succ n =>
   rcases hq with hf | ⟨_,g',hst,hq'⟩
   ·rw [hf] at hrun;cases hrun
   ·have hr:=runT_crowd_go (P:=P) (sl:=sl) (i:=j) hg (by rw [hj0];exact hst W)
    rw [h.still h0 hm hj (fun _=>rfl)] at hr
    refine⟨_,_,_,Z,l.set j (y n),L,buf,hr,.mk hx (hlt1 n (Nat.lt_succ_self n)),?_,.refl,zhQ hm (hnp n),?_⟩
    ·rw [Array.getElem?_setIfInBounds_ne hj];exact h0
    ·rw [show MemOp.ofEvents j g.frame.fn g.frame.place #[]=#[] from rfl,Array.append_empty]
     refine⟨by rw [Array.size_setIfInBounds];exact h.zc,h.z0,by simp [h.len],by simpa using h.pos,?_,zju h.ok (fun i x g _ _ hw=>hw) (hwok n g' hq'),?_,h.cap,zcb h.noPark fun _=>hnp n,h.chan,h.bsize,?_,zcB h.sentIn ?_,h.nodup,h.zero⟩
     ·rw [List.getElem?_set_ne hj];exact h.head
     ·rw [zlq hx (hkey n)];exact h.perm
     ·intro i j' hi
      obtain⟨v,hb,hsa⟩:=h.fifo i j' hi
      refine⟨v,hb,?_⟩
      by_cases e:j=j'
      ·subst e
       rcases hs with hs | ⟨⟨n2,k2,own2,A2,v2,W2,rfl,hy⟩,_⟩
       ·exfalso
        obtain⟨⟨n3,k3,own3,A3,W3,h3⟩,_⟩:=hsa
        rw [hx] at h3
        cases h3
        have:=hlt1 n (Nat.lt_succ_self n)
        generalize hyn:y n=yn at this
        cases this with
        | quitS=>exact hs n _ _ _ _ _ _ hyn
       ·obtain⟨⟨n3,k3,own3,A3,W3,h3⟩,h4⟩:=hsa
        rw [hx] at h3
        cases h3
        exact⟨⟨n,_,_,_,_,by rw [zeS hx,hy]⟩,h4⟩
      ·exact hsa.set e
     ·rcases hs with hs | ⟨_,hs⟩
      ·exact .inl (hs n)
      ·exact .inr hs
 cases x with
 | parked k own A v W0 =>
  obtain⟨_,_,_,_,g2,zz,n,rfl,_⟩:=hok
  cases hrun
 | gone n =>
  exact .inl (leave (n:=n) (fun m=>.gone m) hok.1 (fun m hm=>.quitG hm) (fun _=>rfl) (fun _ _ _ _ _ _=>by simp) (.inl fun _ _ _ _ _ _ _=>by simp) (fun m g' hq=>⟨hq,hok.2⟩))
 | sent n k own A v W0 =>
  exact .inl (leave (n:=n) (fun m=>.sent m k own A v W0) hok.1 (fun m hm=>.quitS hm) (fun _=>rfl) (fun _ _ _ _ _ _=>by simp) (.inr ⟨⟨n,k,own,A,v,W0,rfl,fun _=>rfl⟩,h.sentIn _ _ _ _ _ _ _ hx⟩) (fun m g' hq=>⟨hq,hok.2⟩))
 | live k ownj Aj g1 W0 =>
  obtain⟨rfl,hz,henv,hon,hwk⟩:=hok
  have hjL:j∉L:=h.notIn hx (by intros;simp)
  cases hwk with
  | step hr h1 h2 =>
   left
   obtain⟨g',W1,es,hst,hd,_⟩:=h1 W henv
   have hrr:=runT_crowd_go (P:=P) (sl:=sl) (i:=j) hg (by rw [hj0];exact hst)
   rw [h.still h0 hm hj (h.chanKeep hz hd)] at hrr
   refine⟨_,_,_,setZ Z j (some ⟨grow ownj W W1,grow Aj W W1⟩),l.set j (.live k (grow ownj W W1) (grow Aj W W1) g' W1),L,buf,hrr,.mk hx (.step henv hst),?_,h.zc.env (Ne.symm hj) hz h.z0 hd,zhQ hm (by intros;simp),?_⟩
   ·rw [Array.getElem?_setIfInBounds_ne hj];exact h0
   ·refine⟨by rw [Array.size_setIfInBounds];exact h.zc.go hlt hz hd,?_,by simp [h.len],by simpa using h.pos,?_,zju h.ok (fun i x g hi hij hw=>?_) ?_,?_,h.cap,zcb h.noPark (by intros;simp),fun ho=>(h.chanKeep hz hd ho).trans (h.chan ho),h.bsize,?_,zcB h.sentIn (.inl (by intros;simp)),h.nodup,h.zero⟩
    ·rw [zas _ _ (Ne.symm hj)];exact h.z0
    ·rw [List.getElem?_set_ne hj];exact h.head
    ·rw [zas _ _ hij]
     exact hw.env fun zz hzz=>h.zc.env hij hz hzz hd
    ·exact⟨rfl,zao ..,.refl,hon,h2 W g' W1 es henv hst⟩
    ·exact zgU h.perm hx rfl
    ·intro i j' hi
     obtain⟨v,hb,hsa⟩:=h.fifo i j' hi
     have hne:j'≠j:=by rintro rfl;exact hjL (List.mem_of_getElem? hi)
     exact⟨v,hb,(hsa.app (znD hne)).set (Ne.symm hne)⟩
  | send hr v z hh =>
   obtain⟨hpost,g2,q,hst,hq⟩:=hh W henv
   have hst' : stepG P (j == 0) g W=.comm g2 #[scase φ.c v z] true .send W #[]:=by rw [hj0];exact hst
   have hlow:∀ x,Aj x→x≠φ.c:=fun x hx=>(h.zc.low j _ x hz hx).2 hon
   rcases hm with hmr | ⟨⟨gm,zm,okm,rfl⟩,rfl,_,hnp⟩
   ·left
    have hpn:partners (gs.setIfInBounds j ph) φ.c false=[]:=partners_nil fun i x hx=>by
     rcases h.offers h0 hx φ.c with ⟨_,_,rfl⟩ | h1
     ·exact offersAt_of_not_blocked (by rw [hmr];simp) ..
     ·exact h1
    by_cases hcap:φ.cap=0
    ·
     have hb0:buf=#[]:=Array.eq_empty_of_size_eq_zero (by rw [h.bsize,h.zero hcap];rfl)
     have hch:=h.chan hon
     have hrr:=crowd_waits (P:=P) (sl:=sl) hg hst' (fun cc hcc=>by
      rw [Array.mem_singleton.1 hcc]
      exact ways_send_none hch (by rw [hcap];exact Nat.zero_le _) hpn)
     refine⟨_,_,_,Z,l.set j (.parked k ownj Aj v W),L,buf,hrr,.mk hx .park,?_,.refl,.inl hmr,?_⟩
     ·rw [Array.getElem?_setIfInBounds_ne hj];exact h0
     ·rw [show MemOp.ofEvents j g.frame.fn g.frame.place #[]=#[] from rfl,Array.append_empty]
      refine⟨by rw [Array.size_setIfInBounds];exact h.zc,h.z0,by simp [h.len],by simpa using h.pos,?_,zju h.ok (fun i x g _ _ hw=>hw) ⟨hz,.refl,hpost,hon,g2,z,q,rfl,hq⟩,?_,h.cap,zcb h.noPark (fun hc=>(hc hcap).elim),h.chan,h.bsize,?_,zcB h.sentIn (.inl (by intros;simp)),h.nodup,h.zero⟩
      ·rw [List.getElem?_set_ne hj];exact h.head
      ·exact zgU h.perm hx rfl
      ·rw [h.zero hcap];intro i j' hi;cases hi
    ·
     have hch:=h.chan hon
     have hroom:buf.size<φ.cap:=by
      have hc:=h.cap.resolve_left hcap
      have hnd:(j :: L).Nodup:=List.nodup_cons.2 ⟨hjL,h.nodup⟩
      have:=zlR l (j :: L) hnd (by
       intro i hi
       rcases List.mem_cons.1 hi with rfl | hi
       ·exact⟨_,k,hx,rfl⟩
       ·obtain⟨i',hi'⟩:=List.getElem?_of_mem hi
        obtain⟨v,_,⟨n,k,own,A,W0,h1⟩,_⟩:=h.fifo i' i hi'
        exact⟨_,k,h1,rfl⟩)
      rw [h.perm.length_eq] at this
      rw [h.bsize]
      simp only [List.length_cons] at this
      omega
     have hrr:=crowd_send_room (P:=P) (sl:=sl) hg hst' hch hroom hpn
     rw [show MemOp.ofEvents j g.frame.fn g.frame.place #[]=#[] from rfl,Array.empty_append] at hrr
     refine⟨_,_,_,Z,l.set j (.sent q k ownj Aj v W),L++[j],buf.push v,hrr,.mk hx .send,?_,zaW fun x hx=>(h.zc.low 0 _ x h.z0 hx).2 hon,.inl hmr,?_⟩
     ·rw [Array.getElem?_setIfInBounds_ne hj];exact h0
     ·have m1:∀ n:Nat,Mute { g:=j,fn:=g2.frame.fn,pos:=g2.frame.place,act:=.send φ.c n }:=fun n=>⟨rfl,fun m hm=>by cases hm⟩
      have m2:∀ n:Nat,Mute { g:=j,fn:=g2.frame.fn,pos:=g2.frame.place,act:=.sendDone φ.c n }:=fun n=>⟨rfl,fun m hm=>by cases hm⟩
      have hnt:∀ j' : Nat,∀ op∈(#[{ g:=j,fn:=g2.frame.fn,pos:=g2.frame.place,act:=.send φ.c (r+L.length) },{ g:=j,fn:=g2.frame.fn,pos:=g2.frame.place,act:=.sendDone φ.c (r+L.length) }]:Trace),op.g=j'→op.act.touch?=none:=by
       intro j' op hop _
       simp only [List.mem_toArray,List.mem_cons,List.not_mem_nil,or_false] at hop
       rcases hop with rfl | rfl<;>rfl
      refine⟨?_,h.z0,by simp [h.len],by simpa using h.pos,?_,zju h.ok (fun i x g _ _ hw=>hw.env fun zz hzz=>zaW fun y hy=>(h.zc.low i zz y hzz hy).2 hon) ⟨hq,hz,zaW hlow,hpost⟩,?_,h.cap,zcb h.noPark (by intros;simp),fun _=>?_,by simp [h.bsize],?_,zcB (fun j n k own A v W0 hjj=>List.mem_append.2 (.inl (h.sentIn j n k own A v W0 hjj))) (.inr (by simp)),?_,fun hc=>(hcap hc).elim⟩
      ·rw [zd1,Array.size_setIfInBounds]
       exact (((h.zc.mute (m1 _) hlt).mute (m2 _) hlt)).world (size_setChan ..)
      ·rw [List.getElem?_set_ne hj];exact h.head
      ·exact zgU h.perm hx rfl
      ·rw [zdi (h.zc.chan hon),List.length_append];rfl
      ·intro i j' hi
       rcases Nat.lt_or_ge i L.length with hil | hil
       ·rw [List.getElem?_append_left hil] at hi
        obtain⟨v',hb,hsa⟩:=h.fifo i j' hi
        have hne:j'≠j:=by rintro rfl;exact hjL (List.mem_of_getElem? hi)
        refine⟨v',?_,(hsa.app (hnt j')).set (Ne.symm hne)⟩
        rw [Array.getElem?_push_lt (by rw [h.bsize];exact hil)]
        rw [Array.getElem?_eq_getElem (by rw [h.bsize];exact hil)] at hb
        exact hb
       ·rw [List.getElem?_append_right hil] at hi
        have hi0:i=L.length:=by
         rcases Nat.eq_or_lt_of_le hil with e | e
         ·exact e.symm
         ·rw [List.getElem?_eq_none (by simp;omega)] at hi;cases hi
        subst hi0
        simp only [Nat.sub_self,List.getElem?_cons_zero,Option.some.injEq] at hi
        subst hi
        refine⟨v,by rw [← h.bsize];simp,⟨q,k,ownj,Aj,W,zeS hx⟩,t.size,{ g:=j,fn:=g2.frame.fn,pos:=g2.frame.place,act:=.send φ.c (r+L.length) },by rw [zd1,Array.getElem?_push,if_neg (by simp)];simp,rfl,rfl,fun i op hi hg hs=>?_⟩
        rcases getElem?_append_cases hi with ⟨h1,_⟩ | ⟨_,h1⟩
        ·exact h1
        ·rw [hnt _ op h1 hg] at hs;cases hs
      ·rw [List.nodup_append]
       refine⟨h.nodup,by simp,fun a ha b hb=>?_⟩
       rw [List.mem_singleton.1 hb]
       rintro rfl
       exact hjL ha
   ·
    right
    have hb0:buf=#[]:=Array.eq_empty_of_size_eq_zero (by rw [h.bsize];rfl)
    subst hb0
    have hch:=h.chan hon
    have hpn:partners (gs.setIfInBounds j ph) φ.c false=[(0,0)]:=by
     rw [partners_one (j:=0) (g:=parked gm #[rcase φ.c zm] (.recv okm)) (by rw [Array.getElem?_setIfInBounds_ne hj];exact h0) fun i x hi hx=>?_,offersAt_parked_recv,if_pos rfl]
     ·rfl
     ·rcases h.offers h0 hx φ.c with ⟨e,_⟩ | h1
      ·exact (hi e).elim
      ·exact h1
    have hrr:=crowd_send_meets (P:=P) (sl:=sl) hg hst' hch (Ne.symm hj) h0 hpn
    rw [show MemOp.ofEvents j g.frame.fn g.frame.place #[]=#[] from rfl,Array.empty_append] at hrr
    obtain⟨hkp,hperm⟩:=zfm (y:=.gone q) h.perm hx rfl rfl
    refine⟨gm,zm,okm,_,_,_,setZ (setZ Z j none) 0 (some ⟨fun b=>own b∨ownj b,fun b=>A b∨Aj b⟩),l.set j (.gone q),k,ownj,Aj,v,W,rfl,hrr,hkp,hpost,zaW hlow,zaW fun x hx=>(h.zc.low 0 _ x h.z0 hx).2 hon,?_,?_,fun x hx=>h.zc.dis j 0 _ _ x hj hz h.z0 hx⟩
    ·rw [Array.getElem?_setIfInBounds_ne hj];exact zdS h0
    ·have m1:∀ (i:Nat) (f:FuncId) (p:String) (n:Nat),Mute { g:=i,fn:=f,pos:=p,act:=.send φ.c n }:=fun _ _ _ n=>⟨rfl,fun m hm=>by cases hm⟩
     have m2:∀ (i:Nat) (f:FuncId) (p:String) (n:Nat),Mute { g:=i,fn:=f,pos:=p,act:=.sendDone φ.c n }:=fun _ _ _ n=>⟨rfl,fun m hm=>by cases hm⟩
     have m3:∀ (i:Nat) (f:FuncId) (p:String) (n m:Nat),Mute { g:=i,fn:=f,pos:=p,act:=.recv φ.c n m }:=fun _ _ _ n _=>⟨rfl,fun m hm=>by cases hm⟩
     have m4:∀ (i:Nat) (f:FuncId) (p:String) (n:Nat),Mute { g:=i,fn:=f,pos:=p,act:=.recvDone φ.c n }:=fun _ _ _ n=>⟨rfl,fun m hm=>by cases hm⟩
     refine⟨?_,zao ..,by simp [h.len],by simpa using h.pos,?_,zju (gs:=gs.setIfInBounds 0 _) (W:=W) (Z:=Z) (fun i x g hi hx hg=>h.ok i x g hi hx (by rw [Array.getElem?_setIfInBounds_ne (Ne.symm hi)] at hg;exact hg)) (fun i x g hi hij hw=>?_) ⟨hq,?_⟩,hperm,?_,zcb h.noPark (by intros;simp),fun _=>?_,rfl,fun i j' hi=>(by cases hi),zcB h.sentIn (.inl (by intros;simp)),List.nodup_nil,fun _=>rfl⟩
     ·rw [zc3,Array.size_setIfInBounds,Array.size_setIfInBounds]
      have hz4:=((((h.zc.mute (m1 j g2.frame.fn g2.frame.place (r+0)) hlt).mute (m3 0 gm.frame.fn gm.frame.place r φ.cap) h.pos).mute (m2 j g2.frame.fn g2.frame.place (r+0)) hlt).mute (m4 0 gm.frame.fn gm.frame.place r) h.pos)
      refine (hz4.take (p:=t.size) (q:=t.size+3) h.z0 hz hj h.pos (x:={ g:=j,fn:=g2.frame.fn,pos:=g2.frame.place,act:=.send φ.c (r+0) }) (y:={ g:=0,fn:=gm.frame.fn,pos:=gm.frame.place,act:=.recvDone φ.c r }) (c:=φ.c) (k:=r) ?_ rfl rfl ?_ rfl rfl ?_).world (size_setChan ..)
      ·exact zpy ..
      ·exact zpz ..
      ·intro i op hi hg hs
       rw [← zc3] at hi
       rcases getElem?_append_cases hi with ⟨h1,_⟩ | ⟨_,h1⟩
       ·exact h1
       ·simp only [List.mem_toArray,List.mem_cons,List.not_mem_nil,or_false] at h1
        rcases h1 with rfl | rfl | rfl | rfl<;>cases hs
     ·rw [List.getElem?_set_ne hj];exact h.head
     ·rw [zas _ _ hi,zas _ _ hij]
      exact hw.env fun zz hzz=>zaW fun y hy=>(h.zc.low i zz y hzz hy).2 hon
     ·rw [zas _ _ hj,zao]
     ·refine h.cap.imp id fun hc=>?_
      rw [List.length_erase_of_mem hkp];omega
     ·rw [zdi (h.zc.chan hon)];rfl
end
end Go.Con
