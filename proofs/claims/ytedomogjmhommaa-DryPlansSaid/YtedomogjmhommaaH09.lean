import Derived.Test.YtedomogjmhommaaH08
import Derived.Test.YtedomogjmhommaaH02
import Derived.Maps.RangeWalk
import Derived.Sort.Statements
set_option linter.all false
set_option maxRecDepth 100000
set_option maxHeartbeats 8000000
namespace Go.Proofs.Ytedomogjmhommaa
open Go.RowKit
theorem bset {B:Nat} {a w' : World} (h:Below B a w') {b i:Nat} {v:Value} (hb:B≤b):Below B a (w'.setCell ⟨b,i,none⟩ v):=h.setCell (by exact hb) _
end Go.Proofs.Ytedomogjmhommaa
namespace Go.Proofs.Ytedomogjmhommaa
open Go.RowKit
def orF:List Int→Int
 | []=>0
 | x :: xs=>if x≠0 then x else orF xs
theorem zpC {xs:List Int} {k:Nat} {x:Int} (h:xs[k]?=some x):orF (xs.drop k)=if x≠0 then x else orF (xs.drop (k+1)):=by
 have h1:=(List.getElem?_eq_some_iff.1 h).1
 rw [List.drop_eq_getElem_cons h1]
 rw [List.getElem?_eq_getElem h1,Option.some.injEq] at h
 rw [h]
 rfl
theorem zp7 {W:World} {b:Nat} {x1 x2 x3:Int} (hb:b=W.heap.size):Sl (W.alloc (.cells #[num x1,num x2,num x3] 3)) (.slice (some ⟨b,0,none⟩) 3 3) 1 ([x1,x2,x3].map one):=by
 have g:(W.alloc (.cells #[num x1,num x2,num x3] 3)).heap[b]?=some (.cells #[num x1,num x2,num x3] 3):=by rw [hb];exact zaT
 refine⟨3,.inr ⟨b,0,rfl,zav g,fun j k l x hj hk=>?_⟩⟩
 refine zaa g ?_
 rw [List.getElem?_map] at hj
 match j,hj with
 | 0,hj=>cases hj;match k,hk with
  | 0,hk=>cases hk;rfl
 | 1,hj=>cases hj;match k,hk with
  | 0,hk=>cases hk;rfl
 | 2,hj=>cases hj;match k,hk with
  | 0,hk=>cases hk;rfl
def zc1 (a b:St):Int:=orF [a.w-b.w,a.c-b.c,a.h-b.h]
def za4 (a b:St):Bool:=if a.w≠b.w then decide (a.w<b.w) else if a.c≠b.c then decide (a.c<b.c) else decide (a.h<b.h)
theorem zbk (a b:St):decide (zc1 a b<0)=za4 a b:=by
 unfold zc1 za4 orF
 by_cases h1:a.w=b.w
 ·by_cases h2:a.c=b.c
  ·simp [h1,h2,orF]
   split<;>omega
  ·have:¬ a.c-b.c=0:=by omega
   simp [h1,h2,orF,this]
   omega
 ·have:¬ a.w-b.w=0:=by omega
  simp [h1,this]
  omega
end Go.Proofs.Ytedomogjmhommaa
namespace Go.Proofs.Ytedomogjmhommaa
open Go.RowKit Go.WideMaps
theorem inv3 {v:Value} {ls:List Lit} {d:Nat} (h:Try.prog.keyLits (d+1) 3 [v]=some ls):∃ n,v=num n∧I64 n:=by
 unfold Program.keyLits at h
 rw [Try.underlying3] at h
 cases v<;>simp at h
 obtain⟨⟨rfl,hw⟩,_⟩:=h
 refine⟨_,rfl,?_⟩
 have e1:IntKind.i64.min=-9223372036854775808:=rfl
 have e2:IntKind.i64.max=9223372036854775807:=rfl
 simp [Lit.wf,e1,e2] at hw
 unfold I64
 omega
theorem zqw {v:Value} {l:Lit} (h:keyOf Try.prog 24 v=some l):∃ s:St,v=s.val∧StI s:=by
 obtain⟨n,hn⟩:=zo9
 unfold keyOf at h
 rw [Try.underlying24,hn] at h
 simp only [zjn,Bool.true_and] at h
 split at h
 case isFalse=>cases h
 rename_i hf
 cases v<;>simp [Value.formed,Try.underlying24,zei] at hf
 rename_i cs
 obtain⟨cs⟩:=cs
 match cs,hf with
 | [a,b,c],_ =>
 rw [show (Value.agg ⟨[a,b,c]⟩).cells.toList=[a,b,c] from rfl] at h
 unfold Program.keyLits at h
 rw [Try.underlying24] at h
 cases ha:Try.prog.keyLits (n+2) 3 [a] with
 | none=>simp [zei,cells3,ha] at h
 | some la =>
 cases hb:Try.prog.keyLits (n+2) 3 [b] with
 | none=>simp [zei,cells3,ha,hb] at h
 | some lb =>
 cases hc:Try.prog.keyLits (n+2) 3 [c] with
 | none=>simp [zei,cells3,ha,hb,hc] at h
 | some lc =>
 obtain⟨x,rfl,hx⟩:=inv3 (d:=n+1) ha
 obtain⟨y,rfl,hy⟩:=inv3 (d:=n+1) hb
 obtain⟨z,rfl,hz⟩:=inv3 (d:=n+1) hc
 exact⟨⟨x,y,z⟩,rfl,hx,hy,hz⟩
theorem ziR {s t:St} (h:s.val=t.val):s=t:=by
 cases s
 cases t
 simp only [Value.agg.injEq,Array.mk.injEq,List.cons.injEq,Value.int.injEq,true_and,and_true] at h
 simp [h]
def zoi (D:DataW Unit) (X:St→Prop):Prop:=Maps.IsMap D∧(∀ s l,keyOf Try.prog 24 s.val=some l→(Maps.has D l=true↔X s))∧(∀ s,X s→StI s)∧∀ s l zd,keyOf Try.prog 24 s.val=some l→X s→D.atKey l zd=.lit (.bool true)
def SetM (w:World) (b n:Nat) (X:St→Prop):Prop:=∃ D:DataW Unit,w.ownsMap Try.prog 24 (plainElem Try.prog 4) b n D∧zoi D X
theorem zgc {w:World} {b:Nat} (h:w.heap[b]?=some (.map #[] 0)):SetM w b 0 (fun _=>False) :=
 ⟨.map [],⟨#[],0,h,⟨by simp,MapKept.stamped_empty 0,by simp⟩,Nat.le_refl _,rfl⟩,⟨⟨_,rfl⟩,fun s l _=>by simp [Maps.has],fun _ h=>h.elim,fun _ _ _ _ h=>h.elim⟩⟩
theorem SetM.kept {w w' : World} {b n:Nat} {X:St→Prop} {row:Option Nat} (h:SetM w b n X) (hg:w.grownBy w' row) (hne:some b≠row):SetM w' b n X:=by
 obtain⟨D,h1,h2⟩:=h
 exact⟨D,h1.kept hg hne,h2⟩
theorem zgN {D:DataW Unit} {X:St→Prop} (h:zoi D X) {s:St} {l:Lit} (hl:keyOf Try.prog 24 s.val=some l):zoi (D.put l (.lit (.bool true))) (fun t=>X t∨t=s):=by
 obtain⟨h1,h2,h3,h4⟩:=h
 have same:∀ (t:St) (l' : Lit),keyOf Try.prog 24 t.val=some l'→l'=l→t=s:=fun t l' ht e=>ziR (K24.inj (e ▸ ht) hl)
 refine⟨?_,fun t l' ht=>?_,fun t ht=>?_,fun t l' zd ht hX=>?_⟩
 ·obtain⟨es,rfl⟩:=h1
  exact⟨_,rfl⟩
 ·by_cases e:l'=l
  ·subst e
   have:=same t _ ht rfl
   subst this
   simp [Maps.has_put_same h1 (K24.key hl)]
  ·rw [Maps.has_put_other e,h2 t l' ht]
   constructor
   ·exact .inl
   ·rintro (h | rfl)
    ·exact h
    ·rw [ht] at hl;exact absurd (Option.some.inj hl) e
 ·rcases ht with ht | rfl
  ·exact h3 t ht
  ·obtain⟨s',e,hs'⟩:=zqw hl
   rw [ziR e]
   exact hs'
 ·by_cases e:l'=l
  ·subst e
   exact Maps.atKey_put_same h1 (K24.key hl) _ _
  ·rw [Maps.atKey_put_other e]
   rcases hX with hX | rfl
   ·exact h4 t l' zd ht hX
   ·rw [ht] at hl;exact absurd (Option.some.inj hl) e
def RgS (w:World) (b r n:Nat) (X:St→Prop) (xs:List St) (cnt:Nat):Prop:=∃ (D:DataW Unit) (left:Lit→Bool),w.ranges Try.prog 24 (plainElem Try.prog 4) b r n D left cnt∧zoi D X ∧
 ∀ s l,keyOf Try.prog 24 s.val=some l→(left l=true↔X s∧s∉xs)
theorem RgS.left_eq {w:World} {b r n:Nat} {X:St→Prop} {xs:List St} {cnt:Nat} (h:RgS w b r n X xs cnt):w.rangeLeft b r=cnt:=by
 obtain⟨D,left,h1,_⟩:=h
 exact h1.left_eq
theorem RgS.kept {w w' : World} {b r n:Nat} {X:St→Prop} {xs:List St} {cnt:Nat} {row:Option Nat} (h:RgS w b r n X xs cnt) (hg:w.grownBy w' row) (h1:some b≠row) (h2:some r≠row):RgS w' b r n X xs cnt:=by
 obtain⟨D,left,k1,k2,k3⟩:=h
 exact⟨D,left,k1.kept hg h1 h2,k2,k3⟩
theorem RgS.lt {w:World} {b r n:Nat} {X:St→Prop} {xs:List St} {cnt:Nat} (h:RgS w b r n X xs cnt):r<w.heap.size:=by
 obtain⟨D,left,h1,_⟩:=h
 exact h1.lt
section
variable {F:Fence} {nF:Nat} {w:World} {ops:Array Oper} {rest:List Oper} {o:Oper} {a:Act} {Q:Exit→Act→World→Prop}
theorem zcK (hg:o.guard=none) (m:Operand) (t:TypeId) (hop:o.op=Op.range t m) (ht:Try.prog.underlying t=some (.map 24 4)) (b n:Nat) (X:St→Prop) (hm:a.eval m=.map (some b)) (h:SetM w b n X)
  (hK:∀ w',RgS w' b w.heap.size n X [] (w'.rangeLeft b w.heap.size)→Nx w w'→w'.heap.size=w.heap.size+1→w'.rangeLeft b w.heap.size≤n→wpListIn F nF Try.prog ops Q rest (a.put o.dst (.pointer (some ⟨w.heap.size,0,none⟩))) w'):wpListIn F nF Try.prog ops Q (o :: rest) a w:=by
 refine wpListIn_plain hg fun K' hK'=>?_
 obtain⟨D,hown,hset⟩:=h
 obtain⟨w',hrun,r1,r2,r3⟩:=hown.range K24 ht
 unfold Oper.wpIn
 refine⟨by simp [Oper.about,hop],?_⟩
 rw [Oper.semAt_plain F _ _ (by rw [hop];intro c hc';cases hc')]
 simp [execOp,hop,hm,hrun,Result.andThen]
 refine hK' _ _ (hK w' ⟨D,Maps.has D,by rw [r1.left_eq];exact r1,hset,fun s l hl=>?_⟩ ⟨r2.os,r2.tape,r2.output,r2.size,fun i hi=>r2.block i hi (by simp)⟩ r3 (by rw [r1.left_eq];exact hown.size_le))
 rw [hset.2.1 s l hl]
 simp
theorem zcV (hg:o.guard=none) (it:Operand) (hop:o.op=Op.next it false) (b r n:Nat) (X:St→Prop) (xs:List St) (cnt:Nat) (hit:a.eval it=.pointer (some ⟨r,0,none⟩)) (h:RgS w b r n X xs cnt)
  (hDone:(∀ s,X s→s∈xs)→wpListIn F nF Try.prog ops Q rest (a.put o.dst (.tuple #[.bool false])) w)
  (hMore:∀ (s:St) (v:Value) (w' : World) (cnt' : Nat),X s→s∉xs→RgS w' b r n X (s :: xs) cnt'→cnt' < cnt→w.grownBy w' (some r)→w'.heap.size=w.heap.size→(Instr.entry (.pointer (some ⟨r,0,none⟩))).run Try.prog w'=.ok (.tuple #[s.val,v]) w'→wpListIn F nF Try.prog ops Q rest (a.put o.dst (.tuple #[.bool true,s.val,v])) w') :
  wpListIn F nF Try.prog ops Q (o :: rest) a w:=by
 refine wpListIn_plain hg fun K' hK'=>?_
 obtain⟨D,left,h1,h2,h3⟩:=h
 unfold Oper.wpIn
 refine⟨by simp [Oper.about,hop],?_⟩
 rw [Oper.semAt_plain F _ _ (by rw [hop];intro c hc';cases hc')]
 rcases h1.next K24 o.type with ⟨h0,hl,hrun⟩ | ⟨key,v,kl,y,w',cnt',hkey,hlk,hv,hat,hrun,hrg,hlt,hgr,hsz,hen⟩
 ·simp [execOp,hop,hit,hrun,Result.andThen]
  refine hK' _ _ (hDone fun s hs=>?_)
  obtain⟨l,hl'⟩:=zl1 (h2.2.2.1 s hs)
  have:=(h3 s l hl')
  rw [hl l] at this
  exact Decidable.byContradiction fun hn=>by have:=this.2 ⟨hs,hn⟩;cases this
 ·obtain⟨s,rfl,hsI⟩:=zqw hkey
  simp [execOp,hop,hit,hrun,Result.andThen]
  obtain⟨hX,hn⟩:=(h3 s kl hkey).1 hlk
  refine hK' _ _ (hMore s v w' cnt' hX hn ⟨D,_,hrg,h2,fun t l ht=>?_⟩ hlt hgr hsz hen)
  have hk:WideAt.IsKeyLit l:=K24.key ht
  by_cases e:l=kl
  ·subst e
   have:t=s:=ziR (K24.inj ht hkey)
   subst this
   simp [WideAt.sameKey_self hk]
  ·have hsk:l.sameKey kl=false:=by
    cases hs:l.sameKey kl
    ·rfl
    ·exact absurd (WideAt.sameKey_eq hs) e
   have hts:t≠s:=fun e2=>e (by subst e2;rw [ht] at hkey;exact Option.some.inj hkey)
   simp [hsk,h3 t l ht,hts]
end
end Go.Proofs.Ytedomogjmhommaa
namespace Go.Proofs.Ytedomogjmhommaa
open Go.RowKit
def zfX (xs:List St):List St:=xs.mergeSort fun a b=>!decide (zc1 b a<0)
abbrev zqp (m:Nat):Prop:=∀ (base:Nat) (v:Value) (xs:List St) (W:World),(∀ s∈xs,s.Ok m)→xs.length≤1000000000000→base≤W.heap.size→zq4 W base v xs →
 CallsIn FW 0 Try.prog 94 #[v,.func (.func 63) #[] #[]] W fun e w'=>e=.returned (.tuple #[])∧W.grownBy w' v.ownBlock∧w'.ownsRow base 24 3 v xs.length ((zfX xs).map St.cells).flatten
theorem zjI (m:Nat) (hSort:zqp m) (b n:Nat) (X:St→Prop) (w:World) (hX:SetM w b n X) (hok:∀ s,X s→s.Ok m) (hn:n≤1000000000000) :
  CallsIn FW 0 Try.prog 62 #[.map (some b),.func (.func 63) #[] #[]] w fun e w'=>∃ (v:Value) (xs:List St),e=.returned v∧Nx w w'∧w'.ownsRow w.heap.size 24 3 v xs.length ((zfX xs).map St.cells).flatten∧xs.Nodup∧∀ s,s∈xs↔X s:=by
 have hbl:b<w.heap.size:=by obtain⟨D0,hown0,_⟩:=hX;exact hown0.lt
 gi_enter Try.func62,Try.ntmps62
 gi_wp2_with (first | (refine zcK rfl _ 104 rfl Try.underlying104 b n X rfl hX ?_;intro w1 hr1 n1 s1 hc1;simp only [Act.put,List.setIfInBounds_toArray,List.set_cons_succ,List.set_cons_zero]) | gi_in)
 generalize hR:w.heap.size=R at *
 gi_loopw [5] (fun v wr=>∃ (zs:List St) (cnt:Nat),RgS wr b R n X zs.reverse cnt∧wr.ownsRow (R+1) 24 3 v zs.length (zs.map St.cells).flatten∧zs.Nodup∧(∀ s∈zs,X s)∧Nx w wr∧zs.length+cnt≤n∧R<wr.heap.size) (fun _ wr=>wr.rangeLeft b R)
 case atStart=>exact⟨[],_,hr1,World.ownsRow_nil ..,List.nodup_nil,fun _ h=>(List.not_mem_nil h).elim,n1,by simpa using hc1,by omega⟩
 case round =>
  obtain⟨zs,cnt,hrg,hown,hnd,hXz,nr,hcnt,hRl⟩:=hrel
  have hleft:=Lib.hid hrg.left_eq
  gi_wp2_with (first | (refine zcV rfl _ rfl b R n X zs.reverse cnt rfl hrg ?_ ?_) | gi_in)
  ·intro hall
   have hiff:∀ s,s∈zs↔X s:=fun s=>⟨hXz s,fun h=>by simpa using hall s h⟩
   have k94:=hSort (R+1) u5 zs wr (fun s hs=>hok s (hXz s hs)) (by omega) (by omega) hown
   clear hall hrg hleft
   gi_wp2_with (first | (gi_at_call 94;refine CallsIn.mono k94 ?_;rintro e w3 ⟨rfl,hg3,hown3⟩) | gi_in)
   go_ret
   exact⟨_,zs,rfl,Below.grown nr hg3 (by have:=nr.size;omega) (fun g hg=>by have:=(hown.lt g hg).1;omega),zeV hown3 (by omega),hnd,hiff⟩
  ·intro s v2 w2 cnt' hXs hns hrg2 hlt hg2 hsz2 hen
   have hns' : s∉zs:=by simpa using hns
   have n2:Nx w w2:=Below.grown nr hg2 (by have:=nr.size;omega) (fun g hg=>by cases hg;omega)
   have hown2:=zbn (w':=w2) hown (fun g hg=>hg2.block g (hown.lt g hg).2 (fun e=>by have:=(hown.lt g hg).1;cases e;omega))
   have hR2:R<w2.heap.size:=by omega
   clear hrg hown hns
   gi_upto_region 5 with fail
   generalize hYn:w2.alloc _=Y
   obtain⟨nY,sY,gY⟩:=al1 hYn
   clear hYn hen
   rw [hsz2] at gY
   have y0:Y.cell? ⟨wr.heap.size,0,none⟩=some (num s.w):=zaa gY rfl
   have y1:Y.cell? ⟨wr.heap.size,1,none⟩=some (num s.c):=zaa gY rfl
   have y2:Y.cell? ⟨wr.heap.size,2,none⟩=some (num s.h):=zaa gY rfl
   have hownY:=zck hown2 nY
   have hrgY:=hrg2.kept (nY.grown none) (by simp) (by simp)
   have nwY:=n2.trans nY
   have hRY:R<Y.heap.size:=by omega
   clear gY sY hrg2 hsz2
   gi_wp2_with (first | (gi_at_builtin;refine zaP T69 rfl _ _ rfl rfl (R+1) _ zs.length (zs.map St.cells) rfl (zbi hownY _) (by simp) Y.heap.size s.cells rfl zaT rfl (by simp [Value.oneCell']) (by omega) (by omega) (by simp;omega) ?_;intro v' w7 hown7 hg7 hat7;simp only [Act.put,List.setIfInBounds_toArray,List.set_cons_succ,List.set_cons_zero]) | gi_in)
   have hrow:∀ g,u5.ownBlock=some g→R+1≤g:=fun g hg=>(hown2.lt g hg).1
   have hbR:b<Y.heap.size:=by omega
   have hrg7:=(hrgY.kept (zaj (Nx.refl Y) _ |>.grown none) (by simp) (by simp)).kept hg7 (fun e=>by have:=hrow b e.symm;omega) (fun e=>by have:=hrow R e.symm;omega)
   have hlz:(zs++[s]).reverse=s :: zs.reverse:=by simp
   rw [← hlz] at hrg7
   have hml:w7.rangeLeft b R<wr.rangeLeft b R:=by rw [hleft.out,hrg7.left_eq];exact hlt
   refine⟨⟨zs++[s],cnt',hrg7,?_,?_,?_,?_,?_,?_⟩,hml⟩
   ·rw [List.length_append,List.map_append];exact hown7
   ·rw [List.nodup_append];exact⟨hnd,by simp,fun a ha b hb=>by simp at hb;subst hb;exact fun e=>hns' (e ▸ ha)⟩
   ·intro y hy
    rcases List.mem_append.1 hy with hy | hy
    ·exact hXz y hy
    ·rw [List.mem_singleton.1 hy];exact hXs
   ·exact Below.grown (zaj nwY _) hg7 (zaj nwY _).size (fun g hg=>by have:=hrow g hg;omega)
   ·simp;omega
   ·have:=hg7.size;simp at this;omega
end Go.Proofs.Ytedomogjmhommaa
namespace Go.Proofs.Ytedomogjmhommaa
open Go.RowKit
theorem znG (u:Value) (xs:List Int) (w:World) (hu:Sl w u 1 (xs.map one)) (hl:xs.length≤1000000000):CallsIn FW 0 Try.prog 95 #[u] w fun e w'=>e=.returned (num (orF xs))∧w'=w:=by
 obtain⟨a,cap,rfl⟩:=hu.cases
 rw [List.length_map] at *
 have HU:=Lib.hid hu
 clear hu
 obtain⟨g,hg⟩:∃ g,orF xs=g:=⟨_,rfl⟩
 rw [hg]
 have HG:Hid (g=orF (xs.drop 0)):=by show _=_;rw [← hg,List.drop_zero]
 clear hg
 gi_enter Try.func95,Try.ntmps95
 gi_wp2
 gi_loopw [8] (fun i wr=>∃ k:Nat,k≤xs.length∧i=num k∧g=orF (xs.drop k)∧wr=w) (fun i _=>xs.length-(intOf i).toNat)
 case atStart=>exact⟨0,Nat.zero_le _,rfl,HG.out,rfl⟩
 case round =>
  obtain⟨k,hk,rfl,hgo,hw⟩:=hrel
  have hw:=hw.symm
  subst hw
  by_cases hlt:k<xs.length
  ·obtain⟨b,off,rfl,hbl,hcl⟩:=(HU.out).get (by simp;omega)
   have hh:xs[k]?=some xs[k]:=List.getElem?_eq_getElem hlt
   generalize xs[k]=x at hh
   have e0:=Sl.at1 hcl (Nx.refl w) hbl hh
   have hgo2:=Lib.hid (hgo.trans (zpC hh))
   clear hcl hh hgo
   by_cases h0:x=0
   ·have HR:=Lib.hid (hgo2.out.trans (if_neg (by simpa using h0)))
    have b1:(x != 0)=false:=by simp [h0]
    clear h0
    gi_wp2
    exact⟨⟨k+1,hlt,by simp,HR.out,by first | rfl | trivial⟩,by simp [intOf];omega⟩
   ·have HR:=Lib.hid (hgo2.out.trans (if_pos h0))
    have b1:(x != 0)=true:=by simp [h0]
    clear h0
    gi_wp2
    go_ret
    exact⟨by rw [HR.out]<;>rfl,rfl⟩
  ·obtain rfl:k=xs.length:=by omega
   have HR:Hid (g=0):=by show _=_;rw [hgo,List.drop_length];rfl
   clear hgo
   gi_wp2
   go_ret
   exact⟨by rw [HR.out]<;>rfl,rfl⟩
theorem zjw (a b:St) (n:Nat) (w:World) (ha:a.Ok n) (hb:b.Ok n) (hn:n≤4):CallsIn FW 0 Try.prog 63 #[a.val,b.val] w fun e w'=>e=.returned (num (zc1 a b))∧w'=((w.alloc (.cells #[num a.w,num a.c,num a.h] 24)).alloc (.cells #[num b.w,num b.c,num b.h] 24)).alloc (.cells #[num (a.w-b.w),num (a.c-b.c),num (a.h-b.h)] 3):=by
 have:=ha.w;have:=ha.c;have:=ha.h;have:=hb.w;have:=hb.c;have:=hb.h
 have w1:wrap64 (a.w-b.w)=a.w-b.w:=zcW (by omega)
 have w2:wrap64 (a.c-b.c)=a.c-b.c:=zcW (by omega)
 have w3:wrap64 (a.h-b.h)=a.h-b.h:=zcW (by omega)
 clear ha hb
 have k95:=fun (u:Value) (W:World) (h:Sl W u 1 ([a.w-b.w,a.c-b.c,a.h-b.h].map one))=>znG u [a.w-b.w,a.c-b.c,a.h-b.h] W h (by simp)
 have HD:Hid (zc1 a b=orF [a.w-b.w,a.c-b.c,a.h-b.h]):=rfl
 generalize zc1 a b=g at *
 gi_enter Try.func63,Try.ntmps63
 gi_wp2_with (first | (gi_at_call 95;refine CallsIn.mono (k95 _ _ (zp7 (by simp))) ?_;rintro e w4 ⟨rfl,rfl⟩) | gi_in)
 go_ret
 exact⟨by rw [HD.out]<;>rfl,rfl⟩
end Go.Proofs.Ytedomogjmhommaa
namespace Go.Proofs.Ytedomogjmhommaa
open Go.RowKit
theorem zhy (a b:St):za4 a b=true↔a.w<b.w∨(a.w=b.w∧(a.c<b.c∨(a.c=b.c∧a.h<b.h))):=by
 unfold za4
 by_cases h1:a.w=b.w
 ·by_cases h2:a.c=b.c
  ·simp [h1,h2]
  ·simp [h1,h2]
 ·simp [h1]
theorem zeh (a b:St):za4 a b=false↔¬ (a.w<b.w∨(a.w=b.w∧(a.c<b.c∨(a.c=b.c∧a.h<b.h)))):=by
 rw [← zhy,Bool.not_eq_true]
theorem before_irrefl (a:St):za4 a a=false:=by rw [zeh];omega
theorem before_trans {a b c:St} (h1:za4 a b=true) (h2:za4 b c=true):za4 a c=true:=by
 rw [zhy] at *
 omega
theorem zeA {a b c:St} (h1:za4 a b=false) (h2:za4 b c=false):za4 a c=false:=by
 rw [zeh] at *
 omega
theorem before_total {a b:St} (h1:za4 a b=false) (h2:za4 b a=false):a=b:=by
 rw [zeh] at *
 have e1:a.w=b.w:=by omega
 have e2:a.c=b.c:=by omega
 have e3:a.h=b.h:=by omega
 cases a
 cases b
 simp_all
abbrev StM (m:Nat):={ s:St // s.Ok m }
theorem swo (m:Nat):Go.Sort.SWO (fun x y:StM m=>decide (zc1 x.1 y.1<0)) where
 irrefl x:=by rw [zbk];exact before_irrefl _
 trans x y z h1 h2:=by rw [zbk] at *;exact before_trans h1 h2
 ntrans x y z h1 h2:=by rw [zbk] at *;exact zeA h1 h2
end Go.Proofs.Ytedomogjmhommaa
