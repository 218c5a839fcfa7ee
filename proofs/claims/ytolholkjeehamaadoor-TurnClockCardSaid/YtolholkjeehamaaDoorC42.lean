import Derived.Test.YtolholkjeehamaaDoorC41
import Derived.Test.YtolholkjeehamaaDoorC40
import Derived.Test.YtolholkjeehamaaDoorC02
import Derived.Test.YtolholkjeehamaaDoorC08
import Derived.Test.YtolholkjeehamaaDoorC11
set_option linter.all false
set_option maxRecDepth 100000
set_option maxHeartbeats 4000000
namespace Go.Proofs.YtolholkjeehamaaDoor
open Go.RowKit
def addL (l:List Int) (c:Int):List Int:=if c∈l then l else l++[c]
def Dit.cs (d:Dit):List Int:=d.swaps.map (·.1)++d.loans.map (·.1)
def Dit.chgK (d:Dit) (k:Nat):List Int:=(d.cs.take k).foldl addL []
theorem chgK_succ {d:Dit} {k:Nat} {c:Int} (h:d.cs[k]?=some c):d.chgK (k+1)=addL (d.chgK k) c:=by
 unfold Dit.chgK
 rw [List.take_add_one,h]
 simp
theorem addL_len (l:List Int) (c:Int):(addL l c).length≤l.length+1:=by
 unfold addL
 split<;>simp
theorem chgK_len (d:Dit):∀ k,(d.chgK k).length≤k:=by
 intro k
 unfold Dit.chgK
 have:∀ (l r:List Int),(l.foldl addL r).length≤r.length+l.length:=by
  intro l
  induction l with
  | nil=>intro r;simp
  | cons x l ih =>
   intro r
   rw [List.foldl_cons]
   have h1:=ih (addL r x)
   have h2:=addL_len r x
   simp only [List.length_cons]
   omega
 have h:=this (d.cs.take k) []
 rw [List.length_take] at h
 simp only [List.length_nil] at h
 omega
theorem changed110_any (d:Dit) (r:Rows6) (w:World) (hd:DitSl w d r) (hO:d.Ok) :
  CallsIn FL 0 Tryd.prog 110 #[d.val r] w fun e w'=>∃ v,e=.returned v∧Nx w w'∧Sl w' v 1 ((d.chgK d.cs.length).map fun x=>[num x]):=by
 obtain⟨W,hW,n0,hWs,cW⟩:=boxed w d r
 obtain⟨as',caps,es⟩:=hd.swaps.cases
 obtain⟨al',capl,el⟩:=hd.loans.cases
 rw [List.length_map] at es el
 have hvs:=hd.swaps.nx n0
 have hvl:=hd.loans.nx n0
 rw [es] at hvs
 rw [el] at hvl
 have nWW:Nx W W:=Below.refl _ _
 have c7:∀ x,Nx W x→x.cell? ⟨w.heap.size,7,none⟩=some (.slice as' d.swaps.length caps):=fun x hx=>(cW x hx 7 r.s rfl).trans (by rw [es])
 have c8:∀ x,Nx W x→x.cell? ⟨w.heap.size,8,none⟩=some (.slice al' d.loans.length capl):=fun x hx=>(cW x hx 8 r.l rfl).trans (by rw [el])
 have hs8:=hO.s8
 have hl8:=hO.l8
 have hcl' : d.cs.length=d.swaps.length+d.loans.length:=by simp [Dit.cs]
 clear cW es el hd
 gi_enter Tryd.func110,Tryd.ntmps110
 gi_wp2
 gi_loopw [3,4] (fun l i wr=>∃ k:Nat,k≤d.cs.length∧i=num k∧wr.ownsRow W.heap.size 3 1 l (d.chgK k).length ((d.chgK k).map num)∧Nx W wr) (fun _ i _=>d.cs.length-(intOf i).toNat)
 case atStart=>exact⟨0,Nat.zero_le _,rfl,by simpa [Dit.chgK] using World.ownsRow_nil W W.heap.size 3 1,nWW⟩
 case round =>
  obtain⟨k,hk,rfl,hown,n2⟩:=hrel
  have f7:=c7 _ n2
  have f8:=c8 _ n2
  obtain⟨va,vcap,rfl⟩:=(ownsRow_sl hown).cases
  simp only [List.length_map] at hown ⊢
  have hlen:=chgK_len d k
  by_cases hlt:k<d.cs.length
  ·by_cases hks:k<d.swaps.length
   ·obtain⟨b,off,ha,hbl,hcl⟩:=hvs.get (by simp;omega)
    subst ha
    have hx:d.swaps[k]?=some d.swaps[k]:=List.getElem?_eq_getElem hks
    have hxm:=(hO.sw _ (List.getElem_mem hks)).1
    generalize d.swaps[k]=x at hx hxm
    obtain⟨c,x2,x3⟩:=x
    obtain⟨g1,-,-⟩:=Sl.at3 hcl n2 hbl hx
    have hcs:d.cs[k]?=some c:=by
     unfold Dit.cs
     rw [List.getElem?_append_left (by simpa using hks),List.getElem?_map,hx];rfl
    have HK:=Lib.hid (chgK_succ hcs)
    dsimp only at hxm
    clear hcl hx hvs hvl c7 c8 hcs
    ·skip
     have hcb : -1000000000≤c∧c≤1000000000:=by omega
     gi_wp2
     generalize wr=W9 at *
     gi_loopw [6,7] (fun b i wr'=>∃ j:Nat,j≤(d.chgK k).length∧i=num j∧b=.bool (((d.chgK k).take j).any fun x=>decide (x=c))∧wr'=W9) (fun _ i _=>(d.chgK k).length-(intOf i).toNat)
     case atStart=>exact⟨0,Nat.zero_le _,rfl,rfl,rfl⟩
     case round =>
      obtain⟨j,hj,rfl,rfl,rfl⟩:=hrel
      by_cases hjl:j<(d.chgK k).length
      ·obtain⟨g,cap',ev,hgb⟩:=own_slice hown (by omega)
       simp only [Value.slice.injEq] at ev
       obtain⟨rfl,-,rfl⟩:=ev
       have hx:(d.chgK k)[j]?=some (d.chgK k)[j]:=List.getElem?_eq_getElem hjl
       obtain⟨q1,-⟩:=own_cell hown hx
       have hany:((d.chgK k).take (j+1)).any (fun x=>decide (x=c))=(((d.chgK k).take j).any (fun x=>decide (x=c)) || decide ((d.chgK k)[j]=c)):=by
        rw [List.take_add_one,hx,List.any_append];simp
       generalize (d.chgK k)[j]=x at q1 hany
       have HA:=Lib.hid hany
       have HO:=Lib.hid hown
       clear hx hany hown
       generalize ((d.chgK k).take j).any (fun x=>decide (x=c))=b at HA ⊢
       cases b with
       | true =>
        gi_wp2
        exact⟨⟨j+1,hjl,by simp,by rw [HA.out];rfl,trivial⟩,by simp [intOf];omega⟩
       | false =>
        gi_wp2
        exact⟨⟨j+1,hjl,by simp,by rw [HA.out];by_cases e:x=c<;>simp [e],trivial⟩,by simp [intOf];omega⟩
      ·obtain rfl:j=(d.chgK k).length:=by omega
       rw [List.take_length]
       have hmem:((d.chgK k).any fun x=>decide (x=c))=decide (c∈d.chgK k):=by
        rw [Bool.eq_iff_iff];simp
       rw [hmem]
       by_cases hin:c∈d.chgK k
       ·have hk1:d.chgK (k+1)=d.chgK k:=by rw [HK.out];unfold addL;rw [if_pos hin]
        have HR:Hid (wr.ownsRow W.heap.size 3 1 (.slice va (d.chgK k).length vcap) (d.chgK (k+1)).length ((d.chgK (k+1)).map num)):=by
         show World.ownsRow _ _ _ _ _ _ _
         rw [hk1];exact hown
        rw [decide_eq_true hin]
        clear hown hmem hin hk1
        gi_wp2
        exact⟨⟨k+1,by omega,by simp,HR.out,n2⟩,by simp [intOf];omega⟩
       ·have hk1:d.chgK (k+1)=d.chgK k++[c]:=by rw [HK.out];unfold addL;rw [if_neg hin]
        have hownA:=own_alloc hown (.cells #[num c] 3)
        have hnews:∀ (j:Nat) (x:Int),[c][j]?=some x→(wr.alloc (.cells #[num c] 3)).cell? ((⟨wr.heap.size,0,none⟩:Addr).add j)=some (num x):=by
         intro j x hj
         cases j with
         | zero=>simp at hj;subst hj;exact cell_new wr _ _ _ _ rfl
         | succ j=>simp at hj
        have nA:Nx W (wr.alloc (.cells #[num c] 3)):=n2.alloc (by exact n2.size) _
        have hge:=own_ge hown
        have hsz:=n2.size
        have HN:=Lib.hid hnews
        have HGE:=Lib.hid hge
        have HK1:=Lib.hid hk1
        rw [decide_eq_false hin]
        clear hown hmem hin hk1 hnews hge
        gi_wp2_with (first | (gi_at_builtin;refine at_append rfl _ _ rfl W.heap.size _ (d.chgK k) rfl hownA ⟨wr.heap.size,0,none⟩ 1 1 [c] rfl rfl HN.out (by simp;omega) (by simp;omega) ?_;intro v' w' r1 r2 r3 r4) | gi_in)
        exact⟨⟨k+1,by omega,by simp,by rw [HK1.out];exact r1,nA.grown r2 (fun q e=>HGE.out q e)⟩,by simp [intOf];omega⟩
   ·obtain⟨b,off,ha,hbl,hcl⟩:=hvl.get (by simp;omega)
    subst ha
    obtain⟨m,rfl⟩:∃ m,k=d.swaps.length+m:=⟨k-d.swaps.length,by omega⟩
    have hml:m<d.loans.length:=by omega
    have hx:d.loans[m]?=some d.loans[m]:=List.getElem?_eq_getElem hml
    have hxm:=(hO.lo _ (List.getElem_mem hml)).1
    generalize d.loans[m]=x at hx hxm
    obtain⟨c,x2,x3⟩:=x
    obtain⟨g1,-,-⟩:=Sl.at3 hcl n2 hbl hx
    have hcs:d.cs[d.swaps.length+m]?=some c:=by
     unfold Dit.cs
     rw [List.getElem?_append_right (by simp),List.getElem?_map]
     simp [hx]
    have HK:=Lib.hid (chgK_succ hcs)
    dsimp only at hxm
    have em:((d.swaps.length+m:Nat):Int)-(d.swaps.length:Int)=(m:Int):=by omega
    have hmod:IntKind.wrap .i64 (((d.swaps.length+m:Nat):Int)-(d.swaps.length:Int))=(m:Int):=by rw [em];exact IntWalk.i64_in _ (by omega)
    generalize hkk:d.swaps.length+m=k at *
    clear hcl hx hvs hvl c7 c8 hcs
    ·skip
     have hcb : -1000000000≤c∧c≤1000000000:=by omega
     gi_wp2
     generalize wr=W9 at *
     gi_loopw [6,7] (fun b i wr'=>∃ j:Nat,j≤(d.chgK k).length∧i=num j∧b=.bool (((d.chgK k).take j).any fun x=>decide (x=c))∧wr'=W9) (fun _ i _=>(d.chgK k).length-(intOf i).toNat)
     case atStart=>exact⟨0,Nat.zero_le _,rfl,rfl,rfl⟩
     case round =>
      obtain⟨j,hj,rfl,rfl,rfl⟩:=hrel
      by_cases hjl:j<(d.chgK k).length
      ·obtain⟨g,cap',ev,hgb⟩:=own_slice hown (by omega)
       simp only [Value.slice.injEq] at ev
       obtain⟨rfl,-,rfl⟩:=ev
       have hx:(d.chgK k)[j]?=some (d.chgK k)[j]:=List.getElem?_eq_getElem hjl
       obtain⟨q1,-⟩:=own_cell hown hx
       have hany:((d.chgK k).take (j+1)).any (fun x=>decide (x=c))=(((d.chgK k).take j).any (fun x=>decide (x=c)) || decide ((d.chgK k)[j]=c)):=by
        rw [List.take_add_one,hx,List.any_append];simp
       generalize (d.chgK k)[j]=x at q1 hany
       have HA:=Lib.hid hany
       have HO:=Lib.hid hown
       clear hx hany hown
       generalize ((d.chgK k).take j).any (fun x=>decide (x=c))=b at HA ⊢
       cases b with
       | true =>
        gi_wp2
        exact⟨⟨j+1,hjl,by simp,by rw [HA.out];rfl,trivial⟩,by simp [intOf];omega⟩
       | false =>
        gi_wp2
        exact⟨⟨j+1,hjl,by simp,by rw [HA.out];by_cases e:x=c<;>simp [e],trivial⟩,by simp [intOf];omega⟩
      ·obtain rfl:j=(d.chgK k).length:=by omega
       rw [List.take_length]
       have hmem:((d.chgK k).any fun x=>decide (x=c))=decide (c∈d.chgK k):=by
        rw [Bool.eq_iff_iff];simp
       rw [hmem]
       by_cases hin:c∈d.chgK k
       ·have hk1:d.chgK (k+1)=d.chgK k:=by rw [HK.out];unfold addL;rw [if_pos hin]
        have HR:Hid (wr.ownsRow W.heap.size 3 1 (.slice va (d.chgK k).length vcap) (d.chgK (k+1)).length ((d.chgK (k+1)).map num)):=by
         show World.ownsRow _ _ _ _ _ _ _
         rw [hk1];exact hown
        rw [decide_eq_true hin]
        clear hown hmem hin hk1
        gi_wp2
        exact⟨⟨k+1,by omega,by simp,HR.out,n2⟩,by simp [intOf];omega⟩
       ·have hk1:d.chgK (k+1)=d.chgK k++[c]:=by rw [HK.out];unfold addL;rw [if_neg hin]
        have hownA:=own_alloc hown (.cells #[num c] 3)
        have hnews:∀ (j:Nat) (x:Int),[c][j]?=some x→(wr.alloc (.cells #[num c] 3)).cell? ((⟨wr.heap.size,0,none⟩:Addr).add j)=some (num x):=by
         intro j x hj
         cases j with
         | zero=>simp at hj;subst hj;exact cell_new wr _ _ _ _ rfl
         | succ j=>simp at hj
        have nA:Nx W (wr.alloc (.cells #[num c] 3)):=n2.alloc (by exact n2.size) _
        have hge:=own_ge hown
        have hsz:=n2.size
        have HN:=Lib.hid hnews
        have HGE:=Lib.hid hge
        have HK1:=Lib.hid hk1
        rw [decide_eq_false hin]
        clear hown hmem hin hk1 hnews hge
        gi_wp2_with (first | (gi_at_builtin;refine at_append rfl _ _ rfl W.heap.size _ (d.chgK k) rfl hownA ⟨wr.heap.size,0,none⟩ 1 1 [c] rfl rfl HN.out (by simp;omega) (by simp;omega) ?_;intro v' w' r1 r2 r3 r4) | gi_in)
        exact⟨⟨k+1,by omega,by simp,by rw [HK1.out];exact r1,nA.grown r2 (fun q e=>HGE.out q e)⟩,by simp [intOf];omega⟩
  ·obtain rfl:k=d.cs.length:=by omega
   have HR:=Lib.hid (ownsRow_sl hown)
   clear hown hvs hvl c7 c8
   gi_wp2
   go_ret
   exact⟨_,rfl,Nx.trans n0 n2,HR.out⟩
end Go.Proofs.YtolholkjeehamaaDoor
namespace Go.Proofs.YtolholkjeehamaaDoor
open Go.RowKit
theorem part109_any (d:Dit) (r:Rows6) (v:Value) (l:List Int) (holder hours:Int) (w:World) (hd:DitSl w d r) (hO:d.Ok) (hv:Sl w v 1 (l.map fun x=>[num x])) (hl:l.length=d.turns.length) (hh:0≤hours∧hours≤1000000000000000) :
  CallsIn FL 0 Tryd.prog 109 #[d.val r,v,num holder,num hours] w fun e w'=>e=.returned (num (partTo d.ends l holder hours d.turns.length))∧Nx w w':=by
 obtain⟨al,cl,rfl⟩:=hv.cases
 obtain⟨W,hW,n0,hWs,cW⟩:=boxed w d r
 obtain⟨at',capt,et⟩:=hd.turns.cases
 rw [List.length_map] at et hv ⊢
 have hv1:=hd.turns.nx n0
 rw [et] at hv1
 have hvW:=hv.nx n0
 have nWW:Nx W W:=Below.refl _ _
 have c1:∀ x,Nx W x→x.cell? ⟨w.heap.size,1,none⟩=some (.slice at' d.turns.length capt):=fun x hx=>(cW x hx 1 r.t rfl).trans (by rw [et])
 have hth:=fun x hx=>(hO.th x hx).2
 have hbd:=sumTo_bd hth
 have ht12:=hO.t12
 have hpb:=fun k hk=>partTo_bd (l:=l) (holder:=holder) (hours:=hours) hO.cyc.bd k hk
 have hP:=fun (k:Nat) (hk:k<d.turns.length)=>(show partTo d.ends l holder hours (k+1)=partTo d.ends l holder hours k+if l[k]?=some holder then max 0 (min hours (sumTo d.turns (k+1))-sumTo d.turns k) else 0 by
  have h1:startS d.ends k=sumTo d.turns k:=start_sum (by omega)
  have h2:d.ends k=sumTo d.turns (k+1):=by unfold Dit.ends endsTo;rw [if_pos hk]
  rw [← h1,← h2];rfl)
 have hSt:=fun (k:Nat) (hk:k<d.turns.length)=>(show ∃ t,d.turns[k]?=some t∧sumTo d.turns (k+1)=sumTo d.turns k+t.2∧1≤t.2∧t.2≤100 from ⟨_,List.getElem?_eq_getElem hk,sumTo_step (List.getElem?_eq_getElem hk),hth _ (List.getElem_mem hk)⟩)
 clear cW et hO hd hth
 gi_enter Tryd.func109,Tryd.ntmps109
 gi_wp2
 gi_loopw [3,9,10] (fun h n i wr=>∃ k:Nat,k≤l.length∧i=num k∧n=num (partTo d.ends l holder hours k)∧h=num (hours-min hours (sumTo d.turns k))∧Nx W wr) (fun _ _ i _=>l.length-(intOf i).toNat)
 case atStart=>exact⟨0,Nat.zero_le _,rfl,rfl,by rw [show sumTo d.turns 0=0 from rfl,show hours-min hours 0=hours by omega],nWW⟩
 case round =>
  obtain⟨k,hk,rfl,rfl,rfl,n2⟩:=hrel
  have f1:=c1 _ n2
  by_cases hlt:k<l.length
  ·have hlt1:k<d.turns.length:=by omega
   obtain⟨b,off,ha,hbl,hcl⟩:=hv1.get (by simp;omega)
   subst ha
   obtain⟨b2,off2,ha2,hbl2,hcl2⟩:=hvW.get (by simp;omega)
   subst ha2
   obtain⟨⟨t1,t2⟩,hx,hs1,ht2⟩:=hSt k hlt1
   dsimp only at hs1 ht2
   obtain⟨g1,g2⟩:=Sl.at2 hcl n2 hbl hx
   have hy:l[k]?=some l[k]:=List.getElem?_eq_getElem hlt
   have hPk:=hP k hlt1
   have b0:=hpb k (by omega)
   have b1:=hpb (k+1) (by omega)
   have s0:=hbd k (by omega)
   rw [hy] at hPk
   generalize l[k]=y at hy hPk
   have q1:=(n2.cell (p:=⟨b2,off2+k,none⟩) (by exact hbl2)).trans (Sl.one hcl2 hy)
   have HP:=Lib.hid hPk
   have HS:=Lib.hid hs1
   clear hcl hcl2 hx hy hP hSt hpb hbd hPk hs1 c1 hv hvW hv1
   generalize partTo d.ends l holder hours k=p0 at *
   generalize sumTo d.turns k=s at *
   by_cases hyh:y=holder
   ·subst hyh
    have hp:=Lib.hid (show partTo d.ends l y hours (k+1)=p0+(min hours (sumTo d.turns (k+1))-min hours s) by rw [HP.out,if_pos rfl,HS.out];omega)
    gi_wp2
    all_goals (
     have hp:=hp.out
     have hs:=HS.out
     exact⟨⟨k+1,hlt,by simp,by congr 1;omega,by congr 1;omega,n2⟩,by simp [intOf];omega⟩)
   ·have hp:=Lib.hid (show partTo d.ends l holder hours (k+1)=p0 by rw [HP.out,if_neg (by simpa using hyh)];omega)
    have hb:(y == holder)=false:=by simpa using hyh
    gi_wp2
    all_goals (
     have hp:=hp.out
     have hs:=HS.out
     exact⟨⟨k+1,hlt,by simp,by congr 1;omega,by congr 1;omega,n2⟩,by simp [intOf];omega⟩)
  ·obtain rfl:k=l.length:=by omega
   clear hv hvW hv1 hP hSt hpb hbd c1
   gi_wp2
   go_ret
   exact⟨by rw [← hl];rfl,Nx.trans n0 n2⟩
end Go.Proofs.YtolholkjeehamaaDoor
namespace Go.Proofs.YtolholkjeehamaaDoor
open Go.RowKit
theorem find_any (v:Value) (l:List (List UInt8)) (s:List UInt8) (w:World) (hv:Sl w v 1 (l.map fun c=>[str c])) (hl:l.length≤1000000000) :
  CallsIn FL 0 Tryd.prog 93 #[v,str s] w fun e w'=>e=.returned (num (idxOf (fun x=>decide (x=s)) l))∧w'=w:=by
 obtain⟨cap,⟨hn,rfl⟩ | ⟨b,off,rfl,hbl,hcl⟩⟩:=hv
 ·gi_enter Tryd.func93,Tryd.ntmps93
  gi_wp2
  gi_loopw [5] (fun i wr=>i=num 0∧wr=w) (fun _ _=>0)
  case atStart=>exact⟨rfl,rfl⟩
  case round =>
   obtain⟨rfl,rfl⟩:=hrel
   gi_wp2
   go_ret
   have hf:l=[]:=List.map_eq_nil_iff.1 hn
   exact⟨by rw [hf];rfl,rfl⟩
 ·rw [List.length_map] at *
  gi_enter Tryd.func93,Tryd.ntmps93
  gi_wp2
  gi_loopw [5] (fun i wr=>∃ k:Nat,k≤l.length∧i=num k∧(∀ (j:Nat) (x:List UInt8),j<k→l[j]?=some x→decide (x=s)=false)∧wr=w) (fun i _=>l.length-(intOf i).toNat)
  case atStart=>exact⟨0,Nat.zero_le _,rfl,fun _ _ h=>absurd h (Nat.not_lt_zero _),rfl⟩
  case round =>
   obtain⟨k,hk,rfl,hno,rfl⟩:=hrel
   by_cases hlt:k<l.length
   ·have g1:wr.cell? ⟨b,off+k,none⟩=some (str l[k]):=by
     have:=hcl k 0 [str l[k]] _ (by simp [hlt]) rfl
     rwa [Nat.mul_one] at this
    have hx:l[k]?=some l[k]:=List.getElem?_eq_getElem hlt
    have HX:Hid _:=hx
    have HN:Hid (∀ (j:Nat) (x:List UInt8),j<k→l[j]?=some x→decide (x=s)=false):=hno
    clear hno hcl hx
    generalize hxk:l[k]=x at g1 HX
    clear hxk
    gi_wp2
    ·rename_i hb
     go_ret
     exact⟨by rw [idxOf_some (show l[k]?=some x from HX) (decide_eq_true (beq_iff_eq.1 hb)) HN];rfl,rfl⟩
    ·rename_i hb
     refine⟨⟨k+1,hlt,by simp,?_,trivial⟩,by simp [intOf];omega⟩
     intro j y hj hy
     rcases Nat.lt_succ_iff_lt_or_eq.1 hj with hj | rfl
     ·exact HN j y hj hy
     ·have hz:l[j]?=some x:=HX
      rw [hz] at hy
      cases hy
      exact decide_eq_false fun e=>by rw [e] at hb;simp at hb
   ·obtain rfl:k=l.length:=by omega
    have HN:Hid (∀ (j:Nat) (x:List UInt8),j<l.length→l[j]?=some x→decide (x=s)=false):=hno
    clear hno hcl
    gi_wp2
    go_ret
    exact⟨by rw [idxOf_none HN];rfl,rfl⟩
theorem stretch79_any (a b:Int) (w:World):CallsIn FL 0 Tryd.prog 79 #[num a,num b] w fun e w'=>e=.returned (num (stretchS a b))∧w'=w:=by
 have key:=fun n=>in_any n 0 999999999 w
 by_cases ha:0≤a∧a≤999999999
 ·by_cases hb:0≤b∧b≤999999999
  ·by_cases hab:b<a
   ·gi_enter Tryd.func79,Tryd.ntmps79
    gi_wp2_with (gi_at_call 71;refine CallsIn.mono (key _) ?_;rintro e w1 ⟨rfl,rfl⟩)
    go_ret
    exact⟨by simp [stretchS,ha,hb,hab],rfl⟩
   ·gi_enter Tryd.func79,Tryd.ntmps79
    gi_wp2_with (gi_at_call 71;refine CallsIn.mono (key _) ?_;rintro e w1 ⟨rfl,rfl⟩)
    go_ret
    exact⟨by simp [stretchS,ha,hb,hab],rfl⟩
  ·gi_enter Tryd.func79,Tryd.ntmps79
   gi_wp2_with (gi_at_call 71;refine CallsIn.mono (key _) ?_;rintro e w1 ⟨rfl,rfl⟩)
   go_ret
   exact⟨by simp [stretchS,ha,hb],rfl⟩
 ·gi_enter Tryd.func79,Tryd.ntmps79
  gi_wp2_with (gi_at_call 71;refine CallsIn.mono (key _) ?_;rintro e w1 ⟨rfl,rfl⟩)
  go_ret
  exact⟨by simp [stretchS,ha],rfl⟩
end Go.Proofs.YtolholkjeehamaaDoor
namespace Go.Proofs.YtolholkjeehamaaDoor
open Go.RowKit
theorem nth_eq {s:List UInt8} {k:Nat} (h:k<s.length):((({ data:=s.toArray }:ByteArray)[k]'(by simpa [ByteArray.size] using h)).toNat:Int)=(s[k].toNat:Int):=rfl
theorem name92_any (s:List UInt8) (w:World) (hl:s.length≤1000000000):CallsIn FL 0 Tryd.prog 92 #[str s] w fun e w'=>e=.returned (.bool (nameB s))∧w'=w:=by
 have key0:=fun n=>in_any n 1 14 w
 gi_enter Tryd.func92,Tryd.ntmps92
 by_cases hlen:1≤s.length∧s.length≤14
 ·have H:Hid (nameB s=(decide (97≤headB s) && decide (headB s≤122) && !(bytes s).any badB)):=by unfold nameB Hid;simp [hlen]
  have HB:=@headB_eq s (by omega)
  generalize hc:headB s=c at H HB
  clear hc
  by_cases h1:97≤c
  ·by_cases h2:c≤122
   ·gi_wp2_with (first | (gi_at_call 71;refine CallsIn.mono (key0 _) ?_;rintro e w1 ⟨rfl,rfl⟩) | gi_in)
    gi_loopw [3,4] (fun i _ wr=>∃ k:Nat,k≤s.length∧i=num k∧(∀ (j:Nat) (x:UInt8),j<k→s[j]?=some x→badB x.toNat=false)∧wr=w1) (fun i _ _=>s.length-(intOf i).toNat)
    case atStart=>exact⟨0,Nat.zero_le _,rfl,fun _ _ h=>absurd h (Nat.not_lt_zero _),rfl⟩
    case round =>
     obtain⟨k,hk,rfl,hno,rfl⟩:=hrel
     have HN:Hid (∀ (j:Nat) (x:UInt8),j<k→s[j]?=some x→badB x.toNat=false):=hno
     clear hno
     have H2:Hid (nameB s=!(bytes s).any badB):=by show _=_;rw [show nameB s=_ from H];simp [h1,h2]
     clear H
     by_cases hlt:k<s.length
     ·have hx:s[k]?=some s[k]:=List.getElem?_eq_getElem hlt
      have HX:Hid _:=hx
      have HK:=nth_eq hlt
      clear hx
      have HBad:Hid (badB (s[k].toNat:Int)=true→nameB s=false):=by
       show _→_
       intro h
       have ha:(bytes s).any badB=true:=List.any_eq_true.2 ⟨_,List.mem_map.2 ⟨s[k],List.getElem_mem hlt,rfl⟩,h⟩
       rw [show nameB s=_ from H2,ha]
       rfl
      have HGood:Hid (badB (s[k].toNat:Int)=false→∀ (j:Nat) (x:UInt8),j<k+1→s[j]?=some x→badB x.toNat=false):=by
       show _→_
       intro h j x hj hx
       rcases Nat.lt_succ_iff_lt_or_eq.1 hj with hj | rfl
       ·exact HN j x hj hx
       ·have hz:s[j]?=some s[j]:=HX
        rw [hz] at hx
        cases hx
        exact h
      have hy0:0≤(s[k].toNat:Int)∧(s[k].toNat:Int)≤255:=⟨by omega,by have:=s[k].toNat_lt;omega⟩
      clear HX
      generalize (s[k].toNat:Int)=y at HK HBad HGood hy0
      have bad:∀ (_:badB y=true),nameB s=false:=HBad
      have good:badB y=false→_:=HGood
      have LEN:(k:Int)<s.length:=by omega
      by_cases a1:y<97
      ·by_cases a3:y<48
       ·by_cases a5:y=45
        ·have G:=Lib.hid (good (by simp [badB,a5]))
         subst a5
         clear bad good
         gi_wp2
         exact⟨⟨k+1,hlt,by simp,G.out,trivial⟩,by simp [intOf];omega⟩
        ·have G:=Lib.hid (bad (by simp [badB];omega))
         clear bad good
         gi_wp2
         go_ret
         exact⟨by rw [G.out];rfl,rfl⟩
       ·by_cases a4:57<y
        ·have G:=Lib.hid (bad (by simp [badB];omega))
         clear bad good
         gi_wp2
         go_ret
         exact⟨by rw [G.out];rfl,rfl⟩
        ·have G:=Lib.hid (good (by simp [badB];omega))
         clear bad good
         gi_wp2
         exact⟨⟨k+1,hlt,by simp,G.out,trivial⟩,by simp [intOf];omega⟩
      ·by_cases a2:122<y
       ·have G:=Lib.hid (bad (by simp [badB];omega))
        have b3:¬ y<48:=by omega
        have b4:57<y:=by omega
        have b5:(y != 45)=true:=by simp;omega
        clear bad good
        gi_wp2
        go_ret
        exact⟨by rw [G.out];rfl,rfl⟩
       ·have G:=Lib.hid (good (by simp [badB];omega))
        clear bad good
        gi_wp2
        exact⟨⟨k+1,hlt,by simp,G.out,trivial⟩,by simp [intOf];omega⟩
     ·obtain rfl:k=s.length:=by omega
      have G:Hid (nameB s=true):=by
       show _=_
       rw [show nameB s=_ from H2]
       have:(bytes s).any badB=false:=by
        rw [List.any_eq_false]
        intro z hz
        obtain⟨x,hx,rfl⟩:=List.mem_map.1 hz
        obtain⟨j,hj,rfl⟩:=List.getElem_of_mem hx
        have:=HN j s[j] hj (List.getElem?_eq_getElem hj)
        rw [this];simp
       rw [this];rfl
      clear H2
      gi_wp2
      go_ret
      exact⟨by rw [G.out];rfl,rfl⟩
   ·gi_wp2_with (first | (gi_at_call 71;refine CallsIn.mono (key0 _) ?_;rintro e w1 ⟨rfl,rfl⟩) | gi_in)
    go_ret
    exact⟨congrArg (fun b=>Ending.returned (.bool b)) (by rw [show nameB s=_ from H];simp;omega),rfl⟩
  ·gi_wp2_with (first | (gi_at_call 71;refine CallsIn.mono (key0 _) ?_;rintro e w1 ⟨rfl,rfl⟩) | gi_in)
   go_ret
   exact⟨congrArg (fun b=>Ending.returned (.bool b)) (by rw [show nameB s=_ from H];simp;omega),rfl⟩
 ·have H:Hid (nameB s=false):=by unfold nameB Hid;simp [hlen]
  gi_wp2_with (first | (gi_at_call 71;refine CallsIn.mono (key0 _) ?_;rintro e w1 ⟨rfl,rfl⟩) | gi_in)
  all_goals (go_ret;exact⟨congrArg (fun b=>Ending.returned (.bool b)) (by rw [show nameB s=_ from H]),rfl⟩)
end Go.Proofs.YtolholkjeehamaaDoor
namespace Go.Proofs.YtolholkjeehamaaDoor
open Go.RowKit
theorem cycle44_any (d:Dit) (r:Rows6) (w:World) (hd:DitSl w d r) (hO:d.Ok):CallsIn FL 0 Tryd.prog 44 #[d.val r] w fun e w'=>e=.returned (num d.cyc)∧Nx w w':=by
 obtain⟨W,hW,n0,hWs,cW⟩:=boxed w d r
 obtain⟨at',capt,et⟩:=hd.turns.cases
 rw [List.length_map] at et
 have hv:=hd.turns.nx n0
 rw [et] at hv
 have c1:∀ w1,Nx W w1→w1.cell? ⟨w.heap.size,1,none⟩=some (.slice at' d.turns.length capt):=fun w1 n1=>(cW _ n1 1 r.t rfl).trans (by rw [et])
 have ht:=hO.t12
 have hb:=Lib.hid (fun k hk=>sumTo_bd (fun x hx=>(hO.th x hx).2) k hk)
 clear cW et hO
 gi_enter Tryd.func44,Tryd.ntmps44
 gi_wp2
 gi_loopw [3,4] (fun n i wr=>∃ k:Nat,k≤d.turns.length∧i=num k∧n=num (sumTo d.turns k)∧Nx W wr) (fun _ i _=>d.turns.length-(intOf i).toNat)
 case atStart=>exact⟨0,Nat.zero_le _,rfl,rfl,Below.refl _ _⟩
 case round =>
  obtain⟨k,hk,rfl,rfl,n2⟩:=hrel
  have f1:=c1 _ n2
  have f1' : wr.cell? ⟨w.heap.size,1,none⟩=some (.slice at' d.turns.length capt):=f1
  by_cases hlt:k<d.turns.length
  ·obtain⟨b,off,ha,hbl,hcl⟩:=(hv.nx n2).get (by simp;omega)
   subst ha
   have hx:d.turns[k]?=some d.turns[k]:=List.getElem?_eq_getElem hlt
   have g1:=hcl k 1 (two d.turns[k]) (num d.turns[k].2) (by simp [hlt]) rfl
   have hs:sumTo d.turns (k+1)=sumTo d.turns k+d.turns[k].2:=by simp [sumTo,hx]
   have hb1:=hb.out k hk
   have hb2:=hb.out (k+1) hlt
   rw [hs] at hb2
   have HS:=Lib.hid hs
   generalize d.turns[k].2=x at g1 HS hb2
   generalize sumTo d.turns k=z at HS hb1 hb2 ⊢
   clear hcl hs hx hv
   gi_wp2
   exact⟨⟨k+1,hlt,by simp,by rw [HS.out],n2⟩,by simp [intOf];omega⟩
  ·obtain rfl:k=d.turns.length:=by omega
   clear hv
   gi_wp2
   go_ret
   exact⟨rfl,Nx.trans n0 n2⟩
end Go.Proofs.YtolholkjeehamaaDoor
namespace Go.Proofs.YtolholkjeehamaaDoor
open Go.RowKit
section
variable {F:Fence} {n:Nat} {ops:Array Oper} {C:World→Prop} {a:Act} {dst:Option Nat} {ty:TypeId} {pos:String} {af:Array Edge}
theorem yC_f31_2 {s B:Nat} (h:a.eval (.tmp s)=.pointer (some ⟨B,0,none⟩)):YieldsC F n Tryd.prog ops C ⟨dst,.fieldAddr 31 (.tmp s) 2,ty,pos,af,none⟩ (.pointer (some ⟨B,2,none⟩)) a :=
 yC rfl (fun _=>rfl) fun x _=>by generalize a.eval=ρ at h ⊢;simp [execOp,go_sem,h]
theorem yC_index64 {s i B o m cap j:Nat} (h:a.eval (.tmp s)=.slice (some ⟨B,o,none⟩) m cap) (hi:a.eval (.tmp i)=num j) (hj:j<m):YieldsC F n Tryd.prog ops C ⟨dst,.indexAddr 64 (.tmp s) (.tmp i),ty,pos,af,none⟩ (.pointer (some ⟨B,o+j,none⟩)) a :=
 yC rfl (fun _=>rfl) fun x _=>by generalize a.eval=ρ at h hi ⊢;simp [execOp,go_sem,h,hi,hj]
theorem yC_sub {s i:Nat} {x y:Int} (h:a.eval (.tmp s)=num x) (hi:a.eval (.tmp i)=num y) (hb : -9223372036854775808≤x-y∧x-y≤9223372036854775807):YieldsC F n Tryd.prog ops C ⟨dst,.binOp .sub 3 (.tmp s) (.tmp i) 3,ty,pos,af,none⟩ (num (x-y)) a :=
 yC rfl (fun _=>rfl) fun w _=>by
  generalize a.eval=ρ at h hi ⊢
  simp [execOp,go_sem,h,hi]
  exact IntWalk.i64_in _ hb
theorem yC_mul {s i:Nat} {x y:Int} (h:a.eval (.tmp s)=num x) (hi:a.eval (.tmp i)=num y) (hb : -9223372036854775808≤x * y∧x * y≤9223372036854775807):YieldsC F n Tryd.prog ops C ⟨dst,.binOp .mul 3 (.tmp s) (.tmp i) 3,ty,pos,af,none⟩ (num (x * y)) a :=
 yC rfl (fun _=>rfl) fun w _=>by
  generalize a.eval=ρ at h hi ⊢
  simp [execOp,go_sem,h,hi]
  exact IntWalk.i64_in _ hb
theorem yC_quo {s i:Nat} {x y:Int} (h:a.eval (.tmp s)=num x) (hi:a.eval (.tmp i)=num y) (hy:0<y) (hb : -9223372036854775808≤x.tdiv y∧x.tdiv y≤9223372036854775807):YieldsC F n Tryd.prog ops C ⟨dst,.binOp .quo 3 (.tmp s) (.tmp i) 3,ty,pos,af,none⟩ (num (x.tdiv y)) a :=
 yC rfl (fun _=>rfl) fun w _=>by
  have hy0:y≠0:=by omega
  generalize a.eval=ρ at h hi ⊢
  simp [execOp,go_sem,h,hi,hy0]
  exact IntWalk.i64_in _ hb
theorem yC_rem {s i:Nat} {x y:Int} (h:a.eval (.tmp s)=num x) (hi:a.eval (.tmp i)=num y) (hy:0<y) (hb : -9223372036854775808≤x.tmod y∧x.tmod y≤9223372036854775807):YieldsC F n Tryd.prog ops C ⟨dst,.binOp .rem 3 (.tmp s) (.tmp i) 3,ty,pos,af,none⟩ (num (x.tmod y)) a :=
 yC rfl (fun _=>rfl) fun w _=>by
  have hy0:y≠0:=by omega
  generalize a.eval=ρ at h hi ⊢
  simp [execOp,go_sem,h,hi,hy0]
theorem yC_assign {s:Nat} {v:Value} (h:a.eval (.tmp s)=v):YieldsC F n Tryd.prog ops C ⟨dst,.assign (.tmp s),ty,pos,af,none⟩ v a :=
 yC rfl (fun _=>rfl) fun x _=>by generalize a.eval=ρ at h ⊢;simp [execOp,go_sem,h]
theorem yC_dit {s b:Nat} {d:Dit} {r:Rows6} (h:a.eval (.tmp s)=.pointer (some ⟨b,0,none⟩)) (hc:∀ x,C x→∀ i v,(d.cellsA r)[i]?=some v→x.cell? ⟨b,i,none⟩=some v):YieldsC F n Tryd.prog ops C ⟨dst,.load 31 (.tmp s),ty,pos,af,none⟩ (d.val r) a :=
 yC rfl (fun _=>rfl) fun x hx=>by
  obtain⟨c0,c1,c2,c3,c4,c5,c6,c7,c8,c9,c10,c11,c12,c13⟩:=cells14 (hc x hx)
  clear hc
  generalize a.eval=ρ at h ⊢
  simp [execOp,go_sem,h,c0,c1,c2,c3,c4,c5,c6,c7,c8,c9,c10,c11,c12,c13]
end
end Go.Proofs.YtolholkjeehamaaDoor
