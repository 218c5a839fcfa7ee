import Derived.Test.YtolholkjeehamaaDoorQ40
set_option linter.all false
set_option maxRecDepth 100000
set_option maxHeartbeats 4000000
namespace Go.Proofs.YtolholkjeehamaaDoor
open Go.RowKit
theorem own_ge {w:World} {base n:Nat} {v:Value} {xs:List Value} (h:w.ownsRow base 3 1 v n xs):∀ g,v.ownBlock=some g→base≤g:=by
 intro g e
 obtain⟨_,⟨rfl,_⟩ | ⟨g',cap,cur,rfl,hb,_⟩⟩:=h
 ·cases e
 ·simp only [Value.ownBlock,Option.some.injEq] at e;omega
theorem own_slice {w:World} {base:Nat} {v:Value} {l:List Int} (h:w.ownsRow base 3 1 v l.length (l.map num)) (hl:0<l.length):∃ g cap,v=.slice (some ⟨g,0,none⟩) l.length cap∧base≤g:=by
 obtain⟨_,⟨_,h0⟩ | ⟨g',cap',cur',e,hb,_⟩⟩:=h
 ·omega
 ·exact⟨g',cap',e,hb⟩
theorem own_cell {w:World} {base n g cap:Nat} {l:List Int} (h:w.ownsRow base 3 1 (.slice (some ⟨g,0,none⟩) n cap) l.length (l.map num)) {i:Nat} {x:Int} (hx:l[i]?=some x) :
  w.cell? ⟨g,i,none⟩=some (num x)∧w.frozen? ⟨g,i,none⟩=false:=by
 have hsl:=ownsRow_sl (w:=w) (base:=base) (v:=.slice (some ⟨g,0,none⟩) n cap) (l:=l) h
 refine⟨?_,?_⟩
 ·obtain⟨cap',hn | ⟨b,off,e,hb,hcs⟩⟩:=hsl
  ·cases hn.2
  ·simp only [Value.slice.injEq,Option.some.injEq,Addr.mk.injEq] at e
   obtain⟨⟨rfl,rfl,_⟩,_⟩:=e
   have:=hcs i 0 [num x] (num x) (by simp [hx]) rfl
   simpa using this
 ·obtain⟨_,⟨h1,_⟩ | ⟨g',cap',cur,h1,h2,h3,h4,h5,h6,h7⟩⟩:=h
  ·cases h1
  ·simp only [Value.slice.injEq,Option.some.injEq,Addr.mk.injEq] at h1
   obtain⟨⟨rfl,_⟩,_⟩:=h1
   exact frozen_of_row _ _ _ _ _ h3
theorem own_alloc {w:World} {base n:Nat} {v:Value} {xs:List Value} (h:w.ownsRow base 3 1 v n xs) (o:Obj):(w.alloc o).ownsRow base 3 1 v n xs:=by
 refine h.kept (World.grownBy_alloc w o none) ?_
 cases hob:v.ownBlock with
 | none=>exact .inl rfl
 | some b=>exact .inr (by simp)
theorem holders102_any (d:Dit) (r:Rows6) (c:Int) (w:World) (hd:DitSl w d r) (hO:d.Ok) :
  CallsIn FL 0 Tryd.prog 102 #[d.val r,num c] w fun e w'=>∃ g cap,e=.returned (.slice (some ⟨g,0,none⟩) d.turns.length cap)∧Nx w w'∧Sl w' (.slice (some ⟨g,0,none⟩) d.turns.length cap) 1 ((d.oth c).map fun x=>[num x]):=by
 obtain⟨W,hW,n0,hWs,cW⟩:=boxed w d r
 obtain⟨at',capt,et⟩:=hd.turns.cases
 obtain⟨as',caps,es⟩:=hd.swaps.cases
 obtain⟨al',capl,el⟩:=hd.loans.cases
 rw [List.length_map] at et es el
 have hvt:=hd.turns.nx n0
 have hvs:=hd.swaps.nx n0
 have hvl:=hd.loans.nx n0
 rw [et] at hvt
 rw [es] at hvs
 rw [el] at hvl
 have nWW:Nx W W:=Below.refl _ _
 have c1:∀ x,Nx W x→x.cell? ⟨w.heap.size,1,none⟩=some (.slice at' d.turns.length capt):=fun x hx=>(cW x hx 1 r.t rfl).trans (by rw [et])
 have c7:∀ x,Nx W x→x.cell? ⟨w.heap.size,7,none⟩=some (.slice as' d.swaps.length caps):=fun x hx=>(cW x hx 7 r.s rfl).trans (by rw [es])
 have c8:∀ x,Nx W x→x.cell? ⟨w.heap.size,8,none⟩=some (.slice al' d.loans.length capl):=fun x hx=>(cW x hx 8 r.l rfl).trans (by rw [el])
 have ht12:=hO.t12
 have hs8:=hO.s8
 have hl8:=hO.l8
 have husl:d.us.length=d.turns.length:=by simp [Dit.us]
 have husl0:=husl
 clear cW et es el hd
 gi_enter Tryd.func102,Tryd.ntmps102
 gi_wp2
 gi_loopw [5,6] (fun l i wr=>∃ k:Nat,k≤d.turns.length∧i=num k∧wr.ownsRow W.heap.size 3 1 l (d.us.take k).length ((d.us.take k).map num)∧Nx W wr) (fun _ i _=>d.turns.length-(intOf i).toNat)
 case atStart=>exact⟨0,Nat.zero_le _,rfl,by simpa using World.ownsRow_nil W W.heap.size 3 1,nWW⟩
 case round =>
  obtain⟨k,hk,rfl,hown,n2⟩:=hrel
  have f1:=c1 _ n2
  by_cases hlt:k<d.turns.length
  ·obtain⟨b,off,ha,hbl,hcl⟩:=hvt.get (by simp;omega)
   subst ha
   have hx:d.turns[k]?=some d.turns[k]:=List.getElem?_eq_getElem hlt
   generalize d.turns[k]=x at hx
   obtain⟨x1,x2⟩:=x
   obtain⟨g1,g2⟩:=Sl.at2 hcl n2 hbl hx
   have htk:d.us.take (k+1)=d.us.take k++[x1]:=by
    unfold Dit.us
    rw [List.take_add_one,List.getElem?_map,hx];rfl
   have hownA:=own_alloc hown (.cells #[num x1] 3)
   have hnews:∀ (j:Nat) (x:Int),[x1][j]?=some x→(wr.alloc (.cells #[num x1] 3)).cell? ((⟨wr.heap.size,0,none⟩:Addr).add j)=some (num x):=by
    intro j x hj
    cases j with
    | zero=>simp at hj;subst hj;exact cell_new wr _ _ _ _ rfl
    | succ j=>simp at hj
   have nA:Nx W (wr.alloc (.cells #[num x1] 3)):=n2.alloc (by exact n2.size) _
   have hge:=own_ge hown
   have hsz:=n2.size
   have HT:=Lib.hid htk
   have HGE:=Lib.hid hge
   have HN:=Lib.hid hnews
   clear hx hcl hvt hvs hvl htk hown c1 c7 c8 hge hnews
   gi_wp2_with (first | (gi_at_builtin;refine at_append rfl _ _ rfl W.heap.size _ (d.us.take k) rfl hownA ⟨wr.heap.size,0,none⟩ 1 1 [x1] rfl rfl HN.out (by simp;omega) (by simp;omega) ?_;intro v' w' r1 r2 r3 r4) | gi_in)
   exact⟨⟨k+1,hlt,by simp,by rw [HT.out];exact r1,nA.grown r2 (fun q e=>HGE.out q e)⟩,by simp [intOf];omega⟩
  ·obtain rfl:k=d.turns.length:=by omega
   rw [show d.us.take d.turns.length=d.us by rw [← husl,List.take_length]] at hown
   obtain⟨g,cap,rfl,hgb⟩:=own_slice hown (by omega)
   rw [husl] at hown ⊢
   generalize wr=W2 at *
   have f7:=c7 _ n2
   have ho2:W2.ownsRow W.heap.size 3 1 (.slice (some ⟨g,0,none⟩) d.turns.length cap) (oth2 d.us (d.swaps.take 0) c).length ((oth2 d.us (d.swaps.take 0) c).map num):=by
    show W2.ownsRow _ _ _ (.slice (some ⟨g,0,none⟩) d.turns.length cap) d.us.length (d.us.map num)
    rw [husl];exact hown
   clear hvt hown c1
   gi_wp2
   gi_loopw [7] (fun i wr=>∃ k:Nat,k≤d.swaps.length∧i=num k∧wr.ownsRow W.heap.size 3 1 (.slice (some ⟨g,0,none⟩) d.turns.length cap) (oth2 d.us (d.swaps.take k) c).length ((oth2 d.us (d.swaps.take k) c).map num)∧Nx W wr) (fun i _=>d.swaps.length-(intOf i).toNat)
   case atStart=>exact⟨0,Nat.zero_le _,rfl,ho2,n2⟩
   case round =>
    obtain⟨k,hk,rfl,hown,n3⟩:=hrel
    have f7:=c7 _ n3
    by_cases hlt:k<d.swaps.length
    ·obtain⟨b,off,ha,hbl,hcl⟩:=hvs.get (by simp;omega)
     subst ha
     have hx:d.swaps[k]?=some d.swaps[k]:=List.getElem?_eq_getElem hlt
     have hxm:=hO.sw _ (List.getElem_mem hlt)
     generalize d.swaps[k]=x at hx hxm
     obtain⟨x1,x2,x3⟩:=x
     obtain⟨g1,g2,g3⟩:=Sl.at3 hcl n3 hbl hx
     dsimp only at hxm
     obtain⟨hc1,hc2,hc3⟩:=hxm
     obtain⟨p,rfl⟩:=Int.eq_ofNat_of_zero_le hc2.1
     obtain⟨q,rfl⟩:=Int.eq_ofNat_of_zero_le hc3.1
     have hlen:(oth2 d.us (d.swaps.take k) c).length=d.turns.length:=(oth2_len d.us c (d.swaps.take k)).trans husl0
     obtain⟨ra,hra⟩:∃ v,(oth2 d.us (d.swaps.take k) c)[p]?=some v:=⟨_,List.getElem?_eq_getElem (by omega)⟩
     obtain⟨rb,hrb⟩:∃ v,(oth2 d.us (d.swaps.take k) c)[q]?=some v:=⟨_,List.getElem?_eq_getElem (by omega)⟩
     have hs1:=oth2_succ (us:=d.us) hx c
     dsimp only at hs1
     generalize hV:wr.alloc (.cells #[num x1,num p,num q] 49)=V
     have nV:Nx W V:=by rw [← hV];exact n3.alloc (by exact n3.size) _
     have hownV:V.ownsRow W.heap.size 3 1 (.slice (some ⟨g,0,none⟩) d.turns.length cap) (oth2 d.us (d.swaps.take k) c).length ((oth2 d.us (d.swaps.take k) c).map num):=by rw [← hV];exact own_alloc hown _
     have ct0:V.cell? ⟨wr.heap.size,0,none⟩=some (num x1):=by rw [← hV];exact cell_new _ _ _ _ _ rfl
     have ct1:V.cell? ⟨wr.heap.size,1,none⟩=some (num p):=by rw [← hV];exact cell_new _ _ _ _ _ rfl
     have ct2:V.cell? ⟨wr.heap.size,2,none⟩=some (num q):=by rw [← hV];exact cell_new _ _ _ _ _ rfl
     have hgw:g<wr.heap.size:=by
      obtain⟨_,⟨h1,_⟩ | ⟨g',cap',cur,h1,h2,h3,_⟩⟩:=hown
      ·cases h1
      ·simp only [Value.slice.injEq,Option.some.injEq,Addr.mk.injEq] at h1
       obtain⟨⟨rfl,_⟩,_⟩:=h1
       exact (Array.getElem?_eq_some_iff.1 h3).1
     obtain⟨k1,k2⟩:=own_cell hownV hra
     obtain⟨k3,k4⟩:=own_cell hownV hrb
     have hgne:g≠wr.heap.size:=by omega
     have hp12:p<d.turns.length:=by omega
     have hq12:q<d.turns.length:=by omega
     clear hcl hx hvs hvl hown c7 c8
     by_cases hxc:x1=c
     ·have hb:(x1 == c)=true:=by simpa using hxc
      rw [if_pos hxc] at hs1
      have hset:∀ (z:World),z=((V.setCell ⟨g,p,none⟩ (num rb)).setCell ⟨g,q,none⟩ (num ra))→z.drew.ownsRow W.heap.size 3 1 (.slice (some ⟨g,0,none⟩) d.turns.length cap) (oth2 d.us (d.swaps.take (k+1)) c).length ((oth2 d.us (d.swaps.take (k+1)) c).map num)∧Nx W z.drew:=by
       rintro z rfl
       have h1:=ownsRow_set (v:=.nilIface) (ownsRow_set (v:=.nilIface) hownV (i:=p) (by omega) rb) (i:=q) (by simp;omega) ra
       refine⟨?_,Below.drew (((nV.setCell (p:=⟨g,p,none⟩) hgb _)).setCell (p:=⟨g,q,none⟩) hgb _)⟩
       rw [hs1]
       have he:swapL (oth2 d.us (d.swaps.take k) c) (p:Int).toNat (q:Int).toNat=((oth2 d.us (d.swaps.take k) c).set p rb).set q ra:=by
        simp [swapL,hra,hrb]
       rw [he]
       exact h1
      have HSET:=Lib.hid hset
      clear hset hs1 hlen hxc hownV
      by_cases hpq:p=q
      ·subst hpq
       obtain rfl:rb=ra:=by rw [hrb] at hra;exact Option.some.inj hra
       gi_upto_region 11 with fail
       clear hV
       gi_region
       obtain⟨z1,z2⟩:=HSET.out _ rfl
       gi_wp2
       exact⟨⟨k+1,hlt,by simp,z1,z2⟩,by simp [intOf];omega⟩
      ·gi_upto_region 11 with fail
       gi_region
       obtain⟨z1,z2⟩:=HSET.out _ rfl
       gi_wp2
       exact⟨⟨k+1,hlt,by simp,z1,z2⟩,by simp [intOf];omega⟩
     ·have hb:(x1 == c)=false:=by simpa using hxc
      rw [if_neg hxc] at hs1
      have HR:Hid (V.ownsRow W.heap.size 3 1 (.slice (some ⟨g,0,none⟩) d.turns.length cap) (oth2 d.us (d.swaps.take (k+1)) c).length ((oth2 d.us (d.swaps.take (k+1)) c).map num)):=by
       show World.ownsRow _ _ _ _ _ _ _
       rw [hs1];exact hownV
      clear hs1 hlen hxc hownV
      gi_wp2
      exact⟨⟨k+1,hlt,by simp,HR.out,nV⟩,by simp [intOf];omega⟩
    ·obtain rfl:k=d.swaps.length:=by omega
     rw [List.take_length] at hown
     generalize wr=W3 at *
     have f8:=c8 _ n3
     have ho3:W3.ownsRow W.heap.size 3 1 (.slice (some ⟨g,0,none⟩) d.turns.length cap) (oth3 (oth2 d.us d.swaps c) (d.loans.take 0) c).length ((oth3 (oth2 d.us d.swaps c) (d.loans.take 0) c).map num):=hown
     clear hvs hown ho2 c7
     gi_wp2
     gi_loopw [9] (fun i wr=>∃ k:Nat,k≤d.loans.length∧i=num k∧wr.ownsRow W.heap.size 3 1 (.slice (some ⟨g,0,none⟩) d.turns.length cap) (oth3 (oth2 d.us d.swaps c) (d.loans.take k) c).length ((oth3 (oth2 d.us d.swaps c) (d.loans.take k) c).map num)∧Nx W wr) (fun i _=>d.loans.length-(intOf i).toNat)
     case atStart=>exact⟨0,Nat.zero_le _,rfl,ho3,n3⟩
     case round =>
      obtain⟨k,hk,rfl,hown,n4⟩:=hrel
      have f8:=c8 _ n4
      by_cases hlt:k<d.loans.length
      ·obtain⟨b,off,ha,hbl,hcl⟩:=hvl.get (by simp;omega)
       subst ha
       have hx:d.loans[k]?=some d.loans[k]:=List.getElem?_eq_getElem hlt
       have hxm:=hO.lo _ (List.getElem_mem hlt)
       generalize d.loans[k]=x at hx hxm
       obtain⟨x1,x2,x3⟩:=x
       obtain⟨g1,g2,g3⟩:=Sl.at3 hcl n4 hbl hx
       dsimp only at hxm
       obtain⟨hc1,hc2,hc3⟩:=hxm
       obtain⟨p,rfl⟩:=Int.eq_ofNat_of_zero_le hc2.1
       have hlen:(oth3 (oth2 d.us d.swaps c) (d.loans.take k) c).length=d.turns.length:=by rw [oth3_len,oth2_len];exact husl0
       obtain⟨ra,hra⟩:∃ v,(oth3 (oth2 d.us d.swaps c) (d.loans.take k) c)[p]?=some v:=⟨_,List.getElem?_eq_getElem (by omega)⟩
       have hs1:=oth3_succ (l:=oth2 d.us d.swaps c) hx c
       dsimp only at hs1
       generalize hV:wr.alloc (.cells #[num x1,num p,num x3] 51)=V
       have nV:Nx W V:=by rw [← hV];exact n4.alloc (by exact n4.size) _
       have hownV:V.ownsRow W.heap.size 3 1 (.slice (some ⟨g,0,none⟩) d.turns.length cap) (oth3 (oth2 d.us d.swaps c) (d.loans.take k) c).length ((oth3 (oth2 d.us d.swaps c) (d.loans.take k) c).map num):=by rw [← hV];exact own_alloc hown _
       have ct0:V.cell? ⟨wr.heap.size,0,none⟩=some (num x1):=by rw [← hV];exact cell_new _ _ _ _ _ rfl
       have ct1:V.cell? ⟨wr.heap.size,1,none⟩=some (num p):=by rw [← hV];exact cell_new _ _ _ _ _ rfl
       have ct2:V.cell? ⟨wr.heap.size,2,none⟩=some (num x3):=by rw [← hV];exact cell_new _ _ _ _ _ rfl
       obtain⟨k1,k2⟩:=own_cell hownV hra
       have hp12:p<d.turns.length:=by omega
       clear hcl hx hvl hown c8
       by_cases hxc:x1=c
       ·have hb:(x1 == c)=true:=by simpa using hxc
        rw [if_pos hxc] at hs1
        have HR:Hid ((V.setCell ⟨g,p,none⟩ (num x3)).ownsRow W.heap.size 3 1 (.slice (some ⟨g,0,none⟩) d.turns.length cap) (oth3 (oth2 d.us d.swaps c) (d.loans.take (k+1)) c).length ((oth3 (oth2 d.us d.swaps c) (d.loans.take (k+1)) c).map num)∧Nx W (V.setCell ⟨g,p,none⟩ (num x3))):=by
         refine⟨?_,nV.setCell (p:=⟨g,p,none⟩) hgb _⟩
         rw [hs1]
         exact ownsRow_set (v:=.nilIface) hownV (i:=p) (by omega) x3
        clear hs1 hlen hxc hownV
        gi_wp2
        exact⟨⟨k+1,hlt,by simp,HR.out.1,HR.out.2⟩,by simp [intOf];omega⟩
       ·have hb:(x1 == c)=false:=by simpa using hxc
        rw [if_neg hxc] at hs1
        have HR:Hid (V.ownsRow W.heap.size 3 1 (.slice (some ⟨g,0,none⟩) d.turns.length cap) (oth3 (oth2 d.us d.swaps c) (d.loans.take (k+1)) c).length ((oth3 (oth2 d.us d.swaps c) (d.loans.take (k+1)) c).map num)):=by
         show World.ownsRow _ _ _ _ _ _ _
         rw [hs1];exact hownV
        clear hs1 hlen hxc hownV
        gi_wp2
        exact⟨⟨k+1,hlt,by simp,HR.out,nV⟩,by simp [intOf];omega⟩
      ·obtain rfl:k=d.loans.length:=by omega
       rw [List.take_length] at hown
       have HR:=Lib.hid (ownsRow_sl hown)
       clear hvl hown c8 ho3
       gi_wp2
       go_ret
       exact⟨_,_,rfl,Nx.trans n0 n4,HR.out⟩
end Go.Proofs.YtolholkjeehamaaDoor

