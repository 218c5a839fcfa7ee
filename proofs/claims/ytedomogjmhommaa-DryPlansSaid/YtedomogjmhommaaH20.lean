import Derived.Test.YtedomogjmhommaaH15
set_option linter.all false
set_option maxRecDepth 100000
set_option maxHeartbeats 8000000
namespace Go.Proofs.Ytedomogjmhommaa
open Go.RowKit Go.Shelf
theorem znE (Bl:Nat) (v:Value) (L:List St) (x:Sn) (w:World) (hb:w.cell? ⟨Bl,0,none⟩=some v) (hv:Sl w v 3 (L.map St.cells)) (hs:0≤x.step∧x.step<L.length) (hl:L.length≤1000000000) :
  CallsIn FW 0 Try.prog 79 #[.agg #[num x.step,num x.lo,num x.hi],ptr Bl] w fun e w'=>e=.returned (.bool (!zdu L x))∧Nx w w':=by
 obtain⟨a,cap,rfl⟩:=hv.cases
 rw [List.length_map] at *
 obtain⟨k,hk⟩:∃ k:Nat,x.step=k:=⟨x.step.toNat,by omega⟩
 have hkl:k<L.length:=by omega
 obtain⟨b,off,rfl,hbl,hcl⟩:=hv.get (by simp;omega)
 have hh:L[k]?=some L[k]:=List.getElem?_eq_getElem hkl
 generalize L[k]=s at hh
 have e0:w.cell? ⟨b,off+k * 3,none⟩=some (num s.w):=Sl.at hcl (Nx.refl w) hbl hh 0 (v:=num s.w) rfl
 have ho:zdu L x=decide (x.lo≤s.w∧s.w≤x.hi):=by unfold zdu;rw [hk,Int.toNat_natCast,hh]
 have k55:=fun (w1:World)=>zaK s.w x.lo x.hi w1
 rw [ho,hk]
 generalize hpq:decide (x.lo≤s.w∧s.w≤x.hi)=pq at *
 clear hcl hv hh ho hk hs hpq
 gi_enter Try.func79,Try.ntmps79
 gi_upto_region 1 with fail
 generalize hWn:w.alloc _=W
 obtain⟨nW,sW,g0⟩:=al1 hWn
 clear hWn
 have kc:=Kc.nx nW
 have s0:W.cell? ⟨w.heap.size,0,none⟩=some (num k):=zaa g0 rfl
 have s1:W.cell? ⟨w.heap.size,1,none⟩=some (num x.lo):=zaa g0 rfl
 have s2:W.cell? ⟨w.heap.size,2,none⟩=some (num x.hi):=zaa g0 rfl
 replace e0:=kc.cell e0
 replace hb:=kc.cell hb
 clear sW g0 kc
 generalize w.heap.size=T at *
 gi_big_quiet_th (first | (gi_at_call 55;refine CallsIn.quiet_of_same (k55 _)))
 gi_wp2
 go_ret
 exact⟨rfl,nW.drewN _⟩
def zfB (L:List St) (seen:List Sn):Int:=zcM (fun i=>match seen[i]? with | some x=>!zdu L x | none=>false) seen.length
theorem zjj (Bl:Nat) (v u:Value) (L:List St) (seen:List Sn) (w:World) (hb:w.cell? ⟨Bl,0,none⟩=some v) (hv:Sl w v 3 (L.map St.cells)) (hu:Sl w u 3 (seen.map Sn.cells)) (hs:∀ x∈seen,0≤x.step∧x.step<L.length) (hl:L.length≤1000000000) (hl2:seen.length≤1000000000) :
  CallsIn FW 0 Try.prog 102 #[u,.func (.func 79) #[] #[ptr Bl]] w fun e w'=>e=.returned (num (zfB L seen))∧Nx w w':=by
 obtain⟨a,cap,rfl⟩:=hu.cases
 rw [List.length_map] at *
 have HU:=Lib.hid hu
 have HS:=Lib.hid hs
 have k79:=fun (x:Sn) (hx:x∈seen) (w1:World) (n:Nx w w1)=>znE Bl v L x w1 ((Kc.nx n).cell hb) (hv.nx n) (hs x hx) hl
 obtain⟨g,hg⟩:∃ g,zfB L seen=g:=⟨_,rfl⟩
 rw [hg]
 have HG:=Lib.hid hg
 clear hg hu hs hb
 gi_enter Try.func102,Try.ntmps102
 gi_wp2
 gi_loopw [8] (fun i wr=>∃ k:Nat,k≤seen.length∧i=num k∧(∀ j x,j<k→seen[j]?=some x→zdu L x=true)∧Nx w wr) (fun i _=>seen.length-(intOf i).toNat)
 case atStart=>exact⟨0,Nat.zero_le _,rfl,fun j x h=>absurd h (Nat.not_lt_zero _),Nx.refl _⟩
 case round =>
  obtain⟨k,hk,rfl,hbad,nr⟩:=hrel
  have HB:=Lib.hid hbad
  clear hbad
  by_cases hlt:k<seen.length
  ·obtain⟨b,off,rfl,hbl,hcl⟩:=(HU.out).get (by simp;omega)
   have hh:seen[k]?=some seen[k]:=List.getElem?_eq_getElem hlt
   generalize seen[k]=x at hh
   have e0:wr.cell? ⟨b,off+k * 3,none⟩=some (num x.step):=Sl.at hcl nr hbl hh 0 (v:=num x.step) rfl
   have e1:wr.cell? ⟨b,off+k * 3+1,none⟩=some (num x.lo):=Sl.at hcl nr hbl hh 1 (v:=num x.lo) rfl
   have e2:wr.cell? ⟨b,off+k * 3+2,none⟩=some (num x.hi):=Sl.at hcl nr hbl hh 2 (v:=num x.hi) rfl
   have k79:=k79 x (List.mem_of_getElem? hh) wr nr
   have HX:=Lib.hid hh
   clear hcl hh
   cases hag:zdu L x with
   | true =>
    rw [hag] at k79
    have HA:=Lib.hid hag
    clear hag
    gi_wp2_with (first | (gi_at_call 79;refine CallsIn.mono k79 ?_;rintro e w5 ⟨rfl,n5⟩) | gi_in)
    exact⟨⟨k+1,hlt,by simp,fun j y hj hy=>by
     rcases Nat.lt_succ_iff_lt_or_eq.1 hj with hj | rfl
     ·exact HB.out j y hj hy
     ·rw [HX.out] at hy;cases hy;exact HA.out,nr.trans n5⟩,by simp [intOf];omega⟩
   | false =>
    rw [hag] at k79
    have HR:Hid (g=k):=by
     show _=_
     rw [← HG.out]
     unfold zfB
     refine zcN (fun j hj=>?_) hlt (by rw [HX.out];simp [hag])
     cases hy:seen[j]? with
     | none=>rfl
     | some y=>simp [HB.out j y hj hy]
    clear hag
    gi_wp2_with (first | (gi_at_call 79;refine CallsIn.mono k79 ?_;rintro e w5 ⟨rfl,n5⟩) | gi_in)
    go_ret
    exact⟨by rw [HR.out]<;>rfl,nr.trans n5⟩
  ·obtain rfl:k=seen.length:=by omega
   have HR:Hid (g=-1):=by
    show _=_
    rw [← HG.out]
    unfold zfB
    refine zdg (fun j hj=>?_)
    cases hy:seen[j]? with
    | none=>rfl
    | some y=>simp [HB.out j y hj hy]
   gi_wp2
   go_ret
   exact⟨by rw [HR.out]<;>rfl,nr⟩
theorem zjk (L:List St) (seen:List Sn):decide (zfB L seen≥0)=!zee L seen:=by
 rw [Bool.eq_iff_iff]
 simp only [decide_eq_true_eq,Bool.not_eq_true']
 unfold zee
 rw [← Bool.not_eq_true,List.all_eq_true]
 constructor
 ·intro h hall
  obtain⟨k,hk,e,hp⟩:=zgE (p:=fun i=>match seen[i]? with | some x=>!zdu L x | none=>false) (n:=seen.length) h
  rw [List.getElem?_eq_getElem hk] at hp
  dsimp only at hp
  rw [hall _ (List.getElem_mem _)] at hp
  cases hp
 ·intro h
  rcases Int.lt_or_le (zfB L seen) 0 with hlt | hge
  ·exfalso
   apply h
   intro x hx
   obtain⟨i,hi,rfl⟩:=List.mem_iff_getElem.1 hx
   cases hag:zdu L seen[i] with
   | true=>rfl
   | false =>
    exfalso
    have hex:∃ j,j<seen.length∧(match seen[j]? with | some x=>!zdu L x | none=>false)=true:=⟨i,hi,by rw [List.getElem?_eq_getElem hi];simp [hag]⟩
    unfold zfB zcM at hlt
    cases hf:(List.range seen.length).find? (fun i=>match seen[i]? with | some x=>!zdu L x | none=>false) with
    | none =>
     rw [List.find?_range_eq_none] at hf
     obtain⟨j,hj,hp⟩:=hex
     have:=hf j hj
     rw [hp] at this
     cases this
    | some k=>rw [hf] at hlt;dsimp only at hlt;omega
  ·exact hge
theorem zhj (Bl:Nat) (v u:Value) (L:List St) (seen:List Sn) (w:World) (hb:w.cell? ⟨Bl,0,none⟩=some v) (hv:Sl w v 3 (L.map St.cells)) (hu:Sl w u 3 (seen.map Sn.cells)) (hs:∀ x∈seen,0≤x.step∧x.step<L.length) (hl:L.length≤1000000000) (hl2:seen.length≤1000000000) :
  CallsIn FW 0 Try.prog 78 #[u,.func (.func 79) #[] #[ptr Bl]] w fun e w'=>e=.returned (.bool (!zee L seen))∧Nx w w':=by
 have k102:=zjj Bl v u L seen w hb hv hu hs hl hl2
 rw [← zjk]
 generalize zfB L seen=g at *
 gi_enter Try.func78,Try.ntmps78
 gi_wp2_with (first | (gi_at_call 102;refine CallsIn.mono k102 ?_;rintro e w5 ⟨rfl,n5⟩) | gi_in)
 go_ret
 exact⟨rfl,n5⟩
end Go.Proofs.Ytedomogjmhommaa
