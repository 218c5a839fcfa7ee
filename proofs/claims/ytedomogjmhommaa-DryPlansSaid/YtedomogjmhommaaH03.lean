import Derived.Test.YtedomogjmhommaaH02
set_option linter.all false
set_option maxRecDepth 100000
set_option maxHeartbeats 8000000
namespace Go.Proofs.Ytedomogjmhommaa
open Go.RowKit
theorem zkf (d:Dry) (r:R2) (w:World) (hd:DrySl w d r):CallsIn FW 0 Try.prog 47 #[d.val r] w fun e w'=>e=.returned (num (dryF d))∧Nx w w':=by
 obtain⟨rh,rs⟩:=r
 obtain⟨ha,hcap,rfl⟩:=hd.heats.cases
 obtain⟨sa,scap,rfl⟩:=hd.steps.cases
 have HD:=Lib.hid hd
 have hl:=hd.hl
 have hs:=hd.sl
 clear hd
 rw [List.length_map,List.length_map] at *
 have k1:=fun (w1:World)=>zaK d.heats.length 1 4 w1
 have k2:=fun (w1:World)=>zaK d.soak 0 1000 w1
 have k3:=fun (w1:World)=>zaK d.brittle 0 5000 w1
 by_cases h1:1≤(d.heats.length:Int)∧(d.heats.length:Int)≤4
 case neg =>
  have HP:Hid (dryF d=2):=by show _=_;unfold dryF;rw [if_pos h1]
  have b1:=decide_eq_false h1
  clear h1
  gi_enter Try.func47,Try.ntmps47
  gi_wp2_with (first | ((gi_at_call 55;refine CallsIn.mono (by (with_reducible exact k1 _)) ?_;rintro e w1 ⟨rfl,hw1⟩;replace hw1:=hw1.symm;subst hw1)) | gi_in)
  go_ret
  exact⟨by rw [HP.out]<;>rfl,zaj (Nx.refl _) _⟩
 case pos =>
 have P1:Hid (d.heats.all zbH=false→dryF d=1):=fun h=>by unfold dryF;rw [if_neg (by simpa using h1),if_pos h]
 have P2:Hid (d.heats.all zbH=true→dryF d=if ¬ ((0≤d.soak∧d.soak≤1000)∧(0≤d.brittle∧d.brittle≤5000)) then 1 else if stF d d.start≠0 then stF d d.start else if 5<d.steps.length then 2 else if d.steps.all zf1=false then 1 else 0):=fun h=>by unfold dryF;rw [if_neg (by simpa using h1),if_neg (by rw [h];decide)]
 have b1:=decide_eq_true h1
 clear h1
 gi_enter Try.func47,Try.ntmps47
 gi_upto_region 1 with fail
 generalize hW:w.alloc _=W
 obtain⟨nW,hB⟩:=DBox.of (d:=d) (r:=⟨_,_⟩) hW
 have HS:=HD.out.nx nW
 have hbl:=hB.lt
 generalize w.heap.size=B at *
 have c0:=hB.at' 0 _ rfl
 gi_wp2_with (first | ((gi_at_call 55;refine CallsIn.mono (by (with_reducible exact k1 _)) ?_;rintro e w1 ⟨rfl,hw1⟩;replace hw1:=hw1.symm;subst hw1)) | gi_in)
 clear c0
 have HH:=Lib.hid HS.heats
 have HT:=Lib.hid HS.steps
 have HB:=Lib.hid hB
 clear HS hB
 have n0:Nx W W:=Below.refl _ _
 gi_loopw [16] (fun i wr=>∃ k:Nat,k≤d.heats.length∧i=num k∧(d.heats.take k).all zbH=true∧Nx W wr) (fun i _=>d.heats.length-(intOf i).toNat)
 case atStart=>exact⟨0,Nat.zero_le _,rfl,rfl,n0⟩
 case round =>
  obtain⟨k,hk,rfl,hall,n2⟩:=hrel
  by_cases hlt:k<d.heats.length
  ·obtain⟨b,off,ha,hbl2,hcl⟩:=(HH.out.nx n2).get (by simp;omega)
   subst ha
   have hx:d.heats[k]?=some d.heats[k]:=List.getElem?_eq_getElem hlt
   generalize d.heats[k]=x at hx
   obtain⟨x1,x2⟩:=x
   have e0:wr.cell? ⟨b,off+k * 2,none⟩=some (num x1):=Sl.at hcl (Nx.refl wr) hbl2 hx 0 (v:=num x1) rfl
   have e1:wr.cell? ⟨b,off+k * 2+1,none⟩=some (num x2):=Sl.at hcl (Nx.refl wr) hbl2 hx 1 (v:=num x2) rfl
   clear hcl
   have HG:=Lib.hid (zk1 hx hall)
   have HF:=Lib.hid (zf3 (p:=zbH) hx)
   clear hx hall
   have j1:=fun (w1:World)=>zaK x1 0 1000 w1
   have j2:=fun (w1:World)=>zaK x2 0 1000 w1
   by_cases q1:0≤x1∧x1≤1000
   ·have d1:=decide_eq_true q1
    by_cases q2:0≤x2∧x2≤1000
    ·have d2:=decide_eq_true q2
     have HZ:=Lib.hid (HG.out (show zbH (x1,x2)=true by unfold zbH;rw [d1,d2];rfl))
     clear q1 q2 HG HF
     gi_wp2_with (first | ((gi_at_call 55;refine CallsIn.mono (by (first | with_reducible exact j1 _ | with_reducible exact j2 _)) ?_;rintro e w1 ⟨rfl,hw1⟩;replace hw1:=hw1.symm;subst hw1)) | gi_in)
     exact⟨⟨k+1,hlt,by simp,HZ.out,zaj n2 _⟩,by simp [intOf];omega⟩
    ·have d2:=decide_eq_false q2
     have HZ:=Lib.hid (P1.out (HF.out (show zbH (x1,x2)=false by unfold zbH;rw [d1,d2];rfl)))
     clear q1 q2 HG HF
     gi_wp2_with (first | ((gi_at_call 55;refine CallsIn.mono (by (first | with_reducible exact j1 _ | with_reducible exact j2 _)) ?_;rintro e w1 ⟨rfl,hw1⟩;replace hw1:=hw1.symm;subst hw1)) | gi_in)
     go_ret
     exact⟨by rw [HZ.out]<;>rfl,nW.trans (zaj n2 _)⟩
   ·have d1:=decide_eq_false q1
    have HZ:=Lib.hid (P1.out (HF.out (show zbH (x1,x2)=false by unfold zbH;rw [d1];rfl)))
    clear q1 HG HF
    gi_wp2_with (first | ((gi_at_call 55;refine CallsIn.mono (by (first | with_reducible exact j1 _)) ?_;rintro e w1 ⟨rfl,hw1⟩;replace hw1:=hw1.symm;subst hw1)) | gi_in)
    go_ret
    exact⟨by rw [HZ.out]<;>rfl,nW.trans (zaj n2 _)⟩
  ·obtain rfl:k=d.heats.length:=by omega
   have HA:=Lib.hid (P2.out (by rw [List.take_length] at hall;exact hall))
   clear hall P1 P2
   have hB:=HB.out.nx n2
   have c0:=hB.at' 0 _ rfl
   have c1:=hB.at' 1 _ rfl
   have c2:=hB.at' 2 _ rfl
   have c3:=hB.at' 3 _ rfl
   have c4:=hB.at' 4 _ rfl
   have c5:=hB.at' 5 _ rfl
   have c6:=hB.at' 6 _ rfl
   have HS2:DrySl wr d ⟨_,_⟩:=⟨HH.out.nx n2,HT.out.nx n2,hl,hs⟩
   have k4:=fun (w1:World) (n:Nx wr w1)=>zjT d ⟨_,_⟩ d.start w1 (HS2.nx n)
   by_cases q1:0≤d.soak∧d.soak≤1000
   case neg =>
    have b2:=decide_eq_false q1
    have HZ:=Lib.hid (HA.out.trans (if_pos (fun h=>q1 h.1)))
    clear q1
    gi_wp2_with (first | ((gi_at_call 55;refine CallsIn.mono (by (first | with_reducible exact k2 _ | with_reducible exact k3 _)) ?_;rintro e w1 ⟨rfl,hw1⟩;replace hw1:=hw1.symm;subst hw1)) | gi_in)
    go_ret
    exact⟨by rw [HZ.out]<;>rfl,nW.trans n2⟩
   case pos =>
   have b2:=decide_eq_true q1
   by_cases q2:0≤d.brittle∧d.brittle≤5000
   case neg =>
    have b3:=decide_eq_false q2
    have HZ:=Lib.hid (HA.out.trans (if_pos (fun h=>q2 h.2)))
    clear q1 q2
    gi_wp2_with (first | ((gi_at_call 55;refine CallsIn.mono (by (first | with_reducible exact k2 _ | with_reducible exact k3 _)) ?_;rintro e w1 ⟨rfl,hw1⟩;replace hw1:=hw1.symm;subst hw1)) | gi_in)
    go_ret
    exact⟨by rw [HZ.out]<;>rfl,nW.trans n2⟩
   case pos =>
   have b3:=decide_eq_true q2
   have HA2:=Lib.hid (HA.out.trans (if_neg (by simp only [Decidable.not_not];exact⟨q1,q2⟩)))
   clear q1 q2 HA
   by_cases q4:stF d d.start=0
   case neg =>
    have HZ:=Lib.hid (HA2.out.trans (if_pos q4))
    have b4:(stF d d.start == 0)=false:=beq_false_of_ne q4
    generalize stF d d.start=sf at *
    clear HA2 q4
    gi_wp2_with (first | ((gi_at_call 55;refine CallsIn.mono (by (first | with_reducible exact k2 _ | with_reducible exact k3 _)) ?_;rintro e w1 ⟨rfl,hw1⟩;replace hw1:=hw1.symm;subst hw1)) | (gi_at_call 56;refine CallsIn.mono (k4 _ (Nx.refl _)) ?_;rintro e w3 ⟨rfl,n3⟩) | gi_in)
    go_ret
    exact⟨by rw [HZ.out]<;>rfl,nW.trans (n2.trans n3)⟩
   case pos =>
   have HA3:=Lib.hid (HA2.out.trans (if_neg (by simpa using q4)))
   rw [q4] at k4
   clear q4 HA2
   by_cases q5:5<d.steps.length
   case pos =>
    have HZ:=Lib.hid (HA3.out.trans (if_pos q5))
    clear HA3
    gi_wp2_with (first | ((gi_at_call 55;refine CallsIn.mono (by (first | with_reducible exact k2 _ | with_reducible exact k3 _)) ?_;rintro e w1 ⟨rfl,hw1⟩;replace hw1:=hw1.symm;subst hw1)) | (gi_at_call 56;refine CallsIn.mono (k4 _ (Nx.refl _)) ?_;rintro e w3 ⟨rfl,n3⟩;have c6:=((hB.nx n3).at' 6 _ rfl)) | gi_in)
    go_ret
    exact⟨by rw [HZ.out]<;>rfl,nW.trans (n2.trans n3)⟩
   case neg =>
   have HA4:=Lib.hid (HA3.out.trans (if_neg q5))
   clear HA3
   gi_wp2_with (first | ((gi_at_call 55;refine CallsIn.mono (by (first | with_reducible exact k2 _ | with_reducible exact k3 _)) ?_;rintro e w1 ⟨rfl,hw1⟩;replace hw1:=hw1.symm;subst hw1)) | (gi_at_call 56;refine CallsIn.mono (k4 _ (Nx.refl _)) ?_;rintro e w3 ⟨rfl,n3⟩;have c6:=((hB.nx n3).at' 6 _ rfl)) | gi_in)
   have n4:=nW.trans (n2.trans n3)
   have HT2:=Lib.hid (HT.out.nx (n2.trans n3))
   clear c0 c1 c2 c3 c4 c5 c6 k1 k2 k3 k4 hB HB HT HH HS2 n3 n2
   have n0:Nx w3 w3:=Below.refl _ _
   gi_loopw [55] (fun i wr=>∃ k:Nat,k≤d.steps.length∧i=num k∧(d.steps.take k).all zf1=true∧Nx w3 wr) (fun i _=>d.steps.length-(intOf i).toNat)
   case atStart=>exact⟨0,Nat.zero_le _,rfl,rfl,n0⟩
   case round =>
    obtain⟨k,hk,rfl,hall,n2⟩:=hrel
    by_cases hlt:k<d.steps.length
    ·obtain⟨b,off,ha,hbl2,hcl⟩:=(HT2.out.nx n2).get (by simp;omega)
     subst ha
     have hx:d.steps[k]?=some d.steps[k]:=List.getElem?_eq_getElem hlt
     generalize d.steps[k]=x at hx
     obtain⟨x0,x1,x2,x3,x4,x5⟩:=x
     have e0:wr.cell? ⟨b,off+k * 6,none⟩=some (num x0):=Sl.at hcl (Nx.refl wr) hbl2 hx 0 (v:=num x0) rfl
     have e1:wr.cell? ⟨b,off+k * 6+1,none⟩=some (num x1):=Sl.at hcl (Nx.refl wr) hbl2 hx 1 (v:=num x1) rfl
     have e2:wr.cell? ⟨b,off+k * 6+2,none⟩=some (.bool x2):=Sl.at hcl (Nx.refl wr) hbl2 hx 2 (v:=.bool x2) rfl
     have e3:wr.cell? ⟨b,off+k * 6+3,none⟩=some (num x3):=Sl.at hcl (Nx.refl wr) hbl2 hx 3 (v:=num x3) rfl
     have e4:wr.cell? ⟨b,off+k * 6+4,none⟩=some (num x4):=Sl.at hcl (Nx.refl wr) hbl2 hx 4 (v:=num x4) rfl
     have e5:wr.cell? ⟨b,off+k * 6+5,none⟩=some (num x5):=Sl.at hcl (Nx.refl wr) hbl2 hx 5 (v:=num x5) rfl
     clear hcl
     have HG:=Lib.hid (zk1 hx hall)
     have HF:=Lib.hid (zf3 (p:=zf1) hx)
     clear hx hall
     gi_upto_region 19 with fail
     generalize hV:wr.alloc _=V
     obtain⟨nV,sV,gV⟩:=al1 hV
     clear hV e0 e1 e2 e3 e4 e5
     have nR:=n4.trans (n2.trans nV)
     have nS:=n2.trans nV
     have hvl:wr.heap.size<V.heap.size:=by omega
     clear sV
     generalize wr.heap.size=C at *
     have f0:=zaa (i:=0) gV rfl
     have f1:=zaa (i:=1) gV rfl
     have f3:=fun (V' : World) (n:Nx V V')=>(n.cell (p:=⟨C,3,none⟩) (by exact hvl)).trans (zaa (i:=3) gV rfl)
     have f4:=fun (V' : World) (n:Nx V V')=>(n.cell (p:=⟨C,4,none⟩) (by exact hvl)).trans (zaa (i:=4) gV rfl)
     have f5:=fun (V' : World) (n:Nx V V')=>(n.cell (p:=⟨C,5,none⟩) (by exact hvl)).trans (zaa (i:=5) gV rfl)
     clear gV
     have j1:=fun (w1:World)=>zfj (x0,x1) 0 3 w1
     have j2:=fun (w1:World)=>zfj (x3,x4) 0 5000 w1
     have j3:=fun (w1:World)=>zaK x5 0 1000 w1
     have HE:Hid (zf1 ⟨x0,x1,x2,x3,x4,x5⟩=(insB (x0,x1) 0 3 && insB (x3,x4) 0 5000 && decide (0≤x5∧x5≤1000))):=rfl
     generalize insB (x0,x1) 0 3=i1 at *
     generalize insB (x3,x4) 0 5000=i2 at *
     generalize decide (0≤x5∧x5≤1000)=i3 at *
     generalize zf1 ⟨x0,x1,x2,x3,x4,x5⟩=i4 at *
     cases i1 with
     | false =>
      have HZ:=Lib.hid (HA4.out.trans (if_pos (HF.out (by rw [HE.out];rfl))))
      gi_wp2_with (first | (gi_at_call 77;refine CallsIn.mono (by with_reducible exact j1 _) ?_;rintro e w5 ⟨rfl,n5⟩) | gi_in)
      go_ret
      exact⟨by rw [HZ.out]<;>rfl,nR.trans n5⟩
     | true =>
     cases i2 with
     | false =>
      have HZ:=Lib.hid (HA4.out.trans (if_pos (HF.out (by rw [HE.out];rfl))))
      gi_wp2_with (first | (gi_at_call 77;refine CallsIn.mono (by with_reducible exact j1 _) ?_;rintro e w5 ⟨rfl,n5⟩;have f3:=f3 _ n5;have f4:=f4 _ n5) | (gi_at_call 77;refine CallsIn.mono (by with_reducible exact j2 _) ?_;rintro e w6 ⟨rfl,n6⟩) | gi_in)
      go_ret
      exact⟨by rw [HZ.out]<;>rfl,nR.trans (n5.trans n6)⟩
     | true =>
     cases i3 with
     | false =>
      have HZ:=Lib.hid (HA4.out.trans (if_pos (HF.out (by rw [HE.out];rfl))))
      gi_wp2_with (first | (gi_at_call 77;refine CallsIn.mono (by with_reducible exact j1 _) ?_;rintro e w5 ⟨rfl,n5⟩;have f3:=f3 _ n5;have f4:=f4 _ n5) | (gi_at_call 77;refine CallsIn.mono (by with_reducible exact j2 _) ?_;rintro e w6 ⟨rfl,n6⟩;have f5:=f5 _ (n5.trans n6)) | ((gi_at_call 55;refine CallsIn.mono (by (with_reducible exact j3 _)) ?_;rintro e w1 ⟨rfl,hw1⟩;replace hw1:=hw1.symm;subst hw1)) | gi_in)
      go_ret
      exact⟨by rw [HZ.out]<;>rfl,nR.trans (n5.trans n6)⟩
     | true =>
      have HZ:=Lib.hid (HG.out (by rw [HE.out];rfl))
      gi_wp2_with (first | (gi_at_call 77;refine CallsIn.mono (by with_reducible exact j1 _) ?_;rintro e w5 ⟨rfl,n5⟩;have f3:=f3 _ n5;have f4:=f4 _ n5) | (gi_at_call 77;refine CallsIn.mono (by with_reducible exact j2 _) ?_;rintro e w6 ⟨rfl,n6⟩;have f5:=f5 _ (n5.trans n6)) | ((gi_at_call 55;refine CallsIn.mono (by (with_reducible exact j3 _)) ?_;rintro e w1 ⟨rfl,hw1⟩;replace hw1:=hw1.symm;subst hw1)) | gi_in)
      exact⟨⟨k+1,hlt,by simp,HZ.out,nS.trans (n5.trans n6)⟩,by simp [intOf];omega⟩
    ·obtain rfl:k=d.steps.length:=by omega
     have HZ:=Lib.hid (HA4.out.trans (if_neg (by rw [List.take_length] at hall;rw [hall];decide)))
     clear hall
     gi_wp2
     go_ret
     exact⟨by rw [HZ.out]<;>rfl,n4.trans n2⟩
end Go.Proofs.Ytedomogjmhommaa
namespace Go.Proofs.Ytedomogjmhommaa
open Go.RowKit
theorem zjm (x:Int×Int) (low high:Int) (w:World):CallsIn FW 0 Try.prog 83 #[spV x,num low,num high] w fun e w'=>e=.returned (.bool (insB x low high))∧Nx w w':=by
 obtain⟨a,b⟩:=x
 gi_enter Try.func83,Try.ntmps83
 by_cases h:low≤a
 ·by_cases h2:a≤b
  ·gi_wp2
   go_ret
   exact⟨by simp [insB, *];try omega,by exact zaj (Nx.refl _) _⟩
  ·gi_wp2
   go_ret
   exact⟨by simp [insB, *];try omega,by exact zaj (Nx.refl _) _⟩
 ·gi_wp2
  go_ret
  exact⟨by simp [insB, *];try omega,by exact zaj (Nx.refl _) _⟩
theorem zkR (d:Dry) (r:R2) (s:St) (w:World) (hd:DrySl w d r):CallsIn FW 0 Try.prog 34 #[d.val r,s.val] w fun e w'=>e=.returned (num (stF d s))∧Nx w w':=by
 obtain⟨rh,rs⟩:=r
 obtain⟨ha,hcap,rfl⟩:=hd.heats.cases
 obtain⟨sa,scap,rfl⟩:=hd.steps.cases
 rw [List.length_map,List.length_map]
 have hl:=hd.hl
 have k1:=fun (w1:World)=>zbM s.w 0 5000 w1
 have k2:=fun (w1:World)=>zbM s.c 0 1000 w1
 have k3:=fun (w1:World)=>zbM s.h 0 ((d.heats.length:Int)-1) w1
 unfold stF
 clear hd
 by_cases h1:0≤s.w∧s.w≤5000
 ·have b1:decide (0≤s.w∧s.w≤5000)=true:=decide_eq_true h1
  by_cases h2:0≤s.c∧s.c≤1000
  ·have b2:decide (0≤s.c∧s.c≤1000)=true:=decide_eq_true h2
   rw [if_neg (by simp only [Decidable.not_not];exact⟨h1,h2⟩)]
   by_cases h3:0≤s.h∧s.h≤(d.heats.length:Int)-1
   ·have b3:decide (0≤s.h∧s.h≤(d.heats.length:Int)-1)=true:=decide_eq_true h3
    rw [if_neg (by simp only [Decidable.not_not];exact h3)]
    clear h1 h2 h3
    gi_enter Try.func34,Try.ntmps34
    gi_wp2_with (first | (gi_at_call 58;refine CallsIn.mono (by first | with_reducible exact k1 _ | with_reducible exact k2 _ | with_reducible exact k3 _) ?_;rintro e w1 ⟨rfl,rfl⟩) | gi_in)
    all_goals (go_ret;exact⟨rfl,zaj (zaj (Nx.refl _) _) _⟩)
   ·have b3:decide (0≤s.h∧s.h≤(d.heats.length:Int)-1)=false:=decide_eq_false h3
    rw [if_pos h3]
    clear h1 h2 h3
    gi_enter Try.func34,Try.ntmps34
    gi_wp2_with (first | (gi_at_call 58;refine CallsIn.mono (by first | with_reducible exact k1 _ | with_reducible exact k2 _ | with_reducible exact k3 _) ?_;rintro e w1 ⟨rfl,rfl⟩) | gi_in)
    all_goals (go_ret;exact⟨rfl,zaj (zaj (Nx.refl _) _) _⟩)
  ·have b2:decide (0≤s.c∧s.c≤1000)=false:=decide_eq_false h2
   rw [if_pos (fun h=>h2 h.2)]
   clear h1 h2
   gi_enter Try.func34,Try.ntmps34
   gi_wp2_with (first | (gi_at_call 58;refine CallsIn.mono (by first | with_reducible exact k1 _ | with_reducible exact k2 _) ?_;rintro e w1 ⟨rfl,rfl⟩) | gi_in)
   all_goals (go_ret;exact⟨rfl,zaj (zaj (Nx.refl _) _) _⟩)
 ·have b1:decide (0≤s.w∧s.w≤5000)=false:=decide_eq_false h1
  rw [if_pos (fun h=>h1 h.1)]
  clear h1
  gi_enter Try.func34,Try.ntmps34
  gi_wp2_with (first | (gi_at_call 58;refine CallsIn.mono (by first | with_reducible exact k1 _) ?_;rintro e w1 ⟨rfl,rfl⟩) | gi_in)
  all_goals (go_ret;exact⟨rfl,zaj (zaj (Nx.refl _) _) _⟩)
theorem zgq (d:Dry) (r:R2) (w:World) (hd:DrySl w d r):CallsIn FW 0 Try.prog 33 #[d.val r] w fun e w'=>e=.returned (num (dryF d))∧Nx w w':=by
 obtain⟨rh,rs⟩:=r
 obtain⟨ha,hcap,rfl⟩:=hd.heats.cases
 obtain⟨sa,scap,rfl⟩:=hd.steps.cases
 have HD:=Lib.hid hd
 have hl:=hd.hl
 have hs:=hd.sl
 clear hd
 rw [List.length_map,List.length_map] at *
 have k1:=fun (w1:World)=>zbM d.heats.length 1 4 w1
 have k2:=fun (w1:World)=>zbM d.soak 0 1000 w1
 have k3:=fun (w1:World)=>zbM d.brittle 0 5000 w1
 by_cases h1:1≤(d.heats.length:Int)∧(d.heats.length:Int)≤4
 case neg =>
  have HP:Hid (dryF d=2):=by show _=_;unfold dryF;rw [if_pos h1]
  have b1:=decide_eq_false h1
  clear h1
  gi_enter Try.func33,Try.ntmps33
  gi_wp2_with (first | ((gi_at_call 58;refine CallsIn.mono (by (with_reducible exact k1 _)) ?_;rintro e w1 ⟨rfl,hw1⟩;replace hw1:=hw1.symm;subst hw1)) | gi_in)
  go_ret
  exact⟨by rw [HP.out]<;>rfl,zaj (Nx.refl _) _⟩
 case pos =>
 have P1:Hid (d.heats.all zbH=false→dryF d=1):=fun h=>by unfold dryF;rw [if_neg (by simpa using h1),if_pos h]
 have P2:Hid (d.heats.all zbH=true→dryF d=if ¬ ((0≤d.soak∧d.soak≤1000)∧(0≤d.brittle∧d.brittle≤5000)) then 1 else if stF d d.start≠0 then stF d d.start else if 5<d.steps.length then 2 else if d.steps.all zf1=false then 1 else 0):=fun h=>by unfold dryF;rw [if_neg (by simpa using h1),if_neg (by rw [h];decide)]
 have b1:=decide_eq_true h1
 clear h1
 gi_enter Try.func33,Try.ntmps33
 gi_upto_region 1 with fail
 generalize hW:w.alloc _=W
 obtain⟨nW,hB⟩:=DBox.of (d:=d) (r:=⟨_,_⟩) hW
 have HS:=HD.out.nx nW
 have hbl:=hB.lt
 generalize w.heap.size=B at *
 have c0:=hB.at' 0 _ rfl
 gi_wp2_with (first | ((gi_at_call 58;refine CallsIn.mono (by (with_reducible exact k1 _)) ?_;rintro e w1 ⟨rfl,hw1⟩;replace hw1:=hw1.symm;subst hw1)) | gi_in)
 clear c0
 have HH:=Lib.hid HS.heats
 have HT:=Lib.hid HS.steps
 have HB:=Lib.hid hB
 clear HS hB
 have n0:Nx W W:=Below.refl _ _
 gi_loopw [3] (fun i wr=>∃ k:Nat,k≤d.heats.length∧i=num k∧(d.heats.take k).all zbH=true∧Nx W wr) (fun i _=>d.heats.length-(intOf i).toNat)
 case atStart=>exact⟨0,Nat.zero_le _,rfl,rfl,n0⟩
 case round =>
  obtain⟨k,hk,rfl,hall,n2⟩:=hrel
  have c0:=(HB.out.nx n2).at' 0 _ rfl
  by_cases hlt:k<d.heats.length
  ·obtain⟨b,off,ha,hbl2,hcl⟩:=(HH.out.nx n2).get (by simp;omega)
   subst ha
   have hx:d.heats[k]?=some d.heats[k]:=List.getElem?_eq_getElem hlt
   generalize d.heats[k]=x at hx
   obtain⟨x1,x2⟩:=x
   have e0:wr.cell? ⟨b,off+k * 2,none⟩=some (num x1):=Sl.at hcl (Nx.refl wr) hbl2 hx 0 (v:=num x1) rfl
   have e1:wr.cell? ⟨b,off+k * 2+1,none⟩=some (num x2):=Sl.at hcl (Nx.refl wr) hbl2 hx 1 (v:=num x2) rfl
   clear hcl
   have HG:=Lib.hid (zk1 hx hall)
   have HF:=Lib.hid (zf3 (p:=zbH) hx)
   clear hx hall
   have j1:=fun (w1:World)=>zbM x1 0 1000 w1
   have j2:=fun (w1:World)=>zbM x2 0 1000 w1
   by_cases q1:0≤x1∧x1≤1000
   ·have d1:=decide_eq_true q1
    by_cases q2:0≤x2∧x2≤1000
    ·have d2:=decide_eq_true q2
     have HZ:=Lib.hid (HG.out (show zbH (x1,x2)=true by unfold zbH;rw [d1,d2];rfl))
     clear q1 q2 HG HF
     gi_wp2_with (first | ((gi_at_call 58;refine CallsIn.mono (by (first | with_reducible exact j1 _ | with_reducible exact j2 _)) ?_;rintro e w1 ⟨rfl,hw1⟩;replace hw1:=hw1.symm;subst hw1)) | gi_in)
     exact⟨⟨k+1,hlt,by simp,HZ.out,n2⟩,by simp [intOf];omega⟩
    ·have d2:=decide_eq_false q2
     have HZ:=Lib.hid (P1.out (HF.out (show zbH (x1,x2)=false by unfold zbH;rw [d1,d2];rfl)))
     clear q1 q2 HG HF
     gi_wp2_with (first | ((gi_at_call 58;refine CallsIn.mono (by (first | with_reducible exact j1 _ | with_reducible exact j2 _)) ?_;rintro e w1 ⟨rfl,hw1⟩;replace hw1:=hw1.symm;subst hw1)) | gi_in)
     go_ret
     exact⟨by rw [HZ.out]<;>rfl,nW.trans (n2)⟩
   ·have d1:=decide_eq_false q1
    have HZ:=Lib.hid (P1.out (HF.out (show zbH (x1,x2)=false by unfold zbH;rw [d1];rfl)))
    clear q1 HG HF
    gi_wp2_with (first | ((gi_at_call 58;refine CallsIn.mono (by (first | with_reducible exact j1 _)) ?_;rintro e w1 ⟨rfl,hw1⟩;replace hw1:=hw1.symm;subst hw1)) | gi_in)
    go_ret
    exact⟨by rw [HZ.out]<;>rfl,nW.trans (n2)⟩
  ·obtain rfl:k=d.heats.length:=by omega
   have HA:=Lib.hid (P2.out (by rw [List.take_length] at hall;exact hall))
   clear hall P1 P2
   have hB:=HB.out.nx n2
   have c1:=hB.at' 1 _ rfl
   have c2:=hB.at' 2 _ rfl
   have c3:=hB.at' 3 _ rfl
   have c4:=hB.at' 4 _ rfl
   have c5:=hB.at' 5 _ rfl
   have c6:=hB.at' 6 _ rfl
   have HS2:DrySl wr d ⟨_,_⟩:=⟨HH.out.nx n2,HT.out.nx n2,hl,hs⟩
   have k4:=fun (w1:World) (n:Nx wr w1)=>zkR d ⟨_,_⟩ d.start w1 (HS2.nx n)
   by_cases q1:0≤d.soak∧d.soak≤1000
   case neg =>
    have b2:=decide_eq_false q1
    have HZ:=Lib.hid (HA.out.trans (if_pos (fun h=>q1 h.1)))
    clear q1
    gi_wp2_with (first | ((gi_at_call 58;refine CallsIn.mono (by (first | with_reducible exact k2 _ | with_reducible exact k3 _)) ?_;rintro e w1 ⟨rfl,hw1⟩;replace hw1:=hw1.symm;subst hw1)) | gi_in)
    go_ret
    exact⟨by rw [HZ.out]<;>rfl,nW.trans n2⟩
   case pos =>
   have b2:=decide_eq_true q1
   by_cases q2:0≤d.brittle∧d.brittle≤5000
   case neg =>
    have b3:=decide_eq_false q2
    have HZ:=Lib.hid (HA.out.trans (if_pos (fun h=>q2 h.2)))
    clear q1 q2
    gi_wp2_with (first | ((gi_at_call 58;refine CallsIn.mono (by (first | with_reducible exact k2 _ | with_reducible exact k3 _)) ?_;rintro e w1 ⟨rfl,hw1⟩;replace hw1:=hw1.symm;subst hw1)) | gi_in)
    go_ret
    exact⟨by rw [HZ.out]<;>rfl,nW.trans n2⟩
   case pos =>
   have b3:=decide_eq_true q2
   have HA2:=Lib.hid (HA.out.trans (if_neg (by simp only [Decidable.not_not];exact⟨q1,q2⟩)))
   clear q1 q2 HA
   by_cases q4:stF d d.start=0
   case neg =>
    have HZ:=Lib.hid (HA2.out.trans (if_pos q4))
    have b4:(stF d d.start == 0)=false:=beq_false_of_ne q4
    generalize stF d d.start=sf at *
    clear HA2 q4
    gi_wp2_with (first | ((gi_at_call 58;refine CallsIn.mono (by (first | with_reducible exact k2 _ | with_reducible exact k3 _)) ?_;rintro e w1 ⟨rfl,hw1⟩;replace hw1:=hw1.symm;subst hw1)) | (gi_at_call 34;refine CallsIn.mono (k4 _ (Nx.refl _)) ?_;rintro e w3 ⟨rfl,n3⟩) | gi_in)
    go_ret
    exact⟨by rw [HZ.out]<;>rfl,nW.trans (n2.trans n3)⟩
   case pos =>
   have HA3:=Lib.hid (HA2.out.trans (if_neg (by simpa using q4)))
   rw [q4] at k4
   clear q4 HA2
   by_cases q5:5<d.steps.length
   case pos =>
    have HZ:=Lib.hid (HA3.out.trans (if_pos q5))
    clear HA3
    gi_wp2_with (first | ((gi_at_call 58;refine CallsIn.mono (by (first | with_reducible exact k2 _ | with_reducible exact k3 _)) ?_;rintro e w1 ⟨rfl,hw1⟩;replace hw1:=hw1.symm;subst hw1)) | (gi_at_call 34;refine CallsIn.mono (k4 _ (Nx.refl _)) ?_;rintro e w3 ⟨rfl,n3⟩;have c6:=((hB.nx n3).at' 6 _ rfl)) | gi_in)
    go_ret
    exact⟨by rw [HZ.out]<;>rfl,nW.trans (n2.trans n3)⟩
   case neg =>
   have HA4:=Lib.hid (HA3.out.trans (if_neg q5))
   clear HA3
   gi_wp2_with (first | ((gi_at_call 58;refine CallsIn.mono (by (first | with_reducible exact k2 _ | with_reducible exact k3 _)) ?_;rintro e w1 ⟨rfl,hw1⟩;replace hw1:=hw1.symm;subst hw1)) | (gi_at_call 34;refine CallsIn.mono (k4 _ (Nx.refl _)) ?_;rintro e w3 ⟨rfl,n3⟩;have c6:=((hB.nx n3).at' 6 _ rfl)) | gi_in)
   have n4:=nW.trans (n2.trans n3)
   have HT2:=Lib.hid (HT.out.nx (n2.trans n3))
   have HB3:=Lib.hid (hB.nx n3)
   clear c0 c1 c2 c3 c4 c5 c6 k1 k2 k3 k4 hB HB HT HH HS2 n3 n2
   have n0:Nx w3 w3:=Below.refl _ _
   gi_loopw [5] (fun i wr=>∃ k:Nat,k≤d.steps.length∧i=num k∧(d.steps.take k).all zf1=true∧Nx w3 wr) (fun i _=>d.steps.length-(intOf i).toNat)
   case atStart=>exact⟨0,Nat.zero_le _,rfl,rfl,n0⟩
   case round =>
    obtain⟨k,hk,rfl,hall,n2⟩:=hrel
    have c6:=(HB3.out.nx n2).at' 6 _ rfl
    by_cases hlt:k<d.steps.length
    ·obtain⟨b,off,ha,hbl2,hcl⟩:=(HT2.out.nx n2).get (by simp;omega)
     subst ha
     have hx:d.steps[k]?=some d.steps[k]:=List.getElem?_eq_getElem hlt
     generalize d.steps[k]=x at hx
     obtain⟨x0,x1,x2,x3,x4,x5⟩:=x
     have e0:wr.cell? ⟨b,off+k * 6,none⟩=some (num x0):=Sl.at hcl (Nx.refl wr) hbl2 hx 0 (v:=num x0) rfl
     have e1:wr.cell? ⟨b,off+k * 6+1,none⟩=some (num x1):=Sl.at hcl (Nx.refl wr) hbl2 hx 1 (v:=num x1) rfl
     have e2:wr.cell? ⟨b,off+k * 6+2,none⟩=some (.bool x2):=Sl.at hcl (Nx.refl wr) hbl2 hx 2 (v:=.bool x2) rfl
     have e3:wr.cell? ⟨b,off+k * 6+3,none⟩=some (num x3):=Sl.at hcl (Nx.refl wr) hbl2 hx 3 (v:=num x3) rfl
     have e4:wr.cell? ⟨b,off+k * 6+4,none⟩=some (num x4):=Sl.at hcl (Nx.refl wr) hbl2 hx 4 (v:=num x4) rfl
     have e5:wr.cell? ⟨b,off+k * 6+5,none⟩=some (num x5):=Sl.at hcl (Nx.refl wr) hbl2 hx 5 (v:=num x5) rfl
     clear hcl
     have HG:=Lib.hid (zk1 hx hall)
     have HF:=Lib.hid (zf3 (p:=zf1) hx)
     clear hx hall
     gi_upto_region 19 with fail
     generalize hV:wr.alloc _=V
     obtain⟨nV,sV,gV⟩:=al1 hV
     clear hV e0 e1 e2 e3 e4 e5
     have nR:=n4.trans (n2.trans nV)
     have nS:=n2.trans nV
     have hvl:wr.heap.size<V.heap.size:=by omega
     clear sV
     generalize wr.heap.size=C at *
     have f0:=zaa (i:=0) gV rfl
     have f1:=zaa (i:=1) gV rfl
     have f3:=fun (V' : World) (n:Nx V V')=>(n.cell (p:=⟨C,3,none⟩) (by exact hvl)).trans (zaa (i:=3) gV rfl)
     have f4:=fun (V' : World) (n:Nx V V')=>(n.cell (p:=⟨C,4,none⟩) (by exact hvl)).trans (zaa (i:=4) gV rfl)
     have f5:=fun (V' : World) (n:Nx V V')=>(n.cell (p:=⟨C,5,none⟩) (by exact hvl)).trans (zaa (i:=5) gV rfl)
     clear gV
     have j1:=fun (w1:World)=>zjm (x0,x1) 0 3 w1
     have j2:=fun (w1:World)=>zjm (x3,x4) 0 5000 w1
     have j3:=fun (w1:World)=>zbM x5 0 1000 w1
     have HE:Hid (zf1 ⟨x0,x1,x2,x3,x4,x5⟩=(insB (x0,x1) 0 3 && insB (x3,x4) 0 5000 && decide (0≤x5∧x5≤1000))):=rfl
     generalize insB (x0,x1) 0 3=i1 at *
     generalize insB (x3,x4) 0 5000=i2 at *
     generalize decide (0≤x5∧x5≤1000)=i3 at *
     generalize zf1 ⟨x0,x1,x2,x3,x4,x5⟩=i4 at *
     cases i1 with
     | false =>
      have HZ:=Lib.hid (HA4.out.trans (if_pos (HF.out (by rw [HE.out];rfl))))
      gi_wp2_with (first | (gi_at_call 83;refine CallsIn.mono (by with_reducible exact j1 _) ?_;rintro e w5 ⟨rfl,n5⟩) | gi_in)
      go_ret
      exact⟨by rw [HZ.out]<;>rfl,nR.trans n5⟩
     | true =>
     cases i2 with
     | false =>
      have HZ:=Lib.hid (HA4.out.trans (if_pos (HF.out (by rw [HE.out];rfl))))
      gi_wp2_with (first | (gi_at_call 83;refine CallsIn.mono (by with_reducible exact j1 _) ?_;rintro e w5 ⟨rfl,n5⟩;have f3:=f3 _ n5;have f4:=f4 _ n5) | (gi_at_call 83;refine CallsIn.mono (by with_reducible exact j2 _) ?_;rintro e w6 ⟨rfl,n6⟩) | gi_in)
      go_ret
      exact⟨by rw [HZ.out]<;>rfl,nR.trans (n5.trans n6)⟩
     | true =>
     cases i3 with
     | false =>
      have HZ:=Lib.hid (HA4.out.trans (if_pos (HF.out (by rw [HE.out];rfl))))
      gi_wp2_with (first | (gi_at_call 83;refine CallsIn.mono (by with_reducible exact j1 _) ?_;rintro e w5 ⟨rfl,n5⟩;have f3:=f3 _ n5;have f4:=f4 _ n5) | (gi_at_call 83;refine CallsIn.mono (by with_reducible exact j2 _) ?_;rintro e w6 ⟨rfl,n6⟩;have f5:=f5 _ (n5.trans n6)) | ((gi_at_call 58;refine CallsIn.mono (by (with_reducible exact j3 _)) ?_;rintro e w1 ⟨rfl,hw1⟩;replace hw1:=hw1.symm;subst hw1)) | gi_in)
      go_ret
      exact⟨by rw [HZ.out]<;>rfl,nR.trans (n5.trans n6)⟩
     | true =>
      have HZ:=Lib.hid (HG.out (by rw [HE.out];rfl))
      gi_wp2_with (first | (gi_at_call 83;refine CallsIn.mono (by with_reducible exact j1 _) ?_;rintro e w5 ⟨rfl,n5⟩;have f3:=f3 _ n5;have f4:=f4 _ n5) | (gi_at_call 83;refine CallsIn.mono (by with_reducible exact j2 _) ?_;rintro e w6 ⟨rfl,n6⟩;have f5:=f5 _ (n5.trans n6)) | ((gi_at_call 58;refine CallsIn.mono (by (with_reducible exact j3 _)) ?_;rintro e w1 ⟨rfl,hw1⟩;replace hw1:=hw1.symm;subst hw1)) | gi_in)
      exact⟨⟨k+1,hlt,by simp,HZ.out,nS.trans (n5.trans n6)⟩,by simp [intOf];omega⟩
    ·obtain rfl:k=d.steps.length:=by omega
     have HZ:=Lib.hid (HA4.out.trans (if_neg (by rw [List.take_length] at hall;rw [hall];decide)))
     clear hall
     gi_wp2
     go_ret
     exact⟨by rw [HZ.out]<;>rfl,n4.trans n2⟩
end Go.Proofs.Ytedomogjmhommaa
namespace Go.Proofs.Ytedomogjmhommaa
open Go.RowKit
abbrev Dry.n (d:Dry):Int:=d.heats.length
theorem zgQ (d:Dry) (r:R2) (k:Nat) (x:Stp) (was heat:Int) (w:World) (hd:DrySl w d r) (hk:d.steps[k]?=some x) (hw : -1000000000≤was∧was≤1000000000) :
  CallsIn FW 0 Try.prog 35 #[d.val r,num k,num was,num heat] w fun e w'=>e=.returned (.bool (mayB d.heats.length x was heat))∧Nx w w':=by
 obtain⟨rh,rs⟩:=r
 obtain⟨ha,hcap,rfl⟩:=hd.heats.cases
 obtain⟨sa,scap,rfl⟩:=hd.steps.cases
 have hkl:k<d.steps.length:=(List.getElem?_eq_some_iff.1 hk).1
 have hl:=hd.hl
 have hs:=hd.sl
 obtain⟨b,off,rfl,hbl,hcl⟩:=hd.steps.get (by simp;omega)
 have e2:=fun (w1:World) (n:Nx w w1)=>Sl.at hcl n hbl hk 2 (v:=.bool x.tended) rfl
 rw [List.length_map,List.length_map] at *
 have j1:=fun (w1:World)=>zbM heat 0 ((d.heats.length:Int)-1) w1
 clear hd hcl
 by_cases h:0≤heat∧heat≤(d.heats.length:Int)-1
 case neg =>
  have b1:=decide_eq_false h
  rw [show mayB d.heats.length x was heat=false by unfold mayB;rw [b1];rfl]
  clear h
  gi_enter Try.func35,Try.ntmps35
  gi_wp2_with (first | ((gi_at_call 58;refine CallsIn.mono (by (with_reducible exact j1 _)) ?_;rintro e w1 ⟨rfl,hw1⟩;replace hw1:=hw1.symm;subst hw1)) | gi_in)
  all_goals (go_ret;exact⟨rfl,zaj (Nx.refl _) _⟩)
 case pos =>
 have b1:=decide_eq_true h
 by_cases h2:heat=was
 ·subst h2
  rw [show mayB d.heats.length x heat heat=true by unfold mayB;rw [b1,decide_eq_true rfl];rfl]
  clear h
  gi_enter Try.func35,Try.ntmps35
  gi_wp2_with (first | ((gi_at_call 58;refine CallsIn.mono (by (with_reducible exact j1 _)) ?_;rintro e w1 ⟨rfl,hw1⟩;replace hw1:=hw1.symm;subst hw1)) | gi_in)
  all_goals (go_ret;exact⟨rfl,zaj (Nx.refl _) _⟩)
 ·have b2:(heat == was)=false:=beq_false_of_ne h2
  have hd2:decide (heat=was)=false:=decide_eq_false h2
  cases ht:x.tended with
  | false =>
   rw [show mayB d.heats.length x was heat=false by unfold mayB;rw [b1,hd2,ht];rfl]
   rw [ht] at e2
   clear h h2 hd2 hk
   gi_enter Try.func35,Try.ntmps35
   gi_upto_region 1 with fail
   generalize hW:w.alloc _=W
   obtain⟨nW,hB⟩:=DBox.of (d:=d) (r:=⟨_,_⟩) hW
   have e2:=e2 _ nW
   have c0:=hB.at' 0 _ rfl
   have c6:=hB.at' 6 _ rfl
   clear hW hB
   generalize w.heap.size=B at *
   gi_wp2_with (first | ((gi_at_call 58;refine CallsIn.mono (by (with_reducible exact j1 _)) ?_;rintro e w1 ⟨rfl,hw1⟩;replace hw1:=hw1.symm;subst hw1)) | gi_in)
   all_goals (go_ret;exact⟨rfl,nW⟩)
  | true =>
   rw [ht] at e2
   by_cases h3:heat=was+1
   ·have b3:(heat == was+1)=true:=by simpa using h3
    rw [show mayB d.heats.length x was heat=true by unfold mayB;rw [b1,hd2,ht,decide_eq_true h3];simp]
    clear h3 h h2 hd2 hk
    gi_enter Try.func35,Try.ntmps35
    gi_upto_region 1 with fail
    generalize hW:w.alloc _=W
    obtain⟨nW,hB⟩:=DBox.of (d:=d) (r:=⟨_,_⟩) hW
    have e2:=e2 _ nW
    have c0:=hB.at' 0 _ rfl
    have c6:=hB.at' 6 _ rfl
    clear hW hB
    generalize w.heap.size=B at *
    gi_wp2_with (first | ((gi_at_call 58;refine CallsIn.mono (by (with_reducible exact j1 _)) ?_;rintro e w1 ⟨rfl,hw1⟩;replace hw1:=hw1.symm;subst hw1)) | gi_in)
    all_goals (go_ret;exact⟨rfl,nW⟩)
   ·have b3:(heat == was+1)=false:=beq_false_of_ne h3
    rw [show mayB d.heats.length x was heat=(heat == was-1) by unfold mayB;rw [b1,hd2,ht,decide_eq_false h3];simp [Bool.beq_eq_decide_eq]]
    clear h3 h h2 hd2 hk
    gi_enter Try.func35,Try.ntmps35
    gi_upto_region 1 with fail
    generalize hW:w.alloc _=W
    obtain⟨nW,hB⟩:=DBox.of (d:=d) (r:=⟨_,_⟩) hW
    have e2:=e2 _ nW
    have c0:=hB.at' 0 _ rfl
    have c6:=hB.at' 6 _ rfl
    clear hW hB
    generalize w.heap.size=B at *
    gi_wp2_with (first | ((gi_at_call 58;refine CallsIn.mono (by (with_reducible exact j1 _)) ?_;rintro e w1 ⟨rfl,hw1⟩;replace hw1:=hw1.symm;subst hw1)) | gi_in)
    all_goals (go_ret;exact⟨rfl,nW⟩)
end Go.Proofs.Ytedomogjmhommaa
