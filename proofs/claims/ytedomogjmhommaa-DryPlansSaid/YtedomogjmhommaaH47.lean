import Derived.Test.YtedomogjmhommaaH46
set_option linter.all false
set_option maxRecDepth 100000
set_option maxHeartbeats 8000000
namespace Go.Proofs.Ytedomogjmhommaa
open Go.RowKit Go.Con Go.Conc
theorem zq8 (pa pb b5 o5 k5 k8 k11 k18:Nat) (a8 a11 a18:Option Addr) (R:Go.Act→World→Prop) (t:Array Value) (hK:K10 t pa pb b5 o5 k5 k8 k11 k18 a8 a11 a18) (h99:t[99]?=some (.bool true)) (w V0:World) (n0:Nx w V0) (uc:Nat) (ua:Option Addr) (cu:w.cell? ⟨b5,o5+2,none⟩=some (.slice ua 2 uc)) (hu:Sl w (.slice ua 2 uc) 3 (L46.map St.cells)) (hk:∀ (t' : Array Value) (V' : World),K10 t' pa pb b5 o5 k5 k8 k11 k18 a8 a11 a18→t'[111]?=some (.bool true)→Nx w V'→wpAnyZ FW 0 Try.prog .any (opsOf x17_10) (Nx w) 60 (fun e a w'=>e=Exit.normal∧R a w') 35 #[true,true,true,true,true,true,true,true,true,true,true,true,true,true,true,true,true,true,true,true,true,true,true,true,true,true,false,false,false,false,false,false,false,false,false,false,false,false,false,false,false,false,false,false,false,false,false,false,false,false,false,false,false,false,false,false,false,false,false,false,false] ⟨t',[]⟩ V') :
  wpAnyZ FW 0 Try.prog .any (opsOf x17_10) (Nx w) 60 (fun e a w'=>e=Exit.normal∧R a w') 47 #[true,true,true,true,true,true,true,true,true,true,true,true,true,true,false,false,false,false,false,false,false,false,false,false,false,false,false,false,false,false,false,false,false,false,false,false,false,false,false,false,false,false,false,false,false,false,false,false,false,false,false,false,false,false,false,false,false,false,false,false,false] ⟨t,[]⟩ V0:=by
 obtain⟨hs,h2,h3,h5,h6,h8,h9,h11,h12,h13,h15,h16,h18⟩:=hK
 obtain⟨f,rfl⟩:=zeK hs
 have g2:f 2=num 2:=by simpa using h2
 have g3:f 3=.bool true:=by simpa using h3
 have g5:f 5=.slice (some ⟨b5,o5,none⟩) 4 k5:=by simpa using h5
 have g6:f 6=.bool true:=by simpa using h6
 have g8:f 8=.slice a8 3 k8:=by simpa using h8
 have g9:f 9=.bool true:=by simpa using h9
 have g11:f 11=.slice a11 3 k11:=by simpa using h11
 have g12:f 12=num 1:=by simpa using h12
 have g13:f 13=.bool true:=by simpa using h13
 have g15:f 15=ptr pa:=by simpa using h15
 have g16:f 16=ptr pb:=by simpa using h16
 have g18:f 18=.slice a18 3 k18:=by simpa using h18
 have g99:f 99=.bool true:=by simpa using h99
 rw [g2,g3,g5,g6,g8,g9,g11,g12,g13,g15,g16,g18,g99]
 clear hs h2 h3 h5 h6 h8 h9 h11 h12 h13 h15 h16 h18 h99 g2 g3 g5 g6 g8 g9 g11 g12 g13 g15 g16 g18 g99
 have k46:=fun (w1:World) (n:Nx w w1) (v:Value) (hv:Sl w1 v 3 (L46.map St.cells))=>zmj (.slice ua 2 uc) v L46 L46 w1 (hu.nx n) hv (by decide) (by decide) in46 in46
 rw [show decide (L46=L46)=true by simp] at k46
 clear hu
 simp only [x17_0,x17_1,x17_2,x17_3,zdP,x17_5,x17_6,x17_7,x17_8,zey,x17_10,zdH,b17,Try.f17,cL,cR,cB,cT,opsOf] at hk ⊢
 obtain⟨Z,G,hN,hG,hG'⟩:=zaC (C:=Nx w) (x:=w) (Nx.refl _)
 have rcu:=fun z=>(Kc.nx (hG' z)).cell cu
 clear cu
 refine Go.zqE 14 hG (by kernel_rfl) (fun _ _ _ h=>by cases h.1) rfl ?_;intro o ho K hK;simp at ho;subst ho;gi_big_quiet_op;go_big_quiet_on
 refine Go.zqE 15 hG (by kernel_rfl) (fun _ _ _ h=>by cases h.1) rfl ?_;intro o ho K hK;simp at ho;subst ho;gi_big_quiet_op;go_big_quiet_on
 refine Go.zqE 16 hG (by kernel_rfl) (fun _ _ _ h=>by cases h.1) rfl ?_;intro o ho K hK;simp at ho;subst ho;gi_big_quiet_op;go_big_quiet_on
 refine Go.zqE 17 hG (by kernel_rfl) (fun _ _ _ h=>by cases h.1) rfl ?_;intro o ho K hK;simp at ho;subst ho;gi_big_quiet_op;go_big_quiet_on
 refine Go.zqE 18 hG (by kernel_rfl) (fun _ _ _ h=>by cases h.1) rfl ?_;intro o ho K hK;simp at ho;subst ho;gi_big_quiet_op;go_big_quiet_on
 refine Go.zoE 19 (by kernel_rfl) rfl ?_ ?_;rotate_left;intro o ho K hK;simp at ho;subst ho
 gi_wp2_with fail
 have m1:=al0 V0 (.cells #[num 400,num 200,num 2,num 490,num 200,num 1] 24 (0,0))
 have hz:=rowN (w:=V0) (e:=24) (sz:=3) (cap:=2) (n:=2) (cs:=#[num 400,num 200,num 2,num 490,num 200,num 1]) (xs:=L46.map St.cells) rfl (fun l hl=>by obtain⟨_,_,rfl⟩:=List.mem_map.1 hl;rfl) rfl
 generalize V0.alloc (.cells #[num 400,num 200,num 2,num 490,num 200,num 1] 24 (0,0))=V1 at *
 have n1:=n0.trans m1
 clear m1
 refine Go.zoE 20 (by kernel_rfl) rfl ?_ ?_;rotate_left;intro o ho K hK;simp at ho;subst ho
 gi_wp2_with (first | (gi_at_call 46;refine CallsIn.mono (k46 _ n1 _ hz) ?_;rintro e V2 ⟨rfl,x2⟩) | gi_in)
 have n2:=n1.trans x2
 refine Go.zoE 21 (by kernel_rfl) rfl ?_ ?_;rotate_left;intro o ho K hK;simp at ho;subst ho
 gi_wp2_with fail
 refine Go.zoE 22 (by kernel_rfl) rfl ?_ ?_;rotate_left;intro o ho K hK;simp at ho;subst ho
 gi_wp2_with fail
 refine Go.zoE 23 (by kernel_rfl) rfl ?_ ?_;rotate_left;intro o ho K hK;simp at ho;subst ho
 gi_wp2_with fail
 refine Go.zoE 24 (by kernel_rfl) rfl ?_ ?_;rotate_left;intro o ho K hK;simp at ho;subst ho
 gi_wp2_with fail
 refine Go.zoE 25 (by kernel_rfl) rfl ?_ ?_;rotate_left;intro o ho K hK;simp at ho;subst ho
 gi_wp2_with fail
 simp only [List.setIfInBounds_toArray,List.set_cons_succ,List.set_cons_zero]
 exact hk _ _ ⟨rfl,rfl,rfl,rfl,rfl,rfl,rfl,rfl,rfl,rfl,rfl,rfl,rfl⟩ rfl n2
 all_goals (intro h;first | exact absurd h (by decide) | exact n0 | exact n1 | exact n2)
end Go.Proofs.Ytedomogjmhommaa
namespace Go.Proofs.Ytedomogjmhommaa
open Go.RowKit Go.Con Go.Conc
theorem zq9 (pa pb b5 o5 k5 k8 k11 k18:Nat) (a8 a11 a18:Option Addr) (R:Go.Act→World→Prop) (t:Array Value) (hK:K10 t pa pb b5 o5 k5 k8 k11 k18 a8 a11 a18) (h111:t[111]?=some (.bool true)) (w V0:World) (n0:Nx w V0) (h8s:Sl w (.slice a8 3 k8) 1 (([1,2,2]:List Int).map one)) (hk:∀ (t' : Array Value) (V' : World),K10 t' pa pb b5 o5 k5 k8 k11 k18 a8 a11 a18→t'[123]?=some (.bool true)→Nx w V'→wpAnyZ FW 0 Try.prog .any (opsOf x17_10) (Nx w) 60 (fun e a w'=>e=Exit.normal∧R a w') 23 #[true,true,true,true,true,true,true,true,true,true,true,true,true,true,true,true,true,true,true,true,true,true,true,true,true,true,true,true,true,true,true,true,true,true,true,true,true,true,false,false,false,false,false,false,false,false,false,false,false,false,false,false,false,false,false,false,false,false,false,false,false] ⟨t',[]⟩ V') :
  wpAnyZ FW 0 Try.prog .any (opsOf x17_10) (Nx w) 60 (fun e a w'=>e=Exit.normal∧R a w') 35 #[true,true,true,true,true,true,true,true,true,true,true,true,true,true,true,true,true,true,true,true,true,true,true,true,true,true,false,false,false,false,false,false,false,false,false,false,false,false,false,false,false,false,false,false,false,false,false,false,false,false,false,false,false,false,false,false,false,false,false,false,false] ⟨t,[]⟩ V0:=by
 obtain⟨hs,h2,h3,h5,h6,h8,h9,h11,h12,h13,h15,h16,h18⟩:=hK
 obtain⟨f,rfl⟩:=zeK hs
 have g2:f 2=num 2:=by simpa using h2
 have g3:f 3=.bool true:=by simpa using h3
 have g5:f 5=.slice (some ⟨b5,o5,none⟩) 4 k5:=by simpa using h5
 have g6:f 6=.bool true:=by simpa using h6
 have g8:f 8=.slice a8 3 k8:=by simpa using h8
 have g9:f 9=.bool true:=by simpa using h9
 have g11:f 11=.slice a11 3 k11:=by simpa using h11
 have g12:f 12=num 1:=by simpa using h12
 have g13:f 13=.bool true:=by simpa using h13
 have g15:f 15=ptr pa:=by simpa using h15
 have g16:f 16=ptr pb:=by simpa using h16
 have g18:f 18=.slice a18 3 k18:=by simpa using h18
 have g111:f 111=.bool true:=by simpa using h111
 rw [g2,g3,g5,g6,g8,g9,g11,g12,g13,g15,g16,g18,g111]
 clear hs h2 h3 h5 h6 h8 h9 h11 h12 h13 h15 h16 h18 h111 g2 g3 g5 g6 g8 g9 g11 g12 g13 g15 g16 g18 g111
 have k25:=fun (w1:World) (n:Nx w w1) (v:Value) (hv:Sl w1 v 1 (([1,2,2]:List Int).map one))=>zd2 (.slice a8 3 k8) v [1,2,2] [1,2,2] w1 (h8s.nx n) hv (by decide) (by decide)
 rw [show decide (([1,2,2]:List Int)=[1,2,2])=true by simp] at k25
 clear h8s
 simp only [x17_0,x17_1,x17_2,x17_3,zdP,x17_5,x17_6,x17_7,x17_8,zey,x17_10,zdH,b17,Try.f17,cL,cR,cB,cT,opsOf] at hk ⊢
 obtain⟨Z,G,hN,hG,hG'⟩:=zaC (C:=Nx w) (x:=w) (Nx.refl _)
 refine Go.zqE 26 hG (by kernel_rfl) (fun _ _ _ h=>by cases h.1) rfl ?_;intro o ho K hK;simp at ho;subst ho;gi_big_quiet_op;go_big_quiet_on
 refine Go.zoE 27 (by kernel_rfl) rfl ?_ ?_;rotate_left;intro o ho K hK;simp at ho;subst ho
 gi_wp2_with fail
 have m1:=al0 V0 (.cells #[num 1,num 2,num 2] 3 (0,0))
 have hz:=row3 V0 1 2 2 3
 generalize V0.alloc (.cells #[num 1,num 2,num 2] 3 (0,0))=V1 at *
 have n1:=n0.trans m1
 clear m1
 refine Go.zoE 28 (by kernel_rfl) rfl ?_ ?_;rotate_left;intro o ho K hK;simp at ho;subst ho
 gi_wp2_with (first | (gi_at_call 25;refine CallsIn.mono (k25 _ n1 _ hz) ?_;rintro e V2 ⟨rfl,x2⟩) | gi_in)
 have n2:=n1.trans x2
 refine Go.zoE 29 (by kernel_rfl) rfl ?_ ?_;rotate_left;intro o ho K hK;simp at ho;subst ho
 gi_wp2_with fail
 refine Go.zoE 30 (by kernel_rfl) rfl ?_ ?_;rotate_left;intro o ho K hK;simp at ho;subst ho
 gi_wp2_with fail
 refine Go.zoE 31 (by kernel_rfl) rfl ?_ ?_;rotate_left;intro o ho K hK;simp at ho;subst ho
 gi_wp2_with fail
 refine Go.zoE 32 (by kernel_rfl) rfl ?_ ?_;rotate_left;intro o ho K hK;simp at ho;subst ho
 gi_wp2_with fail
 refine Go.zoE 33 (by kernel_rfl) rfl ?_ ?_;rotate_left;intro o ho K hK;simp at ho;subst ho
 gi_wp2_with fail
 refine Go.zoE 34 (by kernel_rfl) rfl ?_ ?_;rotate_left;intro o ho K hK;simp at ho;subst ho
 gi_wp2_with fail
 refine Go.zoE 35 (by kernel_rfl) rfl ?_ ?_;rotate_left;intro o ho K hK;simp at ho;subst ho
 gi_wp2_with fail
 refine Go.zoE 36 (by kernel_rfl) rfl ?_ ?_;rotate_left;intro o ho K hK;simp at ho;subst ho
 gi_wp2_with fail
 refine Go.zoE 37 (by kernel_rfl) rfl ?_ ?_;rotate_left;intro o ho K hK;simp at ho;subst ho
 gi_wp2_with fail
 simp only [List.setIfInBounds_toArray,List.set_cons_succ,List.set_cons_zero]
 exact hk _ _ ⟨rfl,rfl,rfl,rfl,rfl,rfl,rfl,rfl,rfl,rfl,rfl,rfl,rfl⟩ rfl n2
 all_goals (intro h;first | exact absurd h (by decide) | exact n0 | exact n1 | exact n2)
end Go.Proofs.Ytedomogjmhommaa
namespace Go.Proofs.Ytedomogjmhommaa
open Go.RowKit Go.Con Go.Conc
theorem zra (pa pb b5 o5 k5 k8 k11 k18:Nat) (a8 a11 a18:Option Addr) (R:Go.Act→World→Prop) (t:Array Value) (hK:K10 t pa pb b5 o5 k5 k8 k11 k18 a8 a11 a18) (h123:t[123]?=some (.bool true)) (w V0:World) (n0:Nx w V0) (h11s:Sl w (.slice a11 3 k11) 1 (([0,0,0]:List Int).map one)) (ca0:w.cell? ⟨pa,0,none⟩=some (num 720)) (ca1:w.cell? ⟨pa,1,none⟩=some (num 825)) (hk:∀ (t' : Array Value) (V' : World),K10 t' pa pb b5 o5 k5 k8 k11 k18 a8 a11 a18→t'[133]?=some (.bool true)→Nx w V'→wpAnyZ FW 0 Try.prog .any (opsOf x17_10) (Nx w) 60 (fun e a w'=>e=Exit.normal∧R a w') 13 #[true,true,true,true,true,true,true,true,true,true,true,true,true,true,true,true,true,true,true,true,true,true,true,true,true,true,true,true,true,true,true,true,true,true,true,true,true,true,true,true,true,true,true,true,true,true,true,true,false,false,false,false,false,false,false,false,false,false,false,false,false] ⟨t',[]⟩ V') :
  wpAnyZ FW 0 Try.prog .any (opsOf x17_10) (Nx w) 60 (fun e a w'=>e=Exit.normal∧R a w') 23 #[true,true,true,true,true,true,true,true,true,true,true,true,true,true,true,true,true,true,true,true,true,true,true,true,true,true,true,true,true,true,true,true,true,true,true,true,true,true,false,false,false,false,false,false,false,false,false,false,false,false,false,false,false,false,false,false,false,false,false,false,false] ⟨t,[]⟩ V0:=by
 obtain⟨hs,h2,h3,h5,h6,h8,h9,h11,h12,h13,h15,h16,h18⟩:=hK
 obtain⟨f,rfl⟩:=zeK hs
 have g2:f 2=num 2:=by simpa using h2
 have g3:f 3=.bool true:=by simpa using h3
 have g5:f 5=.slice (some ⟨b5,o5,none⟩) 4 k5:=by simpa using h5
 have g6:f 6=.bool true:=by simpa using h6
 have g8:f 8=.slice a8 3 k8:=by simpa using h8
 have g9:f 9=.bool true:=by simpa using h9
 have g11:f 11=.slice a11 3 k11:=by simpa using h11
 have g12:f 12=num 1:=by simpa using h12
 have g13:f 13=.bool true:=by simpa using h13
 have g15:f 15=ptr pa:=by simpa using h15
 have g16:f 16=ptr pb:=by simpa using h16
 have g18:f 18=.slice a18 3 k18:=by simpa using h18
 have g123:f 123=.bool true:=by simpa using h123
 rw [g2,g3,g5,g6,g8,g9,g11,g12,g13,g15,g16,g18,g123]
 clear hs h2 h3 h5 h6 h8 h9 h11 h12 h13 h15 h16 h18 h123 g2 g3 g5 g6 g8 g9 g11 g12 g13 g15 g16 g18 g123
 have k25:=fun (w1:World) (n:Nx w w1) (v:Value) (hv:Sl w1 v 1 (([0,0,0]:List Int).map one))=>zd2 (.slice a11 3 k11) v [0,0,0] [0,0,0] w1 (h11s.nx n) hv (by decide) (by decide)
 rw [show decide (([0,0,0]:List Int)=[0,0,0])=true by simp] at k25
 clear h11s
 have q720:=fun (W1:World)=>eq45 (s:=(720,825)) (t:=(720,825)) ⟨i64 (by decide),i64 (by decide)⟩ ⟨i64 (by decide),i64 (by decide)⟩ W1
 rw [show decide (((720,825):Int×Int)=(720,825))=true by simp] at q720
 simp only [spV] at q720
 have hg45:=g45
 simp only [x17_0,x17_1,x17_2,x17_3,zdP,x17_5,x17_6,x17_7,x17_8,zey,x17_10,zdH,b17,Try.f17,cL,cR,cB,cT,opsOf] at hk ⊢
 obtain⟨Z,G,hN,hG,hG'⟩:=zaC (C:=Nx w) (x:=w) (Nx.refl _)
 have rca0:=fun z=>(Kc.nx (hG' z)).cell ca0
 have rca1:=fun z=>(Kc.nx (hG' z)).cell ca1
 clear ca0 ca1
 refine Go.zqE 38 hG (by kernel_rfl) (fun _ _ _ h=>by cases h.1) rfl ?_;intro o ho K hK;simp at ho;subst ho;gi_big_quiet_op;go_big_quiet_on
 refine Go.zoE 39 (by kernel_rfl) rfl ?_ ?_;rotate_left;intro o ho K hK;simp at ho;subst ho
 gi_wp2_with fail
 have m1:=al0 V0 (.cells #[num 0,num 0,num 0] 3 (0,0))
 have hz:=row3 V0 0 0 0 3
 generalize V0.alloc (.cells #[num 0,num 0,num 0] 3 (0,0))=V1 at *
 have n1:=n0.trans m1
 clear m1
 refine Go.zoE 40 (by kernel_rfl) rfl ?_ ?_;rotate_left;intro o ho K hK;simp at ho;subst ho
 gi_wp2_with (first | (gi_at_call 25;refine CallsIn.mono (k25 _ n1 _ hz) ?_;rintro e V2 ⟨rfl,x2⟩) | gi_in)
 have n2:=n1.trans x2
 refine Go.zoE 41 (by kernel_rfl) rfl ?_ ?_;rotate_left;intro o ho K hK;simp at ho;subst ho
 gi_wp2_with fail
 refine Go.zoE 42 (by kernel_rfl) rfl ?_ ?_;rotate_left;intro o ho K hK;simp at ho;subst ho
 gi_wp2_with fail
 refine Go.zqE 43 hG (by kernel_rfl) (fun _ _ _ h=>by cases h.1) rfl ?_;intro o ho K hK;simp at ho;subst ho;gi_big_quiet_op;go_big_quiet_on
 refine Go.zoE 44 (by kernel_rfl) rfl ?_ ?_;rotate_left;intro o ho K hK;simp at ho;subst ho
 gi_wp2_with (first | (gi_at_call 48;refine CallsIn.mono (zc6 720 825 _) ?_;rintro e w2 ⟨rfl,rfl⟩) | gi_in)
 have m3:=al0 V2 (.cells #[num 720,num 825] 45 (0,0))
 generalize V2.alloc (.cells #[num 720,num 825] 45 (0,0))=V3 at *
 have n3:=n2.trans m3
 clear m3
 refine Go.zoE 45 (by kernel_rfl) rfl ?_ ?_;rotate_left;intro o ho K hK;simp at ho;subst ho
 gi_wp2_with fail
 refine Go.zoE 46 (by kernel_rfl) rfl ?_ ?_;rotate_left;intro o ho K hK;simp at ho;subst ho
 gi_wp2_with fail
 refine Go.zoE 47 (by kernel_rfl) rfl ?_ ?_;rotate_left;intro o ho K hK;simp at ho;subst ho
 gi_wp2_with fail
 simp only [List.setIfInBounds_toArray,List.set_cons_succ,List.set_cons_zero]
 exact hk _ _ ⟨rfl,rfl,rfl,rfl,rfl,rfl,rfl,rfl,rfl,rfl,rfl,rfl,rfl⟩ rfl n3
 all_goals (intro h;first | exact absurd h (by decide) | exact n0 | exact n1 | exact n2 | exact n3)
end Go.Proofs.Ytedomogjmhommaa
namespace Go.Proofs.Ytedomogjmhommaa
open Go.RowKit Go.Con Go.Conc
theorem zrb (pa pb b5 o5 k5 k8 k11 k18:Nat) (a8 a11 a18:Option Addr) (R:Go.Act→World→Prop) (t:Array Value) (hK:K10 t pa pb b5 o5 k5 k8 k11 k18 a8 a11 a18) (h133:t[133]?=some (.bool true)) (w V0:World) (n0:Nx w V0) (cb0:w.cell? ⟨pb,0,none⟩=some (num 20)) (cb1:w.cell? ⟨pb,1,none⟩=some (num 20)) (hk:∀ (t' : Array Value) (V' : World),K10 t' pa pb b5 o5 k5 k8 k11 k18 a8 a11 a18→t'[138]?=some (.bool true)→Nx w V'→wpAnyZ FW 0 Try.prog .any (opsOf x17_10) (Nx w) 60 (fun e a w'=>e=Exit.normal∧R a w') 8 #[true,true,true,true,true,true,true,true,true,true,true,true,true,true,true,true,true,true,true,true,true,true,true,true,true,true,true,true,true,true,true,true,true,true,true,true,true,true,true,true,true,true,true,true,true,true,true,true,true,true,true,true,true,false,false,false,false,false,false,false,false] ⟨t',[]⟩ V') :
  wpAnyZ FW 0 Try.prog .any (opsOf x17_10) (Nx w) 60 (fun e a w'=>e=Exit.normal∧R a w') 13 #[true,true,true,true,true,true,true,true,true,true,true,true,true,true,true,true,true,true,true,true,true,true,true,true,true,true,true,true,true,true,true,true,true,true,true,true,true,true,true,true,true,true,true,true,true,true,true,true,false,false,false,false,false,false,false,false,false,false,false,false,false] ⟨t,[]⟩ V0:=by
 obtain⟨hs,h2,h3,h5,h6,h8,h9,h11,h12,h13,h15,h16,h18⟩:=hK
 obtain⟨f,rfl⟩:=zeK hs
 have g2:f 2=num 2:=by simpa using h2
 have g3:f 3=.bool true:=by simpa using h3
 have g5:f 5=.slice (some ⟨b5,o5,none⟩) 4 k5:=by simpa using h5
 have g6:f 6=.bool true:=by simpa using h6
 have g8:f 8=.slice a8 3 k8:=by simpa using h8
 have g9:f 9=.bool true:=by simpa using h9
 have g11:f 11=.slice a11 3 k11:=by simpa using h11
 have g12:f 12=num 1:=by simpa using h12
 have g13:f 13=.bool true:=by simpa using h13
 have g15:f 15=ptr pa:=by simpa using h15
 have g16:f 16=ptr pb:=by simpa using h16
 have g18:f 18=.slice a18 3 k18:=by simpa using h18
 have g133:f 133=.bool true:=by simpa using h133
 rw [g2,g3,g5,g6,g8,g9,g11,g12,g13,g15,g16,g18,g133]
 clear hs h2 h3 h5 h6 h8 h9 h11 h12 h13 h15 h16 h18 h133 g2 g3 g5 g6 g8 g9 g11 g12 g13 g15 g16 g18 g133
 have q20:=fun (W1:World)=>eq45 (s:=(20,20)) (t:=(20,20)) ⟨i64 (by decide),i64 (by decide)⟩ ⟨i64 (by decide),i64 (by decide)⟩ W1
 rw [show decide (((20,20):Int×Int)=(20,20))=true by simp] at q20
 simp only [spV] at q20
 have hg45:=g45
 simp only [x17_0,x17_1,x17_2,x17_3,zdP,x17_5,x17_6,x17_7,x17_8,zey,x17_10,zdH,b17,Try.f17,cL,cR,cB,cT,opsOf] at hk ⊢
 obtain⟨Z,G,hN,hG,hG'⟩:=zaC (C:=Nx w) (x:=w) (Nx.refl _)
 have rcb0:=fun z=>(Kc.nx (hG' z)).cell cb0
 have rcb1:=fun z=>(Kc.nx (hG' z)).cell cb1
 clear cb0 cb1
 refine Go.zqE 48 hG (by kernel_rfl) (fun _ _ _ h=>by cases h.1) rfl ?_;intro o ho K hK;simp at ho;subst ho;gi_big_quiet_op;go_big_quiet_on
 refine Go.zoE 49 (by kernel_rfl) rfl ?_ ?_;rotate_left;intro o ho K hK;simp at ho;subst ho
 gi_wp2_with (first | (gi_at_call 48;refine CallsIn.mono (zc6 20 20 _) ?_;rintro e w2 ⟨rfl,rfl⟩) | gi_in)
 have m1:=al0 V0 (.cells #[num 20,num 20] 45 (0,0))
 generalize V0.alloc (.cells #[num 20,num 20] 45 (0,0))=V1 at *
 have n1:=n0.trans m1
 clear m1
 refine Go.zoE 50 (by kernel_rfl) rfl ?_ ?_;rotate_left;intro o ho K hK;simp at ho;subst ho
 gi_wp2_with fail
 refine Go.zoE 51 (by kernel_rfl) rfl ?_ ?_;rotate_left;intro o ho K hK;simp at ho;subst ho
 gi_wp2_with fail
 refine Go.zoE 52 (by kernel_rfl) rfl ?_ ?_;rotate_left;intro o ho K hK;simp at ho;subst ho
 gi_wp2_with fail
 simp only [List.setIfInBounds_toArray,List.set_cons_succ,List.set_cons_zero]
 exact hk _ _ ⟨rfl,rfl,rfl,rfl,rfl,rfl,rfl,rfl,rfl,rfl,rfl,rfl,rfl⟩ rfl n1
 all_goals (intro h;first | exact absurd h (by decide) | exact n0 | exact n1)
end Go.Proofs.Ytedomogjmhommaa
namespace Go.Proofs.Ytedomogjmhommaa
open Go.RowKit Go.Con Go.Conc
theorem zrc (pa pb b5 o5 k5 k8 k11 k18:Nat) (a8 a11 a18:Option Addr) (R:Go.Act→World→Prop) (t:Array Value) (hK:K10 t pa pb b5 o5 k5 k8 k11 k18 a8 a11 a18) (h138:t[138]?=some (.bool true)) (w V0:World) (n0:Nx w V0) (h18s:Sl w (.slice a18 3 k18) 2 (L32.map spc)) (hk:∀ (t' : Array Value) (V' : World),t'[0]?=some (.bool true)→Nx w V'→R ⟨t',[]⟩ V') :
  wpAnyZ FW 0 Try.prog .any (opsOf x17_10) (Nx w) 60 (fun e a w'=>e=Exit.normal∧R a w') 8 #[true,true,true,true,true,true,true,true,true,true,true,true,true,true,true,true,true,true,true,true,true,true,true,true,true,true,true,true,true,true,true,true,true,true,true,true,true,true,true,true,true,true,true,true,true,true,true,true,true,true,true,true,true,false,false,false,false,false,false,false,false] ⟨t,[]⟩ V0:=by
 obtain⟨hs,h2,h3,h5,h6,h8,h9,h11,h12,h13,h15,h16,h18⟩:=hK
 obtain⟨f,rfl⟩:=zeK hs
 have g2:f 2=num 2:=by simpa using h2
 have g3:f 3=.bool true:=by simpa using h3
 have g5:f 5=.slice (some ⟨b5,o5,none⟩) 4 k5:=by simpa using h5
 have g6:f 6=.bool true:=by simpa using h6
 have g8:f 8=.slice a8 3 k8:=by simpa using h8
 have g9:f 9=.bool true:=by simpa using h9
 have g11:f 11=.slice a11 3 k11:=by simpa using h11
 have g12:f 12=num 1:=by simpa using h12
 have g13:f 13=.bool true:=by simpa using h13
 have g15:f 15=ptr pa:=by simpa using h15
 have g16:f 16=ptr pb:=by simpa using h16
 have g18:f 18=.slice a18 3 k18:=by simpa using h18
 have g138:f 138=.bool true:=by simpa using h138
 rw [g2,g3,g5,g6,g8,g9,g11,g12,g13,g15,g16,g18,g138]
 clear hs h2 h3 h5 h6 h8 h9 h11 h12 h13 h15 h16 h18 h138 g2 g3 g5 g6 g8 g9 g11 g12 g13 g15 g16 g18 g138
 have k32:=fun (w1:World) (n:Nx w w1) (v:Value) (hv:Sl w1 v 2 (L32.map spc))=>zg3 (.slice a18 3 k18) v L32 L32 w1 in32 in32 (h18s.nx n) hv (by decide) (by decide)
 rw [show decide (L32=L32)=true by simp] at k32
 clear h18s
 simp only [x17_0,x17_1,x17_2,x17_3,zdP,x17_5,x17_6,x17_7,x17_8,zey,x17_10,zdH,b17,Try.f17,cL,cR,cB,cT,opsOf] at hk ⊢
 obtain⟨Z,G,hN,hG,hG'⟩:=zaC (C:=Nx w) (x:=w) (Nx.refl _)
 refine Go.zqE 53 hG (by kernel_rfl) (fun _ _ _ h=>by cases h.1) rfl ?_;intro o ho K hK;simp at ho;subst ho;gi_big_quiet_op;go_big_quiet_on
 refine Go.zqE 54 hG (by kernel_rfl) (fun _ _ _ h=>by cases h.1) rfl ?_;intro o ho K hK;simp at ho;subst ho;gi_big_quiet_op;go_big_quiet_on
 refine Go.zqE 55 hG (by kernel_rfl) (fun _ _ _ h=>by cases h.1) rfl ?_;intro o ho K hK;simp at ho;subst ho;gi_big_quiet_op;go_big_quiet_on
 refine Go.zoE 56 (by kernel_rfl) rfl ?_ ?_;rotate_left;intro o ho K hK;simp at ho;subst ho
 gi_wp2_with (first | (gi_at_call 48;refine CallsIn.mono (zc6 0 2 _) ?_;rintro e w2 ⟨rfl,rfl⟩) | gi_in)
 have m1:=al0 V0 (.cells #[num 0,num 2] 45 (0,0))
 generalize V0.alloc (.cells #[num 0,num 2] 45 (0,0))=V1 at *
 have n1:=n0.trans m1
 clear m1
 refine Go.zoE 57 (by kernel_rfl) rfl ?_ ?_;rotate_left;intro o ho K hK;simp at ho;subst ho
 gi_wp2_with fail
 have m2:=al0 V1 (.cells #[num 0,num 0,num 0,num 0,num 0,num 2] 45 (0,0))
 have hz:=rowN (w:=V1) (e:=45) (sz:=2) (cap:=3) (n:=3) (cs:=#[num 0,num 0,num 0,num 0,num 0,num 2]) (xs:=L32.map spc) rfl (fun l hl=>by obtain⟨_,_,rfl⟩:=List.mem_map.1 hl;rfl) rfl
 generalize V1.alloc (.cells #[num 0,num 0,num 0,num 0,num 0,num 2] 45 (0,0))=V2 at *
 have n2:=n1.trans m2
 clear m2
 refine Go.zoE 58 (by kernel_rfl) rfl ?_ ?_;rotate_left;intro o ho K hK;simp at ho;subst ho
 gi_wp2_with (first | (gi_at_call 32;refine CallsIn.mono (k32 _ n2 _ hz) ?_;rintro e V3 ⟨rfl,x3⟩) | gi_in)
 have n3:=n2.trans x3
 refine Go.zoE 59 (by kernel_rfl) rfl ?_ ?_;rotate_left;intro o ho K hK;simp at ho;subst ho
 gi_wp2_with fail
 refine Go.zoE 60 (by kernel_rfl) rfl ?_ ?_;rotate_left;intro o ho K hK;simp at ho;subst ho
 gi_wp2_with fail
 have n7x:=n3
 first | exact zar (by kernel_rfl) (fun h=>absurd h (by decide)) ⟨by trivial,by trivial,hk _ _ rfl n7x⟩ | exact zar (by kernel_rfl) (fun h=>absurd h (by decide)) ⟨by trivial,hk _ _ rfl n7x⟩
 all_goals (intro h;first | exact absurd h (by decide) | exact n0 | exact n1 | exact n2 | exact n3)
end Go.Proofs.Ytedomogjmhommaa
namespace Go.Proofs.Ytedomogjmhommaa
open Go.RowKit Go.Con Go.Conc
local instance zru:Lone:=dryL
theorem zoe:x17_10=.region 10 (opsOf x17_10) true:=by kernel_rfl
theorem zqI:(opsOf x17_10).size=61:=by kernel_rfl
theorem dr10 (pa pb b5 o5 k5 k8 k11 k18:Nat) (a8 a11 a18:Option Addr) (t:Array Value) (hK:K10 t pa pb b5 o5 k5 k8 k11 k18 a8 a11 a18) (w:World) (uc:Nat) (ua:Option Addr) (cu:w.cell? ⟨b5,o5+2,none⟩=some (.slice ua 2 uc)) (hu:Sl w (.slice ua 2 uc) 3 (L46.map St.cells)) (h8s:Sl w (.slice a8 3 k8) 1 (([1,2,2]:List Int).map one)) (h11s:Sl w (.slice a11 3 k11) 1 (([0,0,0]:List Int).map one)) (h18s:Sl w (.slice a18 3 k18) 2 (L32.map spc)) (ca0:w.cell? ⟨pa,0,none⟩=some (num 720)) (ca1:w.cell? ⟨pa,1,none⟩=some (num 825)) (cb0:w.cell? ⟨pb,0,none⟩=some (num 20)) (cb1:w.cell? ⟨pb,1,none⟩=some (num 20)) :
  x17_10.wpIn FW 0 Try.prog (fun e a w'=>e=.normal∧a.defers=[]∧a.tmps[0]?=some (.bool true)∧Nx w w') ⟨t,[]⟩ w:=by
 have key:(Code.region 10 (opsOf x17_10) true).wpIn FW 0 Try.prog (fun e a w'=>e=.normal∧a.defers=[]∧a.tmps[0]?=some (.bool true)∧Nx w w') ⟨t,[]⟩ w:=by
  refine zat (Nx w) 60 (by kernel_rfl) ?_
  rw [zqI]
  change wpAnyZ FW 0 Try.prog .any (opsOf x17_10) (Nx w) 60 (fun e a w'=>e=Exit.normal∧(fun (a:Go.Act) (w' : World)=>Exit.normal=Exit.normal∧a.defers=[]∧a.tmps[0]?=some (.bool true)∧Nx w w') a w') 61 #[false,false,false,false,false,false,false,false,false,false,false,false,false,false,false,false,false,false,false,false,false,false,false,false,false,false,false,false,false,false,false,false,false,false,false,false,false,false,false,false,false,false,false,false,false,false,false,false,false,false,false,false,false,false,false,false,false,false,false,false,false] ⟨t,[]⟩ w.drew
  refine zq7 pa pb b5 o5 k5 k8 k11 k18 a8 a11 a18 _ t hK w _ (Nx.drew (Nx.refl w)) fun t1 V1 hK1 g1 n1=>?_
  refine zq8 pa pb b5 o5 k5 k8 k11 k18 a8 a11 a18 _ t1 hK1 g1 w _ n1 uc ua cu hu fun t2 V2 hK2 g2 n2=>?_
  refine zq9 pa pb b5 o5 k5 k8 k11 k18 a8 a11 a18 _ t2 hK2 g2 w _ n2 h8s fun t3 V3 hK3 g3 n3=>?_
  refine zra pa pb b5 o5 k5 k8 k11 k18 a8 a11 a18 _ t3 hK3 g3 w _ n3 h11s ca0 ca1 fun t4 V4 hK4 g4 n4=>?_
  refine zrb pa pb b5 o5 k5 k8 k11 k18 a8 a11 a18 _ t4 hK4 g4 w _ n4 cb0 cb1 fun t5 V5 hK5 g5 n5=>?_
  exact zrc pa pb b5 o5 k5 k8 k11 k18 a8 a11 a18 _ t5 hK5 g5 w _ n5 h18s fun t6 V6 h0 n6=>⟨rfl,rfl,h0,n6⟩
 rw [← zoe] at key
 exact key
theorem EW.oc {w w' : World} {p1:Nat} {r:R2} (h:EW w p1 r) (o:OldC w w'):EW w' p1 r:=⟨h.box.oc o,h.sl.oc o⟩
theorem SetsSl.oc {w w' : World} {v:Value} {L:List (List St)} (h:SetsSl w v L) (o:OldC w w'):SetsSl w' v L:=by
 obtain⟨vs,h1,h2,h3⟩:=h
 exact⟨vs,h1.oc o,h2,fun i u l hu hl=>(h3 i u l hu hl).oc o⟩
theorem zoo:zb5 exD=([1,2,2],true,0):=by
 unfold zb5
 rw [if_neg (by rw [zqv];simp),if_neg (by simp [exD]),zoD]
section
variable {dst:Option Nat} {ty:TypeId} {pos:String} {af:Array Edge} {gd:Option (Nat×Bool)} {x y:Nat}
theorem zfu (e:Operand→Value) {w:World} {v:Value} (h:e (.tmp x)=v) (τ:Tape):(execOp e ⟨dst,.assign (.tmp x),ty,pos,af,gd⟩).run Try.prog { w with tape:=τ }=.ok (.value v) { w with tape:=τ }:=by
 simp [execOp,go_sem,h]
theorem zlb (e:Operand→Value) {w:World} {u v z:Value} (h:e (.tmp x)=.tuple #[u,v,z]) (τ:Tape):(execOp e ⟨dst,.extract (.tmp x) 0,ty,pos,af,gd⟩).run Try.prog { w with tape:=τ }=.ok (.value u) { w with tape:=τ }:=by
 simp [execOp,go_sem,h]
theorem zlc (e:Operand→Value) {w:World} {u v z:Value} (h:e (.tmp x)=.tuple #[u,v,z]) (τ:Tape):(execOp e ⟨dst,.extract (.tmp x) 1,ty,pos,af,gd⟩).run Try.prog { w with tape:=τ }=.ok (.value v) { w with tape:=τ }:=by
 simp [execOp,go_sem,h]
theorem zld (e:Operand→Value) {w:World} {u v z:Value} (h:e (.tmp x)=.tuple #[u,v,z]) (τ:Tape):(execOp e ⟨dst,.extract (.tmp x) 2,ty,pos,af,gd⟩).run Try.prog { w with tape:=τ }=.ok (.value z) { w with tape:=τ }:=by
 simp [execOp,go_sem,h]
theorem zhP (e:Operand→Value) {w:World} {p1:Nat} {d:Dry} {r:R2} (h:e (.tmp x)=ptr p1) (hb:DBox w p1 d r) (τ:Tape):(execOp e ⟨dst,.load 27 (.tmp x),ty,pos,af,gd⟩).run Try.prog { w with tape:=τ }=.ok (.value (d.val r)) { w with tape:=τ }:=by
 have c0:({ w with tape:=τ }:World).cell? ⟨p1,0,none⟩=some r.h:=hb.at' 0 _ rfl
 have c1:({ w with tape:=τ }:World).cell? ⟨p1,1,none⟩=some (num d.soak):=hb.at' 1 _ rfl
 have c2:({ w with tape:=τ }:World).cell? ⟨p1,2,none⟩=some (num d.brittle):=hb.at' 2 _ rfl
 have c3:({ w with tape:=τ }:World).cell? ⟨p1,3,none⟩=some (num d.start.w):=hb.at' 3 _ rfl
 have c4:({ w with tape:=τ }:World).cell? ⟨p1,4,none⟩=some (num d.start.c):=hb.at' 4 _ rfl
 have c5:({ w with tape:=τ }:World).cell? ⟨p1,5,none⟩=some (num d.start.h):=hb.at' 5 _ rfl
 have c6:({ w with tape:=τ }:World).cell? ⟨p1,6,none⟩=some r.s:=hb.at' 6 _ rfl
 simp [execOp,go_sem,h,c0,c1,c2,c3,c4,c5,c6]
end
noncomputable def ops17_4:Array Oper:=opsOf zdP
theorem zpv:zdP=.region 4 ops17_4 false:=by kernel_rfl
theorem zi2:Try.f23.body=some b23:=by kernel_rfl
theorem znS (v:Value) (t:Array Value) (h:t[0]?=some v) (σ:Rn):ResultsC Try.prog Try.f17 (t.map (ren σ)) (ren σ v):=by
 have:=resultsC_tmp (P:=Try.prog) (fn:=Try.f17) (t:=0) rfl (t.map (ren σ))
 simp only [Array.getD_eq_getD_getElem?,Array.getElem?_map,h,Option.map_some,Option.getD_some] at this
 exact this
theorem ziF {w:World} {v:Value} {sz:Nat} {xs:List (List Value)} (h:Sl w v sz xs):∃ a k,v=.slice a xs.length k:=by
 obtain⟨a,k,rfl⟩:=h.cases
 exact⟨a,k,rfl⟩
end Go.Proofs.Ytedomogjmhommaa
