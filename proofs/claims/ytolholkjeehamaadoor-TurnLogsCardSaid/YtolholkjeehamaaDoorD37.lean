import Derived.Test.YtolholkjeehamaaDoorD36
set_option linter.all false
set_option maxRecDepth 100000
set_option maxHeartbeats 4000000
namespace Go.Proofs.YtolholkjeehamaaDoor
open Go.RowKit Go.Con Go.Conc
local instance:Lone:=zcG
theorem arrF {t:Array Value} (h:t.size=133) {v3 v4 v5 v6 v7 v8 v9 v10 v11 v12 v13 v14 v15 v16 v17 v18 v19:Value} (h3:t[3]?=some v3) (h4:t[4]?=some v4) (h5:t[5]?=some v5) (h6:t[6]?=some v6) (h7:t[7]?=some v7) (h8:t[8]?=some v8) (h9:t[9]?=some v9) (h10:t[10]?=some v10) (h11:t[11]?=some v11) (h12:t[12]?=some v12) (h13:t[13]?=some v13) (h14:t[14]?=some v14) (h15:t[15]?=some v15) (h16:t[16]?=some v16) (h17:t[17]?=some v17) (h18:t[18]?=some v18) (h19:t[19]?=some v19):∃ a0 a1 a2 a20 a21 a22 a23 a24 a25 a26 a27 a28 a29 a30 a31 a32 a33 a34 a35 a36 a37 a38 a39 a40 a41 a42 a43 a44 a45 a46 a47 a48 a49 a50 a51 a52 a53 a54 a55 a56 a57 a58 a59 a60 a61 a62 a63 a64 a65 a66 a67 a68 a69 a70 a71 a72 a73 a74 a75 a76 a77 a78 a79 a80 a81 a82 a83 a84 a85 a86 a87 a88 a89 a90 a91 a92 a93 a94 a95 a96 a97 a98 a99 a100 a101 a102 a103 a104 a105 a106 a107 a108 a109 a110 a111 a112 a113 a114 a115 a116 a117 a118 a119 a120 a121 a122 a123 a124 a125 a126 a127 a128 a129 a130 a131 a132,t=#[a0,a1,a2,v3,v4,v5,v6,v7,v8,v9,v10,v11,v12,v13,v14,v15,v16,v17,v18,v19,a20,a21,a22,a23,a24,a25,a26,a27,a28,a29,a30,a31,a32,a33,a34,a35,a36,a37,a38,a39,a40,a41,a42,a43,a44,a45,a46,a47,a48,a49,a50,a51,a52,a53,a54,a55,a56,a57,a58,a59,a60,a61,a62,a63,a64,a65,a66,a67,a68,a69,a70,a71,a72,a73,a74,a75,a76,a77,a78,a79,a80,a81,a82,a83,a84,a85,a86,a87,a88,a89,a90,a91,a92,a93,a94,a95,a96,a97,a98,a99,a100,a101,a102,a103,a104,a105,a106,a107,a108,a109,a110,a111,a112,a113,a114,a115,a116,a117,a118,a119,a120,a121,a122,a123,a124,a125,a126,a127,a128,a129,a130,a131,a132]:=by
 obtain⟨l⟩:=t
 simp only [List.size_toArray] at h
 obtain⟨a0,a1,a2,a3,a4,a5,a6,a7,l,rfl,h901⟩:=len8 h
 obtain⟨a8,a9,a10,a11,a12,a13,a14,a15,l,rfl,h902⟩:=len8 h901
 obtain⟨a16,a17,a18,a19,a20,a21,a22,a23,l,rfl,h903⟩:=len8 h902
 obtain⟨a24,a25,a26,a27,a28,a29,a30,a31,l,rfl,h904⟩:=len8 h903
 obtain⟨a32,a33,a34,a35,a36,a37,a38,a39,l,rfl,h905⟩:=len8 h904
 obtain⟨a40,a41,a42,a43,a44,a45,a46,a47,l,rfl,h906⟩:=len8 h905
 obtain⟨a48,a49,a50,a51,a52,a53,a54,a55,l,rfl,h907⟩:=len8 h906
 obtain⟨a56,a57,a58,a59,a60,a61,a62,a63,l,rfl,h908⟩:=len8 h907
 obtain⟨a64,a65,a66,a67,a68,a69,a70,a71,l,rfl,h909⟩:=len8 h908
 obtain⟨a72,a73,a74,a75,a76,a77,a78,a79,l,rfl,h910⟩:=len8 h909
 obtain⟨a80,a81,a82,a83,a84,a85,a86,a87,l,rfl,h911⟩:=len8 h910
 obtain⟨a88,a89,a90,a91,a92,a93,a94,a95,l,rfl,h912⟩:=len8 h911
 obtain⟨a96,a97,a98,a99,a100,a101,a102,a103,l,rfl,h913⟩:=len8 h912
 obtain⟨a104,a105,a106,a107,a108,a109,a110,a111,l,rfl,h914⟩:=len8 h913
 obtain⟨a112,a113,a114,a115,a116,a117,a118,a119,l,rfl,h915⟩:=len8 h914
 obtain⟨a120,a121,a122,a123,a124,a125,a126,a127,l,rfl,h916⟩:=len8 h915
 obtain⟨a128,l,rfl,h917⟩:=len1 h916
 obtain⟨a129,l,rfl,h918⟩:=len1 h917
 obtain⟨a130,l,rfl,h919⟩:=len1 h918
 obtain⟨a131,l,rfl,h920⟩:=len1 h919
 obtain⟨a132,l,rfl,h921⟩:=len1 h920
 rcases l with _ | ⟨b,l⟩
 rotate_left
 ·cases h921
 obtain rfl:a3=v3:=Option.some.inj h3
 obtain rfl:a4=v4:=Option.some.inj h4
 obtain rfl:a5=v5:=Option.some.inj h5
 obtain rfl:a6=v6:=Option.some.inj h6
 obtain rfl:a7=v7:=Option.some.inj h7
 obtain rfl:a8=v8:=Option.some.inj h8
 obtain rfl:a9=v9:=Option.some.inj h9
 obtain rfl:a10=v10:=Option.some.inj h10
 obtain rfl:a11=v11:=Option.some.inj h11
 obtain rfl:a12=v12:=Option.some.inj h12
 obtain rfl:a13=v13:=Option.some.inj h13
 obtain rfl:a14=v14:=Option.some.inj h14
 obtain rfl:a15=v15:=Option.some.inj h15
 obtain rfl:a16=v16:=Option.some.inj h16
 obtain rfl:a17=v17:=Option.some.inj h17
 obtain rfl:a18=v18:=Option.some.inj h18
 obtain rfl:a19=v19:=Option.some.inj h19
 exact⟨_,_,_,_,_,_,_,_,_,_,_,_,_,_,_,_,_,_,_,_,_,_,_,_,_,_,_,_,_,_,_,_,_,_,_,_,_,_,_,_,_,_,_,_,_,_,_,_,_,_,_,_,_,_,_,_,_,_,_,_,_,_,_,_,_,_,_,_,_,_,_,_,_,_,_,_,_,_,_,_,_,_,_,_,_,_,_,_,_,_,_,_,_,_,_,_,_,_,_,_,_,_,_,_,_,_,_,_,_,_,_,_,_,_,_,_,rfl⟩
theorem zhr {dst:Option Nat} {ty:TypeId} {pos:String} {af:Array Edge} {x b:Nat} {w:World} (e:Operand→Value) {v0 v1 v2 v3 v4 v5 v6 v7 v8 v9 v10 v11 v12 v13:Value} (h:e (.tmp x)=.pointer (some ⟨b,0,none⟩)) (h0:w.cell? ⟨b,0,none⟩=some v0) (h1:w.cell? ⟨b,1,none⟩=some v1) (h2:w.cell? ⟨b,2,none⟩=some v2) (h3:w.cell? ⟨b,3,none⟩=some v3) (h4:w.cell? ⟨b,4,none⟩=some v4) (h5:w.cell? ⟨b,5,none⟩=some v5) (h6:w.cell? ⟨b,6,none⟩=some v6) (h7:w.cell? ⟨b,7,none⟩=some v7) (h8:w.cell? ⟨b,8,none⟩=some v8) (h9:w.cell? ⟨b,9,none⟩=some v9) (h10:w.cell? ⟨b,10,none⟩=some v10) (h11:w.cell? ⟨b,11,none⟩=some v11) (h12:w.cell? ⟨b,12,none⟩=some v12) (h13:w.cell? ⟨b,13,none⟩=some v13) (τ:Tape) :
  (execOp e ⟨dst,.load 31 (.tmp x),ty,pos,af,none⟩).run Tryd.prog { w with tape:=τ }=.ok (.value (.agg #[v0,v1,v2,v3,v4,v5,v6,v7,v8,v9,v10,v11,v12,v13])) { w with tape:=τ }:=by
 have e0:({ w with tape:=τ }:World).cell? ⟨b,0,none⟩=some v0:=h0;have e1:({ w with tape:=τ }:World).cell? ⟨b,1,none⟩=some v1:=h1;have e2:({ w with tape:=τ }:World).cell? ⟨b,2,none⟩=some v2:=h2;have e3:({ w with tape:=τ }:World).cell? ⟨b,3,none⟩=some v3:=h3;have e4:({ w with tape:=τ }:World).cell? ⟨b,4,none⟩=some v4:=h4;have e5:({ w with tape:=τ }:World).cell? ⟨b,5,none⟩=some v5:=h5;have e6:({ w with tape:=τ }:World).cell? ⟨b,6,none⟩=some v6:=h6;have e7:({ w with tape:=τ }:World).cell? ⟨b,7,none⟩=some v7:=h7;have e8:({ w with tape:=τ }:World).cell? ⟨b,8,none⟩=some v8:=h8;have e9:({ w with tape:=τ }:World).cell? ⟨b,9,none⟩=some v9:=h9;have e10:({ w with tape:=τ }:World).cell? ⟨b,10,none⟩=some v10:=h10;have e11:({ w with tape:=τ }:World).cell? ⟨b,11,none⟩=some v11:=h11;have e12:({ w with tape:=τ }:World).cell? ⟨b,12,none⟩=some v12:=h12;have e13:({ w with tape:=τ }:World).cell? ⟨b,13,none⟩=some v13:=h13
 simp [execOp,go_sem,h,e0,e1,e2,e3,e4,e5,e6,e7,e8,e9,e10,e11,e12,e13]
theorem zcP {dst:Option Nat} {ty:TypeId} {pos:String} {af:Array Edge} {x i:Nat} {w:World} (e:Operand→Value) {vs:Array Value} {v:Value} (h:e (.tmp x)=.tuple vs) (hi:vs[i]?=some v) (τ:Tape) :
  (execOp e ⟨dst,.extract (.tmp x) i,ty,pos,af,none⟩).run Tryd.prog { w with tape:=τ }=.ok (.value v) { w with tape:=τ }:=by
 simp [execOp,go_sem,h,hi]
theorem PlS.old {w w' : World} {v:Value} {l:List Int} (h:PlS w v l) (o:Old w w'):PlS w' v l:=by
 rcases h with h | ⟨b,cap,h1,h2,h3,h4⟩
 ·exact .inl h
 ·exact .inr ⟨b,cap,h1,Nat.lt_of_lt_of_le h2 o.size,h3,fun j x hx=>(o.cell ⟨b,j,none⟩ h2).trans (h4 j x hx)⟩
theorem zmc (v:Value) (t:Array Value) (h:t[0]?=some v) (σ:Rn):ResultsC Tryd.prog Tryd.f20 (t.map (ren σ)) (ren σ v):=by
 have:=resultsC_tmp (P:=Tryd.prog) (fn:=Tryd.f20) (t:=0) rfl (t.map (ren σ))
 simp only [Array.getD_eq_getD_getElem?,Array.getElem?_map,h,Option.map_some,Option.getD_some] at this
 exact this
theorem fr29 (v1 v2:Value):#[v1,v2]++Array.replicate (Tryd.f29.ntmps-(#[v1,v2]:Array Value).size) undef=#[v1,v2,undef,undef,undef,undef,undef,undef,undef,undef,undef,undef,undef,undef,undef,undef,undef,undef,undef,undef,undef,undef,undef,undef,undef,undef,undef,undef,undef,undef,undef,undef,undef,undef,undef,undef,undef,undef,undef,undef,undef,undef,undef,undef,undef,undef,undef,undef,undef,undef,undef,undef,undef,undef,undef,undef,undef,undef,undef,undef,undef,undef,undef,undef,undef,undef,undef,undef,undef,undef,undef,undef,undef,undef,undef,undef,undef,undef,undef,undef,undef,undef]:=by
 simp only [Tryd.ntmps29,List.size_toArray,List.length_cons,List.length_nil,Nat.reduceAdd,Nat.reduceSub,Array.replicate_succ,Array.replicate_zero,List.push_toArray,List.append_toArray,List.nil_append,List.cons_append]
theorem fr31 (v1 v2:Value):#[v1,v2]++Array.replicate (Tryd.f31.ntmps-(#[v1,v2]:Array Value).size) undef=#[v1,v2,undef,undef,undef,undef,undef,undef,undef,undef,undef,undef,undef,undef,undef,undef,undef,undef,undef,undef,undef,undef,undef,undef,undef,undef,undef,undef,undef,undef,undef,undef,undef,undef,undef,undef,undef,undef,undef,undef,undef,undef,undef,undef,undef]:=by
 simp only [Tryd.ntmps31,List.size_toArray,List.length_cons,List.length_nil,Nat.reduceAdd,Nat.reduceSub,Array.replicate_succ,Array.replicate_zero,List.push_toArray,List.append_toArray,List.nil_append,List.cons_append]
theorem zmm:Tryd.f29.body=some zdH:=by kernel_rfl
theorem zmz:Tryd.f31.body=some zdG:=by kernel_rfl
noncomputable def opf6:Array Oper:=opsOf fl6
theorem zp6:fl6=.region 6 opf6 false:=by kernel_rfl
noncomputable def opf7:Array Oper:=opsOf fl7
theorem zpW:fl7=.region 7 opf7 false:=by kernel_rfl
theorem zka (E Fz Arg:Nat→Prop) (W0:World) (hArg:∀ x,Arg x↔x<W0.heap.size) (Q:(Nat→Prop)→(Nat→Prop)→Goroutine→World→Prop) (φ:Ph) (c0:Frame) (cs:List Frame) (W:World) (hg:Glob W)
  (hcont:∀ (W1:World) (Fz1:Nat→Prop) (φ1:Ph),Old W W1→GoM Tryd.prog true E Fz1 Arg W0 Q φ1 [] (c0.finish (.bool true)) cs W1) :
  GoM Tryd.prog true E Fz Arg W0 Q φ [] (Fr 20 #[undef,undef,undef,undef,undef,undef,undef,undef,undef,undef,undef,undef,undef,undef,undef,undef,undef,undef,undef,undef,undef,undef,undef,undef,undef,undef,undef,undef,undef,undef,undef,undef,undef,undef,undef,undef,undef,undef,undef,undef,undef,undef,undef,undef,undef,undef,undef,undef,undef,undef,undef,undef,undef,undef,undef,undef,undef,undef,undef,undef,undef,undef,undef,undef,undef,undef,undef,undef,undef,undef,undef,undef,undef,undef,undef,undef,undef,undef,undef,undef,undef,undef,undef,undef,undef,undef,undef,undef,undef,undef,undef,undef,undef,undef,undef,undef,undef,undef,undef,undef,undef,undef,undef,undef,undef,undef,undef,undef,undef,undef,undef,undef,undef,undef,undef,undef,undef,undef,undef,undef,undef,undef,undef,undef,undef,undef,undef,undef,undef,undef,undef,undef,undef] [.code zb3]) (c0 :: cs) W:=by
 have hgood:zaL Tryd.prog (.func 20)=false:=by kernel_rfl
 rw [zlU]
 refine Gm.seq ?_
 refine Gm.lone (F:=FG 20) (fun t1 W1=>t1=#[.bool false,undef,undef,undef,undef,undef,undef,undef,undef,undef,undef,undef,undef,undef,undef,undef,undef,undef,undef,undef,undef,undef,undef,undef,undef,undef,undef,undef,undef,undef,undef,undef,undef,undef,undef,undef,undef,undef,undef,undef,undef,undef,undef,undef,undef,undef,undef,undef,undef,undef,undef,undef,undef,undef,undef,undef,undef,undef,undef,undef,undef,undef,undef,undef,undef,undef,undef,undef,undef,undef,undef,undef,undef,undef,undef,undef,undef,undef,undef,undef,undef,undef,undef,undef,undef,undef,undef,undef,undef,undef,undef,undef,undef,undef,undef,undef,undef,undef,undef,undef,undef,undef,undef,undef,undef,undef,undef,undef,undef,undef,undef,undef,undef,undef,undef,undef,undef,undef,undef,undef,undef,undef,undef,undef,undef,undef,undef,undef,undef,undef,undef,undef,undef]∧W1.heap=W.heap) rfl rfl rfl (List.mem_cons_self ..) (zdr 20 hgood) (by kernel_rfl) (by kernel_rfl) (fun τ=>?_) ?_
 ·refine wpIn_mono (zp2 { W with tape:=τ }) ?_
  rintro e a w' ⟨h1,h2,h3,rfl⟩
  exact⟨h1,h2,h3,rfl⟩
 rintro t1 W1 ⟨rfl,hW1⟩
 have hO1:Old W W1:=.same hW1
 refine Gm.seq ?_
 refine Gm.lone (F:=FG 20) (fun t2 W2=>∃ (r:zaR) (lv:Value) (P:Nat),t2=#[.bool false,.pointer (some ⟨P,0,none⟩),.pointer (some ⟨P+1,0,none⟩),undef,undef,undef,undef,undef,undef,undef,undef,undef,undef,undef,undef,undef,undef,undef,undef,undef,.tuple #[exD.val r,.agg #[num (-1),num 1,lv]],.tuple #[exD.val r,.agg #[num (-1),num 1,lv]],exD.val r,.agg #[num (-1),num 1,lv],undef,undef,undef,undef,undef,undef,undef,undef,undef,undef,undef,undef,undef,undef,undef,undef,undef,undef,undef,undef,undef,undef,undef,undef,undef,undef,undef,undef,undef,undef,undef,undef,undef,undef,undef,undef,undef,undef,undef,undef,undef,undef,undef,undef,undef,undef,undef,undef,undef,undef,undef,undef,undef,undef,undef,undef,undef,undef,undef,undef,undef,undef,undef,undef,undef,undef,undef,undef,undef,undef,undef,undef,undef,undef,undef,undef,undef,undef,undef,undef,undef,undef,undef,undef,undef,undef,undef,undef,undef,undef,undef,undef,undef,undef,undef,undef,undef,undef,undef,undef,undef,undef,undef,undef,undef,undef,undef,undef,undef]∧Old W1 W2∧DitSl W2 exD r∧Sl W2 lv 3 (exL.ops.map three)∧Kind W2 lv∧(∀ i v,(exD.cellsA r)[i]?=some v→W2.cell? ⟨P,i,none⟩=some v)∧(∀ i v,(#[num (-1),num 1,lv]:Array Value)[i]?=some v→W2.cell? ⟨P+1,i,none⟩=some v)∧P+1<W2.heap.size) rfl rfl rfl (List.mem_cons_self ..) (zdr 20 hgood) (by kernel_rfl) (by kernel_rfl) (fun τ=>?_) ?_
 ·refine wpIn_mono (zqc { W1 with tape:=τ }) ?_
  rintro e a w' ⟨h1,h2,r,lv,P,h3,h4,h5,h6,h7,h8,h9,h10,h11⟩
  exact⟨h1,h2,r,lv,P,h3,(Old.same (w:=W1) (w':={ W1 with tape:=τ }) rfl).trans (Old.nx h4),h5,h6,h7,h8,h9,h10⟩
 rintro t2 W2 ⟨r,lv,P,rfl,hO12,hd2,hl2,hk2,cD2,cL2,hP2⟩
 have hO2:Old W W2:=hO1.trans hO12
 refine Gm.seq ?_
 refine Gm.lone (F:=FG 20) (fun t3 W3=>t3=#[.bool false,.pointer (some ⟨P,0,none⟩),.pointer (some ⟨P+1,0,none⟩),num 0,num 1,num 1,num 0,undef,undef,undef,undef,undef,undef,undef,undef,undef,undef,undef,undef,undef,.tuple #[exD.val r,.agg #[num (-1),num 1,lv]],.tuple #[exD.val r,.agg #[num (-1),num 1,lv]],exD.val r,.agg #[num (-1),num 1,lv],.tuple #[num 0,num 1,num 1,num 0],exD.val r,.tuple #[num 0,num 1,num 1,num 0],num 0,num 1,num 1,num 0,undef,undef,undef,undef,undef,undef,undef,undef,undef,undef,undef,undef,undef,undef,undef,undef,undef,undef,undef,undef,undef,undef,undef,undef,undef,undef,undef,undef,undef,undef,undef,undef,undef,undef,undef,undef,undef,undef,undef,undef,undef,undef,undef,undef,undef,undef,undef,undef,undef,undef,undef,undef,undef,undef,undef,undef,undef,undef,undef,undef,undef,undef,undef,undef,undef,undef,undef,undef,undef,undef,undef,undef,undef,undef,undef,undef,undef,undef,undef,undef,undef,undef,undef,undef,undef,undef,undef,undef,undef,undef,undef,undef,undef,undef,undef,undef,undef,undef,undef,undef,undef,undef]∧Old W2 W3) rfl rfl rfl (List.mem_cons_self ..) (zdr 20 hgood) (by kernel_rfl) (by kernel_rfl) (fun τ=>?_) ?_
 ·refine wpIn_mono (zp9 { W2 with tape:=τ } r lv P (hd2.old (.same rfl)) ((hg.old hO2).old (.same rfl)) cD2) ?_
  rintro e a w' ⟨h1,h2,h3,h4⟩
  exact⟨h1,h2,h3,(Old.same (w:=W2) (w':={ W2 with tape:=τ }) rfl).trans (Old.nx h4)⟩
 rintro t3 W3 ⟨rfl,hO23⟩
 have hO3:=hO2.trans hO23
 have hd3:=hd2.old hO23
 have hP3:=Nat.lt_of_lt_of_le hP2 hO23.size
 have cD3:∀ i v,(exD.cellsA r)[i]?=some v→W3.cell? ⟨P,i,none⟩=some v:=fun i v h=>(hO23.cell ⟨P,i,none⟩ (Nat.lt_of_succ_lt hP2)).trans (cD2 i v h)
 refine Gm.seq ?_
 refine Gm.lone (F:=FG 20) (fun t4 W4=>t4=#[.bool false,.pointer (some ⟨P,0,none⟩),.pointer (some ⟨P+1,0,none⟩),num 0,num 1,num 1,num 0,num 29,.bool true,num 0,undef,undef,undef,undef,undef,undef,undef,undef,undef,undef,.tuple #[exD.val r,.agg #[num (-1),num 1,lv]],.tuple #[exD.val r,.agg #[num (-1),num 1,lv]],exD.val r,.agg #[num (-1),num 1,lv],.tuple #[num 0,num 1,num 1,num 0],exD.val r,.tuple #[num 0,num 1,num 1,num 0],num 0,num 1,num 1,num 0,.tuple #[num 29,.bool true,num 0],exD.val r,.tuple #[num 29,.bool true,num 0],num 29,.bool true,num 0,undef,undef,undef,undef,undef,undef,undef,undef,undef,undef,undef,undef,undef,undef,undef,undef,undef,undef,undef,undef,undef,undef,undef,undef,undef,undef,undef,undef,undef,undef,undef,undef,undef,undef,undef,undef,undef,undef,undef,undef,undef,undef,undef,undef,undef,undef,undef,undef,undef,undef,undef,undef,undef,undef,undef,undef,undef,undef,undef,undef,undef,undef,undef,undef,undef,undef,undef,undef,undef,undef,undef,undef,undef,undef,undef,undef,undef,undef,undef,undef,undef,undef,undef,undef,undef,undef,undef,undef,undef,undef,undef,undef,undef,undef,undef,undef]∧Old W3 W4) rfl rfl rfl (List.mem_cons_self ..) (zdr 20 hgood) (by kernel_rfl) (by kernel_rfl) (fun τ=>?_) ?_
 ·refine wpIn_mono (zqt { W3 with tape:=τ } r lv P (hd3.old (.same rfl)) ((hg.old hO3).old (.same rfl)) cD3) ?_
  rintro e a w' ⟨h1,h2,h3,h4⟩
  exact⟨h1,h2,h3,(Old.same (w:=W3) (w':={ W3 with tape:=τ }) rfl).trans (Old.nx h4)⟩
 rintro t4 W4 ⟨rfl,hO34⟩
 have hO4:=hO3.trans hO34
 have hd4:=hd3.old hO34
 have hP4:=Nat.lt_of_lt_of_le hP3 hO34.size
 have cD4:∀ i v,(exD.cellsA r)[i]?=some v→W4.cell? ⟨P,i,none⟩=some v:=fun i v h=>(hO34.cell ⟨P,i,none⟩ (Nat.lt_of_succ_lt hP3)).trans (cD3 i v h)
 refine Gm.seq ?_
 refine Gm.lone (F:=FG 20) (fun t5 W5=>t5=#[.bool false,.pointer (some ⟨P,0,none⟩),.pointer (some ⟨P+1,0,none⟩),num 0,num 1,num 1,num 0,num 29,.bool true,num 0,num 10,num 0,undef,undef,undef,undef,undef,undef,undef,undef,.tuple #[exD.val r,.agg #[num (-1),num 1,lv]],.tuple #[exD.val r,.agg #[num (-1),num 1,lv]],exD.val r,.agg #[num (-1),num 1,lv],.tuple #[num 0,num 1,num 1,num 0],exD.val r,.tuple #[num 0,num 1,num 1,num 0],num 0,num 1,num 1,num 0,.tuple #[num 29,.bool true,num 0],exD.val r,.tuple #[num 29,.bool true,num 0],num 29,.bool true,num 0,.tuple #[num 10,num 0],exD.val r,.tuple #[num 10,num 0],num 10,num 0,undef,undef,undef,undef,undef,undef,undef,undef,undef,undef,undef,undef,undef,undef,undef,undef,undef,undef,undef,undef,undef,undef,undef,undef,undef,undef,undef,undef,undef,undef,undef,undef,undef,undef,undef,undef,undef,undef,undef,undef,undef,undef,undef,undef,undef,undef,undef,undef,undef,undef,undef,undef,undef,undef,undef,undef,undef,undef,undef,undef,undef,undef,undef,undef,undef,undef,undef,undef,undef,undef,undef,undef,undef,undef,undef,undef,undef,undef,undef,undef,undef,undef,undef,undef,undef,undef,undef,undef,undef,undef,undef]∧Old W4 W5) rfl rfl rfl (List.mem_cons_self ..) (zdr 20 hgood) (by kernel_rfl) (by kernel_rfl) (fun τ=>?_) ?_
 ·refine wpIn_mono (zpN { W4 with tape:=τ } r lv P (hd4.old (.same rfl)) ((hg.old hO4).old (.same rfl)) cD4) ?_
  rintro e a w' ⟨h1,h2,h3,h4⟩
  exact⟨h1,h2,h3,(Old.same (w:=W4) (w':={ W4 with tape:=τ }) rfl).trans (Old.nx h4)⟩
 rintro t5 W5 ⟨rfl,hO45⟩
 have hO5:=hO4.trans hO45
 have hd5:=hd4.old hO45
 have hP5:=Nat.lt_of_lt_of_le hP4 hO45.size
 have cD5:∀ i v,(exD.cellsA r)[i]?=some v→W5.cell? ⟨P,i,none⟩=some v:=fun i v h=>(hO45.cell ⟨P,i,none⟩ (Nat.lt_of_succ_lt hP4)).trans (cD4 i v h)
 refine Gm.seq ?_
 refine Gm.lone (F:=FG 20) (fun t6 W6=>∃ pv,t6.size=133∧t6[1]?=some (.pointer (some ⟨P,0,none⟩))∧t6[2]?=some (.pointer (some ⟨P+1,0,none⟩))∧t6[3]?=some (num 0)∧t6[4]?=some (num 1)∧t6[5]?=some (num 1)∧t6[6]?=some (num 0)∧t6[7]?=some (num 29)∧t6[8]?=some (.bool true)∧t6[9]?=some (num 0)∧t6[10]?=some (num 10)∧t6[11]?=some (num 0)∧t6[12]?=some (pv)∧t6[13]?=some (num 9)∧t6[14]?=some (num 0)∧Old W5 W6∧PlS W6 pv [0,1]) rfl rfl rfl (List.mem_cons_self ..) (zdr 20 hgood) (by kernel_rfl) (by kernel_rfl) (fun τ=>?_) ?_
 ·refine wpIn_mono (zqa { W5 with tape:=τ } r lv P (hd5.old (.same rfl)) ((hg.old hO5).old (.same rfl)) cD5) ?_
  rintro e a w' ⟨h1,h2,pv,h3,h4,h5⟩
  refine⟨h1,h2,pv,?_⟩
  rw [h3]
  exact⟨rfl,rfl,rfl,rfl,rfl,rfl,rfl,rfl,rfl,rfl,rfl,rfl,rfl,rfl,rfl,(Old.same (w:=W5) (w':={ W5 with tape:=τ }) rfl).trans (Old.nx h4),h5⟩
 rintro t6 W6 ⟨pv,hs6,k1,k2,k3,k4,k5,k6,k7,k8,k9,k10,k11,k12,k13,k14,hO56,hp6⟩
 have hO6:=hO5.trans hO56
 have hO26:Old W2 W6:=hO23.trans (hO34.trans (hO45.trans hO56))
 have hd6:=hd2.old hO26
 have hl6:=hl2.old hO26
 have hk6:=hk2.old hO26
 have cD6:∀ i v,(exD.cellsA r)[i]?=some v→W6.cell? ⟨P,i,none⟩=some v:=fun i v h=>(hO26.cell ⟨P,i,none⟩ (Nat.lt_of_succ_lt hP2)).trans (cD2 i v h)
 have cL6:∀ i v,(#[num (-1),num 1,lv]:Array Value)[i]?=some v→W6.cell? ⟨P+1,i,none⟩=some v:=fun i v h=>(hO26.cell ⟨P+1,i,none⟩ hP2).trans (cL2 i v h)
 have hP6:=Nat.lt_of_lt_of_le hP2 hO26.size
 refine Gm.seq ?_
 rw [zp6]
 refine Gm.region ?_
 rw [show List.range opf6.size=[0,1,2,3,4,5,6,7] by kernel_rfl]
 refine Gm.op (o:=⟨some 49,.load 31 (.tmp 1),_,_,_,none⟩) (exD.val r) W6 rfl rfl (by kernel_rfl) rfl (zhr _ (zaf k1) (cD6 0 _ rfl) (cD6 1 _ rfl) (cD6 2 _ rfl) (cD6 3 _ rfl) (cD6 4 _ rfl) (cD6 5 _ rfl) (cD6 6 _ rfl) (cD6 7 _ rfl) (cD6 8 _ rfl) (cD6 9 _ rfl) (cD6 10 _ rfl) (cD6 11 _ rfl) (cD6 12 _ rfl) (cD6 13 _ rfl)) id ?_
 refine Gm.op (o:=⟨some 50,.load 35 (.tmp 2),_,_,_,none⟩) (.agg #[num (-1),num 1,lv]) W6 rfl rfl (by kernel_rfl) rfl (zd7 _ (zaf (by simp [putD,k2])) (cL6 0 _ rfl) (cL6 1 _ rfl) (cL6 2 _ rfl)) id ?_
 have hst6:=hs6
 refine Gm.enter (o:=⟨some 51,.call { callee:=.value (.func 29),args:=#[.tmp 49,.tmp 50],argTypes:=#[31,35] },_,_,_,none⟩) (c:={ callee:=.value (.func 29),args:=#[.tmp 49,.tmp 50],argTypes:=#[31,35] }) rfl rfl rfl rfl (by kernel_rfl) Tryd.func29 zmm (by kernel_rfl) ?_
 have hargs29:(#[Operand.tmp 49,Operand.tmp 50]).map (Fr 20 (putD (putD t6 (some 49) (exD.val r)) (some 50) (.agg #[num (-1),num 1,lv])) []).eval=#[exD.val r,.agg #[num (-1),num 1,lv]]:=by
  have e1:=zaf (f:=20) (k:=[]) (i:=49) (v:=exD.val r) (t:=putD (putD t6 (some 49) (exD.val r)) (some 50) (.agg #[num (-1),num 1,lv])) (by simp [putD,hs6])
  have e2:=zaf (f:=20) (k:=[]) (i:=50) (v:=.agg #[num (-1),num 1,lv]) (t:=putD (putD t6 (some 49) (exD.val r)) (some 50) (.agg #[num (-1),num 1,lv])) (by simp [putD,hs6])
  simp only [List.map_toArray,List.map_cons,List.map_nil,e1,e2]
 dsimp only
 rw [hargs29,fr29]
 refine zny E Fz Arg W0 hArg Q φ _ (c0 :: cs) W6 exD r exL lv hd6 zd9 (hg.old hO6) hl6 hk6 (by decide) ?_
 intro W7 Fz7 φ7 bv hO67 hb7
 rw [zbs (o:=⟨some 51,.call { callee:=.value (.func 29),args:=#[.tmp 49,.tmp 50],argTypes:=#[31,35] },_,_,_,none⟩) rfl]
 obtain⟨hj0,hj3,hjh⟩:=znM
 rw [hj0]
 generalize (zc9 exD exL).1=bs at hb7 hj3 hjh
 obtain⟨ba,bc,hbv⟩:=hb7.cases
 rw [List.length_map,hj3] at hbv
 subst hbv
 refine Gm.op (o:=⟨some 48,.move (.tmp 51),_,_,_,none⟩) (.tuple #[.slice ba 3 bc,num 0]) W7 rfl rfl (by kernel_rfl) rfl (zcT _ (zaf (by simp [putD,hs6]))) id ?_
 refine Gm.op (o:=⟨some 52,.extract (.tmp 48) 0,_,_,_,none⟩) (.slice ba 3 bc) W7 rfl rfl (by kernel_rfl) rfl (zcP (vs:=#[.slice ba 3 bc,num 0]) _ (zaf (by simp [putD,hs6])) rfl) id ?_
 refine Gm.op (o:=⟨some 53,.extract (.tmp 48) 1,_,_,_,none⟩) (num 0) W7 rfl rfl (by kernel_rfl) rfl (zcP (vs:=#[.slice ba 3 bc,num 0]) _ (zaf (by simp [putD,hs6])) rfl) id ?_
 refine Gm.op (o:=⟨some 15,.assign (.tmp 52),_,_,_,none⟩) (.slice ba 3 bc) W7 rfl rfl (by kernel_rfl) rfl (zdE _ (zaf (by simp [putD,hs6]))) id ?_
 refine Gm.op (o:=⟨some 16,.assign (.tmp 53),_,_,_,none⟩) (num 0) W7 rfl rfl (by kernel_rfl) rfl (zdE _ (zaf (by simp [putD,hs6]))) id ?_
 refine Gm.regionEnd (Gm.seq ?_)
 generalize ht7:putD _ (some 16) _=t7
 have hst7:t7.size=133:=by rw [← ht7];simp [putD,hs6]
 have m1:t7[1]?=some (.pointer (some ⟨P,0,none⟩)):=by rw [← ht7];simp [putD,k1]
 have m2:t7[2]?=some (.pointer (some ⟨P+1,0,none⟩)):=by rw [← ht7];simp [putD,k2]
 have m3:t7[3]?=some (num 0):=by rw [← ht7];simp [putD,k3]
 have m4:t7[4]?=some (num 1):=by rw [← ht7];simp [putD,k4]
 have m5:t7[5]?=some (num 1):=by rw [← ht7];simp [putD,k5]
 have m6:t7[6]?=some (num 0):=by rw [← ht7];simp [putD,k6]
 have m7:t7[7]?=some (num 29):=by rw [← ht7];simp [putD,k7]
 have m8:t7[8]?=some (.bool true):=by rw [← ht7];simp [putD,k8]
 have m9:t7[9]?=some (num 0):=by rw [← ht7];simp [putD,k9]
 have m10:t7[10]?=some (num 10):=by rw [← ht7];simp [putD,k10]
 have m11:t7[11]?=some (num 0):=by rw [← ht7];simp [putD,k11]
 have m12:t7[12]?=some (pv):=by rw [← ht7];simp [putD,k12]
 have m13:t7[13]?=some (num 9):=by rw [← ht7];simp [putD,k13]
 have m14:t7[14]?=some (num 0):=by rw [← ht7];simp [putD,k14]
 have m15:t7[15]?=some (.slice ba 3 bc):=by rw [← ht7];simp [putD,hs6]
 have m16:t7[16]?=some (num 0):=by rw [← ht7];simp [putD,hs6]
 clear ht7
 have hO7:=hO6.trans hO67
 have cD7:∀ i v,(exD.cellsA r)[i]?=some v→W7.cell? ⟨P,i,none⟩=some v:=fun i v h=>(hO67.cell ⟨P,i,none⟩ (Nat.lt_of_succ_lt hP6)).trans (cD6 i v h)
 have cL7:∀ i v,(#[num (-1),num 1,lv]:Array Value)[i]?=some v→W7.cell? ⟨P+1,i,none⟩=some v:=fun i v h=>(hO67.cell ⟨P+1,i,none⟩ hP6).trans (cL6 i v h)
 rw [zpW]
 refine Gm.region ?_
 rw [show List.range opf7.size=[0,1,2,3,4,5,6,7,8,9] by kernel_rfl]
 refine Gm.op (o:=⟨some 55,.load 31 (.tmp 1),_,_,_,none⟩) (exD.val r) W7 rfl rfl (by kernel_rfl) rfl (zhr _ (zaf m1) (cD7 0 _ rfl) (cD7 1 _ rfl) (cD7 2 _ rfl) (cD7 3 _ rfl) (cD7 4 _ rfl) (cD7 5 _ rfl) (cD7 6 _ rfl) (cD7 7 _ rfl) (cD7 8 _ rfl) (cD7 9 _ rfl) (cD7 10 _ rfl) (cD7 11 _ rfl) (cD7 12 _ rfl) (cD7 13 _ rfl)) id ?_
 refine Gm.op (o:=⟨some 56,.load 35 (.tmp 2),_,_,_,none⟩) (.agg #[num (-1),num 1,lv]) W7 rfl rfl (by kernel_rfl) rfl (zd7 _ (zaf (by simp [putD,m2])) (cL7 0 _ rfl) (cL7 1 _ rfl) (cL7 2 _ rfl)) id ?_
 refine Gm.enter (o:=⟨some 57,.call { callee:=.value (.func 31),args:=#[.tmp 55,.tmp 56],argTypes:=#[31,35] },_,_,_,none⟩) (c:={ callee:=.value (.func 31),args:=#[.tmp 55,.tmp 56],argTypes:=#[31,35] }) rfl rfl rfl rfl (by kernel_rfl) Tryd.func31 zmz (by kernel_rfl) ?_
 have hargs31:(#[Operand.tmp 55,Operand.tmp 56]).map (Fr 20 (putD (putD t7 (some 55) (exD.val r)) (some 56) (.agg #[num (-1),num 1,lv])) []).eval=#[exD.val r,.agg #[num (-1),num 1,lv]]:=by
  have e1:=zaf (f:=20) (k:=[]) (i:=55) (v:=exD.val r) (t:=putD (putD t7 (some 55) (exD.val r)) (some 56) (.agg #[num (-1),num 1,lv])) (by simp [putD,hst7])
  have e2:=zaf (f:=20) (k:=[]) (i:=56) (v:=.agg #[num (-1),num 1,lv]) (t:=putD (putD t7 (some 55) (exD.val r)) (some 56) (.agg #[num (-1),num 1,lv])) (by simp [putD,hst7])
  simp only [List.map_toArray,List.map_cons,List.map_nil,e1,e2]
 dsimp only
 rw [hargs31,fr31]
 refine znZ E Fz7 Arg W0 hArg Q φ7 _ (c0 :: cs) W7 exD r exL lv (hd6.old hO67) zd9 (hg.old hO7) (hl6.old hO67) (hk6.old hO67) (by decide) ?_
 intro W8 Fz8 φ8 n8 ov xs8 f8 hO78 ho8 hB8
 rw [zbs (o:=⟨some 57,.call { callee:=.value (.func 31),args:=#[.tmp 55,.tmp 56],argTypes:=#[31,35] },_,_,_,none⟩) rfl]
 obtain⟨rfl,rfl,rfl⟩:=znQ hB8
 refine Gm.op (o:=⟨some 54,.move (.tmp 57),_,_,_,none⟩) (.tuple #[num 0,ov,num 0]) W8 rfl rfl (by kernel_rfl) rfl (zcT _ (zaf (by simp [putD,hst7]))) id ?_
 refine Gm.op (o:=⟨some 58,.extract (.tmp 54) 0,_,_,_,none⟩) (num 0) W8 rfl rfl (by kernel_rfl) rfl (zcP (vs:=#[num 0,ov,num 0]) _ (zaf (by simp [putD,hst7])) rfl) id ?_
 refine Gm.op (o:=⟨some 59,.extract (.tmp 54) 1,_,_,_,none⟩) (ov) W8 rfl rfl (by kernel_rfl) rfl (zcP (vs:=#[num 0,ov,num 0]) _ (zaf (by simp [putD,hst7])) rfl) id ?_
 refine Gm.op (o:=⟨some 60,.extract (.tmp 54) 2,_,_,_,none⟩) (num 0) W8 rfl rfl (by kernel_rfl) rfl (zcP (vs:=#[num 0,ov,num 0]) _ (zaf (by simp [putD,hst7])) rfl) id ?_
 refine Gm.op (o:=⟨some 17,.assign (.tmp 58),_,_,_,none⟩) (num 0) W8 rfl rfl (by kernel_rfl) rfl (zdE _ (zaf (by simp [putD,hst7]))) id ?_
 refine Gm.op (o:=⟨some 18,.assign (.tmp 59),_,_,_,none⟩) (ov) W8 rfl rfl (by kernel_rfl) rfl (zdE _ (zaf (by simp [putD,hst7]))) id ?_
 refine Gm.op (o:=⟨some 19,.assign (.tmp 60),_,_,_,none⟩) (num 0) W8 rfl rfl (by kernel_rfl) rfl (zdE _ (zaf (by simp [putD,hst7]))) id ?_
 refine Gm.regionEnd (Gm.seq (Gm.seq ?_))
 generalize ht8:putD _ (some 19) _=t8
 have hst8:t8.size=133:=by rw [← ht8];simp [putD,hst7]
 have q3:t8[3]?=some (num 0):=by rw [← ht8];simp [putD,m3]
 have q4:t8[4]?=some (num 1):=by rw [← ht8];simp [putD,m4]
 have q5:t8[5]?=some (num 1):=by rw [← ht8];simp [putD,m5]
 have q6:t8[6]?=some (num 0):=by rw [← ht8];simp [putD,m6]
 have q7:t8[7]?=some (num 29):=by rw [← ht8];simp [putD,m7]
 have q8:t8[8]?=some (.bool true):=by rw [← ht8];simp [putD,m8]
 have q9:t8[9]?=some (num 0):=by rw [← ht8];simp [putD,m9]
 have q10:t8[10]?=some (num 10):=by rw [← ht8];simp [putD,m10]
 have q11:t8[11]?=some (num 0):=by rw [← ht8];simp [putD,m11]
 have q12:t8[12]?=some (pv):=by rw [← ht8];simp [putD,m12]
 have q13:t8[13]?=some (num 9):=by rw [← ht8];simp [putD,m13]
 have q14:t8[14]?=some (num 0):=by rw [← ht8];simp [putD,m14]
 have q15:t8[15]?=some (.slice ba 3 bc):=by rw [← ht8];simp [putD,m15]
 have q16:t8[16]?=some (num 0):=by rw [← ht8];simp [putD,m16]
 have q17:t8[17]?=some (num 0):=by rw [← ht8];simp [putD,hst7]
 have q18:t8[18]?=some (ov):=by rw [← ht8];simp [putD,hst7]
 have q19:t8[19]?=some (num 0):=by rw [← ht8];simp [putD,hst7]
 clear ht8
 obtain⟨a0,a1,a2,a20,a21,a22,a23,a24,a25,a26,a27,a28,a29,a30,a31,a32,a33,a34,a35,a36,a37,a38,a39,a40,a41,a42,a43,a44,a45,a46,a47,a48,a49,a50,a51,a52,a53,a54,a55,a56,a57,a58,a59,a60,a61,a62,a63,a64,a65,a66,a67,a68,a69,a70,a71,a72,a73,a74,a75,a76,a77,a78,a79,a80,a81,a82,a83,a84,a85,a86,a87,a88,a89,a90,a91,a92,a93,a94,a95,a96,a97,a98,a99,a100,a101,a102,a103,a104,a105,a106,a107,a108,a109,a110,a111,a112,a113,a114,a115,a116,a117,a118,a119,a120,a121,a122,a123,a124,a125,a126,a127,a128,a129,a130,a131,a132,rfl⟩:=arrF hst8 q3 q4 q5 q6 q7 q8 q9 q10 q11 q12 q13 q14 q15 q16 q17 q18 q19
 refine Gm.lone (F:=FG 20) (fun t9 W9=>W9.heap=W8.heap∧t9.size=133∧t9[82]?=some (.bool false)∧t9[3]?=some (num 0)∧t9[4]?=some (num 1)∧t9[5]?=some (num 1)∧t9[6]?=some (num 0)∧t9[7]?=some (num 29)∧t9[8]?=some (.bool true)∧t9[9]?=some (num 0)∧t9[10]?=some (num 10)∧t9[11]?=some (num 0)∧t9[12]?=some (pv)∧t9[13]?=some (num 9)∧t9[14]?=some (num 0)∧t9[15]?=some (.slice ba 3 bc)∧t9[16]?=some (num 0)∧t9[17]?=some (num 0)∧t9[18]?=some (ov)∧t9[19]?=some (num 0)) rfl rfl rfl (List.mem_cons_self ..) (zdr 20 hgood) (by kernel_rfl) (by kernel_rfl) (fun τ=>?_) ?_
 ·refine wpIn_mono (zqe { W8 with tape:=τ } pv (.slice ba 3 bc) ov _ _ _ _ _ _ _ _ _ _ _ _ _ _ _ _ _ _ _ _ _ _ _ _ _ _ _ _ _ _ _ _ _ _ _ _ _ _ _ _ _ _ _ _ _ _ _ _ _ _ _ _ _ _ _ _ _ _ _ _ _ _ _ _ _ _ _ _ _ _ _ _ _ _ _ _ _ _ _ _ _ _ _ _ _ _ _ _ _ _ _ _ _ _ _ _ _ _ _ _ _ _ _ _ _ _ _ _ _ _ _ _ _ _ _ _) ?_
  rintro e a w' ⟨h1,h2,rfl,h3⟩
  exact⟨h1,h2,rfl,h3⟩
 rintro t9 W9 ⟨hW9,hst9,h82,p3,p4,p5,p6,p7,p8,p9,p10,p11,p12,p13,p14,p15,p16,p17,p18,p19⟩
 refine Gm.cond (b:=false) (zaf h82) rfl ?_
 refine Gm.skip (Gm.seq ?_)
 obtain⟨b0,b1,b2,b20,b21,b22,b23,b24,b25,b26,b27,b28,b29,b30,b31,b32,b33,b34,b35,b36,b37,b38,b39,b40,b41,b42,b43,b44,b45,b46,b47,b48,b49,b50,b51,b52,b53,b54,b55,b56,b57,b58,b59,b60,b61,b62,b63,b64,b65,b66,b67,b68,b69,b70,b71,b72,b73,b74,b75,b76,b77,b78,b79,b80,b81,b82,b83,b84,b85,b86,b87,b88,b89,b90,b91,b92,b93,b94,b95,b96,b97,b98,b99,b100,b101,b102,b103,b104,b105,b106,b107,b108,b109,b110,b111,b112,b113,b114,b115,b116,b117,b118,b119,b120,b121,b122,b123,b124,b125,b126,b127,b128,b129,b130,b131,b132,rfl⟩:=arrF hst9 p3 p4 p5 p6 p7 p8 p9 p10 p11 p12 p13 p14 p15 p16 p17 p18 p19
 have hO89:Old W8 W9:=.same hW9
 have hO79:=hO78.trans hO89
 refine Gm.lone (F:=FG 20) (fun t10 W10=>t10[0]?=some (.bool true)∧Old W9 W10) rfl rfl rfl (List.mem_cons_self ..) (zdr 20 hgood) (by kernel_rfl) (by kernel_rfl) (fun τ=>?_) ?_
 ·refine wpIn_mono (zpg { W9 with tape:=τ } pv ov _ _ _ _ _ _ _ _ _ _ _ _ _ _ _ _ _ _ _ _ _ _ _ _ _ _ _ _ _ _ _ _ _ _ _ _ _ _ _ _ _ _ _ _ _ _ _ _ _ _ _ _ _ _ _ _ _ _ _ _ _ _ _ _ _ _ _ _ _ _ _ _ _ _ _ _ _ _ _ _ _ _ _ _ _ _ _ _ _ _ _ _ _ _ _ _ _ _ _ _ _ _ _ _ _ _ _ _ _ _ _ _ _ _ _ _ bs ba bc ((hp6.old (hO67.trans hO79)).old (.same rfl)) ((hb7.old hO79).old (.same rfl)) hj3 hjh ((ho8.old hO89).old (.same rfl))) ?_
  rintro e a w' ⟨h1,h2,h3,h4⟩
  exact⟨h1,h2,h3,(Old.same (w:=W9) (w':={ W9 with tape:=τ }) rfl).trans (Old.nx h4)⟩
 rintro t10 W10 ⟨h0,hO910⟩
 refine Gm.ret Tryd.func20 (zmc (.bool true) _ h0) ?_
 exact hcont W10 _ _ (hO7.trans (hO79.trans hO910))
end Go.Proofs.YtolholkjeehamaaDoor
