import Derived.Test.YtedomogjmhommaaH45
import Derived.Test.YtedomogjmhommaaH17
import Derived.Test.YtedomogjmhommaaH19
import Derived.Test.YtedomogjmhommaaH21
import Derived.Test.YtedomogjmhommaaH18
import Derived.Test.YtedomogjmhommaaH02
import Derived.Test.YtedomogjmhommaaH16
set_option linter.all false
set_option maxRecDepth 100000
set_option maxHeartbeats 8000000
namespace Go.Proofs.Ytedomogjmhommaa
open Go.RowKit Go.Con Go.Conc
noncomputable def b17:Code:=match Try.f17.body with | some c=>c | none=>.skip
noncomputable def x17_0:Code:=cL b17
noncomputable def x17_1:Code:=cL (cR b17)
noncomputable def x17_2:Code:=cL (cR (cR b17))
noncomputable def x17_3:Code:=cL (cR (cR (cR b17)))
noncomputable def zdP:Code:=cL (cR (cR (cR (cR b17))))
noncomputable def x17_5:Code:=cL (cR (cR (cR (cR (cR b17)))))
noncomputable def x17_6:Code:=cL (cR (cR (cR (cR (cR (cR b17))))))
noncomputable def x17_7:Code:=cL (cR (cR (cR (cR (cR (cR (cR b17)))))))
noncomputable def zdH:Code:=cR (cR (cR (cR (cR (cR (cR (cR b17)))))))
noncomputable def x17_8:Code:=cL (cL zdH)
noncomputable def zey:Code:=cL (cT (cR (cL zdH)))
noncomputable def x17_10:Code:=cL (cR zdH)
theorem zqq:b17=.seq x17_0 (.seq x17_1 (.seq x17_2 (.seq x17_3 (.seq zdP (.seq x17_5 (.seq x17_6 (.seq x17_7 (.seq (.seq x17_8 (.cond (.tmp 85) (.seq zey .ret) .skip)) (.seq x17_10 .ret))))))))):=by kernel_rfl
theorem zeK {t:Array Value} (h:t.size=146):∃ f:Nat→Value,t=#[f 0,f 1,f 2,f 3,f 4,f 5,f 6,f 7,f 8,f 9,f 10,f 11,f 12,f 13,f 14,f 15,f 16,f 17,f 18,f 19,f 20,f 21,f 22,f 23,f 24,f 25,f 26,f 27,f 28,f 29,f 30,f 31,f 32,f 33,f 34,f 35,f 36,f 37,f 38,f 39,f 40,f 41,f 42,f 43,f 44,f 45,f 46,f 47,f 48,f 49,f 50,f 51,f 52,f 53,f 54,f 55,f 56,f 57,f 58,f 59,f 60,f 61,f 62,f 63,f 64,f 65,f 66,f 67,f 68,f 69,f 70,f 71,f 72,f 73,f 74,f 75,f 76,f 77,f 78,f 79,f 80,f 81,f 82,f 83,f 84,f 85,f 86,f 87,f 88,f 89,f 90,f 91,f 92,f 93,f 94,f 95,f 96,f 97,f 98,f 99,f 100,f 101,f 102,f 103,f 104,f 105,f 106,f 107,f 108,f 109,f 110,f 111,f 112,f 113,f 114,f 115,f 116,f 117,f 118,f 119,f 120,f 121,f 122,f 123,f 124,f 125,f 126,f 127,f 128,f 129,f 130,f 131,f 132,f 133,f 134,f 135,f 136,f 137,f 138,f 139,f 140,f 141,f 142,f 143,f 144,f 145]:=by
 obtain⟨f,rfl⟩:=exN 146 h
 exact⟨f,by kernel_rfl⟩
structure EW (w:World) (p1:Nat) (r:R2):Prop where
 box:DBox w p1 exD r
 sl:DrySl w exD r
theorem EW.nx {w w' : World} {p1:Nat} {r:R2} (h:EW w p1 r) (n:Nx w w'):EW w' p1 r:=⟨h.box.nx n,h.sl.nx n⟩
def P1 (w:World) (t:Array Value) (w' : World):Prop:=∃ p1 r,(t.size=146∧t[1]?=some (ptr p1))∧EW w' p1 r∧Nx w w'
def P2 (w:World) (p1:Nat) (t:Array Value) (w' : World):Prop:=(t.size=146∧t[1]?=some (ptr p1)∧t[2]?=some (num 2)∧t[3]?=some (.bool true)∧t[4]?=some (num 0))∧Nx w w'
def P3 (w:World) (p1:Nat) (t:Array Value) (w' : World):Prop:=∃ v5,(t.size=146∧t[1]?=some (ptr p1)∧t[2]?=some (num 2)∧t[3]?=some (.bool true)∧t[4]?=some (num 0)∧t[5]?=some (v5)∧t[6]?=some (.bool true)∧t[7]?=some (num 0))∧Nx w w'∧SetsSl w' v5 (ze0 exD).1
theorem dr0  (t:Array Value) (hs:t.size=146)  (w:World)  :
  x17_0.wpIn FW 0 Try.prog (fun e a w'=>e=.normal∧a.defers=[]∧a.tmps.size=146∧w'=w) ⟨t,[]⟩ w:=by
 obtain⟨f,rfl⟩:=zeK hs
 clear hs
 simp only [x17_0,x17_1,x17_2,x17_3,zdP,x17_5,x17_6,x17_7,x17_8,zey,x17_10,zdH,b17,Try.f17,cL,cR,cB,cT]
 gi_wp2
theorem dr1  (t:Array Value) (hs:t.size=146)  (w:World)  :
  x17_1.wpIn FW 0 Try.prog (fun e a w'=>e=.normal∧a.defers=[]∧P1 w a.tmps w') ⟨t,[]⟩ w:=by
 obtain⟨f,rfl⟩:=zeK hs
 clear hs
 simp only [x17_0,x17_1,x17_2,x17_3,zdP,x17_5,x17_6,x17_7,x17_8,zey,x17_10,zdH,b17,Try.f17,cL,cR,cB,cT]
 gi_wp2_with (first | (gi_at_call 53;refine CallsIn.mono (zoC _) ?_;rintro e w1 ⟨⟨rh,rs⟩,rfl,n1,hd⟩;obtain⟨ha,hcap,q1⟩:=hd.heats.cases;obtain⟨sa,scap,q2⟩:=hd.steps.cases;dsimp only at q1 q2;subst q1 q2) | gi_in)
 obtain⟨n2,hb⟩:=DBox.of (w:=w1) (d:=exD) (r:=⟨_,_⟩) (fz:=(0,0)) (e:=27) rfl
 exact⟨w1.heap.size,⟨_,_⟩,⟨rfl,rfl⟩,⟨hb,hd.nx n2⟩,n1.trans n2⟩
theorem dr2 (p1:Nat) (r:R2) (t:Array Value) (hs:t.size=146) (h1:t[1]?=some (ptr p1)) (w:World) (hE:EW w p1 r) :
  x17_2.wpIn FW 0 Try.prog (fun e a w'=>e=.normal∧a.defers=[]∧P2 w p1 a.tmps w') ⟨t,[]⟩ w:=by
 obtain⟨f,rfl⟩:=zeK hs
 have g1:f 1=ptr p1:=by simpa using h1
 rw [g1] at *
 clear hs h1 g1
 have k18:=zi5 exD r 1 ⟨800,200,1⟩ w hE.sl (by omega)
 rw [zm9] at k18
 have c0:=hE.box.at' 0 _ rfl
 have c1:=hE.box.at' 1 _ rfl
 have c2:=hE.box.at' 2 _ rfl
 have c3:=hE.box.at' 3 _ rfl
 have c4:=hE.box.at' 4 _ rfl
 have c5:=hE.box.at' 5 _ rfl
 have c6:=hE.box.at' 6 _ rfl
 clear hE
 simp only [x17_0,x17_1,x17_2,x17_3,zdP,x17_5,x17_6,x17_7,x17_8,zey,x17_10,zdH,b17,Try.f17,cL,cR,cB,cT]
 gi_wp2_with (first | (gi_at_call 18;refine CallsIn.mono k18 ?_;rintro e w1 ⟨rfl,n1⟩) | gi_in)
 exact⟨⟨rfl,rfl,rfl,rfl,rfl⟩,n1⟩
theorem dr3 (p1:Nat) (r:R2) (t:Array Value) (hs:t.size=146) (h1:t[1]?=some (ptr p1)) (h2:t[2]?=some (num 2)) (h3:t[3]?=some (.bool true)) (h4:t[4]?=some (num 0)) (w:World) (hE:EW w p1 r) :
  x17_3.wpIn FW 0 Try.prog (fun e a w'=>e=.normal∧a.defers=[]∧P3 w p1 a.tmps w') ⟨t,[]⟩ w:=by
 obtain⟨f,rfl⟩:=zeK hs
 have g1:f 1=ptr p1:=by simpa using h1
 have g2:f 2=num 2:=by simpa using h2
 have g3:f 3=.bool true:=by simpa using h3
 have g4:f 4=num 0:=by simpa using h4
 rw [g1,g2,g3,g4] at *
 clear hs h1 h2 h3 h4 g1 g2 g3 g4
 have k20:=zmi exD r w hE.sl
 rw [show (ze0 exD).2.1=true by rw [zla],show (ze0 exD).2.2=0 by rw [zla]] at k20
 have c0:=hE.box.at' 0 _ rfl
 have c1:=hE.box.at' 1 _ rfl
 have c2:=hE.box.at' 2 _ rfl
 have c3:=hE.box.at' 3 _ rfl
 have c4:=hE.box.at' 4 _ rfl
 have c5:=hE.box.at' 5 _ rfl
 have c6:=hE.box.at' 6 _ rfl
 clear hE
 simp only [x17_0,x17_1,x17_2,x17_3,zdP,x17_5,x17_6,x17_7,x17_8,zey,x17_10,zdH,b17,Try.f17,cL,cR,cB,cT]
 gi_wp2_with (first | (gi_at_call 20;refine CallsIn.mono k20 ?_;rintro e w1 ⟨v5,rfl,n1,hv5⟩) | gi_in)
 exact⟨v5,⟨rfl,rfl,rfl,rfl,rfl,rfl,rfl,rfl⟩,n1,hv5⟩
end Go.Proofs.Ytedomogjmhommaa
namespace Go.Proofs.Ytedomogjmhommaa
open Go.RowKit Go.Con Go.Conc
def P5 (w:World) (p1:Nat) (v5 v8:Value) (t:Array Value) (w' : World):Prop:=∃ v11,(t.size=146∧t[1]?=some (ptr p1)∧t[2]?=some (num 2)∧t[3]?=some (.bool true)∧t[4]?=some (num 0)∧t[5]?=some (v5)∧t[6]?=some (.bool true)∧t[7]?=some (num 0)∧t[8]?=some (v8)∧t[9]?=some (.bool true)∧t[10]?=some (num 0)∧t[11]?=some (v11)∧t[12]?=some (num 1)∧t[13]?=some (.bool true)∧t[14]?=some (num 0))∧Nx w w'∧Sl w' v11 1 (([0,0,0]:List Int).map one)
def P6 (w:World) (p1:Nat) (v5 v8 v11:Value) (t:Array Value) (w' : World):Prop:=∃ pa pb,(t.size=146∧t[1]?=some (ptr p1)∧t[2]?=some (num 2)∧t[3]?=some (.bool true)∧t[4]?=some (num 0)∧t[5]?=some (v5)∧t[6]?=some (.bool true)∧t[7]?=some (num 0)∧t[8]?=some (v8)∧t[9]?=some (.bool true)∧t[10]?=some (num 0)∧t[11]?=some (v11)∧t[12]?=some (num 1)∧t[13]?=some (.bool true)∧t[14]?=some (num 0)∧t[15]?=some (ptr pa)∧t[16]?=some (ptr pb)∧t[17]?=some (num 0))∧Nx w w'∧w'.heap[pa]?=some (.cells #[num 720,num 825] 45 (0,0))∧w'.heap[pb]?=some (.cells #[num 20,num 20] 45 (0,0))
def P8 (t:Array Value) (p1 pa pb:Nat) (v5 v8 v11 v18:Value):Prop:=t.size=146∧t[1]?=some (ptr p1)∧t[2]?=some (num 2)∧t[3]?=some (.bool true)∧t[4]?=some (num 0)∧t[5]?=some (v5)∧t[6]?=some (.bool true)∧t[7]?=some (num 0)∧t[8]?=some (v8)∧t[9]?=some (.bool true)∧t[10]?=some (num 0)∧t[11]?=some (v11)∧t[12]?=some (num 1)∧t[13]?=some (.bool true)∧t[14]?=some (num 0)∧t[15]?=some (ptr pa)∧t[16]?=some (ptr pb)∧t[17]?=some (num 0)∧t[18]?=some (v18)∧t[19]?=some (num 0)∧t[85]?=some (.bool false)
theorem row3 (w:World) (x y z:Int) (cap:Nat):Sl (w.alloc (.cells #[num x,num y,num z] 3)) (.slice (some ⟨w.heap.size,0,none⟩) 3 cap) 1 (([x,y,z]:List Int).map one) :=
 ze1 zaT rfl (fun l hl=>by obtain⟨_,_,rfl⟩:=List.mem_map.1 hl;rfl) rfl
theorem dr5 (p1:Nat) (v5 v8:Value) (r:R2) (t:Array Value) (hs:t.size=146) (h1:t[1]?=some (ptr p1)) (h2:t[2]?=some (num 2)) (h3:t[3]?=some (.bool true)) (h4:t[4]?=some (num 0)) (h5:t[5]?=some (v5)) (h6:t[6]?=some (.bool true)) (h7:t[7]?=some (num 0)) (h8:t[8]?=some (v8)) (h9:t[9]?=some (.bool true)) (h10:t[10]?=some (num 0)) (w:World) (hE:EW w p1 r) :
  x17_5.wpIn FW 0 Try.prog (fun e a w'=>e=.normal∧a.defers=[]∧P5 w p1 v5 v8 a.tmps w') ⟨t,[]⟩ w:=by
 obtain⟨f,rfl⟩:=zeK hs
 have g1:f 1=ptr p1:=by simpa using h1
 have g2:f 2=num 2:=by simpa using h2
 have g3:f 3=.bool true:=by simpa using h3
 have g4:f 4=num 0:=by simpa using h4
 have g5:f 5=v5:=by simpa using h5
 have g6:f 6=.bool true:=by simpa using h6
 have g7:f 7=num 0:=by simpa using h7
 have g8:f 8=v8:=by simpa using h8
 have g9:f 9=.bool true:=by simpa using h9
 have g10:f 10=num 0:=by simpa using h10
 rw [g1,g2,g3,g4,g5,g6,g7,g8,g9,g10] at *
 clear hs h1 h2 h3 h4 h5 h6 h7 h8 h9 h10 g1 g2 g3 g4 g5 g6 g7 g8 g9 g10
 have k26:=fun (w1:World) (n:Nx w w1) (u:Value) (hu:Sl w1 u 1 (([0,1,1]:List Int).map one))=>zg4 exD r u [0,1,1] w1 (hE.sl.nx n) hu (by decide)
 rw [zoI] at k26
 dsimp only at k26
 have c0:=hE.box.at' 0 _ rfl
 have c1:=hE.box.at' 1 _ rfl
 have c2:=hE.box.at' 2 _ rfl
 have c3:=hE.box.at' 3 _ rfl
 have c4:=hE.box.at' 4 _ rfl
 have c5:=hE.box.at' 5 _ rfl
 have c6:=hE.box.at' 6 _ rfl
 clear hE
 simp only [x17_0,x17_1,x17_2,x17_3,zdP,x17_5,x17_6,x17_7,x17_8,zey,x17_10,zdH,b17,Try.f17,cL,cR,cB,cT]
 gi_wp2_with (first | (gi_at_call 26;refine CallsIn.mono (k26 _ (zaj (Nx.refl _) _) _ (row3 _ 0 1 1 _)) ?_;rintro e w1 ⟨v11,rfl,n1,hv11⟩) | gi_in)
 exact⟨v11,⟨rfl,rfl,rfl,rfl,rfl,rfl,rfl,rfl,rfl,rfl,rfl,rfl,rfl,rfl,rfl⟩,(zaj (Nx.refl _) _).trans n1,hv11⟩
theorem dr6 (p1:Nat) (v5 v8 v11:Value) (r:R2) (t:Array Value) (hs:t.size=146) (h1:t[1]?=some (ptr p1)) (h2:t[2]?=some (num 2)) (h3:t[3]?=some (.bool true)) (h4:t[4]?=some (num 0)) (h5:t[5]?=some (v5)) (h6:t[6]?=some (.bool true)) (h7:t[7]?=some (num 0)) (h8:t[8]?=some (v8)) (h9:t[9]?=some (.bool true)) (h10:t[10]?=some (num 0)) (h11:t[11]?=some (v11)) (h12:t[12]?=some (num 1)) (h13:t[13]?=some (.bool true)) (h14:t[14]?=some (num 0)) (w:World) (hE:EW w p1 r) :
  x17_6.wpIn FW 0 Try.prog (fun e a w'=>e=.normal∧a.defers=[]∧P6 w p1 v5 v8 v11 a.tmps w') ⟨t,[]⟩ w:=by
 obtain⟨f,rfl⟩:=zeK hs
 have g1:f 1=ptr p1:=by simpa using h1
 have g2:f 2=num 2:=by simpa using h2
 have g3:f 3=.bool true:=by simpa using h3
 have g4:f 4=num 0:=by simpa using h4
 have g5:f 5=v5:=by simpa using h5
 have g6:f 6=.bool true:=by simpa using h6
 have g7:f 7=num 0:=by simpa using h7
 have g8:f 8=v8:=by simpa using h8
 have g9:f 9=.bool true:=by simpa using h9
 have g10:f 10=num 0:=by simpa using h10
 have g11:f 11=v11:=by simpa using h11
 have g12:f 12=num 1:=by simpa using h12
 have g13:f 13=.bool true:=by simpa using h13
 have g14:f 14=num 0:=by simpa using h14
 rw [g1,g2,g3,g4,g5,g6,g7,g8,g9,g10,g11,g12,g13,g14] at *
 clear hs h1 h2 h3 h4 h5 h6 h7 h8 h9 h10 h11 h12 h13 h14 g1 g2 g3 g4 g5 g6 g7 g8 g9 g10 g11 g12 g13 g14
 have k28:=fun (w1:World) (n:Nx w w1) (u:Value) (hu:Sl w1 u 1 (([1,2,2]:List Int).map one))=>zhd exD r u [1,2,2] w1 (hE.sl.nx n) hu (by decide)
 rw [zoJ] at k28
 dsimp only [zlC] at k28
 have c0:=hE.box.at' 0 _ rfl
 have c1:=hE.box.at' 1 _ rfl
 have c2:=hE.box.at' 2 _ rfl
 have c3:=hE.box.at' 3 _ rfl
 have c4:=hE.box.at' 4 _ rfl
 have c5:=hE.box.at' 5 _ rfl
 have c6:=hE.box.at' 6 _ rfl
 clear hE
 simp only [x17_0,x17_1,x17_2,x17_3,zdP,x17_5,x17_6,x17_7,x17_8,zey,x17_10,zdH,b17,Try.f17,cL,cR,cB,cT]
 gi_wp2_with (first | (gi_at_call 28;refine CallsIn.mono (k28 _ (zaj (Nx.refl _) _) _ (row3 _ 1 2 2 _)) ?_;rintro e w1 ⟨rfl,n1⟩) | gi_in)
 obtain⟨n2,s2,g2,g3⟩:=al2 (w:=w1) (o1:=.cells #[num 720,num 825] 45 (0,0)) (o2:=.cells #[num 20,num 20] 45 (0,0)) rfl
 exact⟨w1.heap.size,w1.heap.size+1,⟨rfl,rfl,rfl,rfl,rfl,rfl,rfl,rfl,rfl,rfl,rfl,rfl,rfl,rfl,rfl,rfl,rfl,rfl⟩,(zaj (Nx.refl _) _).trans (n1.trans n2),g2,g3⟩
theorem dr8 (p1 pa pb:Nat) (v5 v8 v11 v18:Value) (t:Array Value) (hs:t.size=146) (h1:t[1]?=some (ptr p1)) (h2:t[2]?=some (num 2)) (h3:t[3]?=some (.bool true)) (h4:t[4]?=some (num 0)) (h5:t[5]?=some (v5)) (h6:t[6]?=some (.bool true)) (h7:t[7]?=some (num 0)) (h8:t[8]?=some (v8)) (h9:t[9]?=some (.bool true)) (h10:t[10]?=some (num 0)) (h11:t[11]?=some (v11)) (h12:t[12]?=some (num 1)) (h13:t[13]?=some (.bool true)) (h14:t[14]?=some (num 0)) (h15:t[15]?=some (ptr pa)) (h16:t[16]?=some (ptr pb)) (h17:t[17]?=some (num 0)) (h18:t[18]?=some (v18)) (h19:t[19]?=some (num 0)) (w:World)  :
  x17_8.wpIn FW 0 Try.prog (fun e a w'=>e=.normal∧a.defers=[]∧P8 a.tmps p1 pa pb v5 v8 v11 v18∧w'=w) ⟨t,[]⟩ w:=by
 obtain⟨f,rfl⟩:=zeK hs
 have g1:f 1=ptr p1:=by simpa using h1
 have g2:f 2=num 2:=by simpa using h2
 have g3:f 3=.bool true:=by simpa using h3
 have g4:f 4=num 0:=by simpa using h4
 have g5:f 5=v5:=by simpa using h5
 have g6:f 6=.bool true:=by simpa using h6
 have g7:f 7=num 0:=by simpa using h7
 have g8:f 8=v8:=by simpa using h8
 have g9:f 9=.bool true:=by simpa using h9
 have g10:f 10=num 0:=by simpa using h10
 have g11:f 11=v11:=by simpa using h11
 have g12:f 12=num 1:=by simpa using h12
 have g13:f 13=.bool true:=by simpa using h13
 have g14:f 14=num 0:=by simpa using h14
 have g15:f 15=ptr pa:=by simpa using h15
 have g16:f 16=ptr pb:=by simpa using h16
 have g17:f 17=num 0:=by simpa using h17
 have g18:f 18=v18:=by simpa using h18
 have g19:f 19=num 0:=by simpa using h19
 rw [g1,g2,g3,g4,g5,g6,g7,g8,g9,g10,g11,g12,g13,g14,g15,g16,g17,g18,g19] at *
 clear hs h1 h2 h3 h4 h5 h6 h7 h8 h9 h10 h11 h12 h13 h14 h15 h16 h17 h18 h19 g1 g2 g3 g4 g5 g6 g7 g8 g9 g10 g11 g12 g13 g14 g15 g16 g17 g18 g19
 simp only [x17_0,x17_1,x17_2,x17_3,zdP,x17_5,x17_6,x17_7,x17_8,zey,x17_10,zdH,b17,Try.f17,cL,cR,cB,cT]
 gi_wp2
 exact⟨rfl,rfl,rfl,rfl,rfl,rfl,rfl,rfl,rfl,rfl,rfl,rfl,rfl,rfl,rfl,rfl,rfl,rfl,rfl,rfl,rfl⟩
end Go.Proofs.Ytedomogjmhommaa
namespace Go.Proofs.Ytedomogjmhommaa
open Go.RowKit Go.Con Go.Conc
def P7 (w:World) (p1 pa pb:Nat) (v5 v8 v11:Value) (t:Array Value) (w' : World):Prop:=∃ v18,(t.size=146∧t[1]?=some (ptr p1)∧t[2]?=some (num 2)∧t[3]?=some (.bool true)∧t[4]?=some (num 0)∧t[5]?=some (v5)∧t[6]?=some (.bool true)∧t[7]?=some (num 0)∧t[8]?=some (v8)∧t[9]?=some (.bool true)∧t[10]?=some (num 0)∧t[11]?=some (v11)∧t[12]?=some (num 1)∧t[13]?=some (.bool true)∧t[14]?=some (num 0)∧t[15]?=some (ptr pa)∧t[16]?=some (ptr pb)∧t[17]?=some (num 0)∧t[18]?=some (v18)∧t[19]?=some (num 0))∧Nx w w'∧Sl w' v18 2 (([(0,0),(0,0),(0,2)]:List (Int×Int)).map spc)
theorem rowS (w:World) (x y z:Int) (cap:Nat):Sl (w.alloc (.cells #[num x,num y,num z] 78)) (.slice (some ⟨w.heap.size,0,none⟩) 1 cap) 3 (([⟨x,y,z⟩]:List Sn).map Sn.cells) :=
 ze1 zaT rfl (fun l hl=>by obtain⟨_,_,rfl⟩:=List.mem_map.1 hl;rfl) rfl
theorem dr7 (p1 pa pb:Nat) (v5 v8 v11:Value) (r:R2) (t:Array Value) (hs:t.size=146) (h1:t[1]?=some (ptr p1)) (h2:t[2]?=some (num 2)) (h3:t[3]?=some (.bool true)) (h4:t[4]?=some (num 0)) (h5:t[5]?=some (v5)) (h6:t[6]?=some (.bool true)) (h7:t[7]?=some (num 0)) (h8:t[8]?=some (v8)) (h9:t[9]?=some (.bool true)) (h10:t[10]?=some (num 0)) (h11:t[11]?=some (v11)) (h12:t[12]?=some (num 1)) (h13:t[13]?=some (.bool true)) (h14:t[14]?=some (num 0)) (h15:t[15]?=some (ptr pa)) (h16:t[16]?=some (ptr pb)) (h17:t[17]?=some (num 0)) (w:World) (hE:EW w p1 r) :
  x17_7.wpIn FW 0 Try.prog (fun e a w'=>e=.normal∧a.defers=[]∧P7 w p1 pa pb v5 v8 v11 a.tmps w') ⟨t,[]⟩ w:=by
 obtain⟨f,rfl⟩:=zeK hs
 have g1:f 1=ptr p1:=by simpa using h1
 have g2:f 2=num 2:=by simpa using h2
 have g3:f 3=.bool true:=by simpa using h3
 have g4:f 4=num 0:=by simpa using h4
 have g5:f 5=v5:=by simpa using h5
 have g6:f 6=.bool true:=by simpa using h6
 have g7:f 7=num 0:=by simpa using h7
 have g8:f 8=v8:=by simpa using h8
 have g9:f 9=.bool true:=by simpa using h9
 have g10:f 10=num 0:=by simpa using h10
 have g11:f 11=v11:=by simpa using h11
 have g12:f 12=num 1:=by simpa using h12
 have g13:f 13=.bool true:=by simpa using h13
 have g14:f 14=num 0:=by simpa using h14
 have g15:f 15=ptr pa:=by simpa using h15
 have g16:f 16=ptr pb:=by simpa using h16
 have g17:f 17=num 0:=by simpa using h17
 rw [g1,g2,g3,g4,g5,g6,g7,g8,g9,g10,g11,g12,g13,g14,g15,g16,g17] at *
 clear hs h1 h2 h3 h4 h5 h6 h7 h8 h9 h10 h11 h12 h13 h14 h15 h16 h17 g1 g2 g3 g4 g5 g6 g7 g8 g9 g10 g11 g12 g13 g14 g15 g16 g17
 have k30:=fun (w1:World) (n:Nx w w1) (u u2:Value) (hu:Sl w1 u 1 (([1,2,2]:List Int).map one)) (hu2:Sl w1 u2 3 (([⟨1,350,380⟩]:List Sn).map Sn.cells))=>zkj exD r u u2 [1,2,2] [⟨1,350,380⟩] w1 (hE.sl.nx n) hu (by decide) hu2 (by decide)
 rw [zoF] at k30
 dsimp only at k30
 have k48:=fun (w1:World)=>zc6 350 380 w1
 have c0:w.cell? ⟨p1,0,none⟩=some (r.h):=hE.box.at' 0 _ rfl
 have c1:w.cell? ⟨p1,1,none⟩=some (num exD.soak):=hE.box.at' 1 _ rfl
 have c2:w.cell? ⟨p1,2,none⟩=some (num exD.brittle):=hE.box.at' 2 _ rfl
 have c3:w.cell? ⟨p1,3,none⟩=some (num exD.start.w):=hE.box.at' 3 _ rfl
 have c4:w.cell? ⟨p1,4,none⟩=some (num exD.start.c):=hE.box.at' 4 _ rfl
 have c5:w.cell? ⟨p1,5,none⟩=some (num exD.start.h):=hE.box.at' 5 _ rfl
 have c6:w.cell? ⟨p1,6,none⟩=some (r.s):=hE.box.at' 6 _ rfl
 clear hE
 simp only [x17_0,x17_1,x17_2,x17_3,zdP,x17_5,x17_6,x17_7,x17_8,zey,x17_10,zdH,b17,Try.f17,cL,cR,cB,cT]
 refine zat (Nx w) 10 (by kernel_rfl) ?_
 obtain⟨Z,G,hN,hG,hG'⟩:=zaC (C:=Nx w) (x:=w) (Nx.refl _)
 have r0:=fun z=>(Kc.nx (hG' z)).cell c0
 have r1:=fun z=>(Kc.nx (hG' z)).cell c1
 have r2:=fun z=>(Kc.nx (hG' z)).cell c2
 have r3:=fun z=>(Kc.nx (hG' z)).cell c3
 have r4:=fun z=>(Kc.nx (hG' z)).cell c4
 have r5:=fun z=>(Kc.nx (hG' z)).cell c5
 have r6:=fun z=>(Kc.nx (hG' z)).cell c6
 change Go.wpAnyZ _ _ _ _ _ _ _ _ 11 #[false,false,false,false,false,false,false,false,false,false,false] _ _
 have n0:Nx w w.drew:=Nx.drew (Nx.refl w)
 generalize w.drew=V at n0 ⊢
 refine Go.zqE 0 hG (by kernel_rfl) (fun _ _ _ h=>by cases h.1) rfl ?_;intro o ho K hK;simp at ho;subst ho;gi_big_quiet_op;go_big_quiet_on
 clear c0 c1 c2 c3 c4 c5 c6 r0 r1 r2 r3 r4 r5 r6
 refine Go.zwE 1 2 (by kernel_rfl) rfl rfl ?_ ?_ ?_;rotate_left;(all_goals (try (intro o ho K hK;simp at ho;subst ho)))
 ·skip
  gi_wp2_with fail
  obtain⟨m1,-,-⟩:=al1 (w:=V) (o1:=.cells #[num 1,num 2,num 2] 3 (0,0)) rfl
  have hu:=row3 V 1 2 2 3
  generalize V.alloc (.cells #[num 1,num 2,num 2] 3 (0,0))=V1 at *
  have n1:=n0.trans m1
  refine Go.zoE 2 (by kernel_rfl) rfl ?_ ?_;rotate_left;intro o ho K hK;simp at ho;subst ho
  gi_wp2_with (first | (gi_at_call 48;refine CallsIn.mono (k48 _) ?_;rintro e w2 ⟨rfl,rfl⟩) | gi_in)
  obtain⟨m2,-,-⟩:=al1 (w:=V1) (o1:=.cells #[num 350,num 380] 45 (0,0)) rfl
  generalize V1.alloc (.cells #[num 350,num 380] 45 (0,0))=V2 at *
  have n2:=n1.trans m2
  have hu:=hu.nx m2
  refine Go.zoE 3 (by kernel_rfl) rfl ?_ ?_;rotate_left;intro o ho K hK;simp at ho;subst ho
  gi_wp2_with fail
  refine Go.zoE 4 (by kernel_rfl) rfl ?_ ?_;rotate_left;intro o ho K hK;simp at ho;subst ho
  gi_wp2_with fail
  obtain⟨m3,-,-⟩:=al1 (w:=V2) (o1:=.cells #[num 1,num 350,num 380] 78 (0,0)) rfl
  have hu2:=rowS V2 1 350 380 1
  generalize V2.alloc (.cells #[num 1,num 350,num 380] 78 (0,0))=V3 at *
  have n3:=n2.trans m3
  have hu:=hu.nx m3
  refine Go.zoE 5 (by kernel_rfl) rfl ?_ ?_;rotate_left;intro o ho K hK;simp at ho;subst ho
  gi_wp2_with (first | (gi_at_call 30;refine CallsIn.mono (k30 _ n3 _ _ hu hu2) ?_;rintro e w5 ⟨v18,rfl,n5,hv18⟩) | gi_in)
  have n6:=n3.trans n5
  refine Go.zoE 6 (by kernel_rfl) rfl ?_ ?_;rotate_left;intro o ho K hK;simp at ho;subst ho
  gi_wp2_with fail
  refine Go.zqE 7 hG (by kernel_rfl) (fun _ _ _ h=>by cases h.1) rfl ?_;intro o ho K hK;simp at ho;subst ho;gi_big_quiet_op;go_big_quiet_on
  refine Go.zqE 8 hG (by kernel_rfl) (fun _ _ _ h=>by cases h.1) rfl ?_;intro o ho K hK;simp at ho;subst ho;gi_big_quiet_op;go_big_quiet_on
  refine Go.zoE 9 (by kernel_rfl) rfl ?_ ?_;rotate_left;intro o ho K hK;simp at ho;subst ho
  gi_wp2_with fail
  refine Go.zoE 10 (by kernel_rfl) rfl ?_ ?_;rotate_left;intro o ho K hK;simp at ho;subst ho
  gi_wp2_with fail
  first | refine zar (by kernel_rfl) (fun h=>absurd h (by decide)) ⟨by trivial,by trivial,rfl,v18,⟨rfl,rfl,rfl,rfl,rfl,rfl,rfl,rfl,rfl,rfl,rfl,rfl,rfl,rfl,rfl,rfl,rfl,rfl,rfl,rfl⟩,n6,hv18⟩ | refine zar (by kernel_rfl) (fun h=>absurd h (by decide)) ⟨by trivial,rfl,v18,⟨rfl,rfl,rfl,rfl,rfl,rfl,rfl,rfl,rfl,rfl,rfl,rfl,rfl,rfl,rfl,rfl,rfl,rfl,rfl,rfl⟩,n6,hv18⟩
  all_goals (intro h;first | exact absurd h (by decide) | exact n0 | exact n1 | exact n2 | exact n3 | exact n6)
 ·gi_wp2_with (first | (gi_at_call 48;refine CallsIn.mono (k48 _) ?_;rintro e w2 ⟨rfl,rfl⟩) | gi_in)
  obtain⟨m1,-,-⟩:=al1 (w:=V) (o1:=.cells #[num 350,num 380] 45 (0,0)) rfl
  generalize V.alloc (.cells #[num 350,num 380] 45 (0,0))=V1 at *
  have n1:=n0.trans m1
  refine Go.zqE 3 hG (by kernel_rfl) (fun _ _ _ h=>by cases h.1) rfl ?_;intro o ho K hK;simp at ho;subst ho;gi_big_quiet_op;go_big_quiet_on
  refine Go.zwE 1 4 (by kernel_rfl) rfl rfl ?_ ?_ ?_;rotate_left;(all_goals (try (intro o ho K hK;simp at ho;subst ho)))
  ·skip
   gi_wp2_with fail
   obtain⟨m2,-,-⟩:=al1 (w:=V1) (o1:=.cells #[num 1,num 2,num 2] 3 (0,0)) rfl
   have hu:=row3 V1 1 2 2 3
   generalize V1.alloc (.cells #[num 1,num 2,num 2] 3 (0,0))=V2 at *
   have n2:=n1.trans m2
   refine Go.zoE 4 (by kernel_rfl) rfl ?_ ?_;rotate_left;intro o ho K hK;simp at ho;subst ho
   gi_wp2_with fail
   obtain⟨m3,-,-⟩:=al1 (w:=V2) (o1:=.cells #[num 1,num 350,num 380] 78 (0,0)) rfl
   have hu2:=rowS V2 1 350 380 1
   generalize V2.alloc (.cells #[num 1,num 350,num 380] 78 (0,0))=V3 at *
   have n3:=n2.trans m3
   have hu:=hu.nx m3
   refine Go.zoE 5 (by kernel_rfl) rfl ?_ ?_;rotate_left;intro o ho K hK;simp at ho;subst ho
   gi_wp2_with (first | (gi_at_call 30;refine CallsIn.mono (k30 _ n3 _ _ hu hu2) ?_;rintro e w5 ⟨v18,rfl,n5,hv18⟩) | gi_in)
   have n6:=n3.trans n5
   refine Go.zoE 6 (by kernel_rfl) rfl ?_ ?_;rotate_left;intro o ho K hK;simp at ho;subst ho
   gi_wp2_with fail
   refine Go.zqE 7 hG (by kernel_rfl) (fun _ _ _ h=>by cases h.1) rfl ?_;intro o ho K hK;simp at ho;subst ho;gi_big_quiet_op;go_big_quiet_on
   refine Go.zqE 8 hG (by kernel_rfl) (fun _ _ _ h=>by cases h.1) rfl ?_;intro o ho K hK;simp at ho;subst ho;gi_big_quiet_op;go_big_quiet_on
   refine Go.zoE 9 (by kernel_rfl) rfl ?_ ?_;rotate_left;intro o ho K hK;simp at ho;subst ho
   gi_wp2_with fail
   refine Go.zoE 10 (by kernel_rfl) rfl ?_ ?_;rotate_left;intro o ho K hK;simp at ho;subst ho
   gi_wp2_with fail
   first | refine zar (by kernel_rfl) (fun h=>absurd h (by decide)) ⟨by trivial,by trivial,rfl,v18,⟨rfl,rfl,rfl,rfl,rfl,rfl,rfl,rfl,rfl,rfl,rfl,rfl,rfl,rfl,rfl,rfl,rfl,rfl,rfl,rfl⟩,n6,hv18⟩ | refine zar (by kernel_rfl) (fun h=>absurd h (by decide)) ⟨by trivial,rfl,v18,⟨rfl,rfl,rfl,rfl,rfl,rfl,rfl,rfl,rfl,rfl,rfl,rfl,rfl,rfl,rfl,rfl,rfl,rfl,rfl,rfl⟩,n6,hv18⟩
   all_goals (intro h;first | exact absurd h (by decide) | exact n0 | exact n1 | exact n2 | exact n3 | exact n6)
  ·skip
   gi_wp2_with fail
   obtain⟨m2,-,-⟩:=al1 (w:=V1) (o1:=.cells #[num 1,num 350,num 380] 78 (0,0)) rfl
   have hu2:=rowS V1 1 350 380 1
   generalize V1.alloc (.cells #[num 1,num 350,num 380] 78 (0,0))=V2 at *
   have n2:=n1.trans m2
   refine Go.zoE 1 (by kernel_rfl) rfl ?_ ?_;rotate_left;intro o ho K hK;simp at ho;subst ho
   gi_wp2_with fail
   obtain⟨m3,-,-⟩:=al1 (w:=V2) (o1:=.cells #[num 1,num 2,num 2] 3 (0,0)) rfl
   have hu:=row3 V2 1 2 2 3
   generalize V2.alloc (.cells #[num 1,num 2,num 2] 3 (0,0))=V3 at *
   have n3:=n2.trans m3
   have hu2:=hu2.nx m3
   refine Go.zoE 5 (by kernel_rfl) rfl ?_ ?_;rotate_left;intro o ho K hK;simp at ho;subst ho
   gi_wp2_with (first | (gi_at_call 30;refine CallsIn.mono (k30 _ n3 _ _ hu hu2) ?_;rintro e w5 ⟨v18,rfl,n5,hv18⟩) | gi_in)
   have n6:=n3.trans n5
   refine Go.zoE 6 (by kernel_rfl) rfl ?_ ?_;rotate_left;intro o ho K hK;simp at ho;subst ho
   gi_wp2_with fail
   refine Go.zqE 7 hG (by kernel_rfl) (fun _ _ _ h=>by cases h.1) rfl ?_;intro o ho K hK;simp at ho;subst ho;gi_big_quiet_op;go_big_quiet_on
   refine Go.zqE 8 hG (by kernel_rfl) (fun _ _ _ h=>by cases h.1) rfl ?_;intro o ho K hK;simp at ho;subst ho;gi_big_quiet_op;go_big_quiet_on
   refine Go.zoE 9 (by kernel_rfl) rfl ?_ ?_;rotate_left;intro o ho K hK;simp at ho;subst ho
   gi_wp2_with fail
   refine Go.zoE 10 (by kernel_rfl) rfl ?_ ?_;rotate_left;intro o ho K hK;simp at ho;subst ho
   gi_wp2_with fail
   first | refine zar (by kernel_rfl) (fun h=>absurd h (by decide)) ⟨by trivial,by trivial,rfl,v18,⟨rfl,rfl,rfl,rfl,rfl,rfl,rfl,rfl,rfl,rfl,rfl,rfl,rfl,rfl,rfl,rfl,rfl,rfl,rfl,rfl⟩,n6,hv18⟩ | refine zar (by kernel_rfl) (fun h=>absurd h (by decide)) ⟨by trivial,rfl,v18,⟨rfl,rfl,rfl,rfl,rfl,rfl,rfl,rfl,rfl,rfl,rfl,rfl,rfl,rfl,rfl,rfl,rfl,rfl,rfl,rfl⟩,n6,hv18⟩
   all_goals (intro h;first | exact absurd h (by decide) | exact n0 | exact n1 | exact n2 | exact n3 | exact n6)
  all_goals (intro h;first | exact absurd h (by decide) | exact n0 | exact n1)
 all_goals (intro h;first | exact absurd h (by decide) | exact n0)
end Go.Proofs.Ytedomogjmhommaa
namespace Go.Proofs.Ytedomogjmhommaa
open Go.RowKit Go.Con Go.Conc
theorem rowN {w:World} {cs:Array Value} {e n sz cap:Nat} {xs:List (List Value)} (hn:n=xs.length) (hz:∀ x∈xs,x.length=sz) (hc:cs.toList=xs.flatten):Sl (w.alloc (.cells cs e)) (.slice (some ⟨w.heap.size,0,none⟩) n cap) sz xs :=
 ze1 zaT hn hz hc
theorem al0 (w:World) (o:Obj):Nx w (w.alloc o):=zaj (Nx.refl w) o
abbrev L46:List St:=[⟨400,200,2⟩,⟨490,200,1⟩]
abbrev L32:List (Int×Int):=[(0,0),(0,0),(0,2)]
theorem i64 {n:Int} (h : -1000≤n∧n≤1000):I64 n:=by unfold I64;omega
theorem in46:∀ x∈L46,StI x:=by
 intro x hx
 simp only [L46,List.mem_cons,List.not_mem_nil,or_false] at hx
 rcases hx with rfl | rfl<;>exact⟨i64 (by decide),i64 (by decide),i64 (by decide)⟩
theorem in32:∀ x∈L32,I64 x.1∧I64 x.2:=by
 intro x hx
 simp only [L32,List.mem_cons,List.not_mem_nil,or_false] at hx
 rcases hx with rfl | rfl | rfl<;>exact⟨i64 (by decide),i64 (by decide)⟩
structure K10 (t:Array Value) (pa pb b5 o5 k5 k8 k11 k18:Nat) (a8 a11 a18:Option Addr):Prop where
 hs:t.size=146
 h2:t[2]?=some (num 2)
 h3:t[3]?=some (.bool true)
 h5:t[5]?=some (.slice (some ⟨b5,o5,none⟩) 4 k5)
 h6:t[6]?=some (.bool true)
 h8:t[8]?=some (.slice a8 3 k8)
 h9:t[9]?=some (.bool true)
 h11:t[11]?=some (.slice a11 3 k11)
 h12:t[12]?=some (num 1)
 h13:t[13]?=some (.bool true)
 h15:t[15]?=some (ptr pa)
 h16:t[16]?=some (ptr pb)
 h18:t[18]?=some (.slice a18 3 k18)
end Go.Proofs.Ytedomogjmhommaa
namespace Go.Proofs.Ytedomogjmhommaa
open Go.RowKit Go.Con Go.Conc
theorem zq7 (pa pb b5 o5 k5 k8 k11 k18:Nat) (a8 a11 a18:Option Addr) (R:Go.Act→World→Prop) (t:Array Value) (hK:K10 t pa pb b5 o5 k5 k8 k11 k18 a8 a11 a18)  (w V0:World) (n0:Nx w V0)  (hk:∀ (t' : Array Value) (V' : World),K10 t' pa pb b5 o5 k5 k8 k11 k18 a8 a11 a18→t'[99]?=some (.bool true)→Nx w V'→wpAnyZ FW 0 Try.prog .any (opsOf x17_10) (Nx w) 60 (fun e a w'=>e=Exit.normal∧R a w') 47 #[true,true,true,true,true,true,true,true,true,true,true,true,true,true,false,false,false,false,false,false,false,false,false,false,false,false,false,false,false,false,false,false,false,false,false,false,false,false,false,false,false,false,false,false,false,false,false,false,false,false,false,false,false,false,false,false,false,false,false,false,false] ⟨t',[]⟩ V') :
  wpAnyZ FW 0 Try.prog .any (opsOf x17_10) (Nx w) 60 (fun e a w'=>e=Exit.normal∧R a w') 61 #[false,false,false,false,false,false,false,false,false,false,false,false,false,false,false,false,false,false,false,false,false,false,false,false,false,false,false,false,false,false,false,false,false,false,false,false,false,false,false,false,false,false,false,false,false,false,false,false,false,false,false,false,false,false,false,false,false,false,false,false,false] ⟨t,[]⟩ V0:=by
 obtain⟨hs,h2,h3,h5,h6,h8,h9,h11,h12,h13,h15,h16,h18⟩:=hK
 obtain⟨f,rfl⟩:=zeK hs
 have g2:f 2=num 2:=by simpa using h2
 have g3:f 3=.bool true:=by simpa using h3
 have g5:f 5=.slice (some ⟨b5,o5,none⟩) 4 k5:=by simpa using h5
 have g6:f 6=.bool true:=by simpa using h6
 have g8:f 8=.slice a8 3 k8:=by simpa using h8
 have g9:f 9=.bool true:=by simpa using h9
 have g11:f 11=.slice a11 3 k11:=by simpa using h11
 have g12:f 12=num 1:=by simpa using h12
 have g13:f 13=.bool true:=by simpa using h13
 have g15:f 15=ptr pa:=by simpa using h15
 have g16:f 16=ptr pb:=by simpa using h16
 have g18:f 18=.slice a18 3 k18:=by simpa using h18
 rw [g2,g3,g5,g6,g8,g9,g11,g12,g13,g15,g16,g18]
 clear hs h2 h3 h5 h6 h8 h9 h11 h12 h13 h15 h16 h18 g2 g3 g5 g6 g8 g9 g11 g12 g13 g15 g16 g18
 simp only [x17_0,x17_1,x17_2,x17_3,zdP,x17_5,x17_6,x17_7,x17_8,zey,x17_10,zdH,b17,Try.f17,cL,cR,cB,cT,opsOf] at hk ⊢
 obtain⟨Z,G,hN,hG,hG'⟩:=zaC (C:=Nx w) (x:=w) (Nx.refl _)
 refine Go.zoE 0 (by kernel_rfl) rfl ?_ ?_;rotate_left;intro o ho K hK;simp at ho;subst ho
 gi_wp2_with fail
 refine Go.zoE 1 (by kernel_rfl) rfl ?_ ?_;rotate_left;intro o ho K hK;simp at ho;subst ho
 gi_wp2_with fail
 refine Go.zoE 2 (by kernel_rfl) rfl ?_ ?_;rotate_left;intro o ho K hK;simp at ho;subst ho
 gi_wp2_with fail
 refine Go.zoE 3 (by kernel_rfl) rfl ?_ ?_;rotate_left;intro o ho K hK;simp at ho;subst ho
 gi_wp2_with fail
 refine Go.zoE 4 (by kernel_rfl) rfl ?_ ?_;rotate_left;intro o ho K hK;simp at ho;subst ho
 gi_wp2_with fail
 refine Go.zoE 5 (by kernel_rfl) rfl ?_ ?_;rotate_left;intro o ho K hK;simp at ho;subst ho
 gi_wp2_with fail
 refine Go.zoE 6 (by kernel_rfl) rfl ?_ ?_;rotate_left;intro o ho K hK;simp at ho;subst ho
 gi_wp2_with fail
 refine Go.zoE 7 (by kernel_rfl) rfl ?_ ?_;rotate_left;intro o ho K hK;simp at ho;subst ho
 gi_wp2_with fail
 refine Go.zoE 8 (by kernel_rfl) rfl ?_ ?_;rotate_left;intro o ho K hK;simp at ho;subst ho
 gi_wp2_with fail
 refine Go.zoE 9 (by kernel_rfl) rfl ?_ ?_;rotate_left;intro o ho K hK;simp at ho;subst ho
 gi_wp2_with fail
 refine Go.zoE 10 (by kernel_rfl) rfl ?_ ?_;rotate_left;intro o ho K hK;simp at ho;subst ho
 gi_wp2_with fail
 refine Go.zoE 11 (by kernel_rfl) rfl ?_ ?_;rotate_left;intro o ho K hK;simp at ho;subst ho
 gi_wp2_with fail
 refine Go.zoE 12 (by kernel_rfl) rfl ?_ ?_;rotate_left;intro o ho K hK;simp at ho;subst ho
 gi_wp2_with fail
 refine Go.zoE 13 (by kernel_rfl) rfl ?_ ?_;rotate_left;intro o ho K hK;simp at ho;subst ho
 gi_wp2_with fail
 simp only [List.setIfInBounds_toArray,List.set_cons_succ,List.set_cons_zero]
 exact hk _ _ ⟨rfl,rfl,rfl,rfl,rfl,rfl,rfl,rfl,rfl,rfl,rfl,rfl,rfl⟩ rfl n0
 all_goals (intro h;first | exact absurd h (by decide) | exact n0)
end Go.Proofs.Ytedomogjmhommaa
