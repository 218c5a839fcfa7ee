/- For every ditch, any byte and any 32 bit number the law TurnNext returns true, does not panic, and leaves the ditch as it was. Conditions: the package's variables hold what the program lays in them at its start (the statement's own word: laid), and the ditch is a value as the statement's card tells it. -/
import Derived.Test.YtolholkjeehamaaDoorK1
import Derived.Test.YtolholkjeehamaaDoorC40
import Derived.Test.YtolholkjeehamaaDoorC39
import Derived.Test.YtolholkjeehamaaDoorC34
import Derived.Test.YtolholkjeehamaaDoorC09
set_option linter.all false
set_option maxRecDepth 100000
set_option maxHeartbeats 4000000
namespace Go.Proofs.YtolholkjeehamaaDoor
theorem mine_01 (d:Dit) (holder x:Int):d.mine holder x=0∨d.mine holder x=1:=by
 unfold Dit.mine
 split
 ·exact own_01 ..
 ·exact .inl rfl
theorem Dit.Ok.hours_step {d:Dit} (hO:d.Ok) (holder a:Int) {b:Int} (hb:0≤b):d.hoursW holder a (b+1)=d.hoursW holder a b+d.mine holder b:=by
 rw [hoursW_had,hoursW_had,hO.ran_step hb]
 unfold Dit.mine
 split
 ·rw [hO.had_step (hO.ran_nonneg b)];omega
 ·rw [Int.add_zero];omega
end Go.Proofs.YtolholkjeehamaaDoor
namespace Go.Proofs.YtolholkjeehamaaDoor
theorem Dit.Ok.oth_len {d:Dit} (hO:d.Ok) (c:Int):(d.oth c).length=d.turns.length:=by
 by_cases hc:c∈d.keys
 ·rw [hO.chg.len c hc]
 ·rw [oth_us hc];simp [Dit.us]
theorem Dit.Ok.owner_mine {d:Dit} (hO:d.Ok) {k h:Int} (hk:0≤k) (hh:0≤h):(d.owner h).1=k↔d.mine k h=1:=by
 have hs:=hO.ran_step hh
 by_cases hr:d.runs h=true
 ·have hr0:=hO.ran_nonneg h
  have hT:=hO.cyc_pos
  rw [if_pos hr] at hs
  have hq:0≤(d.ran h).tdiv d.cyc:=Int.tdiv_nonneg hr0 (by omega)
  have htl:=hO.turn_lt (d.ran h)
  have hl:=hO.oth_len ((d.ran h).tdiv d.cyc)
  have hw:(if (d.ran h).tdiv d.cyc∈d.keys then d.oth ((d.ran h).tdiv d.cyc) else d.us)=d.oth ((d.ran h).tdiv d.cyc):=by
   split
   ·rfl
   ·rename_i hn;rw [oth_us hn]
  have hat:d.at d.ends d.cyc h=((d.ran h).tdiv d.cyc,(turnS d.ends ((d.ran h).tmod d.cyc) 12 0:Int)):=by unfold Dit.at;rw [if_neg (by omega)]
  unfold Dit.mine Dit.owner Dit.own Dit.has whoS
  rw [if_pos hr,hat]
  simp only []
  rw [if_neg (by omega),hw,Int.toNat_natCast]
  have e1:d.ran h / d.cyc=(d.ran h).tdiv d.cyc:=(Int.tdiv_eq_ediv_of_nonneg hr0).symm
  have e2:d.turn (d.ran h % d.cyc)=turnS d.ends ((d.ran h).tmod d.cyc) 12 0:=by
   unfold Dit.turn;rw [Int.tmod_eq_emod_of_nonneg hr0]
  rw [e1,e2]
  generalize turnS d.ends ((d.ran h).tmod d.cyc) 12 0=t at htl
  generalize d.oth ((d.ran h).tdiv d.cyc)=l at hl
  rw [List.getElem?_eq_getElem (show t<l.length by omega)]
  simp
 ·rw [if_neg hr] at hs
  have hat:d.at d.ends d.cyc h=(-1,-1):=by unfold Dit.at;rw [if_pos (by omega)]
  unfold Dit.mine Dit.owner whoS
  rw [if_neg hr,hat]
  simp
  omega
theorem ask_zero {d:Dit} (hc:checkS d=0) {k a b:Int} (hk:0≤k∧k≤(d.holders.length:Int)-1) (ha:0≤a) (hab:a≤b) (hb:b≤999999999):askS d k a b=0:=by
 unfold askS stretchS
 rw [if_neg (by simp [hc]),if_neg (by simpa using hk)]
 split
 ·omega
 ·split<;>omega
theorem next_law {d:Dit} (hc:checkS d=0) {k h:Int} (hk:0≤k∧k≤(d.holders.length:Int)-1) (hh:0≤h∧h≤999999999) :
  (nextF d k h=(0,false,0)∧hoursF d k h 999999999=(0,0)∧(ownerF d 999999999).1.1≠k∧(ownerF d 999999999).2=0) ∨
  (∃ n,nextF d k h=(n,true,0)∧h≤n∧n≤999999999∧(ownerF d n).1.1=k∧(ownerF d n).2=0∧hoursF d k h n=(0,0)):=by
 have hO:=ok_of_check hc
 obtain⟨⟨b1,b2⟩,b3,b4⟩:=hO.least k (h:=h) (by omega)
 have own:∀ n,0≤n→n≤999999999→ownerF d n=(d.owner n,0):=fun n n1 n2=>by
  unfold ownerF;rw [if_neg (by simp [hc]),if_neg (by simp;omega)]
 have hrs:∀ n,h≤n→n≤999999999→hoursF d k h n=(d.hoursW k h n,0):=fun n n1 n2=>by
  unfold hoursF;rw [if_neg (by simp [ask_zero hc hk hh.1 n1 n2])]
 have z:∀ n,h≤n→n≤leastH d k h→d.hoursW k h n=0:=fun n n1 n2=>by
  by_cases e:n=h
  ·rw [e];exact hours_self ..
  ·have:=b3 (n-1) (by omega) (by omega)
   rwa [show n-1+1=n by omega] at this
 unfold nextF
 rw [if_neg (by simp [ask_zero hc hk hh.1 hh.2 (Int.le_refl _)])]
 by_cases hm:leastH d k h > 999999999
 ·refine .inl ⟨by rw [if_pos hm],by rw [hrs _ hh.2 (Int.le_refl _),z _ hh.2 (by omega)],?_,by rw [own _ (by omega) (Int.le_refl _)]⟩
  rw [own _ (by omega) (Int.le_refl _)]
  intro e
  have h1:=(hO.owner_mine hk.1 (by omega)).1 e
  have h2:=hO.hours_step k h (b:=999999999) (by omega)
  have h3:=b3 999999999 hh.2 hm
  have h4:=z 999999999 hh.2 (by omega)
  omega
 ·refine .inr ⟨leastH d k h,by rw [if_neg hm],b1,by omega,?_,by rw [own _ (by omega) (by omega)],by rw [hrs _ b1 (by omega),z _ b1 (Int.le_refl _)]⟩
  rw [own _ (by omega) (by omega)]
  refine (hO.owner_mine hk.1 (by omega)).2 ?_
  have h2:=hO.hours_step k h (b:=leastH d k h) (by omega)
  have h3:=b4 (by omega)
  have h4:=z _ b1 (Int.le_refl _)
  have h5:=mine_01 d k (leastH d k h)
  omega
end Go.Proofs.YtolholkjeehamaaDoor
namespace Go.Proofs.YtolholkjeehamaaDoor
open Go.RowKit Go.Con Go.Conc
local instance:Lone:=mainL
section
variable {dst:Option Nat} {ty:TypeId} {pos:String} {af:Array Edge} {x y c:Nat} {w:World} {gd:Option (Nat×Bool)} (e:Operand→Value)
theorem eqc3_run {n:Int} (h:e (.tmp x)=num n) (h2:e (.const (.int .i64 n))=num n) (τ:Tape):(execOp e ⟨dst,.binOp .eql 3 (.tmp x) (.const (.int .i64 n)) 3,ty,pos,af,gd⟩).run Tryd.prog { w with tape:=τ }=.ok (.value (.bool true)) { w with tape:=τ }:=by
 simp [execOp,go_sem,h,h2]
theorem eqc37_run {n:Int} (h:e (.tmp x)=num n) (h2:e (.const (.int .i64 n))=num n) (τ:Tape):(execOp e ⟨dst,.binOp .eql 37 (.tmp x) (.const (.int .i64 n)) 37,ty,pos,af,gd⟩).run Tryd.prog { w with tape:=τ }=.ok (.value (.bool true)) { w with tape:=τ }:=by
 simp [execOp,go_sem,h,h2]
theorem ne3_run {n m:Int} (h:e (.tmp x)=num n) (h2:e (.tmp y)=num m) (hn:n≠m) (τ:Tape):(execOp e ⟨dst,.binOp .neq 3 (.tmp x) (.tmp y) 3,ty,pos,af,gd⟩).run Tryd.prog { w with tape:=τ }=.ok (.value (.bool true)) { w with tape:=τ }:=by
 simp [execOp,go_sem,h,h2,hn]
end
noncomputable def body4:Code:=match Tryd.f4.body with | some c=>c | none=>.skip
noncomputable def q1:Code:=seqR body4
noncomputable def q3:Code:=seqR q1
noncomputable def q4:Code:=seqR q3
noncomputable def q5:Code:=seqR q4
noncomputable def q7:Code:=seqR q5
noncomputable def q11:Code:=seqR q7
noncomputable def q13:Code:=seqR q11
noncomputable def q14:Code:=seqR q13
noncomputable def q15:Code:=seqR q14
noncomputable def p58:Code:=match seqR (seqL q7) with | .cond _ x _=>x | c=>c
noncomputable def p9:Code:=seqR p58
noncomputable def p10:Code:=seqR p9
noncomputable def n0:Code:=seqL body4
noncomputable def n1:Code:=seqL (seqL q1)
noncomputable def n2:Code:=match seqR (seqL q1) with | .cond _ x _=>seqL x | c=>c
noncomputable def n3:Code:=seqL q3
noncomputable def n4:Code:=seqL q4
noncomputable def n5:Code:=seqL q5
noncomputable def n7:Code:=seqL (seqL q7)
noncomputable def n8:Code:=seqL p58
noncomputable def n9:Code:=seqL p9
noncomputable def n10:Code:=seqL p10
noncomputable def n11:Code:=seqL q11
noncomputable def n13:Code:=seqL q13
noncomputable def n14:Code:=seqL q14
noncomputable def n15:Code:=seqL q15
theorem body4_eq:body4=.seq n0 (.seq (.seq n1 (.cond (.tmp 36) (.seq n2 .ret) .skip)) (.seq n3 (.seq n4 (.seq n5 (.seq (.seq n7 (.cond (.tmp 58) (.seq n8 (.seq n9 (.seq n10 .ret))) .skip)) (.seq n11 (.seq n13 (.seq n14 (.seq n15 .ret))))))))):=by kernel_rfl
theorem body4_of:Tryd.f4.body=some body4:=by kernel_rfl
noncomputable def opn2:Array Oper:=opsOf n2
theorem n2_eq:n2=.region 2 opn2 false:=by kernel_rfl
noncomputable def opn10:Array Oper:=opsOf n10
theorem n10_eq:n10=.region 10 opn10 false:=by kernel_rfl
noncomputable def opn15:Array Oper:=opsOf n15
theorem n15_eq:n15=.region 15 opn15 false:=by kernel_rfl
def NextA (W:World) (t:Array Value) (W2:World):Prop:=Old W W2∧∃ z k,z≠k∧t.size=136∧t[13]?=some (num 0)∧t[17]?=some (num 0)∧t[12]?=some (num 0)∧t[14]?=some (num z)∧t[7]?=some (num k)∧t[9]?=some (num 0)
def NextB (W:World) (t:Array Value) (W2:World):Prop:=Old W W2∧∃ k,t.size=136∧t[11]?=some (num 0)∧t[22]?=some (num 0)∧t[18]?=some (num k)∧t[7]?=some (num k)∧t[21]?=some (num 0)
def NextM (W:World) (t:Array Value) (W1:World):Prop:=Old W W1∧t.size=136 ∧
 ((t[58]?=some (.bool true)∧Lones Tryd.prog (FG 4) [n8,n9] (NextA W) t W1)∨(t[58]?=some (.bool false)∧Lones Tryd.prog (FG 4) [n11,n13,n14] (NextB W) t W1))
theorem next_lone (d:Dit) (r:Rows6) (x y:Int) (W:World) (hd:DitSl W d r) (hb:d.Big) (hg:Glob W) (hx:0≤x∧x≤255) (hy:0≤y∧y≤4294967295) :
  Lones Tryd.prog (FG 4) [n0,n1] (fun t W1=>Old W W1∧t.size=136∧(t[36]?=some (.bool true)∨(t[36]?=some (.bool false) ∧
   Lones Tryd.prog (FG 4) [n3,n4,n5,n7] (NextM W) t W1)))
   #[d.val r,.int .u8 x,.int .u32 y,undef,undef,undef,undef,undef,undef,undef,undef,undef,undef,undef,undef,undef,undef,undef,undef,undef,undef,undef,undef,undef,undef,undef,undef,undef,undef,undef,undef,undef,undef,undef,undef,undef,undef,undef,undef,undef,undef,undef,undef,undef,undef,undef,undef,undef,undef,undef,undef,undef,undef,undef,undef,undef,undef,undef,undef,undef,undef,undef,undef,undef,undef,undef,undef,undef,undef,undef,undef,undef,undef,undef,undef,undef,undef,undef,undef,undef,undef,undef,undef,undef,undef,undef,undef,undef,undef,undef,undef,undef,undef,undef,undef,undef,undef,undef,undef,undef,undef,undef,undef,undef,undef,undef,undef,undef,undef,undef,undef,undef,undef,undef,undef,undef,undef,undef,undef,undef,undef,undef,undef,undef,undef,undef,undef,undef,undef,undef,undef,undef,undef,undef,undef,undef] W:=by
 intro τ
 generalize hw0:({ W with tape:=τ }:World)=w0
 have hO0:Old W w0:=by rw [← hw0];exact .same rfl
 clear hw0
 have hd0:=hd.old hO0
 obtain⟨V,hV,nV,hVs,cV⟩:=boxed w0 d r
 have nVV:Nx V V:=Below.refl _ _
 simp only [n0,body4,seqL,seqR,Tryd.f4]
 gi_wp2
 intro τ1
 generalize hw1:({ V with tape:=τ1 }:World)=w1
 have hO1:Old V w1:=by rw [← hw1];exact .same rfl
 have hOw:Old W w1:=hO0.trans ((Old.nx nV).trans hO1)
 have cO:∀ w2,Old w1 w2→∀ i v,(d.cellsA r)[i]?=some v→w2.cell? ⟨w0.heap.size,i,none⟩=some v:=fun w2 o i v h=>((hO1.trans o).cell ⟨w0.heap.size,i,none⟩ (by show w0.heap.size<_;omega)).trans (cV _ nVV i v h)
 clear hw1
 simp only [n1,q1,q3,q4,q5,q7,q11,q13,q14,q15,p58,p9,p10,body4,seqL,seqR,Tryd.f4]
 have k19:=toFG 4 (m:=0) (great_big d r 0 0 (.slice none 0 0) [] w1 (hd.old hOw) hb ⟨0,.inl ⟨rfl,rfl⟩⟩ (Nat.zero_le _))
 obtain⟨ah,caph,eh⟩:=hd.holders.cases
 rw [List.length_map] at eh
 obtain⟨c0,c1,c2,c3,c4,c5,c6,c7,c8,c9,c10,c11,c12,c13⟩:=cells14 (cO w1 (Old.refl _))
 have CH:=Lib.hid (show ∀ w2,Old w1 w2→w2.cell? ⟨w0.heap.size,0,none⟩=some (.slice ah d.holders.length caph) from fun w2 o=>(cO w2 o 0 r.h rfl).trans (by rw [eh]))
 have CO:=Lib.hid cO
 have HD:=Lib.hid hd
 have HG:=Lib.hid hg
 have HB:=Lib.hid hb
 clear cO cV hd hg hb hd0 hV nV eh
 cases hgr:greatS d 0 with
 | true =>
  rw [show ([]:List (List Value)).length=0 from rfl,hgr] at k19
  gi_wp2_with (first
   | (gi_at_call 19;refine CallsIn.mono k19 ?_;rintro e w2 ⟨rfl,m2⟩)
   | gi_in)
  exact⟨hOw.trans (.nx m2),rfl,.inl rfl⟩
 | false =>
 rw [show ([]:List (List Value)).length=0 from rfl,hgr] at k19
 have hs:=small_of_great hgr
 have k25:=fun w2 (o:Old w1 w2)=>toFG 4 (m:=0) (check25_any d r w2 (HD.out.old (hOw.trans o)) hs)
 clear hgr
 rcases (Decidable.em (checkS d=0)).symm with hc | hc
 ·have b1:(checkS d != 0)=true:=by simpa using hc
  gi_wp2_with (first
   | (gi_at_call 19;refine CallsIn.mono k19 ?_;rintro e w2 ⟨rfl,m2⟩;clear c0 c1 c2 c3 c4 c5 c6 c7 c8 c9 c10 c11 c12 c13;obtain⟨c0,c1,c2,c3,c4,c5,c6,c7,c8,c9,c10,c11,c12,c13⟩:=cells14 (CO.out w2 (.nx m2));have kk:=k25 w2 (.nx m2))
   | (gi_at_call 25;refine CallsIn.mono kk ?_;rintro e w3 ⟨rfl,m3⟩)
   | gi_in)
  exact⟨hOw.trans (.trans (.nx m2) (.nx m3)),rfl,.inl rfl⟩
 have HC:=Lib.hid hc
 rw [hc] at k25
 clear hc
 by_cases hn:(d.holders.length:Int)=0
 ·have b1:((d.holders.length:Int) == 0)=true:=by simpa using hn
  gi_wp2_with (first
   | (gi_at_call 19;refine CallsIn.mono k19 ?_;rintro e w2 ⟨rfl,m2⟩;clear c0 c1 c2 c3 c4 c5 c6 c7 c8 c9 c10 c11 c12 c13;obtain⟨c0,c1,c2,c3,c4,c5,c6,c7,c8,c9,c10,c11,c12,c13⟩:=cells14 (CO.out w2 (.nx m2));have kk:=k25 w2 (.nx m2))
   | (gi_at_call 25;refine CallsIn.mono kk ?_;rintro e w3 ⟨rfl,m3⟩;clear c0 c1 c2 c3 c4 c5 c6 c7 c8 c9 c10 c11 c12 c13;have c0:=CH.out w3 (.trans (.nx m2) (.nx m3)))
   | gi_in)
  exact⟨hOw.trans (.trans (.nx m2) (.nx m3)),rfl,.inl rfl⟩
 have b1:((d.holders.length:Int) == 0)=false:=by simpa using hn
 gi_wp2_with (first
  | (gi_at_call 19;refine CallsIn.mono k19 ?_;rintro e w2 ⟨rfl,m2⟩;clear c0 c1 c2 c3 c4 c5 c6 c7 c8 c9 c10 c11 c12 c13;obtain⟨c0,c1,c2,c3,c4,c5,c6,c7,c8,c9,c10,c11,c12,c13⟩:=cells14 (CO.out w2 (.nx m2));have kk:=k25 w2 (.nx m2))
  | (gi_at_call 25;refine CallsIn.mono kk ?_;rintro e w3 ⟨rfl,m3⟩;clear c0 c1 c2 c3 c4 c5 c6 c7 c8 c9 c10 c11 c12 c13;have c0:=CH.out w3 (.trans (.nx m2) (.nx m3)))
  | gi_in)
 have hO2:Old w1 w3:=.trans (.nx m2) (.nx m3)
 refine⟨hOw.trans hO2,rfl,.inr ⟨rfl,?_⟩⟩
 clear k19 k25 kk c0 b1
 have hO1o:Old w1 w3:=hO2
 intro τ3
 generalize hq3:({ w3 with tape:=τ3 }:World)=u3
 have oA3:Old w1 u3:=hO1o.trans (by rw [← hq3];exact .same rfl)
 clear hq3
 simp only [n3,q1,q3,q4,q5,q7,q11,q13,q14,q15,p58,p9,p10,body4,seqL,seqR,Tryd.f4]
 have c0:=CH.out u3 oA3
 gi_wp2
 have hk:0≤x % (d.holders.length:Int)∧x % (d.holders.length:Int)≤(d.holders.length:Int)-1:=⟨Int.emod_nonneg _ hn,by have:=Int.emod_lt_of_pos x (b:=(d.holders.length:Int)) (by omega);omega⟩
 have hat:0≤y % 1000000000∧y % 1000000000≤999999999:=by omega
 generalize x % (d.holders.length:Int)=k at hk ⊢
 generalize y % 1000000000=a at hat ⊢
 have oB3:Old w1 u3:=oA3
 clear c0 hn hx hy
 rcases next_law HC.out hk hat with ⟨e1,e2,e3,e4⟩ | ⟨n,e1,e2,e3,e4,e5,e6⟩
 ·rcases ho:ownerF d 999999999 with ⟨⟨z,cc,tt⟩,ff⟩
  rw [ho] at e3 e4
  have hz:z≠k:=e3
  obtain rfl:ff=0:=e4
  have KN:=Lib.hid (fun u (o:Old w1 u)=>show CallsIn (FG 4) 0 Tryd.prog 23 #[d.val r,num k,num a] u fun e w'=>e=.returned (.tuple #[num 0,.bool false,num 0])∧Nx u w' by
   have:=toFG 4 (m:=0) (next_any d r k a u (HD.out.old (hOw.trans o)) hs (HG.out.old (hOw.trans o)))
   rw [e1] at this;exact this)
  have KH:=Lib.hid (fun u (o:Old w1 u)=>show CallsIn (FG 4) 0 Tryd.prog 21 #[d.val r,num k,num a,num 999999999] u fun e w'=>e=.returned (.tuple #[num 0,num 0])∧Nx u w' by
   have:=toFG 4 (m:=0) (hoursP_any d r k a 999999999 u (HD.out.old (hOw.trans o)) hs (HG.out.old (hOw.trans o)))
   rw [e2] at this;exact this)
  have KO:=Lib.hid (fun u (o:Old w1 u)=>show CallsIn (FG 4) 0 Tryd.prog 26 #[d.val r,num 999999999] u fun e w'=>e=.returned (.tuple #[num z,num cc,num tt,num 0])∧Nx u w' by
   have:=toFG 4 (m:=0) (owner_any d r 999999999 u (HD.out.old (hOw.trans o)) hs (HG.out.old (hOw.trans o)))
   rw [ho] at this;exact this)
  clear e1 e2 e3 ho hk hat
  intro τ4
  generalize hq4:({ u3 with tape:=τ4 }:World)=u4
  have oA4:Old w1 u4:=oB3.trans (by rw [← hq4];exact .same rfl)
  clear hq4
  simp only [n4,q1,q3,q4,q5,q7,q11,q13,q14,q15,p58,p9,p10,body4,seqL,seqR,Tryd.f4]
  have kk:=KN.out u4 oA4
  obtain⟨c0,c1,c2,c3,c4,c5,c6,c7,c8,c9,c10,c11,c12,c13⟩:=cells14 (CO.out u4 oA4)
  gi_wp2_with (first
   | (gi_at_call 23;refine CallsIn.mono kk ?_;rintro e v4 ⟨rfl,m4⟩)
   | gi_in)
  clear kk c0 c1 c2 c3 c4 c5 c6 c7 c8 c9 c10 c11 c12 c13
  have oB4:Old w1 v4:=oA4.trans (.nx m4)
  intro τ5
  generalize hq5:({ v4 with tape:=τ5 }:World)=u5
  have oA5:Old w1 u5:=oB4.trans (by rw [← hq5];exact .same rfl)
  clear hq5
  simp only [n5,q1,q3,q4,q5,q7,q11,q13,q14,q15,p58,p9,p10,body4,seqL,seqR,Tryd.f4]
  gi_wp2
  intro τ7
  generalize hq7:({ u5 with tape:=τ7 }:World)=u7
  have oA7:Old w1 u7:=oA5.trans (by rw [← hq7];exact .same rfl)
  clear hq7
  simp only [n7,q1,q3,q4,q5,q7,q11,q13,q14,q15,p58,p9,p10,body4,seqL,seqR,Tryd.f4]
  gi_wp2
  refine⟨hOw.trans oA7,rfl,.inl ⟨rfl,?_⟩⟩
  intro τ8
  generalize hq8:({ u7 with tape:=τ8 }:World)=u8
  have oA8:Old w1 u8:=oA7.trans (by rw [← hq8];exact .same rfl)
  clear hq8
  simp only [n8,q1,q3,q4,q5,q7,q11,q13,q14,q15,p58,p9,p10,body4,seqL,seqR,Tryd.f4]
  have kk:=KH.out u8 oA8
  obtain⟨c0,c1,c2,c3,c4,c5,c6,c7,c8,c9,c10,c11,c12,c13⟩:=cells14 (CO.out u8 oA8)
  gi_wp2_with (first
   | (gi_at_call 21;refine CallsIn.mono kk ?_;rintro e v8 ⟨rfl,m8⟩)
   | gi_in)
  clear kk c0 c1 c2 c3 c4 c5 c6 c7 c8 c9 c10 c11 c12 c13
  have oB8:Old w1 v8:=oA8.trans (.nx m8)
  intro τ9
  generalize hq9:({ v8 with tape:=τ9 }:World)=u9
  have oA9:Old w1 u9:=oB8.trans (by rw [← hq9];exact .same rfl)
  clear hq9
  simp only [n9,q1,q3,q4,q5,q7,q11,q13,q14,q15,p58,p9,p10,body4,seqL,seqR,Tryd.f4]
  have kk:=KO.out u9 oA9
  obtain⟨c0,c1,c2,c3,c4,c5,c6,c7,c8,c9,c10,c11,c12,c13⟩:=cells14 (CO.out u9 oA9)
  gi_wp2_with (first
   | (gi_at_call 26;refine CallsIn.mono kk ?_;rintro e v9 ⟨rfl,m9⟩)
   | gi_in)
  clear kk c0 c1 c2 c3 c4 c5 c6 c7 c8 c9 c10 c11 c12 c13
  have oB9:Old w1 v9:=oA9.trans (.nx m9)
  exact (show NextA W _ _ from ⟨hOw.trans oB9,z,k,hz,rfl,rfl,rfl,rfl,rfl,rfl,rfl⟩)
 ·rcases ho:ownerF d n with ⟨⟨z,cc,tt⟩,ff⟩
  rw [ho] at e4 e5
  obtain rfl:z=k:=e4
  obtain rfl:ff=0:=e5
  have KN:=Lib.hid (fun u (o:Old w1 u)=>show CallsIn (FG 4) 0 Tryd.prog 23 #[d.val r,num z,num a] u fun e w'=>e=.returned (.tuple #[num n,.bool true,num 0])∧Nx u w' by
   have:=toFG 4 (m:=0) (next_any d r z a u (HD.out.old (hOw.trans o)) hs (HG.out.old (hOw.trans o)))
   rw [e1] at this;exact this)
  have KH:=Lib.hid (fun u (o:Old w1 u)=>show CallsIn (FG 4) 0 Tryd.prog 21 #[d.val r,num z,num a,num n] u fun e w'=>e=.returned (.tuple #[num 0,num 0])∧Nx u w' by
   have:=toFG 4 (m:=0) (hoursP_any d r z a n u (HD.out.old (hOw.trans o)) hs (HG.out.old (hOw.trans o)))
   rw [e6] at this;exact this)
  have KO:=Lib.hid (fun u (o:Old w1 u)=>show CallsIn (FG 4) 0 Tryd.prog 26 #[d.val r,num n] u fun e w'=>e=.returned (.tuple #[num z,num cc,num tt,num 0])∧Nx u w' by
   have:=toFG 4 (m:=0) (owner_any d r n u (HD.out.old (hOw.trans o)) hs (HG.out.old (hOw.trans o)))
   rw [ho] at this;exact this)
  have b1:decide (n<a)=false:=by simpa using e2
  have b2:decide (999999999<n)=false:=by simpa using e3
  clear e1 e6 ho hk hat
  intro τ4
  generalize hq4:({ u3 with tape:=τ4 }:World)=u4
  have oA4:Old w1 u4:=oB3.trans (by rw [← hq4];exact .same rfl)
  clear hq4
  simp only [n4,q1,q3,q4,q5,q7,q11,q13,q14,q15,p58,p9,p10,body4,seqL,seqR,Tryd.f4]
  have kk:=KN.out u4 oA4
  obtain⟨c0,c1,c2,c3,c4,c5,c6,c7,c8,c9,c10,c11,c12,c13⟩:=cells14 (CO.out u4 oA4)
  gi_wp2_with (first
   | (gi_at_call 23;refine CallsIn.mono kk ?_;rintro e v4 ⟨rfl,m4⟩)
   | gi_in)
  clear kk c0 c1 c2 c3 c4 c5 c6 c7 c8 c9 c10 c11 c12 c13
  have oB4:Old w1 v4:=oA4.trans (.nx m4)
  intro τ5
  generalize hq5:({ v4 with tape:=τ5 }:World)=u5
  have oA5:Old w1 u5:=oB4.trans (by rw [← hq5];exact .same rfl)
  clear hq5
  simp only [n5,q1,q3,q4,q5,q7,q11,q13,q14,q15,p58,p9,p10,body4,seqL,seqR,Tryd.f4]
  gi_wp2
  intro τ7
  generalize hq7:({ u5 with tape:=τ7 }:World)=u7
  have oA7:Old w1 u7:=oA5.trans (by rw [← hq7];exact .same rfl)
  clear hq7
  simp only [n7,q1,q3,q4,q5,q7,q11,q13,q14,q15,p58,p9,p10,body4,seqL,seqR,Tryd.f4]
  gi_wp2
  refine⟨hOw.trans oA7,rfl,.inr ⟨rfl,?_⟩⟩
  intro τ11
  generalize hq11:({ u7 with tape:=τ11 }:World)=u11
  have oA11:Old w1 u11:=oA7.trans (by rw [← hq11];exact .same rfl)
  clear hq11
  simp only [n11,q1,q3,q4,q5,q7,q11,q13,q14,q15,p58,p9,p10,body4,seqL,seqR,Tryd.f4]
  gi_wp2
  intro τ13
  generalize hq13:({ u11 with tape:=τ13 }:World)=u13
  have oA13:Old w1 u13:=oA11.trans (by rw [← hq13];exact .same rfl)
  clear hq13
  simp only [n13,q1,q3,q4,q5,q7,q11,q13,q14,q15,p58,p9,p10,body4,seqL,seqR,Tryd.f4]
  have kk:=KO.out u13 oA13
  obtain⟨c0,c1,c2,c3,c4,c5,c6,c7,c8,c9,c10,c11,c12,c13⟩:=cells14 (CO.out u13 oA13)
  gi_wp2_with (first
   | (gi_at_call 26;refine CallsIn.mono kk ?_;rintro e v13 ⟨rfl,m13⟩)
   | gi_in)
  clear kk c0 c1 c2 c3 c4 c5 c6 c7 c8 c9 c10 c11 c12 c13
  have oB13:Old w1 v13:=oA13.trans (.nx m13)
  intro τ14
  generalize hq14:({ v13 with tape:=τ14 }:World)=u14
  have oA14:Old w1 u14:=oB13.trans (by rw [← hq14];exact .same rfl)
  clear hq14
  simp only [n14,q1,q3,q4,q5,q7,q11,q13,q14,q15,p58,p9,p10,body4,seqL,seqR,Tryd.f4]
  have kk:=KH.out u14 oA14
  obtain⟨c0,c1,c2,c3,c4,c5,c6,c7,c8,c9,c10,c11,c12,c13⟩:=cells14 (CO.out u14 oA14)
  gi_wp2_with (first
   | (gi_at_call 21;refine CallsIn.mono kk ?_;rintro e v14 ⟨rfl,m14⟩)
   | gi_in)
  clear kk c0 c1 c2 c3 c4 c5 c6 c7 c8 c9 c10 c11 c12 c13
  have oB14:Old w1 v14:=oA14.trans (.nx m14)
  exact (show NextB W _ _ from ⟨hOw.trans oB14,z,rfl,rfl,rfl,rfl,rfl,rfl⟩)
end Go.Proofs.YtolholkjeehamaaDoor
namespace Go.Proofs.YtolholkjeehamaaDoor
open Go.RowKit Go.Con Go.Conc
local instance:Lone:=mainL
theorem results4 (v:Value) (t:Array Value) (h:t[6]?=some v) (σ:Rn):ResultsC Tryd.prog Tryd.f4 (t.map (ren σ)) (ren σ v):=by
 have:=resultsC_tmp (P:=Tryd.prog) (fn:=Tryd.f4) (t:=6) rfl (t.map (ren σ))
 simp only [Array.getD_eq_getD_getElem?,Array.getElem?_map,h,Option.map_some,Option.getD_some] at this
 exact this
theorem next_go (E Fz Arg:Nat→Prop) (W0:World) (hArg:∀ x,Arg x↔x<W0.heap.size) (Post:Value→World→Prop) (φ:Ph) (d:Dit) (r:Rows6) (x y:Int) (W:World) (hd:DitSl W d r) (hb:d.Big) (hg:Glob W) (hx:0≤x∧x≤255) (hy:0≤y∧y≤4294967295)
  (hPost:∀ Fz1 ρ D own A fr W1 W',Here Tryd.prog true E Fz1 Arg W0 ρ D own A fr [] W1 W'→Post (ren ρ (.bool true)) W') :
  GoM Tryd.prog true E Fz Arg W0 (AtEnd Tryd.prog Post) φ [] (Fr 4 #[d.val r,.int .u8 x,.int .u32 y,undef,undef,undef,undef,undef,undef,undef,undef,undef,undef,undef,undef,undef,undef,undef,undef,undef,undef,undef,undef,undef,undef,undef,undef,undef,undef,undef,undef,undef,undef,undef,undef,undef,undef,undef,undef,undef,undef,undef,undef,undef,undef,undef,undef,undef,undef,undef,undef,undef,undef,undef,undef,undef,undef,undef,undef,undef,undef,undef,undef,undef,undef,undef,undef,undef,undef,undef,undef,undef,undef,undef,undef,undef,undef,undef,undef,undef,undef,undef,undef,undef,undef,undef,undef,undef,undef,undef,undef,undef,undef,undef,undef,undef,undef,undef,undef,undef,undef,undef,undef,undef,undef,undef,undef,undef,undef,undef,undef,undef,undef,undef,undef,undef,undef,undef,undef,undef,undef,undef,undef,undef,undef,undef,undef,undef,undef,undef,undef,undef,undef,undef,undef,undef] [.code body4]) [] W:=by
 have hgood:goodFn Tryd.prog (.func 4)=false:=by kernel_rfl
 have hL:=next_lone d r x y W hd hb hg hx hy
 rw [body4_eq]
 refine Gm.seq ?_
 refine Gm.lone (F:=FG 4) _ rfl rfl rfl (List.mem_cons_self ..) (FG_ok 4 hgood) (by kernel_rfl) (by kernel_rfl) hL ?_
 intro t0 V0 hL
 refine Gm.seq (Gm.seq ?_)
 refine Gm.lone (F:=FG 4) _ rfl rfl rfl (List.mem_cons_self ..) (FG_ok 4 hgood) (by kernel_rfl) (by kernel_rfl) hL ?_
 rintro t W1 ⟨hO1,hs,h36 | ⟨h36,hL⟩⟩
 ·refine Gm.cond (b:=true) (eval_tmp h36) rfl ?_
  refine Gm.seq ?_
  rw [n2_eq]
  refine Gm.region ?_
  rw [show List.range opn2.size=[0,1] by kernel_rfl]
  refine Gm.enter (o:=⟨some 37,.call { callee:=.value (.func 20),args:=#[],argTypes:=#[] },_,_,_,none⟩) (c:={ callee:=.value (.func 20),args:=#[],argTypes:=#[] }) rfl rfl rfl rfl (by kernel_rfl) Tryd.func20 body20_of (by kernel_rfl) ?_
  rw [fr20]
  refine flows_go E _ Arg W0 hArg _ _ _ _ _ (hg.old hO1) ?_
  intro WL FzL φL hOL
  rw [Fr_finish (o:=⟨some 37,.call { callee:=.value (.func 20),args:=#[],argTypes:=#[] },_,_,_,none⟩) rfl]
  refine Gm.op (o:=⟨some 6,.assign (.tmp 37),_,_,_,none⟩) (.bool true) WL rfl rfl (by kernel_rfl) rfl (asg_run _ (eval_tmp (by simp only [putD_get,putD_same,putD_size,hs,ne_eq,Nat.reduceEqDiff,not_false_eq_true,Nat.reduceLT]))) id ?_
  refine Gm.regionEnd ?_
  refine Gm.done Tryd.func4 (by kernel_rfl) (results4 (.bool true) _ (by simp only [putD_get,putD_same,putD_size,hs,ne_eq,Nat.reduceEqDiff,not_false_eq_true,Nat.reduceLT])) ?_
  exact fun ρ D own A fr W' h=>hPost _ ρ D own A fr _ W' h
 ·refine Gm.cond (b:=false) (eval_tmp h36) rfl ?_
  refine Gm.skip (Gm.seq ?_)
  refine Gm.lone (F:=FG 4) _ rfl rfl rfl (List.mem_cons_self ..) (FG_ok 4 hgood) (by kernel_rfl) (by kernel_rfl) hL ?_
  clear hL
  intro t3 V3 hL
  refine Gm.seq ?_
  refine Gm.lone (F:=FG 4) _ rfl rfl rfl (List.mem_cons_self ..) (FG_ok 4 hgood) (by kernel_rfl) (by kernel_rfl) hL ?_
  clear hL
  intro t4 V4 hL
  refine Gm.seq ?_
  refine Gm.lone (F:=FG 4) _ rfl rfl rfl (List.mem_cons_self ..) (FG_ok 4 hgood) (by kernel_rfl) (by kernel_rfl) hL ?_
  clear hL
  intro t5 V5 hL
  refine Gm.seq (Gm.seq ?_)
  refine Gm.lone (F:=FG 4) _ rfl rfl rfl (List.mem_cons_self ..) (FG_ok 4 hgood) (by kernel_rfl) (by kernel_rfl) hL ?_
  clear hL hs h36 hO1
  rintro t7 W1 ⟨hO1,hs,⟨h58,hL⟩ | ⟨h58,hL⟩⟩
  ·refine Gm.cond (b:=true) (eval_tmp h58) rfl ?_
   refine Gm.seq ?_
   refine Gm.lone (F:=FG 4) _ rfl rfl rfl (List.mem_cons_self ..) (FG_ok 4 hgood) (by kernel_rfl) (by kernel_rfl) hL ?_
   clear hL
   intro t8 V8 hL
   refine Gm.seq ?_
   refine Gm.lone (F:=FG 4) _ rfl rfl rfl (List.mem_cons_self ..) (FG_ok 4 hgood) (by kernel_rfl) (by kernel_rfl) hL ?_
   clear hL hs h58 hO1
   rintro t W2 ⟨hO2,z,k,hz,hs,k13,k17,k12,k14,k7,k9⟩
   refine Gm.seq ?_
   rw [n10_eq]
   refine Gm.region ?_
   rw [show List.range opn10.size=[0,1,2,3,4,5,6,7,8,9,10,11,12,13,14,15,16,17,18,19,20,21,22] by kernel_rfl]
   refine Gm.op (o:=⟨some 73,.move (.tmp 13),_,_,_,none⟩) (num 0) W2 rfl rfl (by kernel_rfl) rfl (mvg_run _ (eval_tmp (by simp only [putD_get,putD_same,putD_size,hs,k13,k17,k12,k14,k7,k9,ne_eq,Nat.reduceEqDiff,not_false_eq_true,Nat.reduceLT]))) id ?_
   refine Gm.op (o:=⟨some 74,.binOp .eql 37 (.tmp 73) (.const (.int .i64 0)) 37,_,_,_,none⟩) (.bool true) W2 rfl rfl (by kernel_rfl) rfl (eqc37_run (n:=0) _ (eval_tmp (by simp only [putD_get,putD_same,putD_size,hs,k13,k17,k12,k14,k7,k9,ne_eq,Nat.reduceEqDiff,not_false_eq_true,Nat.reduceLT])) rfl) id ?_
   refine Gm.op (o:=⟨some 75,.move (.tmp 74),_,_,_,none⟩) (.bool true) W2 rfl rfl (by kernel_rfl) rfl (mvg_run _ (eval_tmp (by simp only [putD_get,putD_same,putD_size,hs,k13,k17,k12,k14,k7,k9,ne_eq,Nat.reduceEqDiff,not_false_eq_true,Nat.reduceLT]))) id ?_
   refine Gm.op (o:=⟨some 76,.move (.tmp 17),_,_,_,some (2,true)⟩) (num 0) W2 rfl (wanted_guard (i:=2) (b:=true) (d:=75) rfl rfl (by simp only [putD_get,putD_same,putD_size,hs,k13,k17,k12,k14,k7,k9,ne_eq,Nat.reduceEqDiff,not_false_eq_true,Nat.reduceLT])) (by kernel_rfl) rfl (mvg_run _ (eval_tmp (by simp only [putD_get,putD_same,putD_size,hs,k13,k17,k12,k14,k7,k9,ne_eq,Nat.reduceEqDiff,not_false_eq_true,Nat.reduceLT]))) id ?_
   refine Gm.op (o:=⟨some 77,.binOp .eql 37 (.tmp 76) (.const (.int .i64 0)) 37,_,_,_,some (2,true)⟩) (.bool true) W2 rfl (wanted_guard (i:=2) (b:=true) (d:=75) rfl rfl (by simp only [putD_get,putD_same,putD_size,hs,k13,k17,k12,k14,k7,k9,ne_eq,Nat.reduceEqDiff,not_false_eq_true,Nat.reduceLT])) (by kernel_rfl) rfl (eqc37_run (n:=0) _ (eval_tmp (by simp only [putD_get,putD_same,putD_size,hs,k13,k17,k12,k14,k7,k9,ne_eq,Nat.reduceEqDiff,not_false_eq_true,Nat.reduceLT])) rfl) id ?_
   refine Gm.op (o:=⟨some 78,.pick (.tmp 75) (.tmp 77) (.const (.bool false)),_,_,_,none⟩) (.bool true) W2 rfl rfl (by kernel_rfl) rfl (pick_run _ (eval_tmp (by simp only [putD_get,putD_same,putD_size,hs,k13,k17,k12,k14,k7,k9,ne_eq,Nat.reduceEqDiff,not_false_eq_true,Nat.reduceLT])) (eval_tmp (by simp only [putD_get,putD_same,putD_size,hs,k13,k17,k12,k14,k7,k9,ne_eq,Nat.reduceEqDiff,not_false_eq_true,Nat.reduceLT]))) id ?_
   refine Gm.op (o:=⟨some 79,.move (.tmp 78),_,_,_,none⟩) (.bool true) W2 rfl rfl (by kernel_rfl) rfl (mvg_run _ (eval_tmp (by simp only [putD_get,putD_same,putD_size,hs,k13,k17,k12,k14,k7,k9,ne_eq,Nat.reduceEqDiff,not_false_eq_true,Nat.reduceLT]))) id ?_
   refine Gm.op (o:=⟨some 80,.move (.tmp 12),_,_,_,some (6,true)⟩) (num 0) W2 rfl (wanted_guard (i:=6) (b:=true) (d:=79) rfl rfl (by simp only [putD_get,putD_same,putD_size,hs,k13,k17,k12,k14,k7,k9,ne_eq,Nat.reduceEqDiff,not_false_eq_true,Nat.reduceLT])) (by kernel_rfl) rfl (mvg_run _ (eval_tmp (by simp only [putD_get,putD_same,putD_size,hs,k13,k17,k12,k14,k7,k9,ne_eq,Nat.reduceEqDiff,not_false_eq_true,Nat.reduceLT]))) id ?_
   refine Gm.op (o:=⟨some 81,.binOp .eql 3 (.tmp 80) (.const (.int .i64 0)) 3,_,_,_,some (6,true)⟩) (.bool true) W2 rfl (wanted_guard (i:=6) (b:=true) (d:=79) rfl rfl (by simp only [putD_get,putD_same,putD_size,hs,k13,k17,k12,k14,k7,k9,ne_eq,Nat.reduceEqDiff,not_false_eq_true,Nat.reduceLT])) (by kernel_rfl) rfl (eqc3_run (n:=0) _ (eval_tmp (by simp only [putD_get,putD_same,putD_size,hs,k13,k17,k12,k14,k7,k9,ne_eq,Nat.reduceEqDiff,not_false_eq_true,Nat.reduceLT])) rfl) id ?_
   refine Gm.op (o:=⟨some 82,.pick (.tmp 79) (.tmp 81) (.const (.bool false)),_,_,_,none⟩) (.bool true) W2 rfl rfl (by kernel_rfl) rfl (pick_run _ (eval_tmp (by simp only [putD_get,putD_same,putD_size,hs,k13,k17,k12,k14,k7,k9,ne_eq,Nat.reduceEqDiff,not_false_eq_true,Nat.reduceLT])) (eval_tmp (by simp only [putD_get,putD_same,putD_size,hs,k13,k17,k12,k14,k7,k9,ne_eq,Nat.reduceEqDiff,not_false_eq_true,Nat.reduceLT]))) id ?_
   refine Gm.op (o:=⟨some 83,.move (.tmp 82),_,_,_,none⟩) (.bool true) W2 rfl rfl (by kernel_rfl) rfl (mvg_run _ (eval_tmp (by simp only [putD_get,putD_same,putD_size,hs,k13,k17,k12,k14,k7,k9,ne_eq,Nat.reduceEqDiff,not_false_eq_true,Nat.reduceLT]))) id ?_
   refine Gm.op (o:=⟨some 84,.move (.tmp 14),_,_,_,some (10,true)⟩) (num z) W2 rfl (wanted_guard (i:=10) (b:=true) (d:=83) rfl rfl (by simp only [putD_get,putD_same,putD_size,hs,k13,k17,k12,k14,k7,k9,ne_eq,Nat.reduceEqDiff,not_false_eq_true,Nat.reduceLT])) (by kernel_rfl) rfl (mvg_run _ (eval_tmp (by simp only [putD_get,putD_same,putD_size,hs,k13,k17,k12,k14,k7,k9,ne_eq,Nat.reduceEqDiff,not_false_eq_true,Nat.reduceLT]))) id ?_
   refine Gm.op (o:=⟨some 85,.move (.tmp 7),_,_,_,some (10,true)⟩) (num k) W2 rfl (wanted_guard (i:=10) (b:=true) (d:=83) rfl rfl (by simp only [putD_get,putD_same,putD_size,hs,k13,k17,k12,k14,k7,k9,ne_eq,Nat.reduceEqDiff,not_false_eq_true,Nat.reduceLT])) (by kernel_rfl) rfl (mvg_run _ (eval_tmp (by simp only [putD_get,putD_same,putD_size,hs,k13,k17,k12,k14,k7,k9,ne_eq,Nat.reduceEqDiff,not_false_eq_true,Nat.reduceLT]))) id ?_
   refine Gm.op (o:=⟨some 86,.binOp .neq 3 (.tmp 84) (.tmp 85) 3,_,_,_,some (10,true)⟩) (.bool true) W2 rfl (wanted_guard (i:=10) (b:=true) (d:=83) rfl rfl (by simp only [putD_get,putD_same,putD_size,hs,k13,k17,k12,k14,k7,k9,ne_eq,Nat.reduceEqDiff,not_false_eq_true,Nat.reduceLT])) (by kernel_rfl) rfl (ne3_run (n:=z) (m:=k) _ (eval_tmp (by simp only [putD_get,putD_same,putD_size,hs,k13,k17,k12,k14,k7,k9,ne_eq,Nat.reduceEqDiff,not_false_eq_true,Nat.reduceLT])) (eval_tmp (by simp only [putD_get,putD_same,putD_size,hs,k13,k17,k12,k14,k7,k9,ne_eq,Nat.reduceEqDiff,not_false_eq_true,Nat.reduceLT])) hz) id ?_
   refine Gm.op (o:=⟨some 87,.pick (.tmp 83) (.tmp 86) (.const (.bool false)),_,_,_,none⟩) (.bool true) W2 rfl rfl (by kernel_rfl) rfl (pick_run _ (eval_tmp (by simp only [putD_get,putD_same,putD_size,hs,k13,k17,k12,k14,k7,k9,ne_eq,Nat.reduceEqDiff,not_false_eq_true,Nat.reduceLT])) (eval_tmp (by simp only [putD_get,putD_same,putD_size,hs,k13,k17,k12,k14,k7,k9,ne_eq,Nat.reduceEqDiff,not_false_eq_true,Nat.reduceLT]))) id ?_
   refine Gm.op (o:=⟨some 88,.move (.tmp 87),_,_,_,none⟩) (.bool true) W2 rfl rfl (by kernel_rfl) rfl (mvg_run _ (eval_tmp (by simp only [putD_get,putD_same,putD_size,hs,k13,k17,k12,k14,k7,k9,ne_eq,Nat.reduceEqDiff,not_false_eq_true,Nat.reduceLT]))) id ?_
   refine Gm.op (o:=⟨some 89,.move (.tmp 9),_,_,_,some (15,true)⟩) (num 0) W2 rfl (wanted_guard (i:=15) (b:=true) (d:=88) rfl rfl (by simp only [putD_get,putD_same,putD_size,hs,k13,k17,k12,k14,k7,k9,ne_eq,Nat.reduceEqDiff,not_false_eq_true,Nat.reduceLT])) (by kernel_rfl) rfl (mvg_run _ (eval_tmp (by simp only [putD_get,putD_same,putD_size,hs,k13,k17,k12,k14,k7,k9,ne_eq,Nat.reduceEqDiff,not_false_eq_true,Nat.reduceLT]))) id ?_
   refine Gm.op (o:=⟨some 90,.binOp .eql 3 (.tmp 89) (.const (.int .i64 0)) 3,_,_,_,some (15,true)⟩) (.bool true) W2 rfl (wanted_guard (i:=15) (b:=true) (d:=88) rfl rfl (by simp only [putD_get,putD_same,putD_size,hs,k13,k17,k12,k14,k7,k9,ne_eq,Nat.reduceEqDiff,not_false_eq_true,Nat.reduceLT])) (by kernel_rfl) rfl (eqc3_run (n:=0) _ (eval_tmp (by simp only [putD_get,putD_same,putD_size,hs,k13,k17,k12,k14,k7,k9,ne_eq,Nat.reduceEqDiff,not_false_eq_true,Nat.reduceLT])) rfl) id ?_
   refine Gm.op (o:=⟨some 91,.pick (.tmp 88) (.tmp 90) (.const (.bool false)),_,_,_,none⟩) (.bool true) W2 rfl rfl (by kernel_rfl) rfl (pick_run _ (eval_tmp (by simp only [putD_get,putD_same,putD_size,hs,k13,k17,k12,k14,k7,k9,ne_eq,Nat.reduceEqDiff,not_false_eq_true,Nat.reduceLT])) (eval_tmp (by simp only [putD_get,putD_same,putD_size,hs,k13,k17,k12,k14,k7,k9,ne_eq,Nat.reduceEqDiff,not_false_eq_true,Nat.reduceLT]))) id ?_
   refine Gm.op (o:=⟨some 92,.move (.tmp 91),_,_,_,none⟩) (.bool true) W2 rfl rfl (by kernel_rfl) rfl (mvg_run _ (eval_tmp (by simp only [putD_get,putD_same,putD_size,hs,k13,k17,k12,k14,k7,k9,ne_eq,Nat.reduceEqDiff,not_false_eq_true,Nat.reduceLT]))) id ?_
   refine Gm.enter (o:=⟨some 93,.call { callee:=.value (.func 20),args:=#[],argTypes:=#[] },_,_,_,some (19,true)⟩) (c:={ callee:=.value (.func 20),args:=#[],argTypes:=#[] }) rfl (wanted_guard (i:=19) (b:=true) (d:=92) rfl rfl (by simp only [putD_get,putD_same,putD_size,hs,k13,k17,k12,k14,k7,k9,ne_eq,Nat.reduceEqDiff,not_false_eq_true,Nat.reduceLT])) rfl rfl (by kernel_rfl) Tryd.func20 body20_of (by kernel_rfl) ?_
   rw [fr20]
   refine flows_go E _ Arg W0 hArg _ _ _ _ _ (hg.old hO2) ?_
   intro WL FzL φL hOL
   rw [Fr_finish (o:=⟨some 93,.call { callee:=.value (.func 20),args:=#[],argTypes:=#[] },_,_,_,some (19,true)⟩) rfl]
   refine Gm.op (o:=⟨some 94,.pick (.tmp 92) (.tmp 93) (.const (.bool false)),_,_,_,none⟩) (.bool true) WL rfl rfl (by kernel_rfl) rfl (pick_run _ (eval_tmp (by simp only [putD_get,putD_same,putD_size,hs,k13,k17,k12,k14,k7,k9,ne_eq,Nat.reduceEqDiff,not_false_eq_true,Nat.reduceLT])) (eval_tmp (by simp only [putD_get,putD_same,putD_size,hs,k13,k17,k12,k14,k7,k9,ne_eq,Nat.reduceEqDiff,not_false_eq_true,Nat.reduceLT]))) id ?_
   refine Gm.op (o:=⟨some 6,.assign (.tmp 94),_,_,_,none⟩) (.bool true) WL rfl rfl (by kernel_rfl) rfl (asg_run _ (eval_tmp (by simp only [putD_get,putD_same,putD_size,hs,k13,k17,k12,k14,k7,k9,ne_eq,Nat.reduceEqDiff,not_false_eq_true,Nat.reduceLT]))) id ?_
   refine Gm.regionEnd ?_
   refine Gm.done Tryd.func4 (by kernel_rfl) (results4 (.bool true) _ (by simp only [putD_get,putD_same,putD_size,hs,k13,k17,k12,k14,k7,k9,ne_eq,Nat.reduceEqDiff,not_false_eq_true,Nat.reduceLT])) ?_
   exact fun ρ D own A fr W' h=>hPost _ ρ D own A fr _ W' h
  ·refine Gm.cond (b:=false) (eval_tmp h58) rfl ?_
   refine Gm.skip (Gm.seq ?_)
   refine Gm.lone (F:=FG 4) _ rfl rfl rfl (List.mem_cons_self ..) (FG_ok 4 hgood) (by kernel_rfl) (by kernel_rfl) hL ?_
   clear hL
   intro t11 V11 hL
   refine Gm.seq ?_
   refine Gm.lone (F:=FG 4) _ rfl rfl rfl (List.mem_cons_self ..) (FG_ok 4 hgood) (by kernel_rfl) (by kernel_rfl) hL ?_
   clear hL
   intro t13 V13 hL
   refine Gm.seq ?_
   refine Gm.lone (F:=FG 4) _ rfl rfl rfl (List.mem_cons_self ..) (FG_ok 4 hgood) (by kernel_rfl) (by kernel_rfl) hL ?_
   clear hL hs h58 hO1
   rintro t W2 ⟨hO2,k,hs,k11,k22,k18,k7,k21⟩
   refine Gm.seq ?_
   rw [n15_eq]
   refine Gm.region ?_
   rw [show List.range opn15.size=[0,1,2,3,4,5,6,7,8,9,10,11,12,13,14,15,16,17,18] by kernel_rfl]
   refine Gm.op (o:=⟨some 118,.move (.tmp 11),_,_,_,none⟩) (num 0) W2 rfl rfl (by kernel_rfl) rfl (mvg_run _ (eval_tmp (by simp only [putD_get,putD_same,putD_size,hs,k11,k22,k18,k7,k21,ne_eq,Nat.reduceEqDiff,not_false_eq_true,Nat.reduceLT]))) id ?_
   refine Gm.op (o:=⟨some 119,.binOp .eql 37 (.tmp 118) (.const (.int .i64 0)) 37,_,_,_,none⟩) (.bool true) W2 rfl rfl (by kernel_rfl) rfl (eqc37_run (n:=0) _ (eval_tmp (by simp only [putD_get,putD_same,putD_size,hs,k11,k22,k18,k7,k21,ne_eq,Nat.reduceEqDiff,not_false_eq_true,Nat.reduceLT])) rfl) id ?_
   refine Gm.op (o:=⟨some 120,.move (.tmp 119),_,_,_,none⟩) (.bool true) W2 rfl rfl (by kernel_rfl) rfl (mvg_run _ (eval_tmp (by simp only [putD_get,putD_same,putD_size,hs,k11,k22,k18,k7,k21,ne_eq,Nat.reduceEqDiff,not_false_eq_true,Nat.reduceLT]))) id ?_
   refine Gm.op (o:=⟨some 121,.move (.tmp 22),_,_,_,some (2,true)⟩) (num 0) W2 rfl (wanted_guard (i:=2) (b:=true) (d:=120) rfl rfl (by simp only [putD_get,putD_same,putD_size,hs,k11,k22,k18,k7,k21,ne_eq,Nat.reduceEqDiff,not_false_eq_true,Nat.reduceLT])) (by kernel_rfl) rfl (mvg_run _ (eval_tmp (by simp only [putD_get,putD_same,putD_size,hs,k11,k22,k18,k7,k21,ne_eq,Nat.reduceEqDiff,not_false_eq_true,Nat.reduceLT]))) id ?_
   refine Gm.op (o:=⟨some 122,.binOp .eql 37 (.tmp 121) (.const (.int .i64 0)) 37,_,_,_,some (2,true)⟩) (.bool true) W2 rfl (wanted_guard (i:=2) (b:=true) (d:=120) rfl rfl (by simp only [putD_get,putD_same,putD_size,hs,k11,k22,k18,k7,k21,ne_eq,Nat.reduceEqDiff,not_false_eq_true,Nat.reduceLT])) (by kernel_rfl) rfl (eqc37_run (n:=0) _ (eval_tmp (by simp only [putD_get,putD_same,putD_size,hs,k11,k22,k18,k7,k21,ne_eq,Nat.reduceEqDiff,not_false_eq_true,Nat.reduceLT])) rfl) id ?_
   refine Gm.op (o:=⟨some 123,.pick (.tmp 120) (.tmp 122) (.const (.bool false)),_,_,_,none⟩) (.bool true) W2 rfl rfl (by kernel_rfl) rfl (pick_run _ (eval_tmp (by simp only [putD_get,putD_same,putD_size,hs,k11,k22,k18,k7,k21,ne_eq,Nat.reduceEqDiff,not_false_eq_true,Nat.reduceLT])) (eval_tmp (by simp only [putD_get,putD_same,putD_size,hs,k11,k22,k18,k7,k21,ne_eq,Nat.reduceEqDiff,not_false_eq_true,Nat.reduceLT]))) id ?_
   refine Gm.op (o:=⟨some 124,.move (.tmp 123),_,_,_,none⟩) (.bool true) W2 rfl rfl (by kernel_rfl) rfl (mvg_run _ (eval_tmp (by simp only [putD_get,putD_same,putD_size,hs,k11,k22,k18,k7,k21,ne_eq,Nat.reduceEqDiff,not_false_eq_true,Nat.reduceLT]))) id ?_
   refine Gm.op (o:=⟨some 125,.move (.tmp 18),_,_,_,some (6,true)⟩) (num k) W2 rfl (wanted_guard (i:=6) (b:=true) (d:=124) rfl rfl (by simp only [putD_get,putD_same,putD_size,hs,k11,k22,k18,k7,k21,ne_eq,Nat.reduceEqDiff,not_false_eq_true,Nat.reduceLT])) (by kernel_rfl) rfl (mvg_run _ (eval_tmp (by simp only [putD_get,putD_same,putD_size,hs,k11,k22,k18,k7,k21,ne_eq,Nat.reduceEqDiff,not_false_eq_true,Nat.reduceLT]))) id ?_
   refine Gm.op (o:=⟨some 126,.move (.tmp 7),_,_,_,some (6,true)⟩) (num k) W2 rfl (wanted_guard (i:=6) (b:=true) (d:=124) rfl rfl (by simp only [putD_get,putD_same,putD_size,hs,k11,k22,k18,k7,k21,ne_eq,Nat.reduceEqDiff,not_false_eq_true,Nat.reduceLT])) (by kernel_rfl) rfl (mvg_run _ (eval_tmp (by simp only [putD_get,putD_same,putD_size,hs,k11,k22,k18,k7,k21,ne_eq,Nat.reduceEqDiff,not_false_eq_true,Nat.reduceLT]))) id ?_
   refine Gm.op (o:=⟨some 127,.binOp .eql 3 (.tmp 125) (.tmp 126) 3,_,_,_,some (6,true)⟩) (.bool true) W2 rfl (wanted_guard (i:=6) (b:=true) (d:=124) rfl rfl (by simp only [putD_get,putD_same,putD_size,hs,k11,k22,k18,k7,k21,ne_eq,Nat.reduceEqDiff,not_false_eq_true,Nat.reduceLT])) (by kernel_rfl) rfl (eq3_run (n:=k) _ (eval_tmp (by simp only [putD_get,putD_same,putD_size,hs,k11,k22,k18,k7,k21,ne_eq,Nat.reduceEqDiff,not_false_eq_true,Nat.reduceLT])) (eval_tmp (by simp only [putD_get,putD_same,putD_size,hs,k11,k22,k18,k7,k21,ne_eq,Nat.reduceEqDiff,not_false_eq_true,Nat.reduceLT]))) id ?_
   refine Gm.op (o:=⟨some 128,.pick (.tmp 124) (.tmp 127) (.const (.bool false)),_,_,_,none⟩) (.bool true) W2 rfl rfl (by kernel_rfl) rfl (pick_run _ (eval_tmp (by simp only [putD_get,putD_same,putD_size,hs,k11,k22,k18,k7,k21,ne_eq,Nat.reduceEqDiff,not_false_eq_true,Nat.reduceLT])) (eval_tmp (by simp only [putD_get,putD_same,putD_size,hs,k11,k22,k18,k7,k21,ne_eq,Nat.reduceEqDiff,not_false_eq_true,Nat.reduceLT]))) id ?_
   refine Gm.op (o:=⟨some 129,.move (.tmp 128),_,_,_,none⟩) (.bool true) W2 rfl rfl (by kernel_rfl) rfl (mvg_run _ (eval_tmp (by simp only [putD_get,putD_same,putD_size,hs,k11,k22,k18,k7,k21,ne_eq,Nat.reduceEqDiff,not_false_eq_true,Nat.reduceLT]))) id ?_
   refine Gm.op (o:=⟨some 130,.move (.tmp 21),_,_,_,some (11,true)⟩) (num 0) W2 rfl (wanted_guard (i:=11) (b:=true) (d:=129) rfl rfl (by simp only [putD_get,putD_same,putD_size,hs,k11,k22,k18,k7,k21,ne_eq,Nat.reduceEqDiff,not_false_eq_true,Nat.reduceLT])) (by kernel_rfl) rfl (mvg_run _ (eval_tmp (by simp only [putD_get,putD_same,putD_size,hs,k11,k22,k18,k7,k21,ne_eq,Nat.reduceEqDiff,not_false_eq_true,Nat.reduceLT]))) id ?_
   refine Gm.op (o:=⟨some 131,.binOp .eql 3 (.tmp 130) (.const (.int .i64 0)) 3,_,_,_,some (11,true)⟩) (.bool true) W2 rfl (wanted_guard (i:=11) (b:=true) (d:=129) rfl rfl (by simp only [putD_get,putD_same,putD_size,hs,k11,k22,k18,k7,k21,ne_eq,Nat.reduceEqDiff,not_false_eq_true,Nat.reduceLT])) (by kernel_rfl) rfl (eqc3_run (n:=0) _ (eval_tmp (by simp only [putD_get,putD_same,putD_size,hs,k11,k22,k18,k7,k21,ne_eq,Nat.reduceEqDiff,not_false_eq_true,Nat.reduceLT])) rfl) id ?_
   refine Gm.op (o:=⟨some 132,.pick (.tmp 129) (.tmp 131) (.const (.bool false)),_,_,_,none⟩) (.bool true) W2 rfl rfl (by kernel_rfl) rfl (pick_run _ (eval_tmp (by simp only [putD_get,putD_same,putD_size,hs,k11,k22,k18,k7,k21,ne_eq,Nat.reduceEqDiff,not_false_eq_true,Nat.reduceLT])) (eval_tmp (by simp only [putD_get,putD_same,putD_size,hs,k11,k22,k18,k7,k21,ne_eq,Nat.reduceEqDiff,not_false_eq_true,Nat.reduceLT]))) id ?_
   refine Gm.op (o:=⟨some 133,.move (.tmp 132),_,_,_,none⟩) (.bool true) W2 rfl rfl (by kernel_rfl) rfl (mvg_run _ (eval_tmp (by simp only [putD_get,putD_same,putD_size,hs,k11,k22,k18,k7,k21,ne_eq,Nat.reduceEqDiff,not_false_eq_true,Nat.reduceLT]))) id ?_
   refine Gm.enter (o:=⟨some 134,.call { callee:=.value (.func 20),args:=#[],argTypes:=#[] },_,_,_,some (15,true)⟩) (c:={ callee:=.value (.func 20),args:=#[],argTypes:=#[] }) rfl (wanted_guard (i:=15) (b:=true) (d:=133) rfl rfl (by simp only [putD_get,putD_same,putD_size,hs,k11,k22,k18,k7,k21,ne_eq,Nat.reduceEqDiff,not_false_eq_true,Nat.reduceLT])) rfl rfl (by kernel_rfl) Tryd.func20 body20_of (by kernel_rfl) ?_
   rw [fr20]
   refine flows_go E _ Arg W0 hArg _ _ _ _ _ (hg.old hO2) ?_
   intro WL FzL φL hOL
   rw [Fr_finish (o:=⟨some 134,.call { callee:=.value (.func 20),args:=#[],argTypes:=#[] },_,_,_,some (15,true)⟩) rfl]
   refine Gm.op (o:=⟨some 135,.pick (.tmp 133) (.tmp 134) (.const (.bool false)),_,_,_,none⟩) (.bool true) WL rfl rfl (by kernel_rfl) rfl (pick_run _ (eval_tmp (by simp only [putD_get,putD_same,putD_size,hs,k11,k22,k18,k7,k21,ne_eq,Nat.reduceEqDiff,not_false_eq_true,Nat.reduceLT])) (eval_tmp (by simp only [putD_get,putD_same,putD_size,hs,k11,k22,k18,k7,k21,ne_eq,Nat.reduceEqDiff,not_false_eq_true,Nat.reduceLT]))) id ?_
   refine Gm.op (o:=⟨some 6,.assign (.tmp 135),_,_,_,none⟩) (.bool true) WL rfl rfl (by kernel_rfl) rfl (asg_run _ (eval_tmp (by simp only [putD_get,putD_same,putD_size,hs,k11,k22,k18,k7,k21,ne_eq,Nat.reduceEqDiff,not_false_eq_true,Nat.reduceLT]))) id ?_
   refine Gm.regionEnd ?_
   refine Gm.done Tryd.func4 (by kernel_rfl) (results4 (.bool true) _ (by simp only [putD_get,putD_same,putD_size,hs,k11,k22,k18,k7,k21,ne_eq,Nat.reduceEqDiff,not_false_eq_true,Nat.reduceLT])) ?_
   exact fun ρ D own A fr W' h=>hPost _ ρ D own A fr _ W' h
end Go.Proofs.YtolholkjeehamaaDoor
namespace Go.Proofs.YtolholkjeehamaaDoor
open Go.RowKit Go.Con Go.Conc Go.ChangeShapes Go.WideShapes Go.ChangeAt
local instance:Lone:=mainL
theorem fr4 (a b c:Value):#[a,b,c]++Array.replicate (Tryd.f4.ntmps-(#[a,b,c]:Array Value).size) undef=#[a,b,c,undef,undef,undef,undef,undef,undef,undef,undef,undef,undef,undef,undef,undef,undef,undef,undef,undef,undef,undef,undef,undef,undef,undef,undef,undef,undef,undef,undef,undef,undef,undef,undef,undef,undef,undef,undef,undef,undef,undef,undef,undef,undef,undef,undef,undef,undef,undef,undef,undef,undef,undef,undef,undef,undef,undef,undef,undef,undef,undef,undef,undef,undef,undef,undef,undef,undef,undef,undef,undef,undef,undef,undef,undef,undef,undef,undef,undef,undef,undef,undef,undef,undef,undef,undef,undef,undef,undef,undef,undef,undef,undef,undef,undef,undef,undef,undef,undef,undef,undef,undef,undef,undef,undef,undef,undef,undef,undef,undef,undef,undef,undef,undef,undef,undef,undef,undef,undef,undef,undef,undef,undef,undef,undef,undef,undef,undef,undef,undef,undef,undef,undef,undef,undef]:=by
 simp only [Tryd.ntmps4,List.size_toArray,List.length_cons,List.length_nil,Nat.reduceAdd,Nat.reduceSub,Array.replicate_succ,Array.replicate_zero,List.push_toArray,List.append_toArray,List.nil_append,List.cons_append]
theorem next_fin (d:Dit) (r:Rows6) (x y:Int) (W:World) (hd:DitSl W d r) (hb:d.Big) (hg:Glob W) (hx:0≤x∧x≤255) (hy:0≤y∧y≤4294967295) :
  Con.Fin Tryd.prog (fun u W'=>u=.bool true∧Con.Left W W') (solo (G (Frame.enter Tryd.prog 4 #[d.val r,.int .u8 x,.int .u32 y] .normal) []) W) #[]:=by
 refine law_fin Tryd.func4 body4_of hg (fun v hv=>?_) fun c Post hPost=>?_
 ·simp only [List.mem_cons,List.not_mem_nil,or_false] at hv
  rcases hv with rfl | rfl | rfl
  ·exact hd.same
  ·exact⟨fun c=>by simp [ren],by simp [ren]⟩
  ·exact⟨fun c=>by simp [ren],by simp [ren]⟩
 ·rw [fr4]
  exact next_go _ _ _ _ (fun _=>Iff.rfl) Post _ d r x y _ hd.entry hb hg.entry hx hy hPost
theorem next_lifted (os:Os) (started:os.Started) (H:Type) (enc:TypeId×Value→H) :
  ReturnsInLeavingWide {} Tryd.checked os 4 .any (fun w args=>(Rows.turnNextSpec.pre enc Tryd.prog Tryd.f4 [] false w args∧laidMetH Tryd.prog laid2 w)∧sizedMet enc Tryd.prog Tryd.f4 (OpenSpec.ofChange Rows.turnNextSpec) false w args)
   (Rows.turnNextSpec.post enc Tryd.prog Tryd.f4 false true false false):=by
 refine returnsInLeavingWide_and (C:=Tryd.checked) (X:=fun w _=>laidMetH Tryd.prog laid2 w) (fun _ _ _ hh h=>h.of_heap hh) own_knob started Tryd.func4
  (ChangeSpec.witness_shaped (enc:=enc) (C:=Tryd.checked) (os:=os) (X:=fun w _=>laidMetH Tryd.prog laid2 w) false (World.doorLaid Tryd.prog 600 os)
   #[.agg #[.slice none 0 0,.slice none 0 0,.int .i64 0,.int .i64 0,.int .i64 0,.int .i64 0,.slice none 0 0,.slice none 0 0,.slice none 0 0,.int .i64 0,.int .i64 0,.int .i64 0,.int .i64 0,.slice none 0 0],.int .u8 0,.int .u32 0] 8 rfl (World.shaped_of_RefB (by kernel_rfl) (by kernel_rfl)) (by kernel_rfl) (by kernel_rfl) (by kernel_rfl) (door_met os _)) ?_
 intro W base args ds gs before hval0 hW _ hsz hL
 have hval:∀ (j:Nat) t v,Tryd.f4.params[j]?=some t→args[j]?=some v→Value.okWide Tryd.prog W .any base t v:=hval0
 have hW':=hW
 obtain⟨p,q,hA0,hV,rfl,hfz,hnd⟩:=hW
 have hA:DataW.TrodAll enc Tryd.prog W 0 (fun _=>true) true Tryd.f4.params.toList args.toList ds p:=hA0
 rw [Tryd.params4] at hA hval
 obtain⟨v0,v1,v2,d0,d1,d2,p0,p1,p2,rfl,rfl,rfl,h0,h1,h2⟩:=trodAll_three hA
 obtain⟨rfl,rfl⟩:=trodVars_none hV
 obtain⟨x1,rfl,rfl,rfl,w1⟩:=open_int Tryd.underlying5 (hval 1 5 v1 rfl rfl) h1
 obtain⟨x2,rfl,rfl,rfl,w2⟩:=open_int Tryd.underlying43 (hval 2 43 v2 rfl rfl) h2
 have hx:0≤x1∧x1≤255:=by
  have h:=w1
  simp only [Lit.wf,Bool.and_eq_true,decide_eq_true_eq] at h
  exact h
 have hy:0≤x2∧x2≤4294967295:=by
  have h:=w2
  simp only [Lit.wf,Bool.and_eq_true,decide_eq_true_eq] at h
  exact h
 have hfit:Fits 31 d0:=fun n hn=>by
  have:=List.all_eq_true.1 hsz n (DataW.weights_mem_each (P:=Tryd.prog) (j:=0) (t:=31) (d:=d0) (by rw [show Tryd.checked.prog=Tryd.prog from rfl,Tryd.params4];rfl) rfl n hn)
  simpa using this
 obtain⟨d,r,rfl,hd,hb⟩:=dit_open (hval 0 31 v0 rfl rfl) h0 hfit
 clear hA0 hval0
 simp only [List.append_nil] at hW'
 have hlt:∀ x∈p0++([]++[]),x.block<W.heap.size:=fun x hx=>by
  have:=hW'.lt x (by simpa using hx)
  simpa using this
 refine fin_post (next_fin d r x1 x2 W hd hb (of_laid hL) hx hy) fun W' hl=>?_
 have ha:=trodAll_mk3 (left_trod (by kernel_rfl) (of_decide_eq_true (by kernel_rfl)) h0 hl fun x hx=>hlt x (by simpa using hx)) (shut_int Tryd.underlying5 w1) (shut_int Tryd.underlying43 w2)
 exact⟨[d0,.lit (.int .u8 x1),.lit (.int .u32 x2)],[],p0,[],_,[],hW',trodAll_mk1 (shut_bool Tryd.underlying4 _),ha,rfl,left_kept hl _,fun h=>by cases h⟩
theorem next_holds:Rows.TurnNextSaid :=
 OpenClaim.holds_of_wide_leaving 4 Tryd.f4 rfl rfl rfl rfl rfl rfl rfl ⟨rfl,rfl,rfl,rfl,rfl⟩ rfl rfl rfl rfl rfl (by kernel_rfl) Tryd.func4 (by kernel_rfl)
  (of_decide_eq_true (by kernel_rfl)) (by unfold Func.isWrapper;first | (rw [if_pos (by decide +kernel)];kernel_rfl) | (rw [if_neg (by decide +kernel)];exact⟨rfl,rfl⟩))
  (fun os started H enc _=>next_lifted os started H enc)
theorem next_card:Rows.TurnNextCardSaid :=
 tied_plain_goes .later [] [.funcs,.data] true (true,"13bbfa5877394a3cde13138796d6bb679173f8167c87f9ccc98cd9f3e99a425f") false true
  next_holds (fun _ h=>by cases h) (by kernel_rfl) (fun _ h=>by cases h) turnNext_row_tie rfl ⟨rfl,rfl⟩ (by kernel_rfl) rfl
  (fun f fn hf hfn=>by
   obtain rfl:f=4:=Option.some.inj ((show Tryd.prog.funcNamed "crocus/crocuslaw02.TurnNext" = some 4 by kernel_rfl).symm.trans hf) |>.symm
   obtain rfl:fn=Tryd.f4:=(Option.some.inj (Tryd.func4.symm.trans hfn)).symm
   exact⟨by kernel_rfl,fun j t ht=>by
    rw [Tryd.params4] at ht
    have hm:t∈[31,5,43]:=by simpa using Array.mem_of_getElem? ht
    have hall:([31,5,43].all fun u=>!Tryd.prog.wantsStandIn u)=true:=by kernel_rfl
    exact (show Tryd.prog.wantsStandIn t=false by simpa using List.all_eq_true.1 hall t hm)⟩)
  (by kernel_rfl)
#print axioms next_card
end Go.Proofs.YtolholkjeehamaaDoor
