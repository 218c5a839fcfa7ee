/- For every ditch, any two bytes, any two words of thirty-two bits, any word of sixteen bits and any row of picks the law TurnWater returns true, does not panic, and leaves its arguments as they were. Conditions: the package's variables hold what the program lays in them at its start (laid), and the arguments are values as the card tells. -/
import Derived.Test.YtolholkjeehamaaDoorQ16
import Derived.Test.YtolholkjeehamaaDoorD39
set_option linter.all false
set_option maxRecDepth 100000
set_option maxHeartbeats 4000000
open Go renaming undef → zu
namespace Go.Proofs.YtolholkjeehamaaDoor
open Go.RowKit Go.Con Go.Conc Go.ChangeShapes Go.WideShapes Go.ChangeAt
section
variable {H:Type} {enc:TypeId×Value→H} {W:World}
theorem ybu:Tryd.prog.underlying 86=some (.slice 77):=by kernel_rfl
theorem ycw {n:Nat} {cs:List Value} {y:DataW H×List MemPlace} (h:zjo enc W n 77 cs=some y):∃ k:Int,cs=[Value.int .u16 k]∧(0≤k∧k≤65535):=by
 obtain⟨k,h1,_,h3⟩:=DataW.trod_int Tryd.underlying77 h
 simp only [Lit.wf,Bool.and_eq_true,decide_eq_true_eq] at h3
 exact⟨k,h1,h3⟩
theorem yca {v:Value} {dd:DataW H} {p:List MemPlace} {base:Nat} (hv:Value.okWide Tryd.prog W .any base 86 v) (h:DataW.Trod enc Tryd.prog W 0 (fun _=>true) true 86 v dd p) (hfit:Fits 86 dd) :
  ∃ ps:List Int,(∃ a n k,v=.slice a n k)∧Sl W v 1 (ps.map fun x=>[Value.int .u16 x])∧Kind W v∧ps.length≤281474976710656∧∀ x∈ps,0≤x∧x≤65535:=by
 simp only [Value.okWide,ybu] at hv
 have hs:∃ a n k,v=.slice a n k:=by
  have hv2:=hv
  cases v with
  | slice a n k=>exact⟨_,_,_,rfl⟩
  | _=>simp [Cell.okWide,ybu,Cell.ok] at hv2
 obtain⟨a,n,k,rfl⟩:=hs
 obtain⟨fuel,hf⟩:=h
 simp only [Value.cells] at hf
 obtain⟨l,a1,a2,a3,a4,a5⟩:=zfb (en:=fun x=>[Value.int .u16 x]) (ok:=fun x=>0≤x∧x≤65535) ybu (by decide +kernel) (fun n cs' y h hff=>ycw h) hf hfit hv
 rw [show Tryd.prog.cellsOf 77=1 by kernel_rfl] at a1
 exact⟨l,⟨_,_,_,rfl⟩,a1,a3,Nat.le_trans a4 (by decide),a5⟩
end
section
variable {H:Type} {enc:TypeId×Value→H} {P:Program} {w:World} {base:Nat} {spare:Nat→Bool} {held:Bool}
theorem ybv {t t1 t2 t3 t4:TypeId} {v v1 v2 v3 v4:Value} {d d1 d2 d3 d4:DataW H} {p p1 p2 p3 p4:List MemPlace} (h:DataW.Trod enc P w base spare held t v d p) (h1:DataW.Trod enc P w base spare held t1 v1 d1 p1)
  (h2:DataW.Trod enc P w base spare held t2 v2 d2 p2) (h3:DataW.Trod enc P w base spare held t3 v3 d3 p3) (h4:DataW.Trod enc P w base spare held t4 v4 d4 p4):DataW.TrodAll enc P w base spare held [t,t1,t2,t3,t4] [v,v1,v2,v3,v4] [d,d1,d2,d3,d4] (p++(p1++(p2++(p3++p4)))):=⟨p,p1++(p2++(p3++p4)),h,trodAll_mk4 h1 h2 h3 h4,rfl⟩
end
end Go.Proofs.YtolholkjeehamaaDoor
namespace Go.Proofs.YtolholkjeehamaaDoor
open Go.RowKit Go.Con Go.Conc
local instance zn_1:Lone:=zcG
theorem yb6 {d:Dit} (hO:d.Ok) (holder:Int) {a b:Int} (ha:0≤a) (hab:a≤b):0≤d.hoursW holder a b∧d.hoursW holder a b≤b-a:=by
 have h1:=hO.ran_mono ha hab
 have h2:=hO.had_mono holder (hO.ran_nonneg a) h1.1
 rw [zd3]
 omega
end Go.Proofs.YtolholkjeehamaaDoor
namespace Go.Proofs.YtolholkjeehamaaDoor
open Go.RowKit Go.Con Go.Conc
local instance zn_2:Lone:=zcG
theorem yc1 (a b:Int) (w:World):(Builtin.min_ #[3,3] 3 #[.int .i64 a,.int .i64 b]).run Tryd.prog w=.ok (.int .i64 (min a b)) w:=by
 rw [show min a b=if b<a then b else a by omega]
 by_cases h:b<a<;>simp [Builtin.min_,Builtin.min2,go_sem,h]
theorem yc2 (a b:Int) (w:World):(Builtin.max_ #[3,3] 3 #[.int .i64 a,.int .i64 b]).run Tryd.prog w=.ok (.int .i64 (max a b)) w:=by
 rw [show max a b=if a<b then b else a by omega]
 by_cases h:a<b<;>simp [Builtin.max_,Builtin.max2,go_sem,h]
def yd2 (d:Dit) (r:zaR) (x y z ot pr:Int) (pv:Value) (B:Nat) (W2:World) (t:Array Value) (W3:World):Prop :=
 Old W2 W3∧∃ k a b:Int,((0≤k∧k≤(d.holders.length:Int)-1)∧0≤a∧a≤b∧b≤999999999)∧∃ (al:Option Addr) (cap:Nat),(∃ f:Nat→Value,t=#[d.val r,.int .u8 x,.int .u32 y,.int .u32 z,.int .u8 ot,.int .u16 pr,pv,.pointer (some ⟨B,0,none⟩),zu,zu,zu,zu,zu,zu,.bool false,num k,num a,num b,.slice al (d.best k a b).plots.length cap,num (d.best k a b).worth,num 0,num (d.hoursW k a b),num 0,num (ybp d k (pr % 10001) d.plots (pr % 10001 * d.hoursW k a b)),num 0,num (d.best k a b).hours,num (d.best k a b).worth,.bool true,zu,zu,zu,zu,zu,zu,zu,zu,zu,zu,zu,(f 39),(f 40),(f 41),(f 42),(f 43),(f 44),(f 45),(f 46),(f 47),(f 48),(f 49),(f 50),(f 51),(f 52),zu,(f 54),(f 55),(f 56),(f 57),(f 58),(f 59),(f 60),(f 61),(f 62),(f 63),(f 64),(f 65),(f 66),(f 67),(f 68),(f 69),(f 70),(f 71),(f 72),(f 73),(f 74),(f 75),(f 76),(f 77),(f 78),(f 79),(f 80),(f 81),(f 82),(f 83),(f 84),(f 85),(f 86),(f 87),(f 88),(f 89),(f 90),(f 91),(f 92),(f 93),(f 94),(f 95),(f 96),(f 97),(f 98),(f 99),(f 100),(f 101),(f 102),(f 103),(f 104),(f 105),(f 106),(f 107),(f 108),(f 109),(f 110),(f 111),(f 112),(f 113),(f 114),(f 115),(f 116),(f 117),(f 118),(f 119),(f 120),(f 121),(f 122),(f 123),(f 124),(f 125),(f 126),(f 127),(f 128),(f 129),(f 130),zu,zu,zu,zu,zu,zu,zu,zu,zu,zu,zu,zu,zu,zu,zu,zu,zu,zu,zu,zu,zu,zu,zu,zu,zu,zu,zu,zu,zu,zu,zu,zu,zu,zu,zu,zu,zu,zu,zu,zu,zu,zu,zu,zu,zu,zu,zu,zu,zu,zu,zu,zu,zu,zu,zu,zu,zu,zu,zu,zu,zu,zu,zu,zu,zu,zu,zu,zu,zu,zu,zu,zu,zu,zu,zu,zu,zu,zu,zu,zu,zu,zu,zu,zu,zu,zu,zu,zu,zu,zu,zu,zu,zu,zu,zu,zu,zu,zu,zu,zu,zu,zu,zu,zu,zu,zu,zu,zu,zu,zu,zu,zu,zu,zu,zu,zu,zu,zu,zu,zu,zu,zu,zu])∧(d.best k a b).worth≤ybp d k (pr % 10001) d.plots (pr % 10001 * d.hoursW k a b)∧(d.best k a b).plots.length≤8∧Sl W3 (.slice al (d.best k a b).plots.length cap) 1 ((d.best k a b).plots.map fun x=>[num x])
theorem yct {v39 v40 v41 v42 v43 v44 v45 v46 v47 v48 v49 v50 v51 v52:Value} (d:Dit) (r:zaR) (x y z ot pr:Int) (pv:Value) (B:Nat) (W2:World) (hd:DitSl W2 d r) (hs:d.Small) (hg:Glob W2) (hck:zaF d=0) (hn:¬ (d.holders.length:Int)=0) (cB:∀ i v,(d.cellsA r)[i]?=some v→W2.cell? ⟨B,i,none⟩=some v) (hBs:B<W2.heap.size) (hx:0≤x∧x≤255) (hy:0≤y∧y≤4294967295) (hz:0≤z∧z≤4294967295) (hpr:0≤pr∧pr≤65535) :
  zo0 Tryd.prog (FG 16) [wa3,wa4,wa5,wa6,wa7,wa8,wa9,ydp,ydq] (yd2 d r x y z ot pr pv B W2) #[d.val r,.int .u8 x,.int .u32 y,.int .u32 z,.int .u8 ot,.int .u16 pr,pv,.pointer (some ⟨B,0,none⟩),zu,zu,zu,zu,zu,zu,.bool false,zu,zu,zu,zu,zu,zu,zu,zu,zu,zu,zu,zu,zu,zu,zu,zu,zu,zu,zu,zu,zu,zu,zu,zu,v39,v40,v41,v42,v43,v44,v45,v46,v47,v48,v49,v50,v51,v52,zu,zu,zu,zu,zu,zu,zu,zu,zu,zu,zu,zu,zu,zu,zu,zu,zu,zu,zu,zu,zu,zu,zu,zu,zu,zu,zu,zu,zu,zu,zu,zu,zu,zu,zu,zu,zu,zu,zu,zu,zu,zu,zu,zu,zu,zu,zu,zu,zu,zu,zu,zu,zu,zu,zu,zu,zu,zu,zu,zu,zu,zu,zu,zu,zu,zu,zu,zu,zu,zu,zu,zu,zu,zu,zu,zu,zu,zu,zu,zu,zu,zu,zu,zu,zu,zu,zu,zu,zu,zu,zu,zu,zu,zu,zu,zu,zu,zu,zu,zu,zu,zu,zu,zu,zu,zu,zu,zu,zu,zu,zu,zu,zu,zu,zu,zu,zu,zu,zu,zu,zu,zu,zu,zu,zu,zu,zu,zu,zu,zu,zu,zu,zu,zu,zu,zu,zu,zu,zu,zu,zu,zu,zu,zu,zu,zu,zu,zu,zu,zu,zu,zu,zu,zu,zu,zu,zu,zu,zu,zu,zu,zu,zu,zu,zu,zu,zu,zu,zu,zu,zu,zu,zu,zu,zu,zu,zu,zu,zu,zu,zu,zu,zu,zu,zu,zu,zu,zu,zu,zu,zu,zu,zu,zu,zu,zu,zu,zu,zu,zu,zu] W2:=by
 have CO:=Lib.hid (fun w2 (o:Old W2 w2) i v (h:(d.cellsA r)[i]?=some v)=>(o.cell ⟨B,i,none⟩ (by show B<_;omega)).trans (cB i v h))
 obtain⟨ah,caph,eh⟩:=hd.holders.cases
 rw [List.length_map] at eh
 have CH:=Lib.hid (show ∀ w2,Old W2 w2→w2.cell? ⟨B,0,none⟩=some (.slice ah d.holders.length caph) from fun w2 o=>(CO.out w2 o 0 r.h rfl).trans (by rw [eh]))
 have HD:=Lib.hid hd
 have HG:=Lib.hid hg
 have HC:=Lib.hid hck
 have h6:=(zco hck).h6
 clear cB hd hg hck eh
 intro τ3
 generalize hq3:({ W2 with tape:=τ3 }:World)=u3
 have oA3:Old W2 u3:=(Old.refl _).trans (by rw [← hq3];exact .same rfl)
 clear hq3
 have c0:=CH.out u3 oA3
 simp only [wa3,yaq,yap,yao,yan,yam,yal,yak,yaj,ybm,ybl,ybk,ybj,ybi,ybh,ybg,ybf,ybc,yac,seqL,seqR,Tryd.f16]
 gi_wp2
 clear c0
 have hk:0≤x % (d.holders.length:Int)∧x % (d.holders.length:Int)≤(d.holders.length:Int)-1:=⟨Int.emod_nonneg _ hn,by have:=Int.emod_lt_of_pos x (b:=(d.holders.length:Int)) (by omega);omega⟩
 generalize x % (d.holders.length:Int)=k at hk ⊢
 intro τ4
 generalize hq4:({ u3 with tape:=τ4 }:World)=u4
 have oA4:Old W2 u4:=oA3.trans (by rw [← hq4];exact .same rfl)
 clear hq4
 simp only [wa4,yaq,yap,yao,yan,yam,yal,yak,yaj,ybm,ybl,ybk,ybj,ybi,ybh,ybg,ybf,ybc,yac,seqL,seqR,Tryd.f16]
 gi_wp2
 have hx1:0≤y % 1000000000∧y % 1000000000≤999999999:=by omega
 have hy1:0≤z % 1000000000∧z % 1000000000≤999999999:=by omega
 generalize y % 1000000000=a0 at hx1 ⊢
 generalize z % 1000000000=b0 at hy1 ⊢
 intro τ5
 generalize hq5:({ u4 with tape:=τ5 }:World)=u5
 have oA5:Old W2 u5:=oA4.trans (by rw [← hq5];exact .same rfl)
 clear hq5
 have hmn:=yc1 a0 b0 u5
 have hmx:=yc2 a0 b0 u5
 generalize hlo0:min a0 b0=a at *
 generalize hhi0:max a0 b0=b at *
 have HLO:=Lib.hid hlo0
 have HHI:=Lib.hid hhi0
 clear hlo0 hhi0
 simp only [wa5,yaq,yap,yao,yan,yam,yal,yak,yaj,ybm,ybl,ybk,ybj,ybi,ybh,ybg,ybf,ybc,yac,seqL,seqR,Tryd.f16]
 gi_wp2
 replace HLO:=HLO.out
 replace HHI:=HHI.out
 clear hmn hmx
 have hab:0≤a∧a≤b∧b≤999999999:=by omega
 clear HLO HHI hx1 hy1
 have hpp:0≤pr % 10001∧pr % 10001≤10000:=by omega
 have hask:askS d k a b=0:=by
  unfold askS zbq
  rw [if_neg (by simp [HC.out]),if_neg (by simp only [Decidable.not_not];omega),if_neg (by omega),if_neg (by omega)]
 have hO:=zco HC.out
 have hhb:=yb6 hO k (a:=a) (b:=b) (by omega) (by omega)
 have hwf:zfr d k a b=((d.best k a b).plots,(d.best k a b).worth,0):=by unfold zfr;rw [if_neg (by simp [hask])]
 have hhf:zca d k a b=(d.hoursW k a b,0):=by unfold zca;rw [if_neg (by simp [hask])]
 have hbf:yat d k a b (pr % 10001)=(ybp d k (pr % 10001) d.plots (pr % 10001 * d.hoursW k a b),0):=by unfold yat;rw [if_neg (by simp [hask]),if_pos hpp]
 obtain⟨qb,hq1,hq2,hq3⟩:=yb4 hO k (d.hoursW k a b) hhb.1
 have hcf:yad d k (d.hoursW k a b) (d.best k a b).plots=((d.best k a b).hours,(d.best k a b).worth,true):=by
  show yad d k (d.hoursW k a b) (tryS d k (d.hoursW k a b) ⟨[],0,0⟩ 0 ⟨[],0,0⟩).plots=_
  rw [ya8 hq1,decide_eq_true hq2]
  rfl
 have hwn:(d.best k a b).worth≤ybp d k (pr % 10001) d.plots (pr % 10001 * d.hoursW k a b):=ybr k (pr % 10001) (d.hoursW k a b) hpp.1 hq1 hq2
 have hpl8:(d.best k a b).plots.length≤8:=by
  unfold Dit.best tryS
  refine zjk d k _ _ _ _ _ ?_ ?_
  ·have:=hO.p8
   simp
   omega
  ·split<;>simp
 have KW:=Lib.hid (fun u (o:Old W2 u)=>show CallsIn (FG 16) 0 Tryd.prog 49 #[d.val r,num k,num a,num b] u fun e w'=>∃ v,e=.returned (.tuple #[v,num (d.best k a b).worth,num 0])∧Nx u w'∧PlS w' v (d.best k a b).plots by
  have:=toFG 16 (m:=0) (zlZ d r k a b u (HD.out.old o) hs (HG.out.old o) (by omega))
  rw [hwf] at this
  exact this)
 have KH:=Lib.hid (fun u (o:Old W2 u)=>show CallsIn (FG 16) 0 Tryd.prog 21 #[d.val r,num k,num a,num b] u fun e w'=>e=.returned (.tuple #[num (d.hoursW k a b),num 0])∧Nx u w' by
  have:=toFG 16 (m:=0) (zg5 d r k a b u (HD.out.old o) hs (HG.out.old o))
  rw [hhf] at this
  exact this)
 have KB:=Lib.hid (fun u (o:Old W2 u)=>show CallsIn (FG 16) 0 Tryd.prog 50 #[d.val r,num k,num a,num b,num (pr % 10001)] u fun e w'=>e=.returned (.tuple #[num (ybp d k (pr % 10001) d.plots (pr % 10001 * d.hoursW k a b)),num 0])∧Nx u w' by
  have:=toFG 16 (m:=0) (ycp d r k a b (pr % 10001) u (HD.out.old o) hs (HG.out.old o) (fun _=>by omega))
  rw [hbf] at this
  exact this)
 have KC:=Lib.hid (fun (lv:Value) u (o:Old W2 u) (hl:Sl u lv 1 ((d.best k a b).plots.map fun x=>[num x]))=>show CallsIn (FG 16) 0 Tryd.prog 51 #[d.val r,num k,num (d.hoursW k a b),lv] u fun e w'=>e=.returned (.tuple #[num (d.best k a b).hours,num (d.best k a b).worth,.bool true])∧Nx u w' by
  have:=toFG 16 (m:=0) (yay d r k (d.hoursW k a b) _ lv u (HD.out.old o) hO hl (by omega))
  rw [hcf] at this
  exact this)
 have HH:=Lib.hid (And.intro hk hab)
 have HWN:=Lib.hid hwn
 have HP8:=Lib.hid hpl8
 have hgt:decide ((d.best k a b).worth > ybp d k (pr % 10001) d.plots (pr % 10001 * d.hoursW k a b))=false:=decide_eq_false (by omega)
 clear hask hhb hwf hhf hbf hq1 hq2 hq3 hcf hwn h6 hO
 generalize hwo:(d.best k a b).worth=wo at *
 generalize hho:(d.best k a b).hours=ho at *
 generalize hpls:(d.best k a b).plots=pls at *
 generalize hbn:ybp d k (pr % 10001) d.plots (pr % 10001 * d.hoursW k a b)=bn at *
 generalize hmo:d.hoursW k a b=mo at *
 have HEQ:=Lib.hid (And.intro hwo (And.intro hho (And.intro hpls (And.intro hbn hmo))))
 clear hwo hho hpls hbn hmo
 intro τ6
 generalize hq6:({ u5 with tape:=τ6 }:World)=u6
 have oA6:Old W2 u6:=oA5.trans (by rw [← hq6];exact .same rfl)
 clear hq6
 simp only [wa6,yaq,yap,yao,yan,yam,yal,yak,yaj,ybm,ybl,ybk,ybj,ybi,ybh,ybg,ybf,ybc,yac,seqL,seqR,Tryd.f16]
 have kk:=KW.out u6 oA6
 obtain⟨c0,c1,c2,c3,c4,c5,c6,c7,c8,c9,c10,c11,c12,c13⟩:=zaS (CO.out u6 oA6)
 gi_wp2_with (first
  | (gi_at_call 49;refine CallsIn.mono kk ?_;rintro e w6 ⟨lv,rfl,x6,hlv⟩)
  | gi_in)
 clear kk c0 c1 c2 c3 c4 c5 c6 c7 c8 c9 c10 c11 c12 c13
 have oB6:Old W2 w6:=oA6.trans (.nx x6)
 have hsl:=hlv.sl
 obtain⟨al,cap,hle⟩:=hsl.cases
 rw [List.length_map] at hle
 subst hle
 have HSL:=Lib.hid hsl
 clear hlv hsl
 intro τ7
 generalize hq7:({ w6 with tape:=τ7 }:World)=u7
 have oA7:Old W2 u7:=oB6.trans (by rw [← hq7];exact .same rfl)
 have hqq7:=hq7
 clear hq7
 simp only [wa7,yaq,yap,yao,yan,yam,yal,yak,yaj,ybm,ybl,ybk,ybj,ybi,ybh,ybg,ybf,ybc,yac,seqL,seqR,Tryd.f16]
 have kk:=KH.out u7 oA7
 obtain⟨c0,c1,c2,c3,c4,c5,c6,c7,c8,c9,c10,c11,c12,c13⟩:=zaS (CO.out u7 oA7)
 gi_wp2_with (first
  | (gi_at_call 21;refine CallsIn.mono kk ?_;rintro e w7 ⟨rfl,x7⟩)
  | gi_in)
 clear kk c0 c1 c2 c3 c4 c5 c6 c7 c8 c9 c10 c11 c12 c13
 have oB7:Old W2 w7:=oA7.trans (.nx x7)
 intro τ8
 generalize hq8:({ w7 with tape:=τ8 }:World)=u8
 have oA8:Old W2 u8:=oB7.trans (by rw [← hq8];exact .same rfl)
 have hqq8:=hq8
 clear hq8
 simp only [wa8,yaq,yap,yao,yan,yam,yal,yak,yaj,ybm,ybl,ybk,ybj,ybi,ybh,ybg,ybf,ybc,yac,seqL,seqR,Tryd.f16]
 have kk:=KB.out u8 oA8
 obtain⟨c0,c1,c2,c3,c4,c5,c6,c7,c8,c9,c10,c11,c12,c13⟩:=zaS (CO.out u8 oA8)
 gi_wp2_with (first
  | (gi_at_call 50;refine CallsIn.mono kk ?_;rintro e w8 ⟨rfl,x8⟩)
  | gi_in)
 clear kk c0 c1 c2 c3 c4 c5 c6 c7 c8 c9 c10 c11 c12 c13
 have oB8:Old W2 w8:=oA8.trans (.nx x8)
 intro τ9
 generalize hq9:({ w8 with tape:=τ9 }:World)=u9
 have oA9:Old W2 u9:=oB8.trans (by rw [← hq9];exact .same rfl)
 have hqq9:=hq9
 clear hq9
 simp only [wa9,yaq,yap,yao,yan,yam,yal,yak,yaj,ybm,ybl,ybk,ybj,ybi,ybh,ybg,ybf,ybc,yac,seqL,seqR,Tryd.f16]
 gi_wp2
 intro τ11
 generalize hq11:({ u9 with tape:=τ11 }:World)=u11
 have oA11:Old W2 u11:=oA9.trans (by rw [← hq11];exact .same rfl)
 have hqq11:=hq11
 clear hq11
 simp only [ydp,yaq,yap,yao,yan,yam,yal,yak,yaj,ybm,ybl,ybk,ybj,ybi,ybh,ybg,ybf,ybc,yac,seqL,seqR,Tryd.f16]
 have o611:Old w6 u11:=(Old.nx x7 |> fun o=>(show Old w6 u7 from by rw [← hqq7];exact .same rfl).trans o).trans ((show Old w7 u8 from by rw [← hqq8];exact .same rfl).trans ((Old.nx x8).trans ((show Old w8 u9 from by rw [← hqq9];exact .same rfl).trans (show Old u9 u11 from by rw [← hqq11];exact .same rfl))))
 have hsl11:=HSL.out.old o611
 have kk:=KC.out (.slice al pls.length cap) u11 oA11 hsl11
 have HS11:=Lib.hid hsl11
 obtain⟨c0,c1,c2,c3,c4,c5,c6,c7,c8,c9,c10,c11,c12,c13⟩:=zaS (CO.out u11 oA11)
 clear hsl11
 gi_wp2_with (first
  | (gi_at_call 51;refine CallsIn.mono kk ?_;rintro e w11 ⟨rfl,x11⟩)
  | gi_in)
 clear kk c0 c1 c2 c3 c4 c5 c6 c7 c8 c9 c10 c11 c12 c13
 have oB11:Old W2 w11:=oA11.trans (.nx x11)
 intro τ12
 generalize hq12:({ w11 with tape:=τ12 }:World)=u12
 have oA12:Old W2 u12:=oB11.trans (by rw [← hq12];exact .same rfl)
 have hqq12:=hq12
 clear hq12
 simp only [ydq,yaq,yap,yao,yan,yam,yal,yak,yaj,ybm,ybl,ybk,ybj,ybi,ybh,ybg,ybf,ybc,yac,seqL,seqR,Tryd.f16]
 have hne:(wo != wo)=false:=by simp
 gi_wp2
 obtain⟨rfl,rfl,rfl,rfl,rfl⟩:=HEQ.out
 exact⟨oA12,k,a,b,HH.out,al,cap,yd0 rfl,HWN.out,HP8.out,HS11.out.old ((Old.nx x11).trans (by rw [← hqq12];exact .same rfl))⟩
end Go.Proofs.YtolholkjeehamaaDoor
namespace Go.Proofs.YtolholkjeehamaaDoor
open Go.RowKit Go.Con Go.Conc
local instance zn_3:Lone:=zcG
section
variable {dst:Option Nat} {ty:TypeId} {pos:String} {af:Array Edge} {x y:Nat} {w:World} {gd:Option (Nat×Bool)} (e:Operand→Value)
theorem yb9 {n m:Int} {b:Bool} (h:e (.tmp x)=num n) (h2:e (.tmp y)=num m) (hn:decide (n<m)=b) (τ:Tape):(execOp e ⟨dst,.binOp .lss 3 (.tmp x) (.tmp y) 3,ty,pos,af,gd⟩).run Tryd.prog { w with tape:=τ }=.ok (.value (.bool b)) { w with tape:=τ }:=by
 subst hn
 simp [execOp,go_sem,h,h2]
end
theorem ycf {d:Dit} {k mo m v wo ho bn:Int} {is:Bool} {l:List Int} (h:yad d k mo l=(m,v,is)) (hb:∀ t,yae d k l (-1,0,0)=some t→t.2.1≤mo→leC (t.2.1,t.2.2) (ho,wo)∧t.2.2≤bn):is=true→(v<wo∨v=wo∧ho≤m)∧v≤bn:=by
 intro hi
 subst hi
 unfold yad at h
 split at h
 ·rename_i s hs
  simp only [Prod.mk.injEq,decide_eq_true_eq] at h
  obtain⟨rfl,rfl,h3⟩:=h
  have:=hb s hs h3
  unfold leC at this
  exact this
 ·simp only [Prod.mk.injEq] at h
  exact absurd h.2.2 (by simp)
theorem yax (v:Value) (t:Array Value) (h:t[14]?=some v) (σ:Rn):ResultsC Tryd.prog Tryd.f16 (t.map (ren σ)) (ren σ v):=by
 have:=resultsC_tmp (P:=Tryd.prog) (fn:=Tryd.f16) (t:=14) rfl (t.map (ren σ))
 simp only [Array.getD_eq_getD_getElem?,Array.getElem?_map,h,Option.map_some,Option.getD_some] at this
 exact this
theorem yc9 (E Fz Arg:Nat→Prop) (W0:World) (hArg:∀ x,Arg x↔x<W0.heap.size) (Post:Value→World→Prop) (φ:Ph) (t:Array Value) (W5:World) (hgw:Glob W5) (m v wo ho bn:Int) (is:Bool) (hlaw:is=true→(v<wo∨v=wo∧ho≤m)∧v≤bn) (hs:t.size=254) (k36:t[36]?=some (num m)) (k37:t[37]?=some (num v)) (k38:t[38]?=some (.bool is)) (k19:t[19]?=some (num wo)) (k23:t[23]?=some (num bn)) (k25:t[25]?=some (num ho)) (hPost:∀ Fz1 ρ D own A fr W1 W',Here Tryd.prog true E Fz1 Arg W0 ρ D own A fr [] W1 W'→Post (ren ρ (.bool true)) W') :
  GoM Tryd.prog true E Fz Arg W0 (AtEnd Tryd.prog Post) φ [] (Fr 16 t [.code ydm,.code .ret]) [] W5:=by
 rw [ydd]
 cases is with
 | false =>
  refine Gm.regionSeq (fun x=>Old W5 x) (fun i=>([.bool false,.bool true,.bool true,zu,zu,zu,.bool true,.bool true,zu,zu,zu,zu,zu,zu,zu,zu,.bool true,.bool true,.bool false,.bool true,.bool true,zu,zu,zu,.bool true,.bool true,.bool true,.bool true,.bool true,.bool true]:List Value).getD i zu) (by rw [hs];kernel_rfl) (Old.refl _) ?_ ?_
  ·intro i hi t W Fz φ rest hC hsz hgot hold hk
   rw [show opwa38.size=30 by kernel_rfl] at hi
   match i,hi with
   | 0,_ =>
    have f38:=(hold 38 (by kernel_rfl)).trans k38
    exact Gm.op (.bool false) W rfl rfl (by kernel_rfl) rfl (zdB _ (zaf f38)) id (hk W Fz φ hC)
   | 1,_ =>
    have e0:=hgot 0 225 (by kernel_rfl) (by kernel_rfl)
    exact Gm.op (.bool true) W rfl rfl (by kernel_rfl) rfl (yas (b:=false) _ (zaf e0)) id (hk W Fz φ hC)
   | 2,_ =>
    have e1:=hgot 1 226 (by kernel_rfl) (by kernel_rfl)
    exact Gm.op (.bool true) W rfl rfl (by kernel_rfl) rfl (zdB _ (zaf e1)) id (hk W Fz φ hC)
   | 3,_ =>
    have e2:=hgot 2 227 (by kernel_rfl) (by kernel_rfl)
    exact Gm.pass rfl (yaa (i:=2) (b:=false) (d:=227) rfl rfl e2) (by kernel_rfl) rfl (hk W Fz φ hC)
   | 4,_ =>
    have e2:=hgot 2 227 (by kernel_rfl) (by kernel_rfl)
    exact Gm.pass rfl (yaa (i:=2) (b:=false) (d:=227) rfl rfl e2) (by kernel_rfl) rfl (hk W Fz φ hC)
   | 5,_ =>
    have e2:=hgot 2 227 (by kernel_rfl) (by kernel_rfl)
    exact Gm.pass rfl (yaa (i:=2) (b:=false) (d:=227) rfl rfl e2) (by kernel_rfl) rfl (hk W Fz φ hC)
   | 6,_ =>
    have e2:=hgot 2 227 (by kernel_rfl) (by kernel_rfl)
    have e5:=hgot 5 230 (by kernel_rfl) (by kernel_rfl)
    exact Gm.op (.bool true) W rfl rfl (by kernel_rfl) rfl (yaw _ (zaf e2) rfl) id (hk W Fz φ hC)
   | 7,_ =>
    have e6:=hgot 6 231 (by kernel_rfl) (by kernel_rfl)
    exact Gm.op (.bool true) W rfl rfl (by kernel_rfl) rfl (zdB _ (zaf e6)) id (hk W Fz φ hC)
   | 8,_ =>
    have e7:=hgot 7 232 (by kernel_rfl) (by kernel_rfl)
    exact Gm.pass rfl (yaa (i:=7) (b:=false) (d:=232) rfl rfl e7) (by kernel_rfl) rfl (hk W Fz φ hC)
   | 9,_ =>
    have e7:=hgot 7 232 (by kernel_rfl) (by kernel_rfl)
    exact Gm.pass rfl (yaa (i:=7) (b:=false) (d:=232) rfl rfl e7) (by kernel_rfl) rfl (hk W Fz φ hC)
   | 10,_ =>
    have e7:=hgot 7 232 (by kernel_rfl) (by kernel_rfl)
    exact Gm.pass rfl (yaa (i:=7) (b:=false) (d:=232) rfl rfl e7) (by kernel_rfl) rfl (hk W Fz φ hC)
   | 11,_ =>
    have e7:=hgot 7 232 (by kernel_rfl) (by kernel_rfl)
    exact Gm.pass rfl (yaa (i:=7) (b:=false) (d:=232) rfl rfl e7) (by kernel_rfl) rfl (hk W Fz φ hC)
   | 12,_ =>
    have e11:=hgot 11 236 (by kernel_rfl) (by kernel_rfl)
    exact Gm.pass rfl (yab (i:=11) (b:=true) (d:=236) rfl rfl e11) (by kernel_rfl) rfl (hk W Fz φ hC)
   | 13,_ =>
    have e11:=hgot 11 236 (by kernel_rfl) (by kernel_rfl)
    exact Gm.pass rfl (yab (i:=11) (b:=true) (d:=236) rfl rfl e11) (by kernel_rfl) rfl (hk W Fz φ hC)
   | 14,_ =>
    have e11:=hgot 11 236 (by kernel_rfl) (by kernel_rfl)
    exact Gm.pass rfl (yab (i:=11) (b:=true) (d:=236) rfl rfl e11) (by kernel_rfl) rfl (hk W Fz φ hC)
   | 15,_ =>
    have e7:=hgot 7 232 (by kernel_rfl) (by kernel_rfl)
    exact Gm.pass rfl (yaa (i:=7) (b:=false) (d:=232) rfl rfl e7) (by kernel_rfl) rfl (hk W Fz φ hC)
   | 16,_ =>
    have e7:=hgot 7 232 (by kernel_rfl) (by kernel_rfl)
    have e15:=hgot 15 240 (by kernel_rfl) (by kernel_rfl)
    exact Gm.op (.bool true) W rfl rfl (by kernel_rfl) rfl (yaw _ (zaf e7) rfl) id (hk W Fz φ hC)
   | 17,_ =>
    have e16:=hgot 16 241 (by kernel_rfl) (by kernel_rfl)
    exact Gm.op (.bool true) W rfl rfl (by kernel_rfl) rfl (zdB _ (zaf e16)) id (hk W Fz φ hC)
   | 18,_ =>
    have e17:=hgot 17 242 (by kernel_rfl) (by kernel_rfl)
    have f38:=(hold 38 (by kernel_rfl)).trans k38
    exact Gm.op (.bool false) W rfl (zbI (i:=17) (b:=true) (d:=242) rfl rfl e17) (by kernel_rfl) rfl (zdB _ (zaf f38)) id (hk W Fz φ hC)
   | 19,_ =>
    have e17:=hgot 17 242 (by kernel_rfl) (by kernel_rfl)
    have e18:=hgot 18 243 (by kernel_rfl) (by kernel_rfl)
    exact Gm.op (.bool true) W rfl (zbI (i:=17) (b:=true) (d:=242) rfl rfl e17) (by kernel_rfl) rfl (yas (b:=false) _ (zaf e18)) id (hk W Fz φ hC)
   | 20,_ =>
    have e17:=hgot 17 242 (by kernel_rfl) (by kernel_rfl)
    have e19:=hgot 19 244 (by kernel_rfl) (by kernel_rfl)
    exact Gm.op (.bool true) W rfl (zbI (i:=17) (b:=true) (d:=242) rfl rfl e17) (by kernel_rfl) rfl (zdB _ (zaf e19)) id (hk W Fz φ hC)
   | 21,_ =>
    have e20:=hgot 20 245 (by kernel_rfl) (by kernel_rfl)
    exact Gm.pass rfl (yaa (i:=20) (b:=false) (d:=245) rfl rfl e20) (by kernel_rfl) rfl (hk W Fz φ hC)
   | 22,_ =>
    have e20:=hgot 20 245 (by kernel_rfl) (by kernel_rfl)
    exact Gm.pass rfl (yaa (i:=20) (b:=false) (d:=245) rfl rfl e20) (by kernel_rfl) rfl (hk W Fz φ hC)
   | 23,_ =>
    have e20:=hgot 20 245 (by kernel_rfl) (by kernel_rfl)
    exact Gm.pass rfl (yaa (i:=20) (b:=false) (d:=245) rfl rfl e20) (by kernel_rfl) rfl (hk W Fz φ hC)
   | 24,_ =>
    have e17:=hgot 17 242 (by kernel_rfl) (by kernel_rfl)
    have e20:=hgot 20 245 (by kernel_rfl) (by kernel_rfl)
    have e23:=hgot 23 248 (by kernel_rfl) (by kernel_rfl)
    exact Gm.op (.bool true) W rfl (zbI (i:=17) (b:=true) (d:=242) rfl rfl e17) (by kernel_rfl) rfl (yaw _ (zaf e20) rfl) id (hk W Fz φ hC)
   | 25,_ =>
    have e17:=hgot 17 242 (by kernel_rfl) (by kernel_rfl)
    have e24:=hgot 24 249 (by kernel_rfl) (by kernel_rfl)
    exact Gm.op (.bool true) W rfl rfl (by kernel_rfl) rfl (zhJ _ (zaf e17) (zaf e24)) id (hk W Fz φ hC)
   | 26,_ =>
    have e25:=hgot 25 250 (by kernel_rfl) (by kernel_rfl)
    exact Gm.op (.bool true) W rfl rfl (by kernel_rfl) rfl (zdB _ (zaf e25)) id (hk W Fz φ hC)
   | 27,_ =>
    have e26:=hgot 26 251 (by kernel_rfl) (by kernel_rfl)
    refine Gm.enter (c:={ callee:=.value (.func 20),args:=#[],argTypes:=#[] }) rfl (zbI (i:=26) (b:=true) (d:=251) rfl rfl e26) rfl rfl (by kernel_rfl) Tryd.func20 ziv (by kernel_rfl) ?_
    rw [fr20]
    refine zka E _ Arg W0 hArg _ _ _ _ _ (hgw.old hC) ?_
    intro WL FzL φL hOL
    rw [zbs (o:=⟨some 252,.call { callee:=.value (.func 20),args:=#[],argTypes:=#[] },_,_,_,some (26,true)⟩) rfl]
    exact hk WL FzL φL (hC.trans hOL)
   | 28,_ =>
    have e26:=hgot 26 251 (by kernel_rfl) (by kernel_rfl)
    have e27:=hgot 27 252 (by kernel_rfl) (by kernel_rfl)
    exact Gm.op (.bool true) W rfl rfl (by kernel_rfl) rfl (zhJ _ (zaf e26) (zaf e27)) id (hk W Fz φ hC)
   | 29,_ =>
    have e28:=hgot 28 253 (by kernel_rfl) (by kernel_rfl)
    exact Gm.op (.bool true) W rfl rfl (by kernel_rfl) rfl (zl7 _ (zaf e28)) id (hk W Fz φ hC)
   | n+30,h=>exact absurd h (by omega)
  ·intro t W Fz φ hC hsz hgot hold
   refine Gm.done Tryd.func16 (by kernel_rfl) (yax (.bool true) _ (hgot 29 14 (by kernel_rfl))) ?_
   exact fun ρ D own A fr W' h=>hPost _ ρ D own A fr _ W' h
 | true =>
  obtain⟨h1,hle⟩:=hlaw rfl
  by_cases hvw:v<wo
  ·have hlt:decide (v<wo)=true:=decide_eq_true hvw
   refine Gm.regionSeq (fun x=>Old W5 x) (fun i=>([.bool true,.bool false,.bool false,num v,num wo,.bool true,.bool true,.bool true,zu,zu,zu,zu,zu,zu,zu,zu,.bool true,.bool true,.bool true,.bool false,.bool false,num v,num bn,.bool true,.bool true,.bool true,.bool true,.bool true,.bool true,.bool true]:List Value).getD i zu) (by rw [hs];kernel_rfl) (Old.refl _) ?_ ?_
   ·intro i hi t W Fz φ rest hC hsz hgot hold hk
    rw [show opwa38.size=30 by kernel_rfl] at hi
    match i,hi with
    | 0,_ =>
     have f38:=(hold 38 (by kernel_rfl)).trans k38
     exact Gm.op (.bool true) W rfl rfl (by kernel_rfl) rfl (zdB _ (zaf f38)) id (hk W Fz φ hC)
    | 1,_ =>
     have e0:=hgot 0 225 (by kernel_rfl) (by kernel_rfl)
     exact Gm.op (.bool false) W rfl rfl (by kernel_rfl) rfl (yas (b:=true) _ (zaf e0)) id (hk W Fz φ hC)
    | 2,_ =>
     have e1:=hgot 1 226 (by kernel_rfl) (by kernel_rfl)
     exact Gm.op (.bool false) W rfl rfl (by kernel_rfl) rfl (zdB _ (zaf e1)) id (hk W Fz φ hC)
    | 3,_ =>
     have e2:=hgot 2 227 (by kernel_rfl) (by kernel_rfl)
     have f37:=(hold 37 (by kernel_rfl)).trans k37
     exact Gm.op (num v) W rfl (zbI (i:=2) (b:=false) (d:=227) rfl rfl e2) (by kernel_rfl) rfl (zdB _ (zaf f37)) id (hk W Fz φ hC)
    | 4,_ =>
     have e2:=hgot 2 227 (by kernel_rfl) (by kernel_rfl)
     have f19:=(hold 19 (by kernel_rfl)).trans k19
     exact Gm.op (num wo) W rfl (zbI (i:=2) (b:=false) (d:=227) rfl rfl e2) (by kernel_rfl) rfl (zdB _ (zaf f19)) id (hk W Fz φ hC)
    | 5,_ =>
     have e2:=hgot 2 227 (by kernel_rfl) (by kernel_rfl)
     have e3:=hgot 3 228 (by kernel_rfl) (by kernel_rfl)
     have e4:=hgot 4 229 (by kernel_rfl) (by kernel_rfl)
     exact Gm.op (.bool true) W rfl (zbI (i:=2) (b:=false) (d:=227) rfl rfl e2) (by kernel_rfl) rfl (yb9 _ (zaf e3) (zaf e4) hlt) id (hk W Fz φ hC)
    | 6,_ =>
     have e2:=hgot 2 227 (by kernel_rfl) (by kernel_rfl)
     have e5:=hgot 5 230 (by kernel_rfl) (by kernel_rfl)
     exact Gm.op (.bool true) W rfl rfl (by kernel_rfl) rfl (yar _ (zaf e2) (zaf e5)) id (hk W Fz φ hC)
    | 7,_ =>
     have e6:=hgot 6 231 (by kernel_rfl) (by kernel_rfl)
     exact Gm.op (.bool true) W rfl rfl (by kernel_rfl) rfl (zdB _ (zaf e6)) id (hk W Fz φ hC)
    | 8,_ =>
     have e7:=hgot 7 232 (by kernel_rfl) (by kernel_rfl)
     exact Gm.pass rfl (yaa (i:=7) (b:=false) (d:=232) rfl rfl e7) (by kernel_rfl) rfl (hk W Fz φ hC)
    | 9,_ =>
     have e7:=hgot 7 232 (by kernel_rfl) (by kernel_rfl)
     exact Gm.pass rfl (yaa (i:=7) (b:=false) (d:=232) rfl rfl e7) (by kernel_rfl) rfl (hk W Fz φ hC)
    | 10,_ =>
     have e7:=hgot 7 232 (by kernel_rfl) (by kernel_rfl)
     exact Gm.pass rfl (yaa (i:=7) (b:=false) (d:=232) rfl rfl e7) (by kernel_rfl) rfl (hk W Fz φ hC)
    | 11,_ =>
     have e7:=hgot 7 232 (by kernel_rfl) (by kernel_rfl)
     exact Gm.pass rfl (yaa (i:=7) (b:=false) (d:=232) rfl rfl e7) (by kernel_rfl) rfl (hk W Fz φ hC)
    | 12,_ =>
     have e11:=hgot 11 236 (by kernel_rfl) (by kernel_rfl)
     exact Gm.pass rfl (yab (i:=11) (b:=true) (d:=236) rfl rfl e11) (by kernel_rfl) rfl (hk W Fz φ hC)
    | 13,_ =>
     have e11:=hgot 11 236 (by kernel_rfl) (by kernel_rfl)
     exact Gm.pass rfl (yab (i:=11) (b:=true) (d:=236) rfl rfl e11) (by kernel_rfl) rfl (hk W Fz φ hC)
    | 14,_ =>
     have e11:=hgot 11 236 (by kernel_rfl) (by kernel_rfl)
     exact Gm.pass rfl (yab (i:=11) (b:=true) (d:=236) rfl rfl e11) (by kernel_rfl) rfl (hk W Fz φ hC)
    | 15,_ =>
     have e7:=hgot 7 232 (by kernel_rfl) (by kernel_rfl)
     exact Gm.pass rfl (yaa (i:=7) (b:=false) (d:=232) rfl rfl e7) (by kernel_rfl) rfl (hk W Fz φ hC)
    | 16,_ =>
     have e7:=hgot 7 232 (by kernel_rfl) (by kernel_rfl)
     have e15:=hgot 15 240 (by kernel_rfl) (by kernel_rfl)
     exact Gm.op (.bool true) W rfl rfl (by kernel_rfl) rfl (yaw _ (zaf e7) rfl) id (hk W Fz φ hC)
    | 17,_ =>
     have e16:=hgot 16 241 (by kernel_rfl) (by kernel_rfl)
     exact Gm.op (.bool true) W rfl rfl (by kernel_rfl) rfl (zdB _ (zaf e16)) id (hk W Fz φ hC)
    | 18,_ =>
     have e17:=hgot 17 242 (by kernel_rfl) (by kernel_rfl)
     have f38:=(hold 38 (by kernel_rfl)).trans k38
     exact Gm.op (.bool true) W rfl (zbI (i:=17) (b:=true) (d:=242) rfl rfl e17) (by kernel_rfl) rfl (zdB _ (zaf f38)) id (hk W Fz φ hC)
    | 19,_ =>
     have e17:=hgot 17 242 (by kernel_rfl) (by kernel_rfl)
     have e18:=hgot 18 243 (by kernel_rfl) (by kernel_rfl)
     exact Gm.op (.bool false) W rfl (zbI (i:=17) (b:=true) (d:=242) rfl rfl e17) (by kernel_rfl) rfl (yas (b:=true) _ (zaf e18)) id (hk W Fz φ hC)
    | 20,_ =>
     have e17:=hgot 17 242 (by kernel_rfl) (by kernel_rfl)
     have e19:=hgot 19 244 (by kernel_rfl) (by kernel_rfl)
     exact Gm.op (.bool false) W rfl (zbI (i:=17) (b:=true) (d:=242) rfl rfl e17) (by kernel_rfl) rfl (zdB _ (zaf e19)) id (hk W Fz φ hC)
    | 21,_ =>
     have e20:=hgot 20 245 (by kernel_rfl) (by kernel_rfl)
     have f37:=(hold 37 (by kernel_rfl)).trans k37
     exact Gm.op (num v) W rfl (zbI (i:=20) (b:=false) (d:=245) rfl rfl e20) (by kernel_rfl) rfl (zdB _ (zaf f37)) id (hk W Fz φ hC)
    | 22,_ =>
     have e20:=hgot 20 245 (by kernel_rfl) (by kernel_rfl)
     have f23:=(hold 23 (by kernel_rfl)).trans k23
     exact Gm.op (num bn) W rfl (zbI (i:=20) (b:=false) (d:=245) rfl rfl e20) (by kernel_rfl) rfl (zdB _ (zaf f23)) id (hk W Fz φ hC)
    | 23,_ =>
     have e20:=hgot 20 245 (by kernel_rfl) (by kernel_rfl)
     have e21:=hgot 21 246 (by kernel_rfl) (by kernel_rfl)
     have e22:=hgot 22 247 (by kernel_rfl) (by kernel_rfl)
     exact Gm.op (.bool true) W rfl (zbI (i:=20) (b:=false) (d:=245) rfl rfl e20) (by kernel_rfl) rfl (yb3 _ (zaf e21) (zaf e22) hle) id (hk W Fz φ hC)
    | 24,_ =>
     have e17:=hgot 17 242 (by kernel_rfl) (by kernel_rfl)
     have e20:=hgot 20 245 (by kernel_rfl) (by kernel_rfl)
     have e23:=hgot 23 248 (by kernel_rfl) (by kernel_rfl)
     exact Gm.op (.bool true) W rfl (zbI (i:=17) (b:=true) (d:=242) rfl rfl e17) (by kernel_rfl) rfl (yar _ (zaf e20) (zaf e23)) id (hk W Fz φ hC)
    | 25,_ =>
     have e17:=hgot 17 242 (by kernel_rfl) (by kernel_rfl)
     have e24:=hgot 24 249 (by kernel_rfl) (by kernel_rfl)
     exact Gm.op (.bool true) W rfl rfl (by kernel_rfl) rfl (zhJ _ (zaf e17) (zaf e24)) id (hk W Fz φ hC)
    | 26,_ =>
     have e25:=hgot 25 250 (by kernel_rfl) (by kernel_rfl)
     exact Gm.op (.bool true) W rfl rfl (by kernel_rfl) rfl (zdB _ (zaf e25)) id (hk W Fz φ hC)
    | 27,_ =>
     have e26:=hgot 26 251 (by kernel_rfl) (by kernel_rfl)
     refine Gm.enter (c:={ callee:=.value (.func 20),args:=#[],argTypes:=#[] }) rfl (zbI (i:=26) (b:=true) (d:=251) rfl rfl e26) rfl rfl (by kernel_rfl) Tryd.func20 ziv (by kernel_rfl) ?_
     rw [fr20]
     refine zka E _ Arg W0 hArg _ _ _ _ _ (hgw.old hC) ?_
     intro WL FzL φL hOL
     rw [zbs (o:=⟨some 252,.call { callee:=.value (.func 20),args:=#[],argTypes:=#[] },_,_,_,some (26,true)⟩) rfl]
     exact hk WL FzL φL (hC.trans hOL)
    | 28,_ =>
     have e26:=hgot 26 251 (by kernel_rfl) (by kernel_rfl)
     have e27:=hgot 27 252 (by kernel_rfl) (by kernel_rfl)
     exact Gm.op (.bool true) W rfl rfl (by kernel_rfl) rfl (zhJ _ (zaf e26) (zaf e27)) id (hk W Fz φ hC)
    | 29,_ =>
     have e28:=hgot 28 253 (by kernel_rfl) (by kernel_rfl)
     exact Gm.op (.bool true) W rfl rfl (by kernel_rfl) rfl (zl7 _ (zaf e28)) id (hk W Fz φ hC)
    | n+30,h=>exact absurd h (by omega)
   ·intro t W Fz φ hC hsz hgot hold
    refine Gm.done Tryd.func16 (by kernel_rfl) (yax (.bool true) _ (hgot 29 14 (by kernel_rfl))) ?_
    exact fun ρ D own A fr W' h=>hPost _ ρ D own A fr _ W' h
  ·have hlt:decide (v<wo)=false:=decide_eq_false hvw
   have heq:v=wo:=by omega
   have hge:ho≤m:=by omega
   refine Gm.regionSeq (fun x=>Old W5 x) (fun i=>([.bool true,.bool false,.bool false,num v,num wo,.bool false,.bool false,.bool false,num v,num wo,.bool true,.bool true,num m,num ho,.bool true,.bool true,.bool true,.bool true,.bool true,.bool false,.bool false,num v,num bn,.bool true,.bool true,.bool true,.bool true,.bool true,.bool true,.bool true]:List Value).getD i zu) (by rw [hs];kernel_rfl) (Old.refl _) ?_ ?_
   ·intro i hi t W Fz φ rest hC hsz hgot hold hk
    rw [show opwa38.size=30 by kernel_rfl] at hi
    match i,hi with
    | 0,_ =>
     have f38:=(hold 38 (by kernel_rfl)).trans k38
     exact Gm.op (.bool true) W rfl rfl (by kernel_rfl) rfl (zdB _ (zaf f38)) id (hk W Fz φ hC)
    | 1,_ =>
     have e0:=hgot 0 225 (by kernel_rfl) (by kernel_rfl)
     exact Gm.op (.bool false) W rfl rfl (by kernel_rfl) rfl (yas (b:=true) _ (zaf e0)) id (hk W Fz φ hC)
    | 2,_ =>
     have e1:=hgot 1 226 (by kernel_rfl) (by kernel_rfl)
     exact Gm.op (.bool false) W rfl rfl (by kernel_rfl) rfl (zdB _ (zaf e1)) id (hk W Fz φ hC)
    | 3,_ =>
     have e2:=hgot 2 227 (by kernel_rfl) (by kernel_rfl)
     have f37:=(hold 37 (by kernel_rfl)).trans k37
     exact Gm.op (num v) W rfl (zbI (i:=2) (b:=false) (d:=227) rfl rfl e2) (by kernel_rfl) rfl (zdB _ (zaf f37)) id (hk W Fz φ hC)
    | 4,_ =>
     have e2:=hgot 2 227 (by kernel_rfl) (by kernel_rfl)
     have f19:=(hold 19 (by kernel_rfl)).trans k19
     exact Gm.op (num wo) W rfl (zbI (i:=2) (b:=false) (d:=227) rfl rfl e2) (by kernel_rfl) rfl (zdB _ (zaf f19)) id (hk W Fz φ hC)
    | 5,_ =>
     have e2:=hgot 2 227 (by kernel_rfl) (by kernel_rfl)
     have e3:=hgot 3 228 (by kernel_rfl) (by kernel_rfl)
     have e4:=hgot 4 229 (by kernel_rfl) (by kernel_rfl)
     exact Gm.op (.bool false) W rfl (zbI (i:=2) (b:=false) (d:=227) rfl rfl e2) (by kernel_rfl) rfl (yb9 _ (zaf e3) (zaf e4) hlt) id (hk W Fz φ hC)
    | 6,_ =>
     have e2:=hgot 2 227 (by kernel_rfl) (by kernel_rfl)
     have e5:=hgot 5 230 (by kernel_rfl) (by kernel_rfl)
     exact Gm.op (.bool false) W rfl rfl (by kernel_rfl) rfl (yar _ (zaf e2) (zaf e5)) id (hk W Fz φ hC)
    | 7,_ =>
     have e6:=hgot 6 231 (by kernel_rfl) (by kernel_rfl)
     exact Gm.op (.bool false) W rfl rfl (by kernel_rfl) rfl (zdB _ (zaf e6)) id (hk W Fz φ hC)
    | 8,_ =>
     have e7:=hgot 7 232 (by kernel_rfl) (by kernel_rfl)
     have f37:=(hold 37 (by kernel_rfl)).trans k37
     exact Gm.op (num v) W rfl (zbI (i:=7) (b:=false) (d:=232) rfl rfl e7) (by kernel_rfl) rfl (zdB _ (zaf f37)) id (hk W Fz φ hC)
    | 9,_ =>
     have e7:=hgot 7 232 (by kernel_rfl) (by kernel_rfl)
     have f19:=(hold 19 (by kernel_rfl)).trans k19
     exact Gm.op (num wo) W rfl (zbI (i:=7) (b:=false) (d:=232) rfl rfl e7) (by kernel_rfl) rfl (zdB _ (zaf f19)) id (hk W Fz φ hC)
    | 10,_ =>
     have e7:=hgot 7 232 (by kernel_rfl) (by kernel_rfl)
     have e8:=hgot 8 233 (by kernel_rfl) (by kernel_rfl)
     have e9:=hgot 9 234 (by kernel_rfl) (by kernel_rfl)
     exact Gm.op (.bool true) W rfl (zbI (i:=7) (b:=false) (d:=232) rfl rfl e7) (by kernel_rfl) rfl (ycy _ (zaf e8) (zaf e9) heq) id (hk W Fz φ hC)
    | 11,_ =>
     have e7:=hgot 7 232 (by kernel_rfl) (by kernel_rfl)
     have e10:=hgot 10 235 (by kernel_rfl) (by kernel_rfl)
     exact Gm.op (.bool true) W rfl (zbI (i:=7) (b:=false) (d:=232) rfl rfl e7) (by kernel_rfl) rfl (zdB _ (zaf e10)) id (hk W Fz φ hC)
    | 12,_ =>
     have e11:=hgot 11 236 (by kernel_rfl) (by kernel_rfl)
     have f36:=(hold 36 (by kernel_rfl)).trans k36
     exact Gm.op (num m) W rfl (zbI (i:=11) (b:=true) (d:=236) rfl rfl e11) (by kernel_rfl) rfl (zdB _ (zaf f36)) id (hk W Fz φ hC)
    | 13,_ =>
     have e11:=hgot 11 236 (by kernel_rfl) (by kernel_rfl)
     have f25:=(hold 25 (by kernel_rfl)).trans k25
     exact Gm.op (num ho) W rfl (zbI (i:=11) (b:=true) (d:=236) rfl rfl e11) (by kernel_rfl) rfl (zdB _ (zaf f25)) id (hk W Fz φ hC)
    | 14,_ =>
     have e11:=hgot 11 236 (by kernel_rfl) (by kernel_rfl)
     have e12:=hgot 12 237 (by kernel_rfl) (by kernel_rfl)
     have e13:=hgot 13 238 (by kernel_rfl) (by kernel_rfl)
     exact Gm.op (.bool true) W rfl (zbI (i:=11) (b:=true) (d:=236) rfl rfl e11) (by kernel_rfl) rfl (ycx _ (zaf e12) (zaf e13) hge) id (hk W Fz φ hC)
    | 15,_ =>
     have e7:=hgot 7 232 (by kernel_rfl) (by kernel_rfl)
     have e11:=hgot 11 236 (by kernel_rfl) (by kernel_rfl)
     have e14:=hgot 14 239 (by kernel_rfl) (by kernel_rfl)
     exact Gm.op (.bool true) W rfl (zbI (i:=7) (b:=false) (d:=232) rfl rfl e7) (by kernel_rfl) rfl (zhJ _ (zaf e11) (zaf e14)) id (hk W Fz φ hC)
    | 16,_ =>
     have e7:=hgot 7 232 (by kernel_rfl) (by kernel_rfl)
     have e15:=hgot 15 240 (by kernel_rfl) (by kernel_rfl)
     exact Gm.op (.bool true) W rfl rfl (by kernel_rfl) rfl (yar _ (zaf e7) (zaf e15)) id (hk W Fz φ hC)
    | 17,_ =>
     have e16:=hgot 16 241 (by kernel_rfl) (by kernel_rfl)
     exact Gm.op (.bool true) W rfl rfl (by kernel_rfl) rfl (zdB _ (zaf e16)) id (hk W Fz φ hC)
    | 18,_ =>
     have e17:=hgot 17 242 (by kernel_rfl) (by kernel_rfl)
     have f38:=(hold 38 (by kernel_rfl)).trans k38
     exact Gm.op (.bool true) W rfl (zbI (i:=17) (b:=true) (d:=242) rfl rfl e17) (by kernel_rfl) rfl (zdB _ (zaf f38)) id (hk W Fz φ hC)
    | 19,_ =>
     have e17:=hgot 17 242 (by kernel_rfl) (by kernel_rfl)
     have e18:=hgot 18 243 (by kernel_rfl) (by kernel_rfl)
     exact Gm.op (.bool false) W rfl (zbI (i:=17) (b:=true) (d:=242) rfl rfl e17) (by kernel_rfl) rfl (yas (b:=true) _ (zaf e18)) id (hk W Fz φ hC)
    | 20,_ =>
     have e17:=hgot 17 242 (by kernel_rfl) (by kernel_rfl)
     have e19:=hgot 19 244 (by kernel_rfl) (by kernel_rfl)
     exact Gm.op (.bool false) W rfl (zbI (i:=17) (b:=true) (d:=242) rfl rfl e17) (by kernel_rfl) rfl (zdB _ (zaf e19)) id (hk W Fz φ hC)
    | 21,_ =>
     have e20:=hgot 20 245 (by kernel_rfl) (by kernel_rfl)
     have f37:=(hold 37 (by kernel_rfl)).trans k37
     exact Gm.op (num v) W rfl (zbI (i:=20) (b:=false) (d:=245) rfl rfl e20) (by kernel_rfl) rfl (zdB _ (zaf f37)) id (hk W Fz φ hC)
    | 22,_ =>
     have e20:=hgot 20 245 (by kernel_rfl) (by kernel_rfl)
     have f23:=(hold 23 (by kernel_rfl)).trans k23
     exact Gm.op (num bn) W rfl (zbI (i:=20) (b:=false) (d:=245) rfl rfl e20) (by kernel_rfl) rfl (zdB _ (zaf f23)) id (hk W Fz φ hC)
    | 23,_ =>
     have e20:=hgot 20 245 (by kernel_rfl) (by kernel_rfl)
     have e21:=hgot 21 246 (by kernel_rfl) (by kernel_rfl)
     have e22:=hgot 22 247 (by kernel_rfl) (by kernel_rfl)
     exact Gm.op (.bool true) W rfl (zbI (i:=20) (b:=false) (d:=245) rfl rfl e20) (by kernel_rfl) rfl (yb3 _ (zaf e21) (zaf e22) hle) id (hk W Fz φ hC)
    | 24,_ =>
     have e17:=hgot 17 242 (by kernel_rfl) (by kernel_rfl)
     have e20:=hgot 20 245 (by kernel_rfl) (by kernel_rfl)
     have e23:=hgot 23 248 (by kernel_rfl) (by kernel_rfl)
     exact Gm.op (.bool true) W rfl (zbI (i:=17) (b:=true) (d:=242) rfl rfl e17) (by kernel_rfl) rfl (yar _ (zaf e20) (zaf e23)) id (hk W Fz φ hC)
    | 25,_ =>
     have e17:=hgot 17 242 (by kernel_rfl) (by kernel_rfl)
     have e24:=hgot 24 249 (by kernel_rfl) (by kernel_rfl)
     exact Gm.op (.bool true) W rfl rfl (by kernel_rfl) rfl (zhJ _ (zaf e17) (zaf e24)) id (hk W Fz φ hC)
    | 26,_ =>
     have e25:=hgot 25 250 (by kernel_rfl) (by kernel_rfl)
     exact Gm.op (.bool true) W rfl rfl (by kernel_rfl) rfl (zdB _ (zaf e25)) id (hk W Fz φ hC)
    | 27,_ =>
     have e26:=hgot 26 251 (by kernel_rfl) (by kernel_rfl)
     refine Gm.enter (c:={ callee:=.value (.func 20),args:=#[],argTypes:=#[] }) rfl (zbI (i:=26) (b:=true) (d:=251) rfl rfl e26) rfl rfl (by kernel_rfl) Tryd.func20 ziv (by kernel_rfl) ?_
     rw [fr20]
     refine zka E _ Arg W0 hArg _ _ _ _ _ (hgw.old hC) ?_
     intro WL FzL φL hOL
     rw [zbs (o:=⟨some 252,.call { callee:=.value (.func 20),args:=#[],argTypes:=#[] },_,_,_,some (26,true)⟩) rfl]
     exact hk WL FzL φL (hC.trans hOL)
    | 28,_ =>
     have e26:=hgot 26 251 (by kernel_rfl) (by kernel_rfl)
     have e27:=hgot 27 252 (by kernel_rfl) (by kernel_rfl)
     exact Gm.op (.bool true) W rfl rfl (by kernel_rfl) rfl (zhJ _ (zaf e26) (zaf e27)) id (hk W Fz φ hC)
    | 29,_ =>
     have e28:=hgot 28 253 (by kernel_rfl) (by kernel_rfl)
     exact Gm.op (.bool true) W rfl rfl (by kernel_rfl) rfl (zl7 _ (zaf e28)) id (hk W Fz φ hC)
    | n+30,h=>exact absurd h (by omega)
   ·intro t W Fz φ hC hsz hgot hold
    refine Gm.done Tryd.func16 (by kernel_rfl) (yax (.bool true) _ (hgot 29 14 (by kernel_rfl))) ?_
    exact fun ρ D own A fr W' h=>hPost _ ρ D own A fr _ W' h
theorem ycv (E Fz Arg:Nat→Prop) (W0:World) (hArg:∀ x,Arg x↔x<W0.heap.size) (Post:Value→World→Prop) (φ:Ph) (d:Dit) (r:zaR) (x y z ot pr:Int) (pv:Value) (W:World) (hd:DitSl W d r) (hb:d.Big) (hg:Glob W) (hx:0≤x∧x≤255) (hy:0≤y∧y≤4294967295) (hz:0≤z∧z≤4294967295) (hot:0≤ot∧ot≤255) (hpr:0≤pr∧pr≤65535) (ps:List Int) (hpp:Sl W pv 1 (ps.map fun x=>[Value.int .u16 x])) (hpb:∀ x∈ps,0≤x∧x≤65535) (hpl:ps.length≤281474976710656)
  (hPost:∀ Fz1 ρ D own A fr W1 W',Here Tryd.prog true E Fz1 Arg W0 ρ D own A fr [] W1 W'→Post (ren ρ (.bool true)) W') :
  GoM Tryd.prog true E Fz Arg W0 (AtEnd Tryd.prog Post) φ [] (Fr 16 #[d.val r,.int .u8 x,.int .u32 y,.int .u32 z,.int .u8 ot,.int .u16 pr,pv,zu,zu,zu,zu,zu,zu,zu,zu,zu,zu,zu,zu,zu,zu,zu,zu,zu,zu,zu,zu,zu,zu,zu,zu,zu,zu,zu,zu,zu,zu,zu,zu,zu,zu,zu,zu,zu,zu,zu,zu,zu,zu,zu,zu,zu,zu,zu,zu,zu,zu,zu,zu,zu,zu,zu,zu,zu,zu,zu,zu,zu,zu,zu,zu,zu,zu,zu,zu,zu,zu,zu,zu,zu,zu,zu,zu,zu,zu,zu,zu,zu,zu,zu,zu,zu,zu,zu,zu,zu,zu,zu,zu,zu,zu,zu,zu,zu,zu,zu,zu,zu,zu,zu,zu,zu,zu,zu,zu,zu,zu,zu,zu,zu,zu,zu,zu,zu,zu,zu,zu,zu,zu,zu,zu,zu,zu,zu,zu,zu,zu,zu,zu,zu,zu,zu,zu,zu,zu,zu,zu,zu,zu,zu,zu,zu,zu,zu,zu,zu,zu,zu,zu,zu,zu,zu,zu,zu,zu,zu,zu,zu,zu,zu,zu,zu,zu,zu,zu,zu,zu,zu,zu,zu,zu,zu,zu,zu,zu,zu,zu,zu,zu,zu,zu,zu,zu,zu,zu,zu,zu,zu,zu,zu,zu,zu,zu,zu,zu,zu,zu,zu,zu,zu,zu,zu,zu,zu,zu,zu,zu,zu,zu,zu,zu,zu,zu,zu,zu,zu,zu,zu,zu,zu,zu,zu,zu,zu,zu,zu,zu,zu,zu,zu,zu,zu,zu,zu,zu,zu,zu,zu,zu,zu,zu,zu,zu,zu] [.code yac]) [] W:=by
 have hgood:zaL Tryd.prog (.func 16)=false:=by kernel_rfl
 have hL:=yb0 d r x y z ot pr pv W hd hb hg
 rw [ycr]
 refine Gm.seq ?_
 refine Gm.lone (F:=FG 16) _ rfl rfl rfl (List.mem_cons_self ..) (zdr 16 hgood) (by kernel_rfl) (by kernel_rfl) hL ?_
 clear hL
 intro t0 V0 hL
 refine Gm.seq (Gm.seq ?_)
 refine Gm.lone (F:=FG 16) _ rfl rfl rfl (List.mem_cons_self ..) (zdr 16 hgood) (by kernel_rfl) (by kernel_rfl) hL ?_
 clear hL
 rintro t W1 ⟨hO1,hs,h52 | ⟨h52,hO2,⟨hck,hsm,hn⟩,B,v39,v40,v41,v42,v43,v44,v45,v46,v47,v48,v49,v50,v51,v52,rfl,hB,cB⟩⟩
 ·refine Gm.cond (b:=true) (zaf h52) rfl ?_
  refine Gm.seq ?_
  rw [ydf]
  refine Gm.region ?_
  rw [show List.range opwa2.size=[0,1] by kernel_rfl]
  refine Gm.enter (o:=⟨some 53,.call { callee:=.value (.func 20),args:=#[],argTypes:=#[] },_,_,_,none⟩) (c:={ callee:=.value (.func 20),args:=#[],argTypes:=#[] }) rfl rfl rfl rfl (by kernel_rfl) Tryd.func20 ziv (by kernel_rfl) ?_
  rw [fr20]
  refine zka E _ Arg W0 hArg _ _ _ _ _ (hg.old hO1) ?_
  intro WL FzL φL hOL
  rw [zbs (o:=⟨some 53,.call { callee:=.value (.func 20),args:=#[],argTypes:=#[] },_,_,_,none⟩) rfl]
  refine Gm.op (o:=⟨some 14,.assign (.tmp 53),_,_,_,none⟩) (.bool true) WL rfl rfl (by kernel_rfl) rfl (zl7 _ (zaf (by simp only [zaC,zay,zax,hs,ne_eq,Nat.reduceEqDiff,not_false_eq_true,Nat.reduceLT]))) id ?_
  refine Gm.regionEnd ?_
  refine Gm.done Tryd.func16 (by kernel_rfl) (yax (.bool true) _ (by simp only [zaC,zay,zax,hs,ne_eq,Nat.reduceEqDiff,not_false_eq_true,Nat.reduceLT])) ?_
  exact fun ρ D own A fr W' h=>hPost _ ρ D own A fr _ W' h
 ·refine Gm.cond (b:=false) (zaf h52) rfl ?_
  refine Gm.skip ?_
  clear hO1 hs h52
  refine Gm.seq ?_
  refine Gm.lone (F:=FG 16) _ rfl rfl rfl (List.mem_cons_self ..) (zdr 16 hgood) (by kernel_rfl) (by kernel_rfl) (yct d r x y z ot pr pv B W1 (hd.old hO2) hsm (hg.old hO2) hck hn cB hB hx hy hz hpr) ?_
  skip
  intro t3 V3 hL
  refine Gm.seq ?_
  refine Gm.lone (F:=FG 16) _ rfl rfl rfl (List.mem_cons_self ..) (zdr 16 hgood) (by kernel_rfl) (by kernel_rfl) hL ?_
  clear hL
  intro t4 V4 hL
  refine Gm.seq ?_
  refine Gm.lone (F:=FG 16) _ rfl rfl rfl (List.mem_cons_self ..) (zdr 16 hgood) (by kernel_rfl) (by kernel_rfl) hL ?_
  clear hL
  intro t5 V5 hL
  refine Gm.seq ?_
  refine Gm.lone (F:=FG 16) _ rfl rfl rfl (List.mem_cons_self ..) (zdr 16 hgood) (by kernel_rfl) (by kernel_rfl) hL ?_
  clear hL
  intro t6 V6 hL
  refine Gm.seq ?_
  refine Gm.lone (F:=FG 16) _ rfl rfl rfl (List.mem_cons_self ..) (zdr 16 hgood) (by kernel_rfl) (by kernel_rfl) hL ?_
  clear hL
  intro t7 V7 hL
  refine Gm.seq ?_
  refine Gm.lone (F:=FG 16) _ rfl rfl rfl (List.mem_cons_self ..) (zdr 16 hgood) (by kernel_rfl) (by kernel_rfl) hL ?_
  clear hL
  intro t8 V8 hL
  refine Gm.seq ?_
  refine Gm.lone (F:=FG 16) _ rfl rfl rfl (List.mem_cons_self ..) (zdr 16 hgood) (by kernel_rfl) (by kernel_rfl) hL ?_
  clear hL
  intro t9 V9 hL
  refine Gm.seq ?_
  refine Gm.lone (F:=FG 16) _ rfl rfl rfl (List.mem_cons_self ..) (zdr 16 hgood) (by kernel_rfl) (by kernel_rfl) hL ?_
  clear hL
  intro t11 V11 hL
  refine Gm.seq ?_
  refine Gm.lone (F:=FG 16) _ rfl rfl rfl (List.mem_cons_self ..) (zdr 16 hgood) (by kernel_rfl) (by kernel_rfl) hL ?_
  clear hL
  rintro t W3 ⟨hO3,k,a,b,⟨hk,hab⟩,al,cap,⟨f,ht⟩,hwn,hp8,hsl⟩
  rw [ht]
  clear ht
  have hO:=zco hck
  have hhb:=yb6 hO k (a:=a) (b:=b) (by omega) (by omega)
  obtain⟨qb,hq1,hq2,hq3⟩:=yb4 hO k (d.hoursW k a b) hhb.1
  have hpp2:0≤pr % 10001:=by omega
  have oW3:=hO2.trans hO3
  have cB3:∀ i v,(d.cellsA r)[i]?=some v→W3.cell? ⟨B,i,none⟩=some v:=fun i v h=>(hO3.cell ⟨B,i,none⟩ hB).trans (cB i v h)
  have hB3:=Nat.lt_of_lt_of_le hB hO3.size
  clear cB
  refine Gm.seq ?_
  refine Gm.lone (F:=FG 16) _ rfl rfl rfl (List.mem_cons_self ..) (zdr 16 hgood) (by kernel_rfl) (by kernel_rfl) (yc7 d r x y z ot pr pv ps k (d.best k a b).worth (d.best k a b).hours (d.hoursW k a b) (ybp d k (pr % 10001) d.plots (pr % 10001 * d.hoursW k a b)) qb (d.best k a b).plots al cap B W3 (hd.old oW3) hO cB3 hB3 hsl hp8 hq1 hq2 (by omega) (hpp.old oW3) hpb hpl) ?_
  skip
  intro t14 V14 hL
  refine Gm.seq ?_
  refine Gm.lone (F:=FG 16) _ rfl rfl rfl (List.mem_cons_self ..) (zdr 16 hgood) (by kernel_rfl) (by kernel_rfl) hL ?_
  clear hL
  intro t15 V15 hL
  refine Gm.seq ?_
  refine Gm.lone (F:=FG 16) _ rfl rfl rfl (List.mem_cons_self ..) (zdr 16 hgood) (by kernel_rfl) (by kernel_rfl) hL ?_
  clear hL
  rintro t W4 ⟨hO4,f2,ht⟩
  rw [ht]
  clear ht
  have oW4:=oW3.trans hO4
  refine Gm.seq ?_
  refine Gm.lone (F:=FG 16) _ rfl rfl rfl (List.mem_cons_self ..) (zdr 16 hgood) (by kernel_rfl) (by kernel_rfl) (yc8 d r x y z ot pr pv k (d.best k a b).worth (d.best k a b).hours (d.hoursW k a b) (ybp d k (pr % 10001) d.plots (pr % 10001 * d.hoursW k a b)) (d.best k a b).plots al cap B W4 (hd.old oW4) hO (fun i v h=>(hO4.cell ⟨B,i,none⟩ hB3).trans (cB3 i v h)) (Nat.lt_of_lt_of_le hB3 hO4.size) hot) ?_
  skip
  intro t31 V31 hL
  refine Gm.seq ?_
  refine Gm.lone (F:=FG 16) _ rfl rfl rfl (List.mem_cons_self ..) (zdr 16 hgood) (by kernel_rfl) (by kernel_rfl) hL ?_
  clear hL
  intro t32 V32 hL
  refine Gm.seq ?_
  refine Gm.lone (F:=FG 16) _ rfl rfl rfl (List.mem_cons_self ..) (zdr 16 hgood) (by kernel_rfl) (by kernel_rfl) hL ?_
  clear hL
  rintro t W5 ⟨hO5,l,m,v,is,hcf,hs,k36,k37,k38,k19,k23,k25⟩
  refine Gm.seq ?_
  exact yc9 E _ Arg W0 hArg Post _ t W5 (hg.old (oW4.trans hO5)) m v _ _ _ is (ycf hcf fun t ht hm=>⟨hq3 l t ht hm,ybr k (pr % 10001) _ hpp2 ht hm⟩) hs k36 k37 k38 k19 k23 k25 hPost
end Go.Proofs.YtolholkjeehamaaDoor
namespace Go.Proofs.YtolholkjeehamaaDoor
open Go.RowKit Go.Con Go.Conc Go.ChangeShapes Go.WideShapes Go.ChangeAt
local instance zn_4:Lone:=zcG
section
variable {H:Type} {enc:TypeId×Value→H} {P:Program} {w:World} {base:Nat} {spare:Nat→Bool} {held:Bool}
theorem yb1 {t0 t1 t2 t3 t4 t5:TypeId} {v0 v1 v2 v3 v4 v5:Value} {d0 d1 d2 d3 d4 d5:DataW H} {p0 p1 p2 p3 p4 p5:List MemPlace} (h0:DataW.Trod enc P w base spare held t0 v0 d0 p0) (h1:DataW.Trod enc P w base spare held t1 v1 d1 p1) (h2:DataW.Trod enc P w base spare held t2 v2 d2 p2) (h3:DataW.Trod enc P w base spare held t3 v3 d3 p3) (h4:DataW.Trod enc P w base spare held t4 v4 d4 p4) (h5:DataW.Trod enc P w base spare held t5 v5 d5 p5):DataW.TrodAll enc P w base spare held [t0,t1,t2,t3,t4,t5] [v0,v1,v2,v3,v4,v5] [d0,d1,d2,d3,d4,d5] (p0++(p1++(p2++(p3++(p4++(p5)))))):=⟨p0,p1++(p2++(p3++(p4++(p5)))),h0,ybv h1 h2 h3 h4 h5,rfl⟩
theorem ybd {t0 t1 t2 t3 t4 t5 t6:TypeId} {args:Array Value} {ds:List (DataW H)} {ps:List MemPlace} (h:DataW.TrodAll enc P w base spare held [t0,t1,t2,t3,t4,t5,t6] args.toList ds ps) :
  ∃ v0 v1 v2 v3 v4 v5 v6 d0 d1 d2 d3 d4 d5 d6 p0 p1 p2 p3 p4 p5 p6,args=#[v0,v1,v2,v3,v4,v5,v6]∧ds=[d0,d1,d2,d3,d4,d5,d6]∧ps=p0++p1++p2++p3++p4++p5++p6∧DataW.Trod enc P w base spare held t0 v0 d0 p0∧DataW.Trod enc P w base spare held t1 v1 d1 p1∧DataW.Trod enc P w base spare held t2 v2 d2 p2∧DataW.Trod enc P w base spare held t3 v3 d3 p3∧DataW.Trod enc P w base spare held t4 v4 d4 p4∧DataW.Trod enc P w base spare held t5 v5 d5 p5∧DataW.Trod enc P w base spare held t6 v6 d6 p6:=by
 obtain⟨v0,vs0,d0,ds0,p0,q0,hargs,rfl,rfl,hd0,hr0⟩:=trodAll_cons h
 obtain⟨v1,vs1,d1,ds1,p1,q1,rfl,rfl,rfl,hd1,hr1⟩:=trodAll_cons hr0
 obtain⟨v2,vs2,d2,ds2,p2,q2,rfl,rfl,rfl,hd2,hr2⟩:=trodAll_cons hr1
 obtain⟨v3,vs3,d3,ds3,p3,q3,rfl,rfl,rfl,hd3,hr3⟩:=trodAll_cons hr2
 obtain⟨v4,vs4,d4,ds4,p4,q4,rfl,rfl,rfl,hd4,hr4⟩:=trodAll_cons hr3
 obtain⟨v5,vs5,d5,ds5,p5,q5,rfl,rfl,rfl,hd5,hr5⟩:=trodAll_cons hr4
 obtain⟨v6,vs6,d6,ds6,p6,q6,rfl,rfl,rfl,hd6,hr6⟩:=trodAll_cons hr5
 obtain⟨rfl,rfl,rfl⟩:=trodAll_nil hr6
 exact⟨v0,v1,v2,v3,v4,v5,v6,d0,d1,d2,d3,d4,d5,d6,p0,p1,p2,p3,p4,p5,p6,by cases args;simp_all,rfl,by simp,hd0,hd1,hd2,hd3,hd4,hd5,hd6⟩
theorem yb2 {t0 t1 t2 t3 t4 t5 t6:TypeId} {v0 v1 v2 v3 v4 v5 v6:Value} {d0 d1 d2 d3 d4 d5 d6:DataW H} {p0 p1 p2 p3 p4 p5 p6:List MemPlace} (h0:DataW.Trod enc P w base spare held t0 v0 d0 p0) (h1:DataW.Trod enc P w base spare held t1 v1 d1 p1) (h2:DataW.Trod enc P w base spare held t2 v2 d2 p2) (h3:DataW.Trod enc P w base spare held t3 v3 d3 p3) (h4:DataW.Trod enc P w base spare held t4 v4 d4 p4) (h5:DataW.Trod enc P w base spare held t5 v5 d5 p5) (h6:DataW.Trod enc P w base spare held t6 v6 d6 p6):DataW.TrodAll enc P w base spare held [t0,t1,t2,t3,t4,t5,t6] [v0,v1,v2,v3,v4,v5,v6] [d0,d1,d2,d3,d4,d5,d6] (p0++(p1++(p2++(p3++(p4++(p5++(p6))))))):=⟨p0,p1++(p2++(p3++(p4++(p5++(p6))))),h0,yb1 h1 h2 h3 h4 h5 h6,rfl⟩
end
theorem yd5 (a0 a1 a2 a3 a4 a5 a6:Value):#[a0,a1,a2,a3,a4,a5,a6]++Array.replicate (Tryd.f16.ntmps-(#[a0,a1,a2,a3,a4,a5,a6]:Array Value).size) zu=#[a0,a1,a2,a3,a4,a5,a6,zu,zu,zu,zu,zu,zu,zu,zu,zu,zu,zu,zu,zu,zu,zu,zu,zu,zu,zu,zu,zu,zu,zu,zu,zu,zu,zu,zu,zu,zu,zu,zu,zu,zu,zu,zu,zu,zu,zu,zu,zu,zu,zu,zu,zu,zu,zu,zu,zu,zu,zu,zu,zu,zu,zu,zu,zu,zu,zu,zu,zu,zu,zu,zu,zu,zu,zu,zu,zu,zu,zu,zu,zu,zu,zu,zu,zu,zu,zu,zu,zu,zu,zu,zu,zu,zu,zu,zu,zu,zu,zu,zu,zu,zu,zu,zu,zu,zu,zu,zu,zu,zu,zu,zu,zu,zu,zu,zu,zu,zu,zu,zu,zu,zu,zu,zu,zu,zu,zu,zu,zu,zu,zu,zu,zu,zu,zu,zu,zu,zu,zu,zu,zu,zu,zu,zu,zu,zu,zu,zu,zu,zu,zu,zu,zu,zu,zu,zu,zu,zu,zu,zu,zu,zu,zu,zu,zu,zu,zu,zu,zu,zu,zu,zu,zu,zu,zu,zu,zu,zu,zu,zu,zu,zu,zu,zu,zu,zu,zu,zu,zu,zu,zu,zu,zu,zu,zu,zu,zu,zu,zu,zu,zu,zu,zu,zu,zu,zu,zu,zu,zu,zu,zu,zu,zu,zu,zu,zu,zu,zu,zu,zu,zu,zu,zu,zu,zu,zu,zu,zu,zu,zu,zu,zu,zu,zu,zu,zu,zu,zu,zu,zu,zu,zu,zu,zu,zu,zu,zu,zu,zu,zu,zu,zu,zu,zu,zu]:=by
 simp only [Tryd.ntmps16,List.size_toArray,List.length_cons,List.length_nil,Nat.reduceAdd,Nat.reduceSub,Array.replicate_succ,Array.replicate_zero,List.push_toArray,List.append_toArray,List.nil_append,List.cons_append]
theorem ycg (d:Dit) (r:zaR) (x1:Int) (x2:Int) (x3:Int) (x4:Int) (x5:Int) (pv:Value) (ps:List Int) (W:World) (hd:DitSl W d r) (hb:d.Big) (hg:Glob W) (hx1:(0≤x1∧x1≤255)) (hx2:(0≤x2∧x2≤4294967295)) (hx3:(0≤x3∧x3≤4294967295)) (hx4:(0≤x4∧x4≤255)) (hx5:(0≤x5∧x5≤65535)) (hsp:(∃ a n k,pv=.slice a n k)) (hps:(Sl W pv 1 (ps.map fun x=>[Value.int .u16 x]))) (hkd:(Kind W pv)) (hpl2:(ps.length≤281474976710656)) (hpb:(∀ x∈ps,0≤x∧x≤65535)) :
  Con.Fin Tryd.prog (fun u W'=>u=.bool true∧Con.Left W W') (solo (G (Frame.enter Tryd.prog 16 #[d.val r,.int .u8 x1,.int .u32 x2,.int .u32 x3,.int .u8 x4,.int .u16 x5,pv] .normal) []) W) #[]:=by
 refine zpy Tryd.func16 ycs hg (fun v hv=>?_) fun c Post hPost=>?_
 ·simp only [List.mem_cons,List.not_mem_nil,or_false] at hv
  rcases hv with rfl | rfl | rfl | rfl | rfl | rfl | rfl
  ·exact hd.same
  ·exact⟨fun c=>by simp [ren],by simp [ren]⟩
  ·exact⟨fun c=>by simp [ren],by simp [ren]⟩
  ·exact⟨fun c=>by simp [ren],by simp [ren]⟩
  ·exact⟨fun c=>by simp [ren],by simp [ren]⟩
  ·exact⟨fun c=>by simp [ren],by simp [ren]⟩
  ·exact Same.slice hsp hkd
 ·rw [yd5]
  exact ycv _ _ _ _ (fun _=>Iff.rfl) Post _ d r x1 x2 x3 x4 x5 pv _ hd.entry hb hg.entry hx1 hx2 hx3 hx4 hx5 ps (hps.entry (by intro l hl x hx;obtain⟨z,_,rfl⟩:=List.mem_map.1 hl;rw [List.mem_singleton] at hx;subst hx;simp [inv])) hpb hpl2 hPost
theorem ybe (os:Os) (started:os.Started) (H:Type) (enc:TypeId×Value→H) :
  ReturnsInLeavingWide {} Tryd.checked os 16 .any (fun w args=>(Rows.turnWaterSpec.pre enc Tryd.prog Tryd.f16 [] false w args∧laidMetH Tryd.prog zmo w)∧sizedMet enc Tryd.prog Tryd.f16 (OpenSpec.ofChange Rows.turnWaterSpec) false w args)
   (Rows.turnWaterSpec.post enc Tryd.prog Tryd.f16 false true false false):=by
 refine zdb (C:=Tryd.checked) (X:=fun w _=>laidMetH Tryd.prog zmo w) (fun _ _ _ hh h=>h.of_heap hh) zn6 started Tryd.func16
  (ChangeSpec.witness_shaped (enc:=enc) (C:=Tryd.checked) (os:=os) (X:=fun w _=>laidMetH Tryd.prog zmo w) false (World.doorLaid Tryd.prog 600 os)
   #[.agg #[.slice none 0 0,.slice none 0 0,.int .i64 0,.int .i64 0,.int .i64 0,.int .i64 0,.slice none 0 0,.slice none 0 0,.slice none 0 0,.int .i64 0,.int .i64 0,.int .i64 0,.int .i64 0,.slice none 0 0],.int .u8 0,.int .u32 0,.int .u32 0,.int .u8 0,.int .u16 0,.slice none 0 0] 8 rfl (World.shaped_of_RefB (by kernel_rfl) (by kernel_rfl)) (by kernel_rfl) (by kernel_rfl) (by kernel_rfl) (znv os _)) ?_
 intro W base args ds gs before hval0 hW _ hsz hL
 have hval:∀ (j:Nat) t v,Tryd.f16.params[j]?=some t→args[j]?=some v→Value.okWide Tryd.prog W .any base t v:=hval0
 have hW':=hW
 obtain⟨p,q,hA0,hV,rfl,hfz,hnd⟩:=hW
 have hA:DataW.TrodAll enc Tryd.prog W 0 (fun _=>true) true Tryd.f16.params.toList args.toList ds p:=hA0
 rw [Tryd.params16] at hA hval
 obtain⟨v0,v1,v2,v3,v4,v5,v6,d0,d1,d2,d3,d4,d5,d6,p0,p1,p2,p3,p4,p5,p6,rfl,rfl,rfl,h0,h1,h2,h3,h4,h5,h6⟩:=ybd hA
 obtain⟨rfl,rfl⟩:=trodVars_none hV
 obtain⟨x1,rfl,rfl,rfl,w1⟩:=open_int Tryd.underlying5 (hval 1 5 v1 rfl rfl) h1
 have hx1:0≤x1∧x1≤255:=by
  have h:=w1
  simp only [Lit.wf,Bool.and_eq_true,decide_eq_true_eq] at h
  exact h
 obtain⟨x2,rfl,rfl,rfl,w2⟩:=open_int Tryd.underlying43 (hval 2 43 v2 rfl rfl) h2
 have hx2:0≤x2∧x2≤4294967295:=by
  have h:=w2
  simp only [Lit.wf,Bool.and_eq_true,decide_eq_true_eq] at h
  exact h
 obtain⟨x3,rfl,rfl,rfl,w3⟩:=open_int Tryd.underlying43 (hval 3 43 v3 rfl rfl) h3
 have hx3:0≤x3∧x3≤4294967295:=by
  have h:=w3
  simp only [Lit.wf,Bool.and_eq_true,decide_eq_true_eq] at h
  exact h
 obtain⟨x4,rfl,rfl,rfl,w4⟩:=open_int Tryd.underlying5 (hval 4 5 v4 rfl rfl) h4
 have hx4:0≤x4∧x4≤255:=by
  have h:=w4
  simp only [Lit.wf,Bool.and_eq_true,decide_eq_true_eq] at h
  exact h
 obtain⟨x5,rfl,rfl,rfl,w5⟩:=open_int Tryd.underlying77 (hval 5 77 v5 rfl rfl) h5
 have hx5:0≤x5∧x5≤65535:=by
  have h:=w5
  simp only [Lit.wf,Bool.and_eq_true,decide_eq_true_eq] at h
  exact h
 have hfit2:Fits 86 d6:=fun n hn=>by
  have:=List.all_eq_true.1 hsz n (DataW.weights_mem_each (P:=Tryd.prog) (j:=6) (t:=86) (d:=d6) (by rw [show Tryd.checked.prog=Tryd.prog from rfl,Tryd.params16];rfl) rfl n hn)
  simpa using this
 obtain⟨ps,hsp,hps,hkd,hpl2,hpb⟩:=yca (hval 6 86 v6 rfl rfl) h6 hfit2
 have hfit:Fits 31 d0:=fun n hn=>by
  have:=List.all_eq_true.1 hsz n (DataW.weights_mem_each (P:=Tryd.prog) (j:=0) (t:=31) (d:=d0) (by rw [show Tryd.checked.prog=Tryd.prog from rfl,Tryd.params16];rfl) rfl n hn)
  simpa using this
 obtain⟨d,r,rfl,hd,hb⟩:=znp (hval 0 31 v0 rfl rfl) h0 hfit
 clear hA0 hval0
 try simp only [List.append_nil] at hW'
 have hlt:=fun x hx=>hW'.lt x hx
 try simp only [Array.size_empty,Nat.add_zero] at hlt
 refine zoq (ycg d r x1 x2 x3 x4 x5 v6 ps W hd hb (zpA hL) hx1 hx2 hx3 hx4 hx5 hsp hps hkd hpl2 hpb) fun W' hl=>?_
 have ha:=yb2 (zl8 (by kernel_rfl) (of_decide_eq_true (by kernel_rfl)) h0 hl fun x hx=>hlt x (by simp [hx])) (shut_int Tryd.underlying5 w1) (shut_int Tryd.underlying43 w2) (shut_int Tryd.underlying43 w3) (shut_int Tryd.underlying5 w4) (shut_int Tryd.underlying77 w5) (zl8 (by kernel_rfl) (of_decide_eq_true (by kernel_rfl)) h6 hl fun x hx=>hlt x (by simp [hx]))
 try simp only [List.append_nil] at ha
 exact⟨[d0,.lit (.int .u8 x1),.lit (.int .u32 x2),.lit (.int .u32 x3),.lit (.int .u8 x4),.lit (.int .u16 x5),d6],[],_,[],_,[],hW',trodAll_mk1 (shut_bool Tryd.underlying4 _),ha,rfl,zl6 hl _,fun h=>by cases h⟩
theorem ybt:Rows.TurnWaterSaid :=
 OpenClaim.holds_of_wide_leaving 16 Tryd.f16 rfl rfl rfl rfl rfl rfl rfl ⟨rfl,rfl,rfl,rfl,rfl⟩ rfl rfl rfl rfl rfl (by kernel_rfl) Tryd.func16 (by kernel_rfl)
  (of_decide_eq_true (by kernel_rfl)) (by unfold Func.isWrapper;first | (rw [if_pos (by decide +kernel)];kernel_rfl) | (rw [if_neg (by decide +kernel)];exact⟨rfl,rfl⟩))
  (fun os started H enc _=>ybe os started H enc)
theorem waterL_card:Rows.TurnWaterCardSaid :=
 zfY .later [] [.funcs,.data] true (true,"13bbfa5877394a3cde13138796d6bb679173f8167c87f9ccc98cd9f3e99a425f") false true
  ybt (fun _ h=>by cases h) (by kernel_rfl) (fun _ h=>by cases h) turnWater_row_tie rfl ⟨rfl,rfl⟩ (by kernel_rfl) rfl
  (fun f fn hf hfn=>by
   obtain rfl:f=16:=Option.some.inj ((show Tryd.prog.funcNamed "crocus/crocuslaw02.TurnWater" = some 16 by kernel_rfl).symm.trans hf) |>.symm
   obtain rfl:fn=Tryd.f16:=(Option.some.inj (Tryd.func16.symm.trans hfn)).symm
   exact⟨by kernel_rfl,fun j t ht=>by
    rw [Tryd.params16] at ht
    have hm:t∈[31,5,43,43,5,77,86]:=by simpa using Array.mem_of_getElem? ht
    have hall:([31,5,43,43,5,77,86].all fun u=>!Tryd.prog.wantsStandIn u)=true:=by kernel_rfl
    exact (show Tryd.prog.wantsStandIn t=false by simpa using List.all_eq_true.1 hall t hm)⟩)
  (by kernel_rfl)
#print axioms waterL_card
end Go.Proofs.YtolholkjeehamaaDoor
