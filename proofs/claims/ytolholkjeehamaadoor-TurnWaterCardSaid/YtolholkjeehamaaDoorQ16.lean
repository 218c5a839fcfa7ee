import Derived.Test.YtolholkjeehamaaDoorP16
import Derived.Test.YtolholkjeehamaaDoorE1
set_option linter.all false
set_option maxRecDepth 100000
set_option maxHeartbeats 4000000
open Go renaming undef → zu
namespace Go.Proofs.YtolholkjeehamaaDoor
open Go.RowKit Go.Con Go.Conc
local instance zm_1:Lone:=zcG
noncomputable def yac:Code:=match Tryd.f16.body with | some c=>c | none=>.skip
noncomputable def wa0:Code:=seqL yac
noncomputable def ybc:Code:=seqR yac
noncomputable def wa1:Code:=seqL (seqL ybc)
noncomputable def wa2:Code:=match seqR (seqL ybc) with | .cond _ x _=>seqL x | c=>c
noncomputable def ybf:Code:=seqR ybc
noncomputable def wa3:Code:=seqL ybf
noncomputable def ybg:Code:=seqR ybf
noncomputable def wa4:Code:=seqL ybg
noncomputable def ybh:Code:=seqR ybg
noncomputable def wa5:Code:=seqL ybh
noncomputable def ybi:Code:=seqR ybh
noncomputable def wa6:Code:=seqL ybi
noncomputable def ybj:Code:=seqR ybi
noncomputable def wa7:Code:=seqL ybj
noncomputable def ybk:Code:=seqR ybj
noncomputable def wa8:Code:=seqL ybk
noncomputable def ybl:Code:=seqR ybk
noncomputable def wa9:Code:=seqL ybl
noncomputable def ybm:Code:=seqR ybl
noncomputable def ydp:Code:=seqL ybm
noncomputable def yaj:Code:=seqR ybm
noncomputable def ydq:Code:=seqL yaj
noncomputable def yak:Code:=seqR yaj
noncomputable def ydr:Code:=seqL yak
noncomputable def yal:Code:=seqR yak
noncomputable def ydl:Code:=seqL yal
noncomputable def yam:Code:=seqR yal
noncomputable def yds:Code:=seqL yam
noncomputable def yan:Code:=seqR yam
noncomputable def ydt:Code:=seqL yan
noncomputable def yao:Code:=seqR yan
noncomputable def ydu:Code:=seqL yao
noncomputable def yap:Code:=seqR yao
noncomputable def ydv:Code:=seqL yap
noncomputable def yaq:Code:=seqR yap
noncomputable def ydm:Code:=seqL yaq
theorem ycr:yac=.seq wa0 (.seq (.seq wa1 (.cond (.tmp 52) (.seq wa2 .ret) .skip)) (.seq wa3 (.seq wa4 (.seq wa5 (.seq wa6 (.seq wa7 (.seq wa8 (.seq wa9 (.seq ydp (.seq ydq (.seq ydr (.seq ydl (.seq yds (.seq ydt (.seq ydu (.seq ydv (.seq ydm .ret))))))))))))))))):=by kernel_rfl
theorem ycs:Tryd.f16.body=some yac:=by kernel_rfl
noncomputable def opwa2:Array Oper:=opsOf wa2
theorem ydf:wa2=.region 2 opwa2 false:=by kernel_rfl
noncomputable def opwa38:Array Oper:=opsOf ydm
theorem ydd:ydm=.region 38 opwa38 false:=by kernel_rfl
def yd1 (d:Dit) (r:zaR) (x y z ot pr:Int) (pv:Value) (W:World) (t:Array Value) (W2:World):Prop :=
 Old W W2∧(zaF d=0∧d.Small∧¬ (d.holders.length:Int)=0)∧∃ (B:Nat) (v39 v40 v41 v42 v43 v44 v45 v46 v47 v48 v49 v50 v51 v52:Value),t=#[d.val r,.int .u8 x,.int .u32 y,.int .u32 z,.int .u8 ot,.int .u16 pr,pv,.pointer (some ⟨B,0,none⟩),zu,zu,zu,zu,zu,zu,.bool false,zu,zu,zu,zu,zu,zu,zu,zu,zu,zu,zu,zu,zu,zu,zu,zu,zu,zu,zu,zu,zu,zu,zu,zu,v39,v40,v41,v42,v43,v44,v45,v46,v47,v48,v49,v50,v51,v52,zu,zu,zu,zu,zu,zu,zu,zu,zu,zu,zu,zu,zu,zu,zu,zu,zu,zu,zu,zu,zu,zu,zu,zu,zu,zu,zu,zu,zu,zu,zu,zu,zu,zu,zu,zu,zu,zu,zu,zu,zu,zu,zu,zu,zu,zu,zu,zu,zu,zu,zu,zu,zu,zu,zu,zu,zu,zu,zu,zu,zu,zu,zu,zu,zu,zu,zu,zu,zu,zu,zu,zu,zu,zu,zu,zu,zu,zu,zu,zu,zu,zu,zu,zu,zu,zu,zu,zu,zu,zu,zu,zu,zu,zu,zu,zu,zu,zu,zu,zu,zu,zu,zu,zu,zu,zu,zu,zu,zu,zu,zu,zu,zu,zu,zu,zu,zu,zu,zu,zu,zu,zu,zu,zu,zu,zu,zu,zu,zu,zu,zu,zu,zu,zu,zu,zu,zu,zu,zu,zu,zu,zu,zu,zu,zu,zu,zu,zu,zu,zu,zu,zu,zu,zu,zu,zu,zu,zu,zu,zu,zu,zu,zu,zu,zu,zu,zu,zu,zu,zu,zu,zu,zu,zu,zu,zu,zu,zu,zu,zu,zu,zu,zu,zu,zu,zu,zu,zu,zu,zu,zu,zu,zu,zu,zu,zu,zu,zu,zu,zu,zu]∧B<W2.heap.size∧(∀ i v,(d.cellsA r)[i]?=some v→W2.cell? ⟨B,i,none⟩=some v)
theorem yb0 (d:Dit) (r:zaR) (x y z ot pr:Int) (pv:Value) (W:World) (hd:DitSl W d r) (hb:d.Big) (hg:Glob W) :
  zo0 Tryd.prog (FG 16) [wa0,wa1] (fun t W1=>Old W W1∧t.size=254∧(t[52]?=some (.bool true)∨(t[52]?=some (.bool false)∧yd1 d r x y z ot pr pv W t W1)))
   #[d.val r,.int .u8 x,.int .u32 y,.int .u32 z,.int .u8 ot,.int .u16 pr,pv,zu,zu,zu,zu,zu,zu,zu,zu,zu,zu,zu,zu,zu,zu,zu,zu,zu,zu,zu,zu,zu,zu,zu,zu,zu,zu,zu,zu,zu,zu,zu,zu,zu,zu,zu,zu,zu,zu,zu,zu,zu,zu,zu,zu,zu,zu,zu,zu,zu,zu,zu,zu,zu,zu,zu,zu,zu,zu,zu,zu,zu,zu,zu,zu,zu,zu,zu,zu,zu,zu,zu,zu,zu,zu,zu,zu,zu,zu,zu,zu,zu,zu,zu,zu,zu,zu,zu,zu,zu,zu,zu,zu,zu,zu,zu,zu,zu,zu,zu,zu,zu,zu,zu,zu,zu,zu,zu,zu,zu,zu,zu,zu,zu,zu,zu,zu,zu,zu,zu,zu,zu,zu,zu,zu,zu,zu,zu,zu,zu,zu,zu,zu,zu,zu,zu,zu,zu,zu,zu,zu,zu,zu,zu,zu,zu,zu,zu,zu,zu,zu,zu,zu,zu,zu,zu,zu,zu,zu,zu,zu,zu,zu,zu,zu,zu,zu,zu,zu,zu,zu,zu,zu,zu,zu,zu,zu,zu,zu,zu,zu,zu,zu,zu,zu,zu,zu,zu,zu,zu,zu,zu,zu,zu,zu,zu,zu,zu,zu,zu,zu,zu,zu,zu,zu,zu,zu,zu,zu,zu,zu,zu,zu,zu,zu,zu,zu,zu,zu,zu,zu,zu,zu,zu,zu,zu,zu,zu,zu,zu,zu,zu,zu,zu,zu,zu,zu,zu,zu,zu,zu,zu,zu,zu,zu,zu,zu,zu] W:=by
 intro τ
 generalize hw0:({ W with tape:=τ }:World)=w0
 have hO0:Old W w0:=by rw [← hw0];exact .same rfl
 clear hw0
 generalize hY:w0.alloc (.cells (d.cellsA r) 31)=Y
 have nY:Nx w0 Y:=by rw [← hY];exact zaG (Below.refl _ _) _
 have oY:Old w0 Y:=.nx nY
 have g1:Y.heap[w0.heap.size]?=some (.cells (d.cellsA r) 31 (0,0)):=by rw [← hY];exact heap_alloc_new _ _
 have sY:Y.heap.size=w0.heap.size+1:=by rw [← hY];simp
 have hcd:d.cellsA r=#[r.h,r.t,num d.begin_,num d.week,num d.from_,num d.long,r.f,r.s,r.l,num d.flow.1,num d.flow.2,num d.loss.1,num d.loss.2,r.p]:=rfl
 rw [hcd] at hY
 simp only [wa0,yac,seqL,seqR,Tryd.f16]
 gi_wp2
 clear hcd hY
 intro τ1
 generalize hw1:({ Y with tape:=τ1 }:World)=w1
 have h1:w1.heap=Y.heap:=by rw [← hw1]
 clear hw1
 have hOw:Old W w1:=hO0.trans (oY.trans (.same h1))
 have cell0:∀ (b:Nat) (cs:Array Value) (T:TypeId),Y.heap[b]?=some (.cells cs T (0,0))→∀ w2,Old w1 w2→∀ i v,cs[i]?=some v→w2.cell? ⟨b,i,none⟩=some v:=fun b cs T hb w2 o i v hv=>by
  have hl:=(Array.getElem?_eq_some_iff.1 hb).1
  rw [o.cell ⟨b,i,none⟩ (by rw [h1];exact hl)]
  unfold World.cell?
  dsimp only
  rw [h1,hb]
  exact hv
 have CO:=Lib.hid (cell0 _ _ _ g1)
 have hBl:w0.heap.size+1≤w1.heap.size:=by rw [h1];omega
 clear cell0 g1 sY oY nY h1
 have k19:=toFG 16 (m:=0) (zlS d r 0 0 (.slice none 0 0) [] w1 (hd.old hOw) hb ⟨0,.inl ⟨rfl,rfl⟩⟩ (Nat.zero_le _))
 obtain⟨ah,caph,eh⟩:=hd.holders.cases
 rw [List.length_map] at eh
 have CH:=Lib.hid (show ∀ w2,Old w1 w2→w2.cell? ⟨w0.heap.size,0,none⟩=some (.slice ah d.holders.length caph) from fun w2 o=>(CO.out w2 o 0 r.h rfl).trans (by rw [eh]))
 have HD:=Lib.hid hd
 have HG:=Lib.hid hg
 clear hd hg eh
 obtain⟨c0,c1,c2,c3,c4,c5,c6,c7,c8,c9,c10,c11,c12,c13⟩:=zaS (CO.out w1 (Old.refl _))
 simp only [wa1,yaq,yap,yao,yan,yam,yal,yak,yaj,ybm,ybl,ybk,ybj,ybi,ybh,ybg,ybf,ybc,yac,seqL,seqR,Tryd.f16]
 cases hgr:zbG d 0 with
 | true =>
  rw [show ([]:List (List Value)).length=0 from rfl,hgr] at k19
  gi_wp2_with (first
   | (gi_at_call 19;refine CallsIn.mono k19 ?_;rintro e w2 ⟨rfl,x2⟩)
   | gi_in)
  first | exact⟨hOw.trans (.nx x2),rfl,.inl rfl⟩ | exact⟨hOw.trans (.nx x2),rfl,rfl⟩
 | false =>
 rw [show ([]:List (List Value)).length=0 from rfl,hgr] at k19
 have hs:=zgU hgr
 have k25:=Lib.hid (fun w2 (o:Old w1 w2)=>toFG 16 (m:=0) (zgI d r w2 (HD.out.old (hOw.trans o)) hs))
 clear hgr
 rcases (Decidable.em (zaF d=0)).symm with hc | hc
 ·have b1:(zaF d != 0)=true:=by simpa using hc
  generalize zaF d=g at *
  gi_wp2_with (first
   | (gi_at_call 19;refine CallsIn.mono k19 ?_;rintro e w2 ⟨rfl,x2⟩;clear c0 c1 c2 c3 c4 c5 c6 c7 c8 c9 c10 c11 c12 c13;obtain⟨c0,c1,c2,c3,c4,c5,c6,c7,c8,c9,c10,c11,c12,c13⟩:=zaS (CO.out w2 (.nx x2));have kk:=k25.out w2 (.nx x2))
   | (gi_at_call 25;refine CallsIn.mono kk ?_;rintro e w3 ⟨rfl,x3⟩)
   | gi_in)
  first | exact⟨hOw.trans (.trans (.nx x2) (.nx x3)),rfl,.inl rfl⟩ | exact⟨hOw.trans (.trans (.nx x2) (.nx x3)),rfl,rfl⟩
 have HC:=Lib.hid hc
 rw [hc] at k25
 clear hc
 by_cases hn:(d.holders.length:Int)=0
 ·have b1:((d.holders.length:Int) == 0)=true:=by simpa using hn
  gi_wp2_with (first
   | (gi_at_call 19;refine CallsIn.mono k19 ?_;rintro e w2 ⟨rfl,x2⟩;clear c0 c1 c2 c3 c4 c5 c6 c7 c8 c9 c10 c11 c12 c13;obtain⟨c0,c1,c2,c3,c4,c5,c6,c7,c8,c9,c10,c11,c12,c13⟩:=zaS (CO.out w2 (.nx x2));have kk:=k25.out w2 (.nx x2))
   | (gi_at_call 25;refine CallsIn.mono kk ?_;rintro e w3 ⟨rfl,x3⟩;clear c0 c1 c2 c3 c4 c5 c6 c7 c8 c9 c10 c11 c12 c13;have c0:=CH.out w3 (.trans (.nx x2) (.nx x3)))
   | gi_in)
  first | exact⟨hOw.trans (.trans (.nx x2) (.nx x3)),rfl,.inl rfl⟩ | exact⟨hOw.trans (.trans (.nx x2) (.nx x3)),rfl,rfl⟩
 have b1:((d.holders.length:Int) == 0)=false:=by simpa using hn
 have HNN:=Lib.hid hn
 gi_wp2_with (first
  | (gi_at_call 19;refine CallsIn.mono k19 ?_;rintro e w2 ⟨rfl,x2⟩;clear c0 c1 c2 c3 c4 c5 c6 c7 c8 c9 c10 c11 c12 c13;obtain⟨c0,c1,c2,c3,c4,c5,c6,c7,c8,c9,c10,c11,c12,c13⟩:=zaS (CO.out w2 (.nx x2));have kk:=k25.out w2 (.nx x2))
  | (gi_at_call 25;refine CallsIn.mono kk ?_;rintro e w3 ⟨rfl,x3⟩;clear c0 c1 c2 c3 c4 c5 c6 c7 c8 c9 c10 c11 c12 c13;have c0:=CH.out w3 (.trans (.nx x2) (.nx x3)))
  | gi_in)
 have oB2:Old w1 w3:=.trans (.nx x2) (.nx x3)
 refine⟨hOw.trans oB2,rfl,.inr ⟨rfl,hOw.trans oB2,⟨HC.out,hs,HNN.out⟩,?_⟩⟩
 exact⟨w0.heap.size,_,_,_,_,_,_,_,_,_,_,_,_,_,_,rfl,by have:=oB2.size;omega,CO.out w3 oB2⟩
end Go.Proofs.YtolholkjeehamaaDoor
namespace Go.Proofs.YtolholkjeehamaaDoor
open Go.RowKit Go.Con Go.Conc
local instance zm_2:Lone:=zcG
noncomputable def waB:Code:=match seqR ydl with | .block _ (.loop b)=>b | c=>c
noncomputable def waC:Code:=match seqL (seqR waB) with | .block _ c=>c | c=>c
noncomputable def wr18:Code:=seqL waC
noncomputable def wr19:Code:=seqL (seqR waC)
noncomputable def waD:Code:=match seqR (seqL (seqR (seqR waC))) with | .block _ (.loop b)=>b | c=>c
noncomputable def wr23:Code:=match seqL (seqR waD) with | .block _ c=>c | c=>c
noncomputable def wr24:Code:=seqL (seqR (seqR (seqR waC)))
noncomputable def ydw:Array Oper:=match wr18 with | .region _ ops _=>ops | _=>#[]
theorem yc3:wr18=.region 18 ydw true:=by kernel_rfl
noncomputable def ydx:Array Oper:=match wr19 with | .region _ ops _=>ops | _=>#[]
theorem yc4:wr19=.region 19 ydx true:=by kernel_rfl
noncomputable def ydy:Array Oper:=match wr23 with | .region _ ops _=>ops | _=>#[]
theorem yc5:wr23=.region 23 ydy true:=by kernel_rfl
noncomputable def ydz:Array Oper:=match wr24 with | .region _ ops _=>ops | _=>#[]
theorem yc6:wr24=.region 24 ydz true:=by kernel_rfl
theorem ydg {v0 v1 v2 v3 v4 v5 v14 v15 v16 v17 v18 v19 v20 v21 v22 v23 v24 v25 v26 v27 v28 v29 v30 v31 v32 v33 v39 v40 v41 v42 v43 v44 v45 v46 v47 v48 v49 v50 v51 v52 v54 v55 v56 v57 v58 v59 v60 v61 v62 v63 v64 v65 v66 v67 v68 v69 v70 v71 v72 v73 v74 v75 v76 v77 v78 v79 v80 v81 v82 v83 v84 v85 v86 v87 v88 v89 v90 v91 v92 v93 v94 v95 v96 v97 v98 v99 v100 v101 v102 v103 v104 v105 v106 v107 v108 v109 v110 v111 v112 v113 v114 v115 v116 v117 v118 v119 v120 v121 v122 v123 v124 v125 v126 v127 v128 v129 v130 v131 v132 v133 v134 v135 v136 v137 v138 v139 v140 v141 v142 v143 v144 v145 v146 v147 v148 v149 v150 v151 v152 v153 v154 v155 v156 v157 v158 v159 v160 v161 v162 v163 v164 v165 v166 v167 v168 v169 v170 v171 v172 v173 v174 v175 v176 v177 v178 v179 v180 v181 v182 v183 v184 v185 v186:Value} (pv:Value) (lo hi:Int) (B:Nat) (W5 wr:World) (oR:Hp W5 wr) (C0:Hid (∀ w2,Hp W5 w2→w2.cell? ⟨B,9,none⟩=some (num lo))) (C1:Hid (∀ w2,Hp W5 w2→w2.cell? ⟨B,10,none⟩=some (num hi))) (KP:Hid (∀ u,Hp W5 u→∀ k:Int,0≤k→k≤1000→CallsIn (FG 16) 0 Tryd.prog 48 #[pv,num k] u fun e w'=>∃ z:Int,e=Ending.returned (num z)∧(0≤z∧z≤65535)∧Nx u w')) (KO:Hid (∀ u z,Hp W5 u→(0≤z∧z≤65535)→CallsIn (FG 16) 0 Tryd.prog 28 #[.agg #[num lo,num hi],num z] u fun e w'=>∃ y:Int,e=Ending.returned (num y)∧(lo≤y∧y≤hi)∧Nx u w')) :
  wr19.wpIn (FG 16) 0 Tryd.prog (fun e a w'=>e=.normal∧a.defers=[]∧∃ z y:Int,(lo≤y∧y≤hi)∧a.tmps=#[v0,v1,v2,v3,v4,v5,pv,.pointer (some ⟨B,0,none⟩),zu,zu,zu,zu,zu,zu,v14,v15,v16,v17,v18,v19,v20,v21,v22,v23,v24,v25,v26,v27,v28,v29,v30,num y,v32,v33,zu,zu,zu,zu,zu,v39,v40,v41,v42,v43,v44,v45,v46,v47,v48,v49,v50,v51,v52,zu,v54,v55,v56,v57,v58,v59,v60,v61,v62,v63,v64,v65,v66,v67,v68,v69,v70,v71,v72,v73,v74,v75,v76,v77,v78,v79,v80,v81,v82,v83,v84,v85,v86,v87,v88,v89,v90,v91,v92,v93,v94,v95,v96,v97,v98,v99,v100,v101,v102,v103,v104,v105,v106,v107,v108,v109,v110,v111,v112,v113,v114,v115,v116,v117,v118,v119,v120,v121,v122,v123,v124,v125,v126,v127,v128,v129,v130,v131,v132,v133,v134,v135,v136,v137,v138,v139,v140,v141,v142,v143,v144,.pointer (some ⟨B,9,none⟩),.agg #[num lo,num hi],pv,num z,num y,v150,v151,v152,v153,v154,v155,v156,v157,v158,v159,v160,v161,v162,v163,v164,v165,v166,v167,v168,v169,v170,v171,v172,v173,v174,v175,v176,v177,v178,v179,v180,v181,v182,v183,v184,v185,v186,zu,zu,zu,zu,zu,zu,zu,zu,zu,zu,zu,zu,zu,zu,zu,zu,zu,zu,zu,zu,zu,zu,zu,zu,zu,zu,zu,zu,zu,zu,zu,zu,zu,zu,zu,zu,zu,zu,zu,zu,zu,zu,zu,zu,zu,zu,zu,zu,zu,zu,zu,zu,zu,zu,zu,zu,zu,zu,zu,zu,zu,zu,zu,zu,zu,zu,zu]∧Hp W5 w') ⟨#[v0,v1,v2,v3,v4,v5,pv,.pointer (some ⟨B,0,none⟩),zu,zu,zu,zu,zu,zu,v14,v15,v16,v17,v18,v19,v20,v21,v22,v23,v24,v25,v26,v27,v28,v29,v30,v31,v32,v33,zu,zu,zu,zu,zu,v39,v40,v41,v42,v43,v44,v45,v46,v47,v48,v49,v50,v51,v52,zu,v54,v55,v56,v57,v58,v59,v60,v61,v62,v63,v64,v65,v66,v67,v68,v69,v70,v71,v72,v73,v74,v75,v76,v77,v78,v79,v80,v81,v82,v83,v84,v85,v86,v87,v88,v89,v90,v91,v92,v93,v94,v95,v96,v97,v98,v99,v100,v101,v102,v103,v104,v105,v106,v107,v108,v109,v110,v111,v112,v113,v114,v115,v116,v117,v118,v119,v120,v121,v122,v123,v124,v125,v126,v127,v128,v129,v130,v131,v132,v133,v134,v135,v136,v137,v138,v139,v140,v141,v142,v143,v144,v145,v146,v147,v148,v149,v150,v151,v152,v153,v154,v155,v156,v157,v158,v159,v160,v161,v162,v163,v164,v165,v166,v167,v168,v169,v170,v171,v172,v173,v174,v175,v176,v177,v178,v179,v180,v181,v182,v183,v184,v185,v186,zu,zu,zu,zu,zu,zu,zu,zu,zu,zu,zu,zu,zu,zu,zu,zu,zu,zu,zu,zu,zu,zu,zu,zu,zu,zu,zu,zu,zu,zu,zu,zu,zu,zu,zu,zu,zu,zu,zu,zu,zu,zu,zu,zu,zu,zu,zu,zu,zu,zu,zu,zu,zu,zu,zu,zu,zu,zu,zu,zu,zu,zu,zu,zu,zu,zu,zu],[]⟩ wr:=by
 rw [yc4]
 have oD:Hp W5 wr.drew:=oR.trans (.nx (Below.drew (Below.refl _ _)))
 refine zbg (fun x=>Hp W5 x) (by kernel_rfl) ?_
 change wpAnyC _ _ _ _ _ _ _ 6 #[false,false,false,false,false,false] _ _
 refine zah (i:=0) (oi:=⟨some 145,.fieldAddr 31 (.tmp 7) 9,_,_,_,none⟩) (v:=.pointer (some ⟨B,9,none⟩)) (zaj (by kernel_rfl)) rfl (by kernel_rfl) (by kernel_rfl) (by kernel_rfl) (fun _ _ _ h=>by cases h.1) (yC rfl (fun _=>rfl) fun x hx=>by clear KP KO oD oR C0 C1;simp [execOp,go_sem]) ?_
 simp only [Act.put,List.setIfInBounds_toArray,List.set_cons_succ,List.set_cons_zero]
 refine zah (i:=1) (oi:=⟨some 146,.load 28 (.tmp 145),_,_,_,none⟩) (v:=.agg #[num lo,num hi]) (zaj (by kernel_rfl)) rfl (by kernel_rfl) (by kernel_rfl) (by kernel_rfl) (fun _ _ _ h=>by cases h.1) (yC rfl (fun _=>rfl) fun x hx=>by have e0:=C0.out x hx;have e1:=C1.out x hx;clear KP KO oD oR C0 C1;simp [execOp,go_sem,e0,e1]) ?_
 simp only [Act.put,List.setIfInBounds_toArray,List.set_cons_succ,List.set_cons_zero]
 refine zah (i:=2) (oi:=⟨some 147,.move (.tmp 6),_,_,_,none⟩) (v:=pv) (zaj (by kernel_rfl)) rfl (by kernel_rfl) (by kernel_rfl) (by kernel_rfl) (fun _ _ _ h=>by cases h.1) (zaN rfl) ?_
 simp only [Act.put,List.setIfInBounds_toArray,List.set_cons_succ,List.set_cons_zero]
 refine zau (i:=3) (o:=⟨some 148,.call { callee:=.value (.func 48),args:=#[.tmp 147,.const (.int .i64 0)],argTypes:=#[86,3] },_,_,_,none⟩) (by kernel_rfl) rfl rfl (oD) ?_
 intro K hK
 go_simp
 refine CallsIn.mono (((KP.out _ (oD) (0) (by omega) (by omega)).mono fun e w' ⟨z,p,hz,q⟩=>(⟨z,p,hz,Hp.trans (oD) (.nx q)⟩:∃ z:Int,e=Ending.returned (num z)∧(0≤z∧z≤65535)∧Hp W5 w'))) ?_
 rintro e v3_ ⟨z,rfl,hz,y3⟩
 refine hK _ _ ?_
 refine zau (i:=4) (o:=⟨some 149,.call { callee:=.value (.func 28),args:=#[.tmp 146,.tmp 148],argTypes:=#[28,3] },_,_,_,none⟩) (by kernel_rfl) rfl rfl (y3) ?_
 intro K hK
 go_simp
 refine CallsIn.mono (((KO.out _ z (y3) hz).mono fun e w' ⟨z,p,hz,q⟩=>(⟨z,p,hz,Hp.trans (y3) (.nx q)⟩:∃ y:Int,e=Ending.returned (num y)∧(lo≤y∧y≤hi)∧Hp W5 w'))) ?_
 rintro e v4_ ⟨y,rfl,hy,y4⟩
 refine hK _ _ ?_
 refine zah (i:=5) (oi:=⟨some 31,.assign (.tmp 149),_,_,_,none⟩) (v:=num y) (zaj (by kernel_rfl)) rfl (by kernel_rfl) (by kernel_rfl) (by kernel_rfl) (fun _ _ _ h=>by cases h.1) (zdN rfl) ?_
 simp only [Act.put,List.setIfInBounds_toArray,List.set_cons_succ,List.set_cons_zero]
 refine zbk (by kernel_rfl) (y4) ?_
 exact⟨rfl,rfl,z,y,hy,rfl,y4⟩
theorem ydh {v0 v1 v2 v3 v4 v5 v14 v15 v16 v17 v18 v19 v20 v21 v22 v23 v24 v25 v26 v27 v28 v29 v30 v33 v39 v40 v41 v42 v43 v44 v45 v46 v47 v48 v49 v50 v51 v52 v54 v55 v56 v57 v58 v59 v60 v61 v62 v63 v64 v65 v66 v67 v68 v69 v70 v71 v72 v73 v74 v75 v76 v77 v78 v79 v80 v81 v82 v83 v84 v85 v86 v87 v88 v89 v90 v91 v92 v93 v94 v95 v96 v97 v98 v99 v100 v101 v102 v103 v104 v105 v106 v107 v108 v109 v110 v111 v112 v113 v114 v115 v116 v117 v118 v119 v120 v121 v122 v123 v124 v125 v126 v127 v128 v129 v130 v131 v132 v133 v134 v135 v136 v137 v138 v139 v140 v141 v142 v143 v144 v145 v146 v147 v148 v149 v150 v151 v152 v153 v154 v155 v156 v157 v158 v159 v160 v161 v162 v163 v164 v165 v166 v167 v168 v169 v170 v171 v172 v173 v174 v175 v176 v177 v178 v179 v180 v181 v182 v183 v184 v185 v186:Value} (pv:Value) (lo hi n g:Int) (B:Nat) (W5 wr:World) (oR:Hp W5 wr) (hn:0≤n∧n≤100000) (hl:0≤lo∧hi≤1000) (hgg:0≤g∧g≤20) (C0:Hid (∀ w2,Hp W5 w2→w2.cell? ⟨B,11,none⟩=some (num lo))) (C1:Hid (∀ w2,Hp W5 w2→w2.cell? ⟨B,12,none⟩=some (num hi))) (KP:Hid (∀ u,Hp W5 u→∀ k:Int,0≤k→k≤1000→CallsIn (FG 16) 0 Tryd.prog 48 #[pv,num k] u fun e w'=>∃ z:Int,e=Ending.returned (num z)∧(0≤z∧z≤65535)∧Nx u w')) (KO:Hid (∀ u z,Hp W5 u→(0≤z∧z≤65535)→CallsIn (FG 16) 0 Tryd.prog 28 #[.agg #[num lo,num hi],num z] u fun e w'=>∃ y:Int,e=Ending.returned (num y)∧(lo≤y∧y≤hi)∧Nx u w')) :
  wr23.wpIn (FG 16) 0 Tryd.prog (fun e a w'=>e=.normal∧a.defers=[]∧∃ z y:Int,(lo≤y∧y≤hi)∧a.tmps=#[v0,v1,v2,v3,v4,v5,pv,.pointer (some ⟨B,0,none⟩),zu,zu,zu,zu,zu,zu,v14,v15,v16,v17,v18,v19,v20,v21,v22,v23,v24,v25,v26,v27,v28,v29,v30,num (n-(n * y).tdiv 1000),num g,v33,zu,zu,zu,zu,zu,v39,v40,v41,v42,v43,v44,v45,v46,v47,v48,v49,v50,v51,v52,zu,v54,v55,v56,v57,v58,v59,v60,v61,v62,v63,v64,v65,v66,v67,v68,v69,v70,v71,v72,v73,v74,v75,v76,v77,v78,v79,v80,v81,v82,v83,v84,v85,v86,v87,v88,v89,v90,v91,v92,v93,v94,v95,v96,v97,v98,v99,v100,v101,v102,v103,v104,v105,v106,v107,v108,v109,v110,v111,v112,v113,v114,v115,v116,v117,v118,v119,v120,v121,v122,v123,v124,v125,v126,v127,v128,v129,v130,v131,v132,v133,v134,v135,v136,v137,v138,v139,v140,v141,v142,v143,v144,v145,v146,v147,v148,v149,v150,v151,v152,v153,v154,v155,num n,num n,.pointer (some ⟨B,11,none⟩),.agg #[num lo,num hi],pv,num g,num (1+g),num z,num y,num (n * y),num ((n * y).tdiv 1000),num (n-(n * y).tdiv 1000),v168,v169,v170,v171,v172,v173,v174,v175,v176,v177,v178,v179,v180,v181,v182,v183,v184,v185,v186,zu,zu,zu,zu,zu,zu,zu,zu,zu,zu,zu,zu,zu,zu,zu,zu,zu,zu,zu,zu,zu,zu,zu,zu,zu,zu,zu,zu,zu,zu,zu,zu,zu,zu,zu,zu,zu,zu,zu,zu,zu,zu,zu,zu,zu,zu,zu,zu,zu,zu,zu,zu,zu,zu,zu,zu,zu,zu,zu,zu,zu,zu,zu,zu,zu,zu,zu]∧Hp W5 w') ⟨#[v0,v1,v2,v3,v4,v5,pv,.pointer (some ⟨B,0,none⟩),zu,zu,zu,zu,zu,zu,v14,v15,v16,v17,v18,v19,v20,v21,v22,v23,v24,v25,v26,v27,v28,v29,v30,num n,num g,v33,zu,zu,zu,zu,zu,v39,v40,v41,v42,v43,v44,v45,v46,v47,v48,v49,v50,v51,v52,zu,v54,v55,v56,v57,v58,v59,v60,v61,v62,v63,v64,v65,v66,v67,v68,v69,v70,v71,v72,v73,v74,v75,v76,v77,v78,v79,v80,v81,v82,v83,v84,v85,v86,v87,v88,v89,v90,v91,v92,v93,v94,v95,v96,v97,v98,v99,v100,v101,v102,v103,v104,v105,v106,v107,v108,v109,v110,v111,v112,v113,v114,v115,v116,v117,v118,v119,v120,v121,v122,v123,v124,v125,v126,v127,v128,v129,v130,v131,v132,v133,v134,v135,v136,v137,v138,v139,v140,v141,v142,v143,v144,v145,v146,v147,v148,v149,v150,v151,v152,v153,v154,v155,v156,v157,v158,v159,v160,v161,v162,v163,v164,v165,v166,v167,v168,v169,v170,v171,v172,v173,v174,v175,v176,v177,v178,v179,v180,v181,v182,v183,v184,v185,v186,zu,zu,zu,zu,zu,zu,zu,zu,zu,zu,zu,zu,zu,zu,zu,zu,zu,zu,zu,zu,zu,zu,zu,zu,zu,zu,zu,zu,zu,zu,zu,zu,zu,zu,zu,zu,zu,zu,zu,zu,zu,zu,zu,zu,zu,zu,zu,zu,zu,zu,zu,zu,zu,zu,zu,zu,zu,zu,zu,zu,zu,zu,zu,zu,zu,zu,zu],[]⟩ wr:=by
 rw [yc5]
 have oD:Hp W5 wr.drew:=oR.trans (.nx (Below.drew (Below.refl _ _)))
 refine zbg (fun x=>Hp W5 x) (by kernel_rfl) ?_
 change wpAnyC _ _ _ _ _ _ _ 13 #[false,false,false,false,false,false,false,false,false,false,false,false,false] _ _
 refine zah (i:=0) (oi:=⟨some 156,.move (.tmp 31),_,_,_,none⟩) (v:=num n) (zaj (by kernel_rfl)) rfl (by kernel_rfl) (by kernel_rfl) (by kernel_rfl) (fun _ _ _ h=>by cases h.1) (zaN rfl) ?_
 simp only [Act.put,List.setIfInBounds_toArray,List.set_cons_succ,List.set_cons_zero]
 refine zah (i:=1) (oi:=⟨some 157,.move (.tmp 31),_,_,_,none⟩) (v:=num n) (zaj (by kernel_rfl)) rfl (by kernel_rfl) (by kernel_rfl) (by kernel_rfl) (fun _ _ _ h=>by cases h.1) (zaN rfl) ?_
 simp only [Act.put,List.setIfInBounds_toArray,List.set_cons_succ,List.set_cons_zero]
 refine zah (i:=2) (oi:=⟨some 158,.fieldAddr 31 (.tmp 7) 10,_,_,_,none⟩) (v:=.pointer (some ⟨B,11,none⟩)) (zaj (by kernel_rfl)) rfl (by kernel_rfl) (by kernel_rfl) (by kernel_rfl) (fun _ _ _ h=>by cases h.1) (yC rfl (fun _=>rfl) fun x hx=>by clear KP KO oD oR C0 C1;simp [execOp,go_sem]) ?_
 simp only [Act.put,List.setIfInBounds_toArray,List.set_cons_succ,List.set_cons_zero]
 refine zah (i:=3) (oi:=⟨some 159,.load 28 (.tmp 158),_,_,_,none⟩) (v:=.agg #[num lo,num hi]) (zaj (by kernel_rfl)) rfl (by kernel_rfl) (by kernel_rfl) (by kernel_rfl) (fun _ _ _ h=>by cases h.1) (yC rfl (fun _=>rfl) fun x hx=>by have e0:=C0.out x hx;have e1:=C1.out x hx;clear KP KO oD oR C0 C1;simp [execOp,go_sem,e0,e1]) ?_
 simp only [Act.put,List.setIfInBounds_toArray,List.set_cons_succ,List.set_cons_zero]
 refine zah (i:=4) (oi:=⟨some 160,.move (.tmp 6),_,_,_,none⟩) (v:=pv) (zaj (by kernel_rfl)) rfl (by kernel_rfl) (by kernel_rfl) (by kernel_rfl) (fun _ _ _ h=>by cases h.1) (zaN rfl) ?_
 simp only [Act.put,List.setIfInBounds_toArray,List.set_cons_succ,List.set_cons_zero]
 refine zah (i:=5) (oi:=⟨some 161,.move (.tmp 32),_,_,_,none⟩) (v:=num g) (zaj (by kernel_rfl)) rfl (by kernel_rfl) (by kernel_rfl) (by kernel_rfl) (fun _ _ _ h=>by cases h.1) (zaN rfl) ?_
 simp only [Act.put,List.setIfInBounds_toArray,List.set_cons_succ,List.set_cons_zero]
 refine zah (i:=6) (oi:=⟨some 162,.binOp .add 3 (.const (.int .i64 1)) (.tmp 161) 3,_,_,_,none⟩) (v:=num (1+g)) (zaj (by kernel_rfl)) rfl (by kernel_rfl) (by kernel_rfl) (by kernel_rfl) (fun _ _ _ h=>by cases h.1) (yC rfl (fun _=>rfl) fun x hx=>by clear KP KO oD oR C0 C1;simp [execOp,go_sem];exact IntWalk.i64_in _ (by omega)) ?_
 simp only [Act.put,List.setIfInBounds_toArray,List.set_cons_succ,List.set_cons_zero]
 refine zau (i:=7) (o:=⟨some 163,.call { callee:=.value (.func 48),args:=#[.tmp 160,.tmp 162],argTypes:=#[86,3] },_,_,_,none⟩) (by kernel_rfl) rfl rfl (oD) ?_
 intro K hK
 go_simp
 refine CallsIn.mono (((KP.out _ (oD) ((1+g)) (by omega) (by omega)).mono fun e w' ⟨z,p,hz,q⟩=>(⟨z,p,hz,Hp.trans (oD) (.nx q)⟩:∃ z:Int,e=Ending.returned (num z)∧(0≤z∧z≤65535)∧Hp W5 w'))) ?_
 rintro e v7_ ⟨z,rfl,hz,y7⟩
 refine hK _ _ ?_
 refine zau (i:=8) (o:=⟨some 164,.call { callee:=.value (.func 28),args:=#[.tmp 159,.tmp 163],argTypes:=#[28,3] },_,_,_,none⟩) (by kernel_rfl) rfl rfl (y7) ?_
 intro K hK
 go_simp
 refine CallsIn.mono (((KO.out _ z (y7) hz).mono fun e w' ⟨z,p,hz,q⟩=>(⟨z,p,hz,Hp.trans (y7) (.nx q)⟩:∃ y:Int,e=Ending.returned (num y)∧(lo≤y∧y≤hi)∧Hp W5 w'))) ?_
 rintro e v8_ ⟨y,rfl,hy,y8⟩
 refine hK _ _ ?_
 refine zah (i:=9) (oi:=⟨some 165,.binOp .mul 3 (.tmp 157) (.tmp 164) 3,_,_,_,none⟩) (v:=num (n * y)) (zaj (by kernel_rfl)) rfl (by kernel_rfl) (by kernel_rfl) (by kernel_rfl) (fun _ _ _ h=>by cases h.1) (zqm rfl rfl (by have m1:=Int.mul_nonneg hn.1 (show 0≤y by omega);have m2:=Int.mul_le_mul hn.2 (show y≤1000 by omega) (show 0≤y by omega) (by omega);omega)) ?_
 simp only [Act.put,List.setIfInBounds_toArray,List.set_cons_succ,List.set_cons_zero]
 refine zah (i:=10) (oi:=⟨some 166,.binOp .quo 3 (.tmp 165) (.const (.int .i64 1000)) 3,_,_,_,none⟩) (v:=num ((n * y).tdiv 1000)) (zaj (by kernel_rfl)) rfl (by kernel_rfl) (by kernel_rfl) (by kernel_rfl) (fun _ _ _ h=>by cases h.1) (yC rfl (fun _=>rfl) fun x hx=>by clear KP KO oD oR C0 C1;have m1:=Int.mul_nonneg hn.1 (show 0≤y by omega);have m2:=Int.mul_le_mul hn.2 (show y≤1000 by omega) (show 0≤y by omega) (by omega);have m3:=Int.tdiv_eq_ediv_of_nonneg (b:=1000) m1;simp [execOp,go_sem];exact IntWalk.i64_in _ (by omega)) ?_
 simp only [Act.put,List.setIfInBounds_toArray,List.set_cons_succ,List.set_cons_zero]
 refine zah (i:=11) (oi:=⟨some 167,.binOp .sub 3 (.tmp 156) (.tmp 166) 3,_,_,_,none⟩) (v:=num (n-(n * y).tdiv 1000)) (zaj (by kernel_rfl)) rfl (by kernel_rfl) (by kernel_rfl) (by kernel_rfl) (fun _ _ _ h=>by cases h.1) (zeE rfl rfl (by have m1:=Int.mul_nonneg hn.1 (show 0≤y by omega);have m2:=Int.mul_le_mul hn.2 (show y≤1000 by omega) (show 0≤y by omega) (by omega);have m3:=Int.tdiv_eq_ediv_of_nonneg (b:=1000) m1;omega)) ?_
 simp only [Act.put,List.setIfInBounds_toArray,List.set_cons_succ,List.set_cons_zero]
 refine zah (i:=12) (oi:=⟨some 31,.assign (.tmp 167),_,_,_,none⟩) (v:=num (n-(n * y).tdiv 1000)) (zaj (by kernel_rfl)) rfl (by kernel_rfl) (by kernel_rfl) (by kernel_rfl) (fun _ _ _ h=>by cases h.1) (zdN rfl) ?_
 simp only [Act.put,List.setIfInBounds_toArray,List.set_cons_succ,List.set_cons_zero]
 refine zbk (by kernel_rfl) (y8) ?_
 exact⟨rfl,rfl,z,y,hy,rfl,y8⟩
theorem ydi {v0 v1 v2 v3 v4 v5 v7 v14 v15 v16 v17 v18 v19 v20 v21 v22 v23 v24 v25 v26 v27 v28 v31 v32 v33 v39 v40 v41 v42 v43 v44 v45 v46 v47 v48 v49 v50 v51 v52 v54 v55 v56 v57 v58 v59 v60 v61 v62 v63 v64 v65 v66 v67 v68 v69 v70 v71 v72 v73 v74 v75 v76 v77 v78 v79 v80 v81 v82 v83 v84 v85 v86 v87 v88 v89 v90 v91 v92 v93 v94 v95 v96 v97 v98 v99 v100 v101 v102 v103 v104 v105 v106 v107 v108 v109 v110 v111 v112 v113 v114 v115 v116 v117 v118 v119 v120 v121 v122 v123 v124 v125 v126 v127 v128 v129 v130 v131 v132 v133 v134 v135 v136 v137 v138 v139 v140 v141 v142 v143 v144 v145 v146 v147 v148 v149 v150 v151 v152 v153 v154 v155 v156 v157 v158 v159 v160 v161 v162 v163 v164 v165 v166 v167 v168 v169 v170 v171 v172 v173 v174 v175 v176 v177 v178 v179 v180 v181 v182 v183 v184 v185 v186:Value} (pv:Value) (lo hi g:Int) (P:Nat) (W5 wr:World) (oR:Hp W5 wr) (hgg:0≤g∧g≤20) (C0:Hid (∀ w2,Hp W5 w2→w2.cell? ⟨P,3,none⟩=some (num lo))) (C1:Hid (∀ w2,Hp W5 w2→w2.cell? ⟨P,4,none⟩=some (num hi))) (KP:Hid (∀ u,Hp W5 u→∀ k:Int,0≤k→k≤1000→CallsIn (FG 16) 0 Tryd.prog 48 #[pv,num k] u fun e w'=>∃ z:Int,e=Ending.returned (num z)∧(0≤z∧z≤65535)∧Nx u w')) (KO:Hid (∀ u z,Hp W5 u→(0≤z∧z≤65535)→CallsIn (FG 16) 0 Tryd.prog 28 #[.agg #[num lo,num hi],num z] u fun e w'=>∃ y:Int,e=Ending.returned (num y)∧(lo≤y∧y≤hi)∧Nx u w')) :
  wr24.wpIn (FG 16) 0 Tryd.prog (fun e a w'=>e=.normal∧a.defers=[]∧∃ z y:Int,(lo≤y∧y≤hi)∧a.tmps=#[v0,v1,v2,v3,v4,v5,pv,v7,zu,zu,zu,zu,zu,zu,v14,v15,v16,v17,v18,v19,v20,v21,v22,v23,v24,v25,v26,v27,v28,num g,.pointer (some ⟨P,0,none⟩),v31,v32,num y,zu,zu,zu,zu,zu,v39,v40,v41,v42,v43,v44,v45,v46,v47,v48,v49,v50,v51,v52,zu,v54,v55,v56,v57,v58,v59,v60,v61,v62,v63,v64,v65,v66,v67,v68,v69,v70,v71,v72,v73,v74,v75,v76,v77,v78,v79,v80,v81,v82,v83,v84,v85,v86,v87,v88,v89,v90,v91,v92,v93,v94,v95,v96,v97,v98,v99,v100,v101,v102,v103,v104,v105,v106,v107,v108,v109,v110,v111,v112,v113,v114,v115,v116,v117,v118,v119,v120,v121,v122,v123,v124,v125,v126,v127,v128,v129,v130,v131,v132,v133,v134,v135,v136,v137,v138,v139,v140,v141,v142,v143,v144,v145,v146,v147,v148,v149,v150,v151,v152,v153,v154,v155,v156,v157,v158,v159,v160,v161,v162,v163,v164,v165,v166,v167,.pointer (some ⟨P,3,none⟩),.agg #[num lo,num hi],pv,num g,num (25+g),num z,num y,v175,v176,v177,v178,v179,v180,v181,v182,v183,v184,v185,v186,zu,zu,zu,zu,zu,zu,zu,zu,zu,zu,zu,zu,zu,zu,zu,zu,zu,zu,zu,zu,zu,zu,zu,zu,zu,zu,zu,zu,zu,zu,zu,zu,zu,zu,zu,zu,zu,zu,zu,zu,zu,zu,zu,zu,zu,zu,zu,zu,zu,zu,zu,zu,zu,zu,zu,zu,zu,zu,zu,zu,zu,zu,zu,zu,zu,zu,zu]∧Hp W5 w') ⟨#[v0,v1,v2,v3,v4,v5,pv,v7,zu,zu,zu,zu,zu,zu,v14,v15,v16,v17,v18,v19,v20,v21,v22,v23,v24,v25,v26,v27,v28,num g,.pointer (some ⟨P,0,none⟩),v31,v32,v33,zu,zu,zu,zu,zu,v39,v40,v41,v42,v43,v44,v45,v46,v47,v48,v49,v50,v51,v52,zu,v54,v55,v56,v57,v58,v59,v60,v61,v62,v63,v64,v65,v66,v67,v68,v69,v70,v71,v72,v73,v74,v75,v76,v77,v78,v79,v80,v81,v82,v83,v84,v85,v86,v87,v88,v89,v90,v91,v92,v93,v94,v95,v96,v97,v98,v99,v100,v101,v102,v103,v104,v105,v106,v107,v108,v109,v110,v111,v112,v113,v114,v115,v116,v117,v118,v119,v120,v121,v122,v123,v124,v125,v126,v127,v128,v129,v130,v131,v132,v133,v134,v135,v136,v137,v138,v139,v140,v141,v142,v143,v144,v145,v146,v147,v148,v149,v150,v151,v152,v153,v154,v155,v156,v157,v158,v159,v160,v161,v162,v163,v164,v165,v166,v167,v168,v169,v170,v171,v172,v173,v174,v175,v176,v177,v178,v179,v180,v181,v182,v183,v184,v185,v186,zu,zu,zu,zu,zu,zu,zu,zu,zu,zu,zu,zu,zu,zu,zu,zu,zu,zu,zu,zu,zu,zu,zu,zu,zu,zu,zu,zu,zu,zu,zu,zu,zu,zu,zu,zu,zu,zu,zu,zu,zu,zu,zu,zu,zu,zu,zu,zu,zu,zu,zu,zu,zu,zu,zu,zu,zu,zu,zu,zu,zu,zu,zu,zu,zu,zu,zu],[]⟩ wr:=by
 rw [yc6]
 have oD:Hp W5 wr.drew:=oR.trans (.nx (Below.drew (Below.refl _ _)))
 refine zbg (fun x=>Hp W5 x) (by kernel_rfl) ?_
 change wpAnyC _ _ _ _ _ _ _ 8 #[false,false,false,false,false,false,false,false] _ _
 refine zah (i:=0) (oi:=⟨some 168,.fieldAddr 91 (.tmp 30) 3,_,_,_,none⟩) (v:=.pointer (some ⟨P,3,none⟩)) (zaj (by kernel_rfl)) rfl (by kernel_rfl) (by kernel_rfl) (by kernel_rfl) (fun _ _ _ h=>by cases h.1) (yC rfl (fun _=>rfl) fun x hx=>by clear KP KO oD oR C0 C1;simp [execOp,go_sem]) ?_
 simp only [Act.put,List.setIfInBounds_toArray,List.set_cons_succ,List.set_cons_zero]
 refine zah (i:=1) (oi:=⟨some 169,.load 28 (.tmp 168),_,_,_,none⟩) (v:=.agg #[num lo,num hi]) (zaj (by kernel_rfl)) rfl (by kernel_rfl) (by kernel_rfl) (by kernel_rfl) (fun _ _ _ h=>by cases h.1) (yC rfl (fun _=>rfl) fun x hx=>by have e0:=C0.out x hx;have e1:=C1.out x hx;clear KP KO oD oR C0 C1;simp [execOp,go_sem,e0,e1]) ?_
 simp only [Act.put,List.setIfInBounds_toArray,List.set_cons_succ,List.set_cons_zero]
 refine zah (i:=2) (oi:=⟨some 170,.move (.tmp 6),_,_,_,none⟩) (v:=pv) (zaj (by kernel_rfl)) rfl (by kernel_rfl) (by kernel_rfl) (by kernel_rfl) (fun _ _ _ h=>by cases h.1) (zaN rfl) ?_
 simp only [Act.put,List.setIfInBounds_toArray,List.set_cons_succ,List.set_cons_zero]
 refine zah (i:=3) (oi:=⟨some 171,.move (.tmp 29),_,_,_,none⟩) (v:=num g) (zaj (by kernel_rfl)) rfl (by kernel_rfl) (by kernel_rfl) (by kernel_rfl) (fun _ _ _ h=>by cases h.1) (zaN rfl) ?_
 simp only [Act.put,List.setIfInBounds_toArray,List.set_cons_succ,List.set_cons_zero]
 refine zah (i:=4) (oi:=⟨some 172,.binOp .add 3 (.const (.int .i64 25)) (.tmp 171) 3,_,_,_,none⟩) (v:=num (25+g)) (zaj (by kernel_rfl)) rfl (by kernel_rfl) (by kernel_rfl) (by kernel_rfl) (fun _ _ _ h=>by cases h.1) (yC rfl (fun _=>rfl) fun x hx=>by clear KP KO oD oR C0 C1;simp [execOp,go_sem];exact IntWalk.i64_in _ (by omega)) ?_
 simp only [Act.put,List.setIfInBounds_toArray,List.set_cons_succ,List.set_cons_zero]
 refine zau (i:=5) (o:=⟨some 173,.call { callee:=.value (.func 48),args:=#[.tmp 170,.tmp 172],argTypes:=#[86,3] },_,_,_,none⟩) (by kernel_rfl) rfl rfl (oD) ?_
 intro K hK
 go_simp
 refine CallsIn.mono (((KP.out _ (oD) ((25+g)) (by omega) (by omega)).mono fun e w' ⟨z,p,hz,q⟩=>(⟨z,p,hz,Hp.trans (oD) (.nx q)⟩:∃ z:Int,e=Ending.returned (num z)∧(0≤z∧z≤65535)∧Hp W5 w'))) ?_
 rintro e v5_ ⟨z,rfl,hz,y5⟩
 refine hK _ _ ?_
 refine zau (i:=6) (o:=⟨some 174,.call { callee:=.value (.func 28),args:=#[.tmp 169,.tmp 173],argTypes:=#[28,3] },_,_,_,none⟩) (by kernel_rfl) rfl rfl (y5) ?_
 intro K hK
 go_simp
 refine CallsIn.mono (((KO.out _ z (y5) hz).mono fun e w' ⟨z,p,hz,q⟩=>(⟨z,p,hz,Hp.trans (y5) (.nx q)⟩:∃ y:Int,e=Ending.returned (num y)∧(lo≤y∧y≤hi)∧Hp W5 w'))) ?_
 rintro e v6_ ⟨y,rfl,hy,y6⟩
 refine hK _ _ ?_
 refine zah (i:=7) (oi:=⟨some 33,.assign (.tmp 174),_,_,_,none⟩) (v:=num y) (zaj (by kernel_rfl)) rfl (by kernel_rfl) (by kernel_rfl) (by kernel_rfl) (fun _ _ _ h=>by cases h.1) (zdN rfl) ?_
 simp only [Act.put,List.setIfInBounds_toArray,List.set_cons_succ,List.set_cons_zero]
 refine zbk (by kernel_rfl) (y6) ?_
 exact⟨rfl,rfl,z,y,hy,rfl,y6⟩
theorem ydj {v0 v1 v2 v3 v4 v5 v6 v14 v15 v16 v17 v19 v20 v21 v22 v23 v24 v25 v26 v27 v28 v30 v31 v32 v33 v39 v40 v41 v42 v43 v44 v45 v46 v47 v48 v49 v50 v51 v52 v54 v55 v56 v57 v58 v59 v60 v61 v62 v63 v64 v65 v66 v67 v68 v69 v70 v71 v72 v73 v74 v75 v76 v77 v78 v79 v80 v81 v82 v83 v84 v85 v86 v87 v88 v89 v90 v91 v92 v93 v94 v95 v96 v97 v98 v99 v100 v101 v102 v103 v104 v105 v106 v107 v108 v109 v110 v111 v112 v113 v114 v115 v116 v117 v118 v119 v120 v121 v122 v123 v124 v125 v126 v127 v128 v129 v130 v131 v132 v133 v134 v135 v136 v137 v138 v139 v140 v141 v142 v143 v144 v145 v146 v147 v148 v149 v150 v151 v152 v153 v154 v155 v156 v157 v158 v159 v160 v161 v162 v163 v164 v165 v166 v167 v168 v169 v170 v171 v172 v173 v174 v175 v176 v177 v178 v179 v180 v181 v182 v183 v184 v185 v186:Value} (nm:List UInt8) (ph pf plo phi pw:Int) (B lb lf ln lc pb po pn pc i m:Nat) (wr:World) (hi:i<ln) (hm:m<pn) (C13:Hid (∀ w2,Hp wr w2→w2.cell? ⟨B,13,none⟩=some (.slice (some ⟨pb,po,none⟩) pn pc))) (CL:Hid (∀ w2,Hp wr w2→w2.cell? ⟨lb,lf+i,none⟩=some (num m)))
  (CP:Hid (∀ w2,Hp wr w2→w2.cell? ⟨pb,po+m * 6,none⟩=some (str nm)∧w2.cell? ⟨pb,po+m * 6+1,none⟩=some (num ph)∧w2.cell? ⟨pb,po+m * 6+2,none⟩=some (num pf)∧w2.cell? ⟨pb,po+m * 6+3,none⟩=some (num plo)∧w2.cell? ⟨pb,po+m * 6+4,none⟩=some (num phi)∧w2.cell? ⟨pb,po+m * 6+5,none⟩=some (num pw))) :
  wr18.wpIn (FG 16) 0 Tryd.prog (fun e a w'=>e=.normal∧a.defers=[]∧∃ P:Nat,a.tmps=#[v0,v1,v2,v3,v4,v5,v6,.pointer (some ⟨B,0,none⟩),zu,zu,zu,zu,zu,zu,v14,v15,v16,v17,.slice (some ⟨lb,lf,none⟩) ln lc,v19,v20,v21,v22,v23,v24,v25,v26,v27,v28,num i,.pointer (some ⟨P,0,none⟩),v31,v32,v33,zu,zu,zu,zu,zu,v39,v40,v41,v42,v43,v44,v45,v46,v47,v48,v49,v50,v51,v52,zu,v54,v55,v56,v57,v58,v59,v60,v61,v62,v63,v64,v65,v66,v67,v68,v69,v70,v71,v72,v73,v74,v75,v76,v77,v78,v79,v80,v81,v82,v83,v84,v85,v86,v87,v88,v89,v90,v91,v92,v93,v94,v95,v96,v97,v98,v99,v100,v101,v102,v103,v104,v105,v106,v107,v108,v109,v110,v111,v112,v113,v114,v115,v116,v117,v118,v119,v120,v121,v122,v123,v124,v125,v126,v127,v128,v129,v130,v131,v132,v133,v134,v135,v136,.pointer (some ⟨B,13,none⟩),.slice (some ⟨pb,po,none⟩) pn pc,.slice (some ⟨lb,lf,none⟩) ln lc,num i,.pointer (some ⟨lb,lf+i,none⟩),num m,.pointer (some ⟨pb,po+m * 6,none⟩),.agg #[str nm,num ph,num pf,num plo,num phi,num pw],v145,v146,v147,v148,v149,v150,v151,v152,v153,v154,v155,v156,v157,v158,v159,v160,v161,v162,v163,v164,v165,v166,v167,v168,v169,v170,v171,v172,v173,v174,v175,v176,v177,v178,v179,v180,v181,v182,v183,v184,v185,v186,zu,zu,zu,zu,zu,zu,zu,zu,zu,zu,zu,zu,zu,zu,zu,zu,zu,zu,zu,zu,zu,zu,zu,zu,zu,zu,zu,zu,zu,zu,zu,zu,zu,zu,zu,zu,zu,zu,zu,zu,zu,zu,zu,zu,zu,zu,zu,zu,zu,zu,zu,zu,zu,zu,zu,zu,zu,zu,zu,zu,zu,zu,zu,zu,zu,zu,zu]∧Hp wr w'∧wr.heap.size≤P∧w'.heap[P]?=some (.cells #[str nm,num ph,num pf,num plo,num phi,num pw] 91 (0,0))) ⟨#[v0,v1,v2,v3,v4,v5,v6,.pointer (some ⟨B,0,none⟩),zu,zu,zu,zu,zu,zu,v14,v15,v16,v17,.slice (some ⟨lb,lf,none⟩) ln lc,v19,v20,v21,v22,v23,v24,v25,v26,v27,v28,num i,v30,v31,v32,v33,zu,zu,zu,zu,zu,v39,v40,v41,v42,v43,v44,v45,v46,v47,v48,v49,v50,v51,v52,zu,v54,v55,v56,v57,v58,v59,v60,v61,v62,v63,v64,v65,v66,v67,v68,v69,v70,v71,v72,v73,v74,v75,v76,v77,v78,v79,v80,v81,v82,v83,v84,v85,v86,v87,v88,v89,v90,v91,v92,v93,v94,v95,v96,v97,v98,v99,v100,v101,v102,v103,v104,v105,v106,v107,v108,v109,v110,v111,v112,v113,v114,v115,v116,v117,v118,v119,v120,v121,v122,v123,v124,v125,v126,v127,v128,v129,v130,v131,v132,v133,v134,v135,v136,v137,v138,v139,v140,v141,v142,v143,v144,v145,v146,v147,v148,v149,v150,v151,v152,v153,v154,v155,v156,v157,v158,v159,v160,v161,v162,v163,v164,v165,v166,v167,v168,v169,v170,v171,v172,v173,v174,v175,v176,v177,v178,v179,v180,v181,v182,v183,v184,v185,v186,zu,zu,zu,zu,zu,zu,zu,zu,zu,zu,zu,zu,zu,zu,zu,zu,zu,zu,zu,zu,zu,zu,zu,zu,zu,zu,zu,zu,zu,zu,zu,zu,zu,zu,zu,zu,zu,zu,zu,zu,zu,zu,zu,zu,zu,zu,zu,zu,zu,zu,zu,zu,zu,zu,zu,zu,zu,zu,zu,zu,zu,zu,zu,zu,zu,zu,zu],[]⟩ wr:=by
 rw [yc3]
 have oD:Hp wr wr.drew:=.nx (Below.drew (Below.refl _ _))
 refine zbg (fun x=>Hp wr x) (by kernel_rfl) ?_
 change wpAnyC _ _ _ _ _ _ _ 10 #[false,false,false,false,false,false,false,false,false,false] _ _
 refine zah (i:=0) (oi:=⟨some 137,.fieldAddr 31 (.tmp 7) 11,_,_,_,none⟩) (v:=.pointer (some ⟨B,13,none⟩)) (zaj (by kernel_rfl)) rfl (by kernel_rfl) (by kernel_rfl) (by kernel_rfl) (fun _ _ _ h=>by cases h.1) (yC rfl (fun _=>rfl) fun x hx=>by simp [execOp,go_sem]) ?_
 simp only [Act.put,List.setIfInBounds_toArray,List.set_cons_succ,List.set_cons_zero]
 refine zah (i:=1) (oi:=⟨some 138,.load 29 (.tmp 137),_,_,_,none⟩) (v:=.slice (some ⟨pb,po,none⟩) pn pc) (zaj (by kernel_rfl)) rfl (by kernel_rfl) (by kernel_rfl) (by kernel_rfl) (fun _ _ _ h=>by cases h.1) (yC rfl (fun _=>rfl) fun x hx=>by have e:=C13.out x hx;clear C13 CL CP;simp [execOp,go_sem,e]) ?_
 simp only [Act.put,List.setIfInBounds_toArray,List.set_cons_succ,List.set_cons_zero]
 refine zah (i:=2) (oi:=⟨some 139,.move (.tmp 18),_,_,_,none⟩) (v:=.slice (some ⟨lb,lf,none⟩) ln lc) (zaj (by kernel_rfl)) rfl (by kernel_rfl) (by kernel_rfl) (by kernel_rfl) (fun _ _ _ h=>by cases h.1) (yC rfl (fun _=>rfl) fun x hx=>by simp [execOp,go_sem]) ?_
 simp only [Act.put,List.setIfInBounds_toArray,List.set_cons_succ,List.set_cons_zero]
 refine zah (i:=3) (oi:=⟨some 140,.move (.tmp 29),_,_,_,none⟩) (v:=num i) (zaj (by kernel_rfl)) rfl (by kernel_rfl) (by kernel_rfl) (by kernel_rfl) (fun _ _ _ h=>by cases h.1) (yC rfl (fun _=>rfl) fun x hx=>by simp [execOp,go_sem]) ?_
 simp only [Act.put,List.setIfInBounds_toArray,List.set_cons_succ,List.set_cons_zero]
 refine zah (i:=4) (oi:=⟨some 141,.indexAddr 64 (.tmp 139) (.tmp 140),_,_,_,none⟩) (v:=.pointer (some ⟨lb,lf+i,none⟩)) (zaj (by kernel_rfl)) rfl (by kernel_rfl) (by kernel_rfl) (by kernel_rfl) (fun _ _ _ h=>by cases h.1) (yC rfl (fun _=>rfl) fun x hx=>by simp [execOp,go_sem,hi]) ?_
 simp only [Act.put,List.setIfInBounds_toArray,List.set_cons_succ,List.set_cons_zero]
 refine zah (i:=5) (oi:=⟨some 142,.load 3 (.tmp 141),_,_,_,none⟩) (v:=num m) (zaj (by kernel_rfl)) rfl (by kernel_rfl) (by kernel_rfl) (by kernel_rfl) (fun _ _ _ h=>by cases h.1) (yC rfl (fun _=>rfl) fun x hx=>by have e:=CL.out x hx;clear C13 CL CP;simp [execOp,go_sem,e]) ?_
 simp only [Act.put,List.setIfInBounds_toArray,List.set_cons_succ,List.set_cons_zero]
 refine zah (i:=6) (oi:=⟨some 143,.indexAddr 29 (.tmp 138) (.tmp 142),_,_,_,none⟩) (v:=.pointer (some ⟨pb,po+m * 6,none⟩)) (zaj (by kernel_rfl)) rfl (by kernel_rfl) (by kernel_rfl) (by kernel_rfl) (fun _ _ _ h=>by cases h.1) (yC rfl (fun _=>rfl) fun x hx=>by simp [execOp,go_sem,hm]) ?_
 simp only [Act.put,List.setIfInBounds_toArray,List.set_cons_succ,List.set_cons_zero]
 refine zah (i:=7) (oi:=⟨some 144,.load 91 (.tmp 143),_,_,_,none⟩) (v:=.agg #[str nm,num ph,num pf,num plo,num phi,num pw]) (zaj (by kernel_rfl)) rfl (by kernel_rfl) (by kernel_rfl) (by kernel_rfl) (fun _ _ _ h=>by cases h.1) (yC rfl (fun _=>rfl) fun x hx=>by obtain⟨e0,e1,e2,e3,e4,e5⟩:=CP.out x hx;clear C13 CL CP;simp [execOp,go_sem,e0,e1,e2,e3,e4,e5]) ?_
 simp only [Act.put,List.setIfInBounds_toArray,List.set_cons_succ,List.set_cons_zero]
 refine zau (i:=8) (o:=⟨some 30,.alloc 91,_,_,_,none⟩) (by kernel_rfl) rfl rfl oD ?_
 intro K hK
 generalize hY:wr.drew.alloc (.cells #[str nm,num ph,num pf,num plo,num phi,num pw] 91)=Y
 have nY:Nx wr Y:=by rw [← hY];exact zaG (Below.drew (Below.refl _ _)) _
 have gY:Y.heap[wr.heap.size]?=some (.cells #[str nm,num ph,num pf,num plo,num phi,num pw] 91 (0,0)):=by rw [← hY];exact heap_alloc_new wr.drew _
 clear C13 CL CP
 go_simp
 refine hK _ _ ?_
 refine zau (i:=9) (o:=⟨none,.store 91 (.tmp 30) (.tmp 144),_,_,_,none⟩) (by kernel_rfl) rfl rfl (.nx (zaG (Below.drew (Below.refl _ _)) _)) ?_
 intro K hK
 go_simp
 refine hK _ _ ?_
 refine zbk (by kernel_rfl) (by first | exact .nx nY | exact .nx (zaG (Below.refl _ _) _) | exact .nx (zaG (Below.drew (Below.refl _ _)) _)) ?_
 exact⟨rfl,rfl,wr.heap.size,rfl,by first | exact .nx nY | exact .nx (zaG (Below.refl _ _) _) | exact .nx (zaG (Below.drew (Below.refl _ _)) _),Nat.le_refl _,by first | exact gY | exact heap_alloc_new wr _ | exact heap_alloc_new wr.drew _⟩
end Go.Proofs.YtolholkjeehamaaDoor
namespace Go.Proofs.YtolholkjeehamaaDoor
open Go.RowKit Go.Con Go.Conc
local instance zm_3:Lone:=zcG
theorem ycu {d:Dit} {k:Int} {l:List Int} {s t t1:Int×Int×Int} {j:Nat} {x:Int} (h:yae d k l s=some t) (h1:yae d k (l.take j) s=some t1) (hx:l[j]?=some x):∃ p,∃ t2:Plot,d.plotAt x=some p∧p.holder=k∧(d.needs p).2=true∧yae d k (l.take (j+1)) s=some (x,t1.2.1+(d.needs p).1,t1.2.2+p.worth)∧t2=p:=by
 have e:=ya5 hx d k s
 rw [h1,Option.bind_some] at e
 have hs:yae d k [x] t1≠none:=fun hn=>by rw [yb7 hx h1 hn] at h;cases h
 simp only [yae] at e hs
 cases hp:d.plotAt x with
 | none=>rw [hp] at hs;exact absurd rfl hs
 | some p =>
  rw [hp] at e hs
  dsimp only at e hs
  split at e
  ·rename_i g
   exact⟨p,p,rfl,g.2.1,g.2.2,e,rfl⟩
  ·rename_i g
   rw [if_neg g] at hs
   exact absurd rfl hs
def yd3 (d:Dit) (r:zaR) (x y z ot pr:Int) (pv:Value) (k wo ho mo bn:Int) (pls:List Int) (al:Option Addr) (cap B:Nat) (Y:World) (t:Array Value) (W4:World):Prop :=
 Old Y W4∧∃ f:Nat→Value,t=#[d.val r,.int .u8 x,.int .u32 y,.int .u32 z,.int .u8 ot,.int .u16 pr,pv,.pointer (some ⟨B,0,none⟩),zu,zu,zu,zu,zu,zu,(f 14),num k,(f 16),(f 17),.slice al pls.length cap,num wo,num 0,num mo,num 0,num bn,num 0,num ho,num wo,.bool true,(f 28),(f 29),(f 30),(f 31),(f 32),(f 33),zu,zu,zu,zu,zu,(f 39),(f 40),(f 41),(f 42),(f 43),(f 44),(f 45),(f 46),(f 47),(f 48),(f 49),(f 50),(f 51),(f 52),zu,(f 54),(f 55),(f 56),(f 57),(f 58),(f 59),(f 60),(f 61),(f 62),(f 63),(f 64),(f 65),(f 66),(f 67),(f 68),(f 69),(f 70),(f 71),(f 72),(f 73),(f 74),(f 75),(f 76),(f 77),(f 78),(f 79),(f 80),(f 81),(f 82),(f 83),(f 84),(f 85),(f 86),(f 87),(f 88),(f 89),(f 90),(f 91),(f 92),(f 93),(f 94),(f 95),(f 96),(f 97),(f 98),(f 99),(f 100),(f 101),(f 102),(f 103),(f 104),(f 105),(f 106),(f 107),(f 108),(f 109),(f 110),(f 111),(f 112),(f 113),(f 114),(f 115),(f 116),(f 117),(f 118),(f 119),(f 120),(f 121),(f 122),(f 123),(f 124),(f 125),(f 126),(f 127),(f 128),(f 129),(f 130),(f 131),(f 132),(f 133),(f 134),(f 135),(f 136),(f 137),(f 138),(f 139),(f 140),(f 141),(f 142),(f 143),(f 144),(f 145),(f 146),(f 147),(f 148),(f 149),(f 150),(f 151),(f 152),(f 153),(f 154),(f 155),(f 156),(f 157),(f 158),(f 159),(f 160),(f 161),(f 162),(f 163),(f 164),(f 165),(f 166),(f 167),(f 168),(f 169),(f 170),(f 171),(f 172),(f 173),(f 174),(f 175),(f 176),(f 177),(f 178),(f 179),(f 180),(f 181),(f 182),(f 183),(f 184),(f 185),(f 186),(f 187),(f 188),(f 189),zu,zu,zu,zu,zu,zu,zu,zu,zu,zu,zu,zu,zu,zu,zu,zu,zu,zu,zu,zu,zu,zu,zu,zu,zu,zu,zu,zu,zu,zu,zu,zu,zu,zu,zu,zu,zu,zu,zu,zu,zu,zu,zu,zu,zu,zu,zu,zu,zu,zu,zu,zu,zu,zu,zu,zu,zu,zu,zu,zu,zu,zu,zu,zu]
theorem yc7 {v16 v17 v39 v40 v41 v42 v43 v44 v45 v46 v47 v48 v49 v50 v51 v52 v54 v55 v56 v57 v58 v59 v60 v61 v62 v63 v64 v65 v66 v67 v68 v69 v70 v71 v72 v73 v74 v75 v76 v77 v78 v79 v80 v81 v82 v83 v84 v85 v86 v87 v88 v89 v90 v91 v92 v93 v94 v95 v96 v97 v98 v99 v100 v101 v102 v103 v104 v105 v106 v107 v108 v109 v110 v111 v112 v113 v114 v115 v116 v117 v118 v119 v120 v121 v122 v123 v124 v125 v126 v127 v128 v129 v130:Value} (d:Dit) (r:zaR) (x y z ot pr:Int) (pv:Value) (ps:List Int) (k wo ho mo bn qb:Int) (pls:List Int) (al:Option Addr) (cap B:Nat) (Y:World) (hd:DitSl Y d r) (hO:d.Ok) (cB:∀ i v,(d.cellsA r)[i]?=some v→Y.cell? ⟨B,i,none⟩=some v) (hBs:B<Y.heap.size) (hsl:Sl Y (.slice al pls.length cap) 1 (pls.map fun x=>[num x])) (hpl8:pls.length≤8) (hch:yae d k pls (-1,0,0)=some (qb,ho,wo)) (hho:ho≤mo) (hmo:mo≤1000000000) (hpp:Sl Y pv 1 (ps.map fun x=>[Value.int .u16 x])) (hpb:∀ x∈ps,0≤x∧x≤65535) (hpl:ps.length≤281474976710656) :
  zo0 Tryd.prog (FG 16) [ydr,ydl,yds] (yd3 d r x y z ot pr pv k wo ho mo bn pls al cap B Y) #[d.val r,.int .u8 x,.int .u32 y,.int .u32 z,.int .u8 ot,.int .u16 pr,pv,.pointer (some ⟨B,0,none⟩),zu,zu,zu,zu,zu,zu,.bool false,num k,v16,v17,.slice al pls.length cap,num wo,num 0,num mo,num 0,num bn,num 0,num ho,num wo,.bool true,zu,zu,zu,zu,zu,zu,zu,zu,zu,zu,zu,v39,v40,v41,v42,v43,v44,v45,v46,v47,v48,v49,v50,v51,v52,zu,v54,v55,v56,v57,v58,v59,v60,v61,v62,v63,v64,v65,v66,v67,v68,v69,v70,v71,v72,v73,v74,v75,v76,v77,v78,v79,v80,v81,v82,v83,v84,v85,v86,v87,v88,v89,v90,v91,v92,v93,v94,v95,v96,v97,v98,v99,v100,v101,v102,v103,v104,v105,v106,v107,v108,v109,v110,v111,v112,v113,v114,v115,v116,v117,v118,v119,v120,v121,v122,v123,v124,v125,v126,v127,v128,v129,v130,zu,zu,zu,zu,zu,zu,zu,zu,zu,zu,zu,zu,zu,zu,zu,zu,zu,zu,zu,zu,zu,zu,zu,zu,zu,zu,zu,zu,zu,zu,zu,zu,zu,zu,zu,zu,zu,zu,zu,zu,zu,zu,zu,zu,zu,zu,zu,zu,zu,zu,zu,zu,zu,zu,zu,zu,zu,zu,zu,zu,zu,zu,zu,zu,zu,zu,zu,zu,zu,zu,zu,zu,zu,zu,zu,zu,zu,zu,zu,zu,zu,zu,zu,zu,zu,zu,zu,zu,zu,zu,zu,zu,zu,zu,zu,zu,zu,zu,zu,zu,zu,zu,zu,zu,zu,zu,zu,zu,zu,zu,zu,zu,zu,zu,zu,zu,zu,zu,zu,zu,zu,zu,zu] Y:=by
 have h8:=hO.p8
 obtain⟨ap,capp,ep⟩:=hd.plots.cases
 rw [List.length_map] at ep
 have hps0:=hd.plots
 rw [ep] at hps0
 have CO:=Lib.hid (fun w2 (o:Hp Y w2) i v (h:(d.cellsA r)[i]?=some v)=>(o.old.cell ⟨B,i,none⟩ hBs).trans (cB i v h))
 have H13:=Lib.hid (fun w2 (o:Hp Y w2)=>show w2.cell? ⟨B,13,none⟩=some (.slice ap d.plots.length capp) from (CO.out w2 o 13 r.p rfl).trans (by rw [ep]))
 have HPS:=Lib.hid hps0
 have HSL:=Lib.hid hsl
 have HPP:=Lib.hid hpp
 have HOO:=Lib.hid hO
 have HCH:=Lib.hid hch
 have hfl:=hO.flow
 have hls:=hO.loss
 have HPB:=Lib.hid hpb
 have KP:=fun (W5:World) (o5:Hp Y W5)=>Lib.hid (fun u (o:Hp W5 u) (kk:Int) (h0:0≤kk) (h1:kk≤1000)=>show CallsIn (FG 16) 0 Tryd.prog 48 #[pv,num kk] u fun e w'=>∃ z:Int,e=Ending.returned (num z)∧(0≤z∧z≤65535)∧Nx u w' by
  obtain⟨kn,rfl⟩:=Int.eq_ofNat_of_zero_le h0
  exact (toFG 16 (m:=0) (ycd ps pv kn u (HPP.out.old (o5.trans o).old) HPB.out hpl (by omega))).mono fun e w' ⟨z,h1,h2,h3⟩=>⟨z,h1,h2,by rw [h3];exact Below.refl _ _⟩)
 have KO:=fun (lo hi:Int) (hlh:0≤lo∧lo≤hi∧hi≤999999999) (W5:World)=>Lib.hid (fun u z (_:Hp W5 u) (hz:0≤z∧z≤65535)=>show CallsIn (FG 16) 0 Tryd.prog 28 #[.agg #[num lo,num hi],num z] u fun e w'=>∃ y:Int,e=Ending.returned (num y)∧(lo≤y∧y≤hi)∧Nx u w' from
  (toFG 16 (m:=0) (ycj lo hi z u (by omega) (by omega))).mono fun e w' ⟨h1,h2⟩=>⟨_,h1,by have:=Int.emod_nonneg z (b:=hi-lo+1) (by omega);have:=Int.emod_lt_of_pos z (b:=hi-lo+1) (by omega);omega,h2⟩)
 clear cB ep hps0 hsl hpp hO hch hd hpb
 intro τ14
 generalize hq14:({ Y with tape:=τ14 }:World)=u14
 have o14:Hp Y u14:=by rw [← hq14];exact .same rfl
 clear hq14
 simp only [ydr,yaq,yap,yao,yan,yam,yal,yak,yaj,ybm,ybl,ybk,ybj,ybi,ybh,ybg,ybf,ybc,yac,seqL,seqR,Tryd.f16]
 gi_wp2
 intro τ15
 generalize hq15:({ u14 with tape:=τ15 }:World)=u15
 have o15:Hp Y u15:=o14.trans (by rw [← hq15];exact .same rfl)
 clear hq15 o14
 simp only [ydl,yaq,yap,yao,yan,yam,yal,yak,yaj,ybm,ybl,ybk,ybj,ybi,ybh,ybg,ybf,ybc,yac,seqL,seqR,Tryd.f16]
 gi_wp2
 gi_loopw [28,29] (fun s i wr=>∃ (j:Nat) (real q h v:Int),j≤pls.length∧i=num j∧s=num real∧yae d k (pls.take j) (-1,0,0)=some (q,h,v)∧0≤real∧real≤h∧Hp Y wr) (fun _ i _=>pls.length-(intOf i).toNat)
 case atStart=>exact⟨0,0,-1,0,0,Nat.zero_le _,rfl,rfl,by simp [yae],Int.le_refl _,Int.le_refl _,o15⟩
 case round =>
  obtain⟨j,real,q,h,v,hj,rfl,rfl,hcj,hr0,hrh,oR⟩:=hrel
  have hbd:=ybz HOO.out k _ _ _ hcj (by simp) (by simp)
  simp only [Int.sub_neg,Int.sub_zero] at hbd
  have HCJ:=Lib.hid hcj
  clear hcj
  by_cases hlt:j<pls.length
  ·have hx:pls[j]?=some pls[j]:=List.getElem?_eq_getElem hlt
   generalize pls[j]=x at hx
   obtain⟨p,_,hpa,hph,hpn,hc2,_⟩:=ycu HCH.out HCJ.out hx
   obtain⟨hx0,hx1,hpm⟩:=yaf hpa
   obtain⟨m,rfl⟩:=Int.eq_ofNat_of_zero_le hx0
   rw [Int.toNat_natCast] at hpm
   have hml:m<d.plots.length:=by omega
   obtain⟨lb,lf,hla,hlbl,hlc⟩:=HSL.out.get (by simp;omega)
   subst hla
   obtain⟨pb,po,hpa2,hpbl,hpc⟩:=HPS.out.get (by simp;omega)
   subst hpa2
   have hpk:=HOO.out.pl m p hpm
   have hnb:=zos HOO.out (p:=p) (by omega)
   have hgb:=zmU HOO.out (p:=p)
   have HND:Hid (d.needs p=if p.high=0 then (0,true) else if (d.gets p).1=0 then (0,false) else ((p.high+(d.gets p).1-1).tdiv (d.gets p).1,true)):=rfl
   have HGT:Hid ((d.gets p).1=zbw d.loss.2 p.far.toNat d.flow.1):=rfl
   have HPN:=Lib.hid hpn
   have HC2:=Lib.hid hc2
   have CLx:=Lib.hid (fun w2 (o:Hp wr w2)=>show w2.cell? ⟨lb,lf+j,none⟩=some (num (m:Int)) from ((oR.trans o).old.cell ⟨lb,lf+j,none⟩ hlbl).trans (by have:=hlc j 0 [num (m:Int)] (num (m:Int)) (by simp [hx]) rfl;simpa using this))
   obtain⟨nm,ph,pf,plo,phi,pw⟩:=p
   have g:=fun (w2:World) (o:Hp wr w2) (i:Nat) (v:Value) (hv:(Plot.cells ⟨nm,ph,pf,plo,phi,pw⟩)[i]?=some v)=>((oR.trans o).old.cell ⟨pb,po+m * 6+i,none⟩ hpbl).trans (hpc m i _ v (by simp [hpm]) hv)
   have CP:=Lib.hid (fun w2 (o:Hp wr w2)=>show w2.cell? ⟨pb,po+m * 6,none⟩=some (str nm)∧w2.cell? ⟨pb,po+m * 6+1,none⟩=some (num ph)∧w2.cell? ⟨pb,po+m * 6+2,none⟩=some (num pf)∧w2.cell? ⟨pb,po+m * 6+3,none⟩=some (num plo)∧w2.cell? ⟨pb,po+m * 6+4,none⟩=some (num phi)∧w2.cell? ⟨pb,po+m * 6+5,none⟩=some (num pw) from ⟨g w2 o 0 _ rfl,g w2 o 1 _ rfl,g w2 o 2 _ rfl,g w2 o 3 _ rfl,g w2 o 4 _ rfl,g w2 o 5 _ rfl⟩)
   have C13x:=Lib.hid (fun w2 (o:Hp wr w2)=>H13.out w2 (oR.trans o))
   clear g hlc hpc hpa hpm hpn hc2
   dsimp only at hph hpk hnb
   gi_upto_region 18 with fail
   refine yag (c':=wr18) (by kernel_rfl) ?_
   refine wpIn_mono (ydj nm ph pf plo phi pw B lb lf pls.length cap pb po d.plots.length capp j m wr hlt hml C13x CLx CP) ?_
   rintro e ac V ⟨rfl,hdf,P,hta,oV,hPl,hPc⟩
   obtain⟨ta,df⟩:=ac
   dsimp only at hdf hta
   subst hta hdf
   have oYV:=oR.trans oV
   have hPV:P<V.heap.size:=lt_of_some hPc
   have PC:=Lib.hid (fun w2 (o:Hp V w2) i v (hh:(#[str nm,num ph,num pf,num plo,num phi,num pw]:Array Value)[i]?=some v)=>show w2.cell? ⟨P,i,none⟩=some v by
    unfold World.cell?
    dsimp only
    rw [o.2 P hPV,hPc]
    exact hh)
   clear C13x CLx CP hPc
   gi_upto_region 19 with fail
   refine yag (c':=wr19) (by kernel_rfl) ?_
   refine wpIn_mono (ydg pv d.flow.1 d.flow.2 B V V (Hp.refl V) (Lib.hid fun w2 o=>CO.out w2 (oYV.trans o) 9 _ rfl) (Lib.hid fun w2 o=>CO.out w2 (oYV.trans o) 10 _ rfl) (KP V oYV) (KO d.flow.1 d.flow.2 (by omega) V)) ?_
   rintro e ac V2 ⟨rfl,hdf,z19,y19,hy19,hta,oV2⟩
   obtain⟨ta,df⟩:=ac
   dsimp only at hdf hta
   subst hta hdf
   gi_wp2
   gi_loopw [31,32] (fun n g wq=>∃ (e:Nat) (nn:Int),(e:Int)≤pf∧g=num e∧n=num nn∧zbw d.loss.2 e d.flow.1≤nn∧nn≤100000∧Hp V wq) (fun _ g _=>(pf-intOf g).toNat)
   case atStart=>exact⟨0,y19,by omega,rfl,rfl,hy19.1,by omega,oV2⟩
   case round =>
    obtain⟨e,nn,he,rfl,rfl,hn1,hn2,oQ⟩:=hrel
    have f2:=PC.out wr oQ 2 _ rfl
    have hb0:=ziu (loss:=d.loss.2) (by omega) e d.flow.1 (by omega)
    by_cases hef:(e:Int)<pf
    ·gi_upto_region 23 with fail
     refine yag (c':=wr23) (by kernel_rfl) ?_
     refine wpIn_mono (ydh pv d.loss.1 d.loss.2 nn e B V wr oQ (by omega) (by omega) (by omega) (Lib.hid fun w2 o=>CO.out w2 (oYV.trans o) 11 _ rfl) (Lib.hid fun w2 o=>CO.out w2 (oYV.trans o) 12 _ rfl) (KP V oYV) (KO d.loss.1 d.loss.2 (by omega) V)) ?_
     rintro e' ac w3 ⟨rfl,hdf,z23,y23,hy23,hta,o3⟩
     obtain⟨ta,df⟩:=ac
     dsimp only at hdf hta
     subst hta hdf
     have hst:=yci (l:=y23) (m:=d.loss.2) (x:=zbw d.loss.2 e d.flow.1) (y:=nn) (by omega) (by omega)
     rw [← ya1] at hst
     have hup:=ydb (loss:=y23) (x:=nn) (by omega) (by omega)
     have HST:=Lib.hid (And.intro hst hup.2)
     clear hst hup f2
     gi_wp2
     exact⟨⟨e+1,nn-(nn * y23).tdiv 1000,by omega,by simp,rfl,HST.out.1,by have h5:nn-(nn * y23).tdiv 1000≤nn:=HST.out.2;omega,o3⟩,by simp [intOf];omega⟩
    ·have hef2:(e:Int)=pf:=by omega
     have hfn:pf.toNat=e:=by omega
     have hgn:(d.gets ⟨nm,ph,pf,plo,phi,pw⟩).1≤nn:=by rw [HGT.out];show zbw d.loss.2 pf.toNat d.flow.1≤nn;rw [hfn];exact hn1
     have HGN:=Lib.hid hgn
     have hnef:¬ (e:Int)<pf:=hef
     clear hgn hef2 hfn hn1 hb0
     gi_upto_region 24 with fail
     refine yag (c':=wr24) (by kernel_rfl) ?_
     refine wpIn_mono (ydi pv plo phi j P V wr oQ (by omega) (Lib.hid fun w2 o=>PC.out w2 o 3 _ rfl) (Lib.hid fun w2 o=>PC.out w2 o 4 _ rfl) (KP V oYV) (KO plo phi (by omega) V)) ?_
     rintro e' ac w4 ⟨rfl,hdf,z24,nd,hnd,hta,o4⟩
     obtain⟨ta,df⟩:=ac
     dsimp only at hdf hta
     subst hta hdf
     have oY4:=oYV.trans o4
     clear f2
     by_cases hz:0<nd
     ·have hph0:¬ phi=0:=by omega
      have hg0:¬ (d.gets ⟨nm,ph,pf,plo,phi,pw⟩).1=0:=by
       intro h0
       have:=HPN.out
       rw [HND.out,if_neg hph0,if_pos h0] at this
       cases this
      have hng:=HGN.out
      have hnn:0<nn:=by omega
      have hce:=ycq (h:=phi) (l:=(d.gets ⟨nm,ph,pf,plo,phi,pw⟩).1) (n:=nd) (x:=nn) (by omega) (by omega) (by omega) (by omega)
      have hne:(d.needs ⟨nm,ph,pf,plo,phi,pw⟩).1=(phi+(d.gets ⟨nm,ph,pf,plo,phi,pw⟩).1-1).tdiv (d.gets ⟨nm,ph,pf,plo,phi,pw⟩).1:=by rw [HND.out,if_neg hph0,if_neg hg0]
      rw [← hne] at hce
      have hq0:0≤(nd+nn-1).tdiv nn:=Int.tdiv_nonneg (by omega) (by omega)
      have HCE:=Lib.hid (And.intro hce hq0)
      have hq1:(nd+nn-1).tdiv nn≤2000000000:=by omega
      have hnz:¬ nn=0:=by omega
      have hta:=zcg (nd+nn-1) nn
      have hgt:decide (nd > 0)=true:=decide_eq_true hz
      have hle:decide (nn≤0)=false:=decide_eq_false (by omega)
      have hee:(nd+nn-1).tdiv nn=(nd+nn-1) / nn:=Int.tdiv_eq_ediv_of_nonneg (by omega)
      have HEE:=Lib.hid hee
      clear hce hne hng hg0 hee
      gi_wp2
      refine⟨⟨j+1,real+(nd+nn-1).tdiv nn,m,h+(d.needs ⟨nm,ph,pf,plo,phi,pw⟩).1,v+pw,hlt,by simp,?_,HC2.out,by omega,by have:=HCE.out.1;omega,oY4⟩,by simp [intOf];omega⟩
      first | rfl | (rw [HEE.out];done) | (simp [HEE.out])
     ·have hgt:decide (nd > 0)=false:=decide_eq_false (by omega)
      have hnz:nd=0:=by omega
      gi_wp2
      exact⟨⟨j+1,real,m,h+(d.needs ⟨nm,ph,pf,plo,phi,pw⟩).1,v+pw,hlt,by simp,rfl,HC2.out,hr0,by omega,oY4⟩,by simp [intOf];omega⟩
  ·obtain rfl:j=pls.length:=by omega
   have hcc:=HCJ.out
   rw [List.take_length,HCH.out] at hcc
   have hh:h=ho:=by cases hcc;rfl
   have hle:real≤mo:=by omega
   clear hcc
   gi_wp2
   intro τ29
   generalize hq29:({ wr with tape:=τ29 }:World)=u29
   have o29:Hp Y u29:=oR.trans (by rw [← hq29];exact .same rfl)
   clear hq29
   have hgt:decide (real > mo)=false:=decide_eq_false (by omega)
   simp only [yds,yaq,yap,yao,yan,yam,yal,yak,yaj,ybm,ybl,ybk,ybj,ybi,ybh,ybg,ybf,ybc,yac,seqL,seqR,Tryd.f16]
   gi_wp2
   exact⟨o29.old,yd0 rfl⟩
end Go.Proofs.YtolholkjeehamaaDoor
namespace Go.Proofs.YtolholkjeehamaaDoor
open Go.RowKit Go.Con Go.Conc
local instance zm_4:Lone:=zcG
def yd4 (d:Dit) (k wo ho mo bn:Int) (Y:World) (t:Array Value) (W5:World):Prop :=
 Old Y W5∧∃ (l:List Int) (m v:Int) (is:Bool),yad d k mo l=(m,v,is)∧t.size=254∧t[36]?=some (num m)∧t[37]?=some (num v)∧t[38]?=some (.bool is)∧t[19]?=some (num wo)∧t[23]?=some (num bn)∧t[25]?=some (num ho)
theorem yc8 {v14 v16 v17 v28 v29 v30 v31 v32 v33 v39 v40 v41 v42 v43 v44 v45 v46 v47 v48 v49 v50 v51 v52 v54 v55 v56 v57 v58 v59 v60 v61 v62 v63 v64 v65 v66 v67 v68 v69 v70 v71 v72 v73 v74 v75 v76 v77 v78 v79 v80 v81 v82 v83 v84 v85 v86 v87 v88 v89 v90 v91 v92 v93 v94 v95 v96 v97 v98 v99 v100 v101 v102 v103 v104 v105 v106 v107 v108 v109 v110 v111 v112 v113 v114 v115 v116 v117 v118 v119 v120 v121 v122 v123 v124 v125 v126 v127 v128 v129 v130 v131 v132 v133 v134 v135 v136 v137 v138 v139 v140 v141 v142 v143 v144 v145 v146 v147 v148 v149 v150 v151 v152 v153 v154 v155 v156 v157 v158 v159 v160 v161 v162 v163 v164 v165 v166 v167 v168 v169 v170 v171 v172 v173 v174 v175 v176 v177 v178 v179 v180 v181 v182 v183 v184 v185 v186 v187 v188 v189:Value} (d:Dit) (r:zaR) (x y z ot pr:Int) (pv:Value) (k wo ho mo bn:Int) (pls:List Int) (al:Option Addr) (cap B:Nat) (Y0:World) (hd:DitSl Y0 d r) (hO:d.Ok) (cB:∀ i v,(d.cellsA r)[i]?=some v→Y0.cell? ⟨B,i,none⟩=some v) (hBs:B<Y0.heap.size) (hot:0≤ot∧ot≤255) :
  zo0 Tryd.prog (FG 16) [ydt,ydu,ydv] (yd4 d k wo ho mo bn Y0) #[d.val r,.int .u8 x,.int .u32 y,.int .u32 z,.int .u8 ot,.int .u16 pr,pv,.pointer (some ⟨B,0,none⟩),zu,zu,zu,zu,zu,zu,v14,num k,v16,v17,.slice al pls.length cap,num wo,num 0,num mo,num 0,num bn,num 0,num ho,num wo,.bool true,v28,v29,v30,v31,v32,v33,zu,zu,zu,zu,zu,v39,v40,v41,v42,v43,v44,v45,v46,v47,v48,v49,v50,v51,v52,zu,v54,v55,v56,v57,v58,v59,v60,v61,v62,v63,v64,v65,v66,v67,v68,v69,v70,v71,v72,v73,v74,v75,v76,v77,v78,v79,v80,v81,v82,v83,v84,v85,v86,v87,v88,v89,v90,v91,v92,v93,v94,v95,v96,v97,v98,v99,v100,v101,v102,v103,v104,v105,v106,v107,v108,v109,v110,v111,v112,v113,v114,v115,v116,v117,v118,v119,v120,v121,v122,v123,v124,v125,v126,v127,v128,v129,v130,v131,v132,v133,v134,v135,v136,v137,v138,v139,v140,v141,v142,v143,v144,v145,v146,v147,v148,v149,v150,v151,v152,v153,v154,v155,v156,v157,v158,v159,v160,v161,v162,v163,v164,v165,v166,v167,v168,v169,v170,v171,v172,v173,v174,v175,v176,v177,v178,v179,v180,v181,v182,v183,v184,v185,v186,v187,v188,v189,zu,zu,zu,zu,zu,zu,zu,zu,zu,zu,zu,zu,zu,zu,zu,zu,zu,zu,zu,zu,zu,zu,zu,zu,zu,zu,zu,zu,zu,zu,zu,zu,zu,zu,zu,zu,zu,zu,zu,zu,zu,zu,zu,zu,zu,zu,zu,zu,zu,zu,zu,zu,zu,zu,zu,zu,zu,zu,zu,zu,zu,zu,zu,zu] Y0:=by
 obtain⟨ap,capp,ep⟩:=hd.plots.cases
 rw [List.length_map] at ep
 have hps0:=hd.plots
 rw [ep] at hps0
 have h8:=hO.p8
 have CO:=Lib.hid (fun w2 (o:Old Y0 w2) i v (h:(d.cellsA r)[i]?=some v)=>(o.cell ⟨B,i,none⟩ hBs).trans (cB i v h))
 have H13:=Lib.hid (fun w2 (o:Old Y0 w2)=>show w2.cell? ⟨B,13,none⟩=some (.slice ap d.plots.length capp) from (CO.out w2 o 13 r.p rfl).trans (by rw [ep]))
 have HPS:=Lib.hid hps0
 have HD:=Lib.hid hd
 have HOO:=Lib.hid hO
 clear cB ep hps0 hd hO
 intro τ31
 generalize hq31:({ Y0 with tape:=τ31 }:World)=u31
 have o31:Old Y0 u31:=by rw [← hq31];exact .same rfl
 clear hq31
 simp only [ydt,yaq,yap,yao,yan,yam,yal,yak,yaj,ybm,ybl,ybk,ybj,ybi,ybh,ybg,ybf,ybc,yac,seqL,seqR,Tryd.f16]
 gi_wp2
 intro τ32
 generalize hq32:({ u31 with tape:=τ32 }:World)=Y
 have oY:Old Y0 Y:=o31.trans (by rw [← hq32];exact .same rfl)
 clear hq32 o31
 simp only [ydu,yaq,yap,yao,yan,yam,yal,yak,yaj,ybm,ybl,ybk,ybj,ybi,ybh,ybg,ybf,ybc,yac,seqL,seqR,Tryd.f16]
 gi_wp2
 gi_loopw [34,35] (fun sv i wr=>∃ (j:Nat) (l:List Int),j≤d.plots.length∧i=num j∧l.length≤j∧wr.ownsRow Y.heap.size 3 1 sv l.length (l.map num)∧Nx Y wr) (fun _ i _=>d.plots.length-(intOf i).toNat)
 case atStart=>exact⟨0,[],Nat.zero_le _,rfl,Nat.le_refl _,⟨rfl,.inl ⟨rfl,rfl⟩⟩,Below.refl _ _⟩
 case round =>
  obtain⟨j,l,hj,rfl,hl,hown,n2⟩:=hrel
  have HOWN:=Lib.hid hown
  clear hown
  have oR:Old Y0 wr:=oY.trans (.nx n2)
  have p13:=H13.out wr oR
  by_cases hlt:j<d.plots.length
  ·obtain⟨pb,po,hpa2,hpbl,hpc⟩:=HPS.out.get (by simp;omega)
   subst hpa2
   have hx:d.plots[j]?=some d.plots[j]:=List.getElem?_eq_getElem hlt
   generalize d.plots[j]=p at hx
   have f1:wr.cell? ⟨pb,po+j * 6+1,none⟩=some (num p.holder):=(oR.cell ⟨pb,po+j * 6+1,none⟩ hpbl).trans (hpc j 1 (Plot.cells p) _ (by simp [hx]) rfl)
   clear hpc hx
   have hj8:j<8:=by omega
   obtain⟨v',W8,happ,hown8,hg8,_,hat⟩:=zho Y.heap.size _ l [(j:Int)] (wr.alloc (.cells #[num j] 3)) (HOWN.out.alloc _) ⟨wr.heap.size,0,none⟩ 1 (by
    intro i x hi
    cases i with
    | zero=>simp at hi;subst hi;exact zaw wr _ _ _ _ rfl
    | succ i=>simp at hi) (by simp;omega) (by have:=n2.size;simp;omega)
   have n8:Nx Y W8:=(zaG n2 _).grown hg8 fun z hz=>(HOWN.out.lt z hz).1
   have HO8:=Lib.hid hown8
   rw [show ([(j:Int)]:List Int).length=1 from rfl] at happ
   clear hown8 hg8 hat
   simp [go_sem] at happ
   gi_wp2
   ·exact⟨⟨j+1,l++[(j:Int)],hlt,by simp,by simp;omega,by rw [List.length_append];exact HO8.out,n8⟩,by simp [intOf];omega⟩
   ·exact⟨⟨j+1,l,hlt,by simp,by omega,HOWN.out,n2⟩,by simp [intOf];omega⟩
   ·exact⟨⟨j+1,l,hlt,by simp,by omega,HOWN.out,n2⟩,by simp [intOf];omega⟩
  ·obtain rfl:j=d.plots.length:=by omega
   gi_wp2
   intro τ37
   generalize hq37:({ wr with tape:=τ37 }:World)=u37
   have n37:Old wr u37:=by rw [← hq37];exact .same rfl
   have o37:Old Y0 u37:=oR.trans n37
   clear hq37
   have hsl:=zb7 HOWN.out
   obtain⟨a3,c3,e3⟩:=hsl.cases
   rw [List.length_map] at e3
   subst e3
   have kk:=toFG 16 (m:=0) (yay d r k mo l _ u37 (HD.out.old o37) HOO.out (hsl.old n37) (by omega))
   obtain⟨c0,c1,c2,c3,c4,c5,c6,c7,c8,c9,c10,c11,c12,c13⟩:=zaS (CO.out u37 o37)
   clear p13 hsl
   generalize hcf:yad d k mo l=cf at kk
   obtain⟨m,v,is⟩:=cf
   dsimp only at kk
   have HCF:=Lib.hid hcf
   clear hcf
   simp only [ydv,yaq,yap,yao,yan,yam,yal,yak,yaj,ybm,ybl,ybk,ybj,ybi,ybh,ybg,ybf,ybc,yac,seqL,seqR,Tryd.f16]
   gi_wp2_with (first
    | (gi_at_call 51;refine CallsIn.mono kk ?_;rintro e w5 ⟨rfl,x5⟩)
    | gi_in)
   exact⟨o37.trans (.nx x5),l,m,v,is,HCF.out,rfl,rfl,rfl,rfl,rfl,rfl,rfl⟩
end Go.Proofs.YtolholkjeehamaaDoor
