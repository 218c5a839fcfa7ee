import Derived.Test.YtedomogjmhommaaB03
set_option linter.all false
set_option maxRecDepth 100000
set_option maxHeartbeats 8000000
namespace Go.Proofs.Ytedomogjmhommaa
open Go.RowKit Go.Con Go.Conc Go.Shelf
local instance dryI117:Lone:=dryL
section
variable {dst:Option Nat} {ty:TypeId} {pos:String} {af:Array Edge} {gd:Option (Nat×Bool)} {x y:Nat}
theorem len25_run (e:Operand→Value) {w:World} {a:Option Addr} {n k:Nat} (h:e (.tmp x)=.slice a n k) (τ:Tape):(execOp e ⟨dst,.call { callee:=.builtin .len,args:=#[.tmp x],argTypes:=#[25] },ty,pos,af,gd⟩).run Try.prog { w with tape:=τ }=.ok (.value (num n)) { w with tape:=τ }:=by
 simp [execOp,resolve,invoke,builtin,go_sem,h,Try.underlying25]
theorem gtKt_run (e:Operand→Value) {w:World} {n m:Int} (h:e (.tmp x)=num n) (hc:e (.const (num m))=num m) (hg:n > m) (τ:Tape):(execOp e ⟨dst,.binOp .gtr 3 (.tmp x) (.const (num m)) 3,ty,pos,af,gd⟩).run Try.prog { w with tape:=τ }=.ok (.value (.bool true)) { w with tape:=τ }:=by
 simp [execOp,go_sem,h,hc]
 omega
theorem fa27_4_run (e:Operand→Value) {w:World} {b:Nat} (h:e (.tmp x)=ptr b) (τ:Tape):(execOp e ⟨dst,.fieldAddr 27 (.tmp x) 4,ty,pos,af,gd⟩).run Try.prog { w with tape:=τ }=.ok (.value (.pointer (some ⟨b,6,none⟩))) { w with tape:=τ }:=by
 simp [execOp,go_sem,h,Try.underlying27]
theorem load25_run (e:Operand→Value) {w:World} {a:Addr} {v:Value} (h:e (.tmp x)=.pointer (some a)) (hc:w.cell? a=some v) (τ:Tape):(execOp e ⟨dst,.load 25 (.tmp x),ty,pos,af,gd⟩).run Try.prog { w with tape:=τ }=.ok (.value v) { w with tape:=τ }:=by
 have hc' : ({ w with tape:=τ }:World).cell? a=some v:=hc
 simp [execOp,go_sem,h,hc',Try.underlying25]
end
noncomputable def ops7_10:Array Oper:=opsOf x7_10
theorem x7_10_eq:x7_10=.region 10 ops7_10 false:=by kernel_rfl
noncomputable def ops7_16:Array Oper:=opsOf x7_16
theorem x7_16_eq:x7_16=.region 16 ops7_16 false:=by kernel_rfl
theorem results7 (v:Value) (t:Array Value) (h:t[4]?=some v) (σ:Rn):ResultsC Try.prog Try.f7 (t.map (ren σ)) (ren σ v):=by
 have:=resultsC_tmp (P:=Try.prog) (fn:=Try.f7) (t:=4) rfl (t.map (ren σ))
 simp only [Array.getD_eq_getD_getElem?,Array.getElem?_map,h,Option.map_some,Option.getD_some] at this
 exact this
theorem blind_none (E Fz Arg:Nat→Prop) (W0:World) (Post:Value→World→Prop) (φ:Ph) (W:World) (la sa:Option Addr) (lc sn sc p1:Nat) {kk:List Item} (t:Array Value) (hs:t.size=124) (m2:t[2]?=some (ptr p1)) (m5:t[5]?=some (.slice la 0 lc)) (m14:t[14]?=some (.bool true)) (q6:W.cell? ⟨p1,6,none⟩=some (.slice sa sn sc)) (hsn:0<sn)
  (hPost:∀ Fz1 ρ D own A fr W1 W',Here Try.prog true E Fz1 Arg W0 ρ D own A fr [] W1 W'→Post (ren ρ (.bool true)) W') :
  GoM Try.prog true E Fz Arg W0 (AtEnd Try.prog Post) φ [] (Fr 7 t (.code x7_10 :: .code .ret :: kk)) [] W:=by
 rw [x7_10_eq]
 refine Gm.regionSeq (fun x=>OldC W x) (fun i=>([.slice la 0 lc,num 0,.bool true,.bool true,.bool true,.pointer (some ⟨p1,6,none⟩),.slice sa sn sc,num sn,.bool true,.bool true,.bool true,.bool true,.bool true,.bool true,.bool true]:List Value).getD i undef) (by rw [hs];kernel_rfl) (OldC.refl _) ?_ ?_
 ·intro i hi t W1 Fz φ rest hC hsz hgot hold hk
  rw [show ops7_10.size=15 by kernel_rfl] at hi
  match i,hi with
  | 0,_ =>
    have e0:t[5]?=some (.slice la 0 lc):=(hold 5 (by kernel_rfl)).trans m5
    exact Gm.op (.slice la 0 lc) W1 rfl rfl (by kernel_rfl) rfl (mv_run _ (eval_tmp e0)) id (hk W1 Fz φ hC)
  | 1,_ =>
    have e0:t[69]?=some (.slice la 0 lc):=hgot 0 69 (by kernel_rfl) (by kernel_rfl)
    exact Gm.op (num 0) W1 rfl rfl (by kernel_rfl) rfl (len38_run _ (eval_tmp e0)) id (hk W1 Fz φ hC)
  | 2,_ =>
    have e0:t[70]?=some (num 0):=hgot 1 70 (by kernel_rfl) (by kernel_rfl)
    exact Gm.op (.bool true) W1 rfl rfl (by kernel_rfl) rfl (eqKt_run _ (eval_tmp e0) rfl) id (hk W1 Fz φ hC)
  | 3,_ =>
    have e0:t[71]?=some (.bool true):=hgot 2 71 (by kernel_rfl) (by kernel_rfl)
    exact Gm.op (.bool true) W1 rfl rfl (by kernel_rfl) rfl (mv_run _ (eval_tmp e0)) id (hk W1 Fz φ hC)
  | 4,_ =>
    have eg:t[72]?=some (.bool true):=hgot 3 72 (by kernel_rfl) (by kernel_rfl)
    have e0:t[14]?=some (.bool true):=(hold 14 (by kernel_rfl)).trans m14
    exact Gm.op (.bool true) W1 rfl (wanted_guard (i:=3) (b:=true) (d:=72) rfl rfl eg) (by kernel_rfl) rfl (mv_run _ (eval_tmp e0)) id (hk W1 Fz φ hC)
  | 5,_ =>
    have eg:t[72]?=some (.bool true):=hgot 3 72 (by kernel_rfl) (by kernel_rfl)
    have e0:t[2]?=some (ptr p1):=(hold 2 (by kernel_rfl)).trans m2
    exact Gm.op (.pointer (some ⟨p1,6,none⟩)) W1 rfl (wanted_guard (i:=3) (b:=true) (d:=72) rfl rfl eg) (by kernel_rfl) rfl (fa27_4_run _ (eval_tmp e0)) id (hk W1 Fz φ hC)
  | 6,_ =>
    have eg:t[72]?=some (.bool true):=hgot 3 72 (by kernel_rfl) (by kernel_rfl)
    have e0:t[74]?=some (.pointer (some ⟨p1,6,none⟩)):=hgot 5 74 (by kernel_rfl) (by kernel_rfl)
    exact Gm.op (.slice sa sn sc) W1 rfl (wanted_guard (i:=3) (b:=true) (d:=72) rfl rfl eg) (by kernel_rfl) rfl (load25_run _ (eval_tmp e0) (hC.at q6)) id (hk W1 Fz φ hC)
  | 7,_ =>
    have eg:t[72]?=some (.bool true):=hgot 3 72 (by kernel_rfl) (by kernel_rfl)
    have e0:t[75]?=some (.slice sa sn sc):=hgot 6 75 (by kernel_rfl) (by kernel_rfl)
    exact Gm.op (num sn) W1 rfl (wanted_guard (i:=3) (b:=true) (d:=72) rfl rfl eg) (by kernel_rfl) rfl (len25_run _ (eval_tmp e0)) id (hk W1 Fz φ hC)
  | 8,_ =>
    have eg:t[72]?=some (.bool true):=hgot 3 72 (by kernel_rfl) (by kernel_rfl)
    have e0:t[76]?=some (num sn):=hgot 7 76 (by kernel_rfl) (by kernel_rfl)
    exact Gm.op (.bool true) W1 rfl (wanted_guard (i:=3) (b:=true) (d:=72) rfl rfl eg) (by kernel_rfl) rfl (gtKt_run _ (eval_tmp e0) rfl (by omega)) id (hk W1 Fz φ hC)
  | 9,_ =>
    have eg:t[72]?=some (.bool true):=hgot 3 72 (by kernel_rfl) (by kernel_rfl)
    have ea:t[73]?=some (.bool true):=hgot 4 73 (by kernel_rfl) (by kernel_rfl)
    have eb:t[77]?=some (.bool true):=hgot 8 77 (by kernel_rfl) (by kernel_rfl)
    exact Gm.op (.bool true) W1 rfl (wanted_guard (i:=3) (b:=true) (d:=72) rfl rfl eg) (by kernel_rfl) rfl (eq4_run _ (eval_tmp ea) (eval_tmp eb)) id (hk W1 Fz φ hC)
  | 10,_ =>
    have ea:t[72]?=some (.bool true):=hgot 3 72 (by kernel_rfl) (by kernel_rfl)
    have eb:t[78]?=some (.bool true):=hgot 9 78 (by kernel_rfl) (by kernel_rfl)
    exact Gm.op (.bool true) W1 rfl rfl (by kernel_rfl) rfl (pick_run _ (eval_tmp ea) (eval_tmp eb)) id (hk W1 Fz φ hC)
  | 11,_ =>
    have e0:t[79]?=some (.bool true):=hgot 10 79 (by kernel_rfl) (by kernel_rfl)
    exact Gm.op (.bool true) W1 rfl rfl (by kernel_rfl) rfl (mv_run _ (eval_tmp e0)) id (hk W1 Fz φ hC)
  | 12,_ =>
    have eg:t[80]?=some (.bool true):=hgot 11 80 (by kernel_rfl) (by kernel_rfl)
    refine Gm.enter (o:=⟨some 81,.call { callee:=.value (.func 17),args:=#[],argTypes:=#[] },_,_,_,some (11,true)⟩) (c:={ callee:=.value (.func 17),args:=#[],argTypes:=#[] }) (g:=17) (fn:=Try.f17) (body:=b17) rfl (wanted_guard (i:=11) (b:=true) (d:=80) rfl rfl eg) rfl rfl (by kernel_rfl) Try.func17 body17_of (by kernel_rfl) ?_
    refine dries_go E Fz Arg W0 _ φ _ [] W1 _ (by simp [Try.ntmps17]) fun φ1 W5 Fz1 o5=>?_
    rw [Fr_finish rfl]
    exact hk W5 Fz1 φ1 (hC.trans o5)
  | 13,_ =>
    have ea:t[80]?=some (.bool true):=hgot 11 80 (by kernel_rfl) (by kernel_rfl)
    have eb:t[81]?=some (.bool true):=hgot 12 81 (by kernel_rfl) (by kernel_rfl)
    exact Gm.op (.bool true) W1 rfl rfl (by kernel_rfl) rfl (pick_run _ (eval_tmp ea) (eval_tmp eb)) id (hk W1 Fz φ hC)
  | 14,_ =>
    have e0:t[82]?=some (.bool true):=hgot 13 82 (by kernel_rfl) (by kernel_rfl)
    exact Gm.op (.bool true) W1 rfl rfl (by kernel_rfl) rfl (as_run _ (eval_tmp e0)) id (hk W1 Fz φ hC)
  | n+15,h=>exact absurd h (by omega)
 ·intro t W1 Fz φ hC hsz hgot hold
  have e6:t[4]?=some (.bool true):=hgot 14 4 (by kernel_rfl)
  refine Gm.done Try.func7 (by kernel_rfl) (results7 (.bool true) _ e6) ?_
  exact fun ρ D own A fr W' h=>hPost _ ρ D own A fr _ W' h
theorem blind_end1 (E Fz Arg:Nat→Prop) (W0:World) (Post:Value→World→Prop) (φ:Ph) (W:World) (vb vo:Value) {kk:List Item} (t:Array Value) (hs:t.size=124) (m5:t[5]?=some (vb)) (m11:t[11]?=some (vo)) (m14:t[14]?=some (.bool true))
  (hPost:∀ Fz1 ρ D own A fr W1 W',Here Try.prog true E Fz1 Arg W0 ρ D own A fr [] W1 W'→Post (ren ρ (.bool true)) W') :
  GoM Try.prog true E Fz Arg W0 (AtEnd Try.prog Post) φ [] (Fr 7 t (.code x7_16 :: .code .ret :: kk)) [] W:=by
 rw [x7_16_eq]
 refine Gm.regionSeq (fun x=>OldC W x) (fun i=>([.bool true,.bool true,undef,undef,undef,undef,.bool true,.bool true,.bool true,.bool true,.bool true]:List Value).getD i undef) (by rw [hs];kernel_rfl) (OldC.refl _) ?_ ?_
 ·intro i hi t W1 Fz φ rest hC hsz hgot hold hk
  rw [show ops7_16.size=11 by kernel_rfl] at hi
  match i,hi with
  | 0,_ =>
    have e0:t[14]?=some (.bool true):=(hold 14 (by kernel_rfl)).trans m14
    exact Gm.op (.bool true) W1 rfl rfl (by kernel_rfl) rfl (mv_run _ (eval_tmp e0)) id (hk W1 Fz φ hC)
  | 1,_ =>
    have e0:t[114]?=some (.bool true):=hgot 0 114 (by kernel_rfl) (by kernel_rfl)
    exact Gm.op (.bool true) W1 rfl rfl (by kernel_rfl) rfl (mv_run _ (eval_tmp e0)) id (hk W1 Fz φ hC)
  | 2,_ =>
    have eg:t[115]?=some (.bool true):=hgot 1 115 (by kernel_rfl) (by kernel_rfl)
    exact Gm.pass rfl (wanted_not (i:=1) (b:=false) (d:=115) rfl rfl eg) (by kernel_rfl) rfl (hk W1 Fz φ hC)
  | 3,_ =>
    have eg:t[115]?=some (.bool true):=hgot 1 115 (by kernel_rfl) (by kernel_rfl)
    exact Gm.pass rfl (wanted_not (i:=1) (b:=false) (d:=115) rfl rfl eg) (by kernel_rfl) rfl (hk W1 Fz φ hC)
  | 4,_ =>
    have eg:t[115]?=some (.bool true):=hgot 1 115 (by kernel_rfl) (by kernel_rfl)
    exact Gm.pass rfl (wanted_not (i:=1) (b:=false) (d:=115) rfl rfl eg) (by kernel_rfl) rfl (hk W1 Fz φ hC)
  | 5,_ =>
    have eg:t[115]?=some (.bool true):=hgot 1 115 (by kernel_rfl) (by kernel_rfl)
    exact Gm.pass rfl (wanted_not (i:=1) (b:=false) (d:=115) rfl rfl eg) (by kernel_rfl) rfl (hk W1 Fz φ hC)
  | 6,_ =>
    have ea:t[115]?=some (.bool true):=hgot 1 115 (by kernel_rfl) (by kernel_rfl)
    exact Gm.op (.bool true) W1 rfl rfl (by kernel_rfl) rfl (pickTt_run _ (eval_tmp ea) rfl) id (hk W1 Fz φ hC)
  | 7,_ =>
    have e0:t[120]?=some (.bool true):=hgot 6 120 (by kernel_rfl) (by kernel_rfl)
    exact Gm.op (.bool true) W1 rfl rfl (by kernel_rfl) rfl (mv_run _ (eval_tmp e0)) id (hk W1 Fz φ hC)
  | 8,_ =>
    have eg:t[121]?=some (.bool true):=hgot 7 121 (by kernel_rfl) (by kernel_rfl)
    refine Gm.enter (o:=⟨some 122,.call { callee:=.value (.func 17),args:=#[],argTypes:=#[] },_,_,_,some (7,true)⟩) (c:={ callee:=.value (.func 17),args:=#[],argTypes:=#[] }) (g:=17) (fn:=Try.f17) (body:=b17) rfl (wanted_guard (i:=7) (b:=true) (d:=121) rfl rfl eg) rfl rfl (by kernel_rfl) Try.func17 body17_of (by kernel_rfl) ?_
    refine dries_go E Fz Arg W0 _ φ _ [] W1 _ (by simp [Try.ntmps17]) fun φ1 W5 Fz1 o5=>?_
    rw [Fr_finish rfl]
    exact hk W5 Fz1 φ1 (hC.trans o5)
  | 9,_ =>
    have ea:t[121]?=some (.bool true):=hgot 7 121 (by kernel_rfl) (by kernel_rfl)
    have eb:t[122]?=some (.bool true):=hgot 8 122 (by kernel_rfl) (by kernel_rfl)
    exact Gm.op (.bool true) W1 rfl rfl (by kernel_rfl) rfl (pick_run _ (eval_tmp ea) (eval_tmp eb)) id (hk W1 Fz φ hC)
  | 10,_ =>
    have e0:t[123]?=some (.bool true):=hgot 9 123 (by kernel_rfl) (by kernel_rfl)
    exact Gm.op (.bool true) W1 rfl rfl (by kernel_rfl) rfl (as_run _ (eval_tmp e0)) id (hk W1 Fz φ hC)
  | n+11,h=>exact absurd h (by omega)
 ·intro t W1 Fz φ hC hsz hgot hold
  have e6:t[4]?=some (.bool true):=hgot 10 4 (by kernel_rfl)
  refine Gm.done Try.func7 (by kernel_rfl) (results7 (.bool true) _ e6) ?_
  exact fun ρ D own A fr W' h=>hPost _ ρ D own A fr _ W' h
theorem blind_end2 (E Fz Arg:Nat→Prop) (W0:World) (Post:Value→World→Prop) (φ:Ph) (W:World) (vb vo:Value) (other plan:List Int) {kk:List Item} (t:Array Value) (hs:t.size=124) (m5:t[5]?=some (vb)) (m11:t[11]?=some (vo)) (m14:t[14]?=some (.bool false)) (hvo:Sl W vo 1 (other.map one)) (hvb:Sl W vb 1 (plan.map one)) (hl1:other.length≤1000000000) (hl2:plan.length≤1000000000) (hls:lessB other plan=false)
  (hPost:∀ Fz1 ρ D own A fr W1 W',Here Try.prog true E Fz1 Arg W0 ρ D own A fr [] W1 W'→Post (ren ρ (.bool true)) W') :
  GoM Try.prog true E Fz Arg W0 (AtEnd Try.prog Post) φ [] (Fr 7 t (.code x7_16 :: .code .ret :: kk)) [] W:=by
 rw [x7_16_eq]
 refine Gm.regionSeq (fun x=>OldC W x) (fun i=>([.bool false,.bool false,vo,vb,.bool false,.bool true,.bool true,.bool true,.bool true,.bool true,.bool true]:List Value).getD i undef) (by rw [hs];kernel_rfl) (OldC.refl _) ?_ ?_
 ·intro i hi t W1 Fz φ rest hC hsz hgot hold hk
  rw [show ops7_16.size=11 by kernel_rfl] at hi
  match i,hi with
  | 0,_ =>
    have e0:t[14]?=some (.bool false):=(hold 14 (by kernel_rfl)).trans m14
    exact Gm.op (.bool false) W1 rfl rfl (by kernel_rfl) rfl (mv_run _ (eval_tmp e0)) id (hk W1 Fz φ hC)
  | 1,_ =>
    have e0:t[114]?=some (.bool false):=hgot 0 114 (by kernel_rfl) (by kernel_rfl)
    exact Gm.op (.bool false) W1 rfl rfl (by kernel_rfl) rfl (mv_run _ (eval_tmp e0)) id (hk W1 Fz φ hC)
  | 2,_ =>
    have eg:t[115]?=some (.bool false):=hgot 1 115 (by kernel_rfl) (by kernel_rfl)
    have e0:t[11]?=some (vo):=(hold 11 (by kernel_rfl)).trans m11
    exact Gm.op (vo) W1 rfl (wanted_guard (i:=1) (b:=false) (d:=115) rfl rfl eg) (by kernel_rfl) rfl (mv_run _ (eval_tmp e0)) id (hk W1 Fz φ hC)
  | 3,_ =>
    have eg:t[115]?=some (.bool false):=hgot 1 115 (by kernel_rfl) (by kernel_rfl)
    have e0:t[5]?=some (vb):=(hold 5 (by kernel_rfl)).trans m5
    exact Gm.op (vb) W1 rfl (wanted_guard (i:=1) (b:=false) (d:=115) rfl rfl eg) (by kernel_rfl) rfl (mv_run _ (eval_tmp e0)) id (hk W1 Fz φ hC)
  | 4,_ =>
    have eg:t[115]?=some (.bool false):=hgot 1 115 (by kernel_rfl) (by kernel_rfl)
    have a0:t[116]?=some (vo):=hgot 2 116 (by kernel_rfl) (by kernel_rfl)
    have a1:t[117]?=some (vb):=hgot 3 117 (by kernel_rfl) (by kernel_rfl)
    refine Gm.call (F:=FW) (n:=0) (j:=4) (o:=⟨some 118,.call { callee:=.value (.func 42),args:=#[.tmp 116,.tmp 117],argTypes:=#[38,38] },_,_,_,some (1,false)⟩) (c:={ callee:=.value (.func 42),args:=#[.tmp 116,.tmp 117],argTypes:=#[38,38] }) (R:=fun v W'=>v=.bool false∧OldC W1 W') (args:=#[vo,vb]) rfl FW_ok rfl (wanted_guard (i:=1) (b:=false) (d:=115) rfl rfl eg) rfl rfl (by kernel_rfl) Try.func42 body42_of (by kernel_rfl) (by kernel_rfl) (FW_ok 42 trivial (by kernel_rfl)) rfl ?_ (fun τ=>?_) ?_
    ·simp only [List.map_toArray,List.map_cons,List.map_nil,show (Fr 7 t []).eval (.tmp 116)=vo from eval_tmp a0,show (Fr 7 t []).eval (.tmp 117)=vb from eval_tmp a1]
    ·exact one_back (by have:=less42_any vo vb other plan { W1 with tape:=τ } (hvo.oc (hC.trans (OldC.same rfl))) (hvb.oc (hC.trans (OldC.same rfl))) hl1 hl2;rw [hls] at this;exact this)
    ·rintro v W' ⟨rfl,o⟩
     exact hk W' Fz φ (hC.trans o)
  | 5,_ =>
    have eg:t[115]?=some (.bool false):=hgot 1 115 (by kernel_rfl) (by kernel_rfl)
    have e0:t[118]?=some (.bool false):=hgot 4 118 (by kernel_rfl) (by kernel_rfl)
    exact Gm.op (.bool true) W1 rfl (wanted_guard (i:=1) (b:=false) (d:=115) rfl rfl eg) (by kernel_rfl) rfl (notF_run _ (eval_tmp e0)) id (hk W1 Fz φ hC)
  | 6,_ =>
    have ea:t[115]?=some (.bool false):=hgot 1 115 (by kernel_rfl) (by kernel_rfl)
    have eb:t[119]?=some (.bool true):=hgot 5 119 (by kernel_rfl) (by kernel_rfl)
    exact Gm.op (.bool true) W1 rfl rfl (by kernel_rfl) rfl (pickTf_run _ (eval_tmp ea) (eval_tmp eb)) id (hk W1 Fz φ hC)
  | 7,_ =>
    have e0:t[120]?=some (.bool true):=hgot 6 120 (by kernel_rfl) (by kernel_rfl)
    exact Gm.op (.bool true) W1 rfl rfl (by kernel_rfl) rfl (mv_run _ (eval_tmp e0)) id (hk W1 Fz φ hC)
  | 8,_ =>
    have eg:t[121]?=some (.bool true):=hgot 7 121 (by kernel_rfl) (by kernel_rfl)
    refine Gm.enter (o:=⟨some 122,.call { callee:=.value (.func 17),args:=#[],argTypes:=#[] },_,_,_,some (7,true)⟩) (c:={ callee:=.value (.func 17),args:=#[],argTypes:=#[] }) (g:=17) (fn:=Try.f17) (body:=b17) rfl (wanted_guard (i:=7) (b:=true) (d:=121) rfl rfl eg) rfl rfl (by kernel_rfl) Try.func17 body17_of (by kernel_rfl) ?_
    refine dries_go E Fz Arg W0 _ φ _ [] W1 _ (by simp [Try.ntmps17]) fun φ1 W5 Fz1 o5=>?_
    rw [Fr_finish rfl]
    exact hk W5 Fz1 φ1 (hC.trans o5)
  | 9,_ =>
    have ea:t[121]?=some (.bool true):=hgot 7 121 (by kernel_rfl) (by kernel_rfl)
    have eb:t[122]?=some (.bool true):=hgot 8 122 (by kernel_rfl) (by kernel_rfl)
    exact Gm.op (.bool true) W1 rfl rfl (by kernel_rfl) rfl (pick_run _ (eval_tmp ea) (eval_tmp eb)) id (hk W1 Fz φ hC)
  | 10,_ =>
    have e0:t[123]?=some (.bool true):=hgot 9 123 (by kernel_rfl) (by kernel_rfl)
    exact Gm.op (.bool true) W1 rfl rfl (by kernel_rfl) rfl (as_run _ (eval_tmp e0)) id (hk W1 Fz φ hC)
  | n+11,h=>exact absurd h (by omega)
 ·intro t W1 Fz φ hC hsz hgot hold
  have e6:t[4]?=some (.bool true):=hgot 10 4 (by kernel_rfl)
  refine Gm.done Try.func7 (by kernel_rfl) (results7 (.bool true) _ e6) ?_
  exact fun ρ D own A fr W' h=>hPost _ ρ D own A fr _ W' h
end Go.Proofs.Ytedomogjmhommaa
namespace Go.Proofs.Ytedomogjmhommaa
open Go.RowKit Go.Con Go.Conc Go.ChangeShapes Go.WideShapes Go.ChangeAt
local instance dryI89:Lone:=dryL
def Kind (W:World) (v:Value):Prop:=∀ a n c,v=.slice (some a) n c→∃ cs e fz,W.heap[a.block]?=some (.cells cs e fz)
abbrev three (x:Int×Int×Int):List Value:=[num x.1,num x.2.1,num x.2.2]
theorem add_none (b off k:Nat):(⟨b,off,none⟩:Addr).add k=⟨b,off+k,none⟩:=by
 unfold Addr.add
 split
 ·rename_i h;subst h;rfl
 ·rfl
theorem list_of {α:Type} {p:Nat→α→Prop}:∀ n:Nat,(∀ i,i<n→∃ z,p i z)→∃ l:List α,l.length=n∧∀ i z,l[i]?=some z→p i z
 | 0,_=>⟨[],rfl,fun i z h=>by simp at h⟩
 | n+1,h=>by
  obtain⟨l,h1,h2⟩:=list_of n fun i hi=>h i (by omega)
  obtain⟨z,hz⟩:=h n (by omega)
  refine⟨l++[z],by simp [h1],fun i y hy=>?_⟩
  rcases Nat.lt_or_ge i l.length with hi | hi
  ·rw [List.getElem?_append_left hi] at hy
   exact h2 i y hy
  ·rw [List.getElem?_append_right hi] at hy
   have h0:i-l.length=0:=by
    have:=(List.getElem?_eq_some_iff.1 hy).1
    simp at this;omega
   rw [h0] at hy
   simp at hy
   have:i=n:=by omega
   subst this;subst hy;exact hz
section
variable {H:Type} {enc:TypeId×Value→H} {W:World}
noncomputable abbrev trodW (enc:TypeId×Value→H) (W:World):=DataW.trod enc Try.prog W 0 (fun _=>true) true
def Fits (t:TypeId) (d:DataW H):Prop:=∀ n∈d.weights Try.prog t,n≤reachBytes
theorem weightsAll_mem {e:TypeId} {n:Nat}:∀ {ds:List (DataW H)} {d:DataW H},d∈ds→n∈d.weights Try.prog e→n∈DataW.weightsAll Try.prog e ds
 | x :: ds,d,hd,hn=>by
  unfold DataW.weightsAll
  rcases List.mem_cons.1 hd with rfl | hd
  ·exact List.mem_append_left _ hn
  ·exact List.mem_append_right _ (weightsAll_mem hd hn)
theorem sl_open {α:Type} {en:α→List Value} {ok:α→Prop} {t e:TypeId} {fuel:Nat} {v:Value} {x:DataW H×List MemPlace} (ht:Try.prog.underlying t=some (.slice e)) (hbe:1≤Try.prog.bytesOf e)
  (hE:∀ n cs' y,trodW enc W n e cs'=some y→Fits e y.1→∃ z:α,cs'=en z∧ok z) (h:trodW enc W fuel t [v]=some x) (hfit:Fits t x.1) (hv:Cell.okWide Try.prog W .any 0 t v) :
  ∃ l:List α,Sl W v (Try.prog.cellsOf e) (l.map en)∧Kind W v∧l.length≤reachBytes∧∀ z∈l,ok z:=by
 rcases DataW.trod_slice ht h with ⟨h1,_⟩ | ⟨a,len,cap,elems,rest,n,_,h1,hxx,_,hl,hm,hlen,hel,_,_⟩
 ·simp only [List.cons.injEq,and_true] at h1
  subst h1
  exact⟨[],⟨0,.inl ⟨rfl,rfl⟩⟩,fun a n k e=>(by cases e),Nat.zero_le _,fun z hz=>by cases hz⟩
 ·simp only [List.cons.injEq,and_true] at h1
  subst h1
  subst hxx
  have hwt:(DataW.slice (elems.map (·.1)) (rest.map (·.1)):DataW H).weights Try.prog t=((elems.map (·.1)).length+(rest.map (·.1)).length) * Try.prog.bytesOf e :: (DataW.weightsAll Try.prog e (elems.map (·.1))++DataW.weightsAll Try.prog e (rest.map (·.1))):=by
   unfold DataW.weights
   rw [ht]
  unfold Fits at hfit
  dsimp only at hfit
  rw [hwt] at hfit
  have hlb:len≤reachBytes:=by
   have h1:=hfit _ (List.mem_cons_self ..)
   rw [List.length_map,List.length_map,hlen] at h1
   refine Nat.le_trans ?_ h1
   refine Nat.le_trans (Nat.le_add_right len rest.length) ?_
   exact Nat.le_mul_of_pos_right _ hbe
  have hef:∀ y∈elems,Fits e y.1:=fun y hy m hm=>hfit m (List.mem_cons_of_mem _ (List.mem_append_left _ (weightsAll_mem (List.mem_map_of_mem hy) hm)))
  simp only [Cell.okWide,ht,Cell.ok] at hv
  obtain⟨_,_,_,hs,row,cells,hsh,_⟩:=hv
  obtain⟨b,off,spot⟩:=a
  dsimp only at hs hsh
  subst hs
  have hcells:∃ cs e fz,W.heap[b]?=some (.cells cs e fz):=by
   unfold World.shape? at hsh
   split at hsh
   ·rename_i c e f hc;exact⟨_,_,_,hc⟩
   ·cases hsh
  obtain⟨l,hl1,hl2⟩:=list_of (p:=fun i (z:α)=>ok z∧∀ k y,(en z)[k]?=some y→W.cell? ⟨b,off+i * Try.prog.cellsOf e+k,none⟩=some y) len fun i hi=>by
   have h2:=hel i hi
   rw [List.getElem?_eq_getElem (by omega)] at h2
   obtain⟨cs',h3,h4⟩:=Option.bind_eq_some_iff.1 h2
   obtain⟨z,rfl,hz⟩:=hE _ _ _ h4 (hef _ (List.getElem_mem _))
   obtain⟨_,hn,hc⟩:=World.cells?_some h3
   refine⟨z,hz,fun k y hk=>?_⟩
   have hkl:=(List.getElem?_eq_some_iff.1 hk).1
   have:=hc k (by omega)
   rw [add_none,add_none,hk] at this
   exact this
  have hlt:b<W.heap.size:=by
   obtain⟨_,_,_,hc⟩:=hcells
   exact (Array.getElem?_eq_some_iff.1 hc).1
  refine⟨l,⟨cap,.inr ⟨b,off,by rw [List.length_map,hl1],hlt,fun j k z y hj hk=>?_⟩⟩,fun a n k e=>?_,by omega,fun z hz=>?_⟩
  ·rw [List.getElem?_map] at hj
   obtain⟨z',hz',rfl⟩:=Option.map_eq_some_iff.1 hj
   exact (hl2 j z' hz').2 k y hk
  ·cases e;exact hcells
  ·obtain⟨i,hi⟩:=List.mem_iff_getElem?.1 hz
   exact (hl2 i z hi).1
theorem read_num {t:TypeId} (ht:Try.prog.underlying t=some (.int .i64)) {n:Nat} {cs:List Value} {y:DataW H×List MemPlace} (h:trodW enc W n t cs=some y):∃ k:Int,cs=[num k]∧True:=by
 obtain⟨k,h1,_,h3⟩:=DataW.trod_int ht h
 exact⟨k,h1,trivial⟩
theorem read_bool {n:Nat} {cs:List Value} {y:DataW H×List MemPlace} (h:trodW enc W n 4 cs=some y):∃ b:Bool,cs=[.bool b]∧True:=by
 obtain⟨b,h1,_⟩:=DataW.trod_bool Try.underlying4 h
 exact⟨b,h1,trivial⟩
theorem read_two {t:TypeId} {f0 f1:Field} (ht:Try.prog.underlying t=some (.struct #[f0,f1])) (t0:f0.type=3) (t1:f1.type=3) (o0:f0.offset=0) (o1:f1.offset=1) (hc:Try.prog.cellsOf t=2) {n:Nat} {cs:List Value} {y:DataW H×List MemPlace} (h:trodW enc W n t cs=some y) :
  ∃ z:Int×Int,cs=two z∧True:=by
 obtain⟨xs,m,_,_,hl,hx,hf⟩:=DataW.trod_struct ht h
 have c3:Try.prog.cellsOf 3=1:=by kernel_rfl
 rw [hc] at hl
 match cs,hl with
 | [u,v],_ =>
  have h0:=hf 0 f0 rfl
  have h1:=hf 1 f1 rfl
  rw [t0,o0,c3,List.getElem?_eq_getElem (by rw [hx];simp)] at h0
  rw [t1,o1,c3,List.getElem?_eq_getElem (by rw [hx];simp)] at h1
  obtain⟨k,e0,_⟩:=read_num Try.underlying3 h0
  obtain⟨k',e1,_⟩:=read_num Try.underlying3 h1
  simp at e0 e1
  exact⟨(k,k'),by rw [e0,e1],trivial⟩
theorem read_three {t:TypeId} {f0 f1 f2:Field} (ht:Try.prog.underlying t=some (.struct #[f0,f1,f2])) (t0:f0.type=3) (t1:f1.type=3) (t2:f2.type=3) (o0:f0.offset=0) (o1:f1.offset=1) (o2:f2.offset=2) (hc:Try.prog.cellsOf t=3) {n:Nat} {cs:List Value} {y:DataW H×List MemPlace}
  (h:trodW enc W n t cs=some y):∃ z:Int×Int×Int,cs=three z∧True:=by
 obtain⟨xs,m,_,_,hl,hx,hf⟩:=DataW.trod_struct ht h
 have c3:Try.prog.cellsOf 3=1:=by kernel_rfl
 rw [hc] at hl
 match cs,hl with
 | [u,v,s],_ =>
  have h0:=hf 0 f0 rfl
  have h1:=hf 1 f1 rfl
  have h2:=hf 2 f2 rfl
  rw [t0,o0,c3,List.getElem?_eq_getElem (by rw [hx];simp)] at h0
  rw [t1,o1,c3,List.getElem?_eq_getElem (by rw [hx];simp)] at h1
  rw [t2,o2,c3,List.getElem?_eq_getElem (by rw [hx];simp)] at h2
  obtain⟨k,e0,_⟩:=read_num Try.underlying3 h0
  obtain⟨k',e1,_⟩:=read_num Try.underlying3 h1
  obtain⟨k2,e2,_⟩:=read_num Try.underlying3 h2
  simp at e0 e1 e2
  exact⟨(k,k',k2),by rw [e0,e1,e2],trivial⟩
theorem read_step {n:Nat} {cs:List Value} {y:DataW H×List MemPlace} (h:trodW enc W n 59 cs=some y):∃ z:Stp,cs=z.cells∧True:=by
 obtain⟨xs,m,_,_,hl,hx,hf⟩:=DataW.trod_struct Try.underlying59 h
 have c3:Try.prog.cellsOf 3=1:=by kernel_rfl
 have c4:Try.prog.cellsOf 4=1:=by kernel_rfl
 have c45:Try.prog.cellsOf 45=2:=by kernel_rfl
 rw [show Try.prog.cellsOf 59=6 by kernel_rfl] at hl
 match cs,hl with
 | [u0,u1,u2,u3,u4,u5],_ =>
  have h0:=hf 0 ⟨ "Damp",45,0,false,"","",0⟩ rfl
  have h1:=hf 1 ⟨ "Tended",4,2,false,"","",16⟩ rfl
  have h2:=hf 2 ⟨ "Water",45,3,false,"","",24⟩ rfl
  have h3:=hf 3 ⟨ "Colour",3,5,false,"","",40⟩ rfl
  rw [List.getElem?_eq_getElem (by rw [hx];simp)] at h0 h1 h2 h3
  dsimp only at h0 h1 h2 h3
  rw [c45] at h0 h2
  rw [c4] at h1
  rw [c3] at h3
  obtain⟨⟨k0,k1⟩,e0,_⟩:=read_two Try.underlying45 rfl rfl rfl rfl c45 h0
  obtain⟨k2,e1,_⟩:=read_bool h1
  obtain⟨⟨k3,k4⟩,e2,_⟩:=read_two Try.underlying45 rfl rfl rfl rfl c45 h2
  obtain⟨k5,e3,_⟩:=read_num Try.underlying3 h3
  simp at e0 e1 e2 e3
  exact⟨⟨k0,k1,k2,k3,k4,k5⟩,by rw [e0.1,e0.2,e1,e2.1,e2.2,e3],trivial⟩
structure DryIn (W:World) (d:Dry) (r:R2):Prop where
 heats:Sl W r.h 2 (d.heats.map two)
 steps:Sl W r.s 6 (d.steps.map Stp.cells)
 kh:Kind W r.h
 ks:Kind W r.s
 hl:d.heats.length≤140737488355328
 sl:d.steps.length≤140737488355328
theorem dry_open {v:Value} {dd:DataW H} {p:List MemPlace} {base:Nat} (hv:Value.okWide Try.prog W .any base 27 v) (h:DataW.Trod enc Try.prog W 0 (fun _=>true) true 27 v dd p) (hfit:Fits 27 dd) :
  ∃ (d:Dry) (r:R2),v=d.val r∧DryIn W d r:=by
 simp only [Value.okWide,Try.underlying27] at hv
 obtain⟨cs,rfl,hsz,ts,hts,_,hcell⟩:=hv
 rw [show Try.prog.cellTypes Try.prog.depth 27=some [22,3,3,3,3,3,25] by kernel_rfl] at hts
 cases hts
 rw [show Try.prog.cellsOf 27=7 by kernel_rfl] at hsz
 obtain⟨fuel,hf⟩:=h
 simp only [Value.cells] at hf
 obtain⟨xs,m,_,hyy,_,hx,hg⟩:=DataW.trod_struct Try.underlying27 hf
 simp only [Prod.mk.injEq] at hyy
 obtain⟨rfl,rfl⟩:=hyy
 have hwt:(DataW.agg (xs.map (·.1)):DataW H).weights Try.prog 27=DataW.weightsEach Try.prog [22,3,3,24,25] (xs.map (·.1)):=by
  unfold DataW.weights
  rw [Try.underlying27]
  rfl
 unfold Fits at hfit
 rw [hwt] at hfit
 have hx0:∀ (i:Nat) (y:DataW H×List MemPlace) (t:TypeId),xs[i]?=some y→([22,3,3,24,25]:List TypeId)[i]?=some t→Fits t y.1:=fun i y t hy ht m hm=>hfit m (DataW.weights_mem_each ht (by rw [List.getElem?_map,hy];rfl) m hm)
 obtain⟨l⟩:=cs
 simp only [List.size_toArray] at hsz
 match l,hsz with
 | [u0,u1,u2,u3,u4,u5,u6],_ =>
  have c3:Try.prog.cellsOf 3=1:=by kernel_rfl
  have c22:Try.prog.cellsOf 22=1:=by kernel_rfl
  have c24:Try.prog.cellsOf 24=3:=by kernel_rfl
  have c25:Try.prog.cellsOf 25=1:=by kernel_rfl
  have g0:=hg 0 ⟨ "Heats",22,0,false,"","",0⟩ rfl
  have g1:=hg 1 ⟨ "Soak",3,1,false,"","",24⟩ rfl
  have g2:=hg 2 ⟨ "Brittle",3,2,false,"","",32⟩ rfl
  have g3:=hg 3 ⟨ "Start",24,3,false,"","",40⟩ rfl
  have g4:=hg 4 ⟨ "Steps",25,6,false,"","",64⟩ rfl
  rw [List.getElem?_eq_getElem (by rw [hx];simp)] at g0 g1 g2 g3 g4
  dsimp only at g0 g1 g2 g3 g4
  rw [c22] at g0;rw [c3] at g1 g2;rw [c24] at g3;rw [c25] at g4
  simp only [List.drop_succ_cons,List.drop_zero,List.take_succ_cons,List.take_zero] at g0 g1 g2 g3 g4
  have kc:∀ (i:Nat) (y:Value) (t:TypeId),(#[u0,u1,u2,u3,u4,u5,u6]:Array Value)[i]?=some y→([22,3,3,3,3,3,25]:List TypeId)[i]?=some t→i<7→Cell.okWide Try.prog W .any 0 t y:=by
   intro i y t hy ht hi
   obtain⟨t',h1,h2⟩:=hcell i y hy
   have:i % ([22,3,3,3,3,3,25]:List TypeId).length=i:=Nat.mod_eq_of_lt hi
   rw [this,ht] at h1
   cases h1
   exact h2
  obtain⟨lh,a1,a3,a4,a5⟩:=sl_open (en:=two) (ok:=fun _=>True) Try.underlying22 (by decide +kernel) (fun n cs' y h hff=>read_two Try.underlying135 rfl rfl rfl rfl (by kernel_rfl) h) g0 (hx0 0 _ _ (List.getElem?_eq_getElem _) rfl) (kc 0 _ _ rfl rfl (by decide))
  obtain⟨ls,b1,b3,b4,b5⟩:=sl_open (en:=Stp.cells) (ok:=fun _=>True) Try.underlying25 (by decide +kernel) (fun n cs' y h hff=>read_step h) g4 (hx0 4 _ _ (List.getElem?_eq_getElem _) rfl) (kc 6 _ _ rfl rfl (by decide))
  obtain⟨n1,q1,_⟩:=read_num Try.underlying3 g1
  obtain⟨n2,q2,_⟩:=read_num Try.underlying3 g2
  obtain⟨⟨n3,n4,n5⟩,q3,_⟩:=read_three Try.underlying24 rfl rfl rfl rfl rfl rfl c24 g3
  simp only [List.cons.injEq,and_true] at q1 q2 q3
  obtain⟨rfl,rfl,rfl⟩:=q3
  subst q1 q2
  rw [show Try.prog.cellsOf 135=2 by kernel_rfl] at a1
  rw [show Try.prog.cellsOf 59=6 by kernel_rfl] at b1
  exact⟨⟨lh,n1,n2,⟨n3,n4,n5⟩,ls⟩,⟨u0,u6⟩,rfl,a1,b1,a3,b3,Nat.le_trans a4 (by decide),Nat.le_trans b4 (by decide)⟩
end
end Go.Proofs.Ytedomogjmhommaa
