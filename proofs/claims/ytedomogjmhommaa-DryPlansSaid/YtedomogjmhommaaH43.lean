import Derived.Test.YtedomogjmhommaaH19
import Derived.Test.YtedomogjmhommaaH22
import Derived.Test.YtedomogjmhommaaH42
import Derived.Test.YtedomogjmhommaaH07
set_option linter.all false
set_option maxRecDepth 100000
set_option maxHeartbeats 8000000
namespace Go.Proofs.Ytedomogjmhommaa
open Go.RowKit Go.Con Go.Conc
abbrev dryL:Lone:={ v:=fun f=>decide (16≤f) && decide (f<138) && (f != 17) && (f != 23) && (f != 65),lm:=true }
def zoW [Lone] (P:Program) (maps:Bool) (f:Nat):Bool:=match P.funcs[f]? with
 | some fn=>match fn.body with | some body=>za6 P maps body | none=>false
 | none=>false
theorem zoX [Lone] {P:Program} {maps:Bool} {f:Nat} (h:zoW P maps f=true):okFn P maps f:=by
 unfold zoW at h
 split at h
 ·rename_i fn hf
  split at h
  ·rename_i body hb
   exact⟨fn,body,hf,hb,h⟩
  ·cases h
 ·cases h
theorem zqu:(List.range 138).all (fun f=>!(@zaR dryL Try.prog (.func f)) || @zoW dryL Try.prog true f)=true:=by kernel_rfl
theorem zbl:∀ f,FW.fn f→@zaR dryL Try.prog (.func f)=true→@okFn dryL Try.prog true f:=by
 intro f _ hg
 have hv:dryL.v f=true:=by
  unfold zaR at hg
  dsimp only at hg
  split at hg
  ·simp only [Bool.and_eq_true] at hg;exact hg.2
  ·cases hg
 refine @zoX dryL _ _ _ ?_
 have hv' : (decide (16≤f) && decide (f<138) && (f != 17) && (f != 23) && (f != 65))=true:=hv
 have hl:f<138:=by
  simp only [Bool.and_eq_true,decide_eq_true_eq] at hv'
  exact hv'.1.1.1.2
 have h1:=List.all_eq_true.1 zqu f (List.mem_range.2 hl)
 revert h1
 generalize @zoW dryL Try.prog true f=b
 rw [hg]
 exact id
section
variable {dst:Option Nat} {ty:TypeId} {pos:String} {af:Array Edge} {gd:Option (Nat×Bool)} {x y:Nat}
theorem zo8 {c:Nat} (e:Operand→Value) (w:World) (h:e (.tmp x)=.chan (some c)) :
  (execOp e ⟨dst,.send (.tmp x) (.tmp y),ty,pos,af,gd⟩).run Try.prog w=.ok (.comm #[scase c (e (.tmp y)) undef] true .send) w∧(execOp e ⟨dst,.send (.tmp x) (.tmp y),ty,pos,af,gd⟩).events Try.prog w #[]=#[]:=by
 simp [execOp,go_sem,h]
 rfl
theorem zeT (e:Operand→Value) {w:World} {v:Value} (h:e (.tmp x)=v) (τ:Tape):(execOp e ⟨dst,.move (.tmp x),ty,pos,af,gd⟩).run Try.prog { w with tape:=τ }=.ok (.value v) { w with tape:=τ }:=by
 simp [execOp,go_sem,h]
theorem zgP {a:Addr} {v:Value} {w:World} (e:Operand→Value) (h:e (.tmp x)=.pointer (some a)) (hc:w.cell? a=some v) (τ:Tape) :
  (execOp e ⟨dst,.load 111 (.tmp x),ty,pos,af,gd⟩).run Try.prog { w with tape:=τ }=.ok (.value v) { w with tape:=τ }:=by
 have hc' : ({ w with tape:=τ }:World).cell? a=some v:=hc
 simp [execOp,go_sem,h,hc']
theorem zi3 {sa:Option Addr} {sn sc:Nat} {sb:Bool} {w:World} (e:Operand→Value) (h:e (.tmp x)=.slice sa sn sc) (h2:e (.tmp y)=.bool sb) (τ:Tape) :
  (execOp e ⟨dst,.build 115 #[(0,.tmp x),(1,.tmp y)],ty,pos,af,gd⟩).run Try.prog { w with tape:=τ }=.ok (.value (.agg #[.slice sa sn sc,.bool sb])) { w with tape:=τ }:=by
 simp [execOp,go_sem,h,h2]
end
theorem zpU {t:Array Value} {i:Nat} {v:Value} (h:t[i]?=some v):t.getD i undef=v:=by simp [h]
theorem zam {f:Nat} {t:Array Value} {k:List Item} {i:Nat} {v:Value} (h:t[i]?=some v):(Fr f t k).eval (.tmp i)=v:=by
 show t.getD i undef=v
 exact zpU h
structure WkD (w:World) (p0 p1 p2 p3 B c h:Nat) (d:Dry):Prop where
 gl:Try.prog.globals.size≤w.heap.size
 st:StoveAt w B d
 r0:w.cell? ⟨p0,0,none⟩=some (ptr B)
 r3:w.cell? ⟨p1,3,none⟩=some (num d.start.w)
 r4:w.cell? ⟨p1,4,none⟩=some (num d.start.c)
 r5:w.cell? ⟨p1,5,none⟩=some (num d.start.h)
 r2:w.cell? ⟨p2,0,none⟩=some (num h)
 rc:w.cell? ⟨p3,0,none⟩=some (.chan (some (2 * c)))
def ansB (d:Dry) (x:Stp) (h:Nat):List Int×Bool:=zbt d (zaY d (d.steps.drop 1)) x [d.start] d.start.h h
def KB (r:List Int×Bool) (h:Nat→Value):Option (Array Value×TypeId×(Nat×Nat))→Prop
 | none=>(∀ b,h b=.agg #[.slice none 0 0,.bool r.2])∧r.1=[]
 | some (cells,e,fz)=>∃ (cap:Nat) (ys:List Int),(∀ b,h b=.agg #[.slice (some ⟨b,0,none⟩) r.1.length cap,.bool r.2])∧e=3∧fz=(0,0)∧0<r.1.length∧cells=((r.1++ys).map num).toArray
theorem zlW {cs:Array Value} (h:∀ u∈cs,∃ n,u=num n) (σ:Rn):cs.map (ren σ)=cs:=by
 conv=>rhs;rw [← Array.map_id cs]
 exact Array.map_congr_left fun u hu=>by obtain⟨n,rfl⟩:=h u hu;simp [ren]
def opsOf:Code→Array Oper | .region _ ops _=>ops | _=>#[]
noncomputable def ops65:Array Oper:=opsOf x65b
theorem zqj:x65b=.region 1 ops65 false:=by kernel_rfl
theorem zgo {w:World} {b i:Nat} {v:Value} (h:w.cell? ⟨b,i,none⟩=some v):b<w.heap.size:=by
 obtain⟨c,e,fz,h1⟩:=zbU h
 exact (Array.getElem?_eq_some_iff.1 h1).1
theorem zod (Ac:Nat→Prop) (B0:Nat) (W:World) (p0 p1 p2 p3 B c h:Nat) (d:Dry) (x:Stp) (hO:d.Ok) (hsO:d.start.Ok d.heats.length) (hsI:StI d.start) (hx:d.steps[0]?=some x) (hh:h<d.heats.length) (hw:0≤d.start.h∧d.start.h≤4)
  (hk:WkD W p0 p1 p2 p3 B c h d) (hAc:∀ b,Ac b→b<W.heap.size) :
  @GoW dryL Try.prog true (fun _=>False) Ac B0 c (zdR B0 (KB (ansB d x h))) (Fr 65 #[ptr p0,ptr p1,ptr p2,ptr p3,undef,undef,undef,undef,undef,undef,undef,undef,undef,undef,undef,undef,undef,undef,undef,undef,undef,undef,undef] [.code b65]) W:=by
 letI:=dryL
 rw [zqs]
 refine Gw.seq ?_
 refine Gw.lone (F:=FW) (fun t1 W1=>t1.size=23∧t1[3]?=some (ptr p3)∧W1.cell? ⟨p3,0,none⟩=some (.chan (some (2 * c)))∧Try.prog.globals.size≤W.heap.size∧∃ v,t1[4]?=some v∧t1[5]?=some (.bool (ansB d x h).2)∧FlI W1 W.heap.size v (ansB d x h).1)
  rfl rfl trivial zbl (by kernel_rfl) (by kernel_rfl) (fun τ=>?_) ?_
 ·refine wpIn_mono (zqT d hO hsO hsI B p0 p1 p2 p3 h x hx { W with tape:=τ } ⟨hk.st.lt,hk.st.heats,hk.st.soak,hk.st.brittle,hk.st.s0,hk.st.s1,hk.st.s2,hk.st.steps,hk.st.stages⟩ hh hw hk.r0 hk.r3 hk.r4 hk.r5 hk.r2 (zgo hk.r0) (zgo hk.r3) (zgo hk.r2)) ?_
  have hlt:p3<W.heap.size:=zgo hk.rc
  rintro e a w' ⟨h1,h2,v,h3,h4,h5,h6,h7,h8⟩
  refine⟨h1,h2,h3,h4,(Below.cell h7 (by exact hlt)).trans hk.rc,hk.gl,v,h5,h6,h8⟩
 rintro t2 W2 ⟨hs,ht3,hc2,hgl,v,ht4,ht5,hF⟩
 rw [zqj]
 refine Gw.region ?_
 have hr:List.range ops65.size=[0,1,2,3,4]:=by kernel_rfl
 rw [hr]
 refine Gw.op (o:=⟨some 19,.load 111 (.tmp 3),_,_,_,none⟩) (.chan (some (2 * c))) W2 rfl rfl (by kernel_rfl) rfl (zgP _ (zam ht3) hc2) id ?_
 refine Gw.op (o:=⟨some 20,.move (.tmp 4),_,_,_,none⟩) v W2 rfl rfl (by kernel_rfl) rfl (zeT _ (zam (by simp [putD,ht4]))) id ?_
 refine Gw.op (o:=⟨some 21,.move (.tmp 5),_,_,_,none⟩) (.bool (ansB d x h).2) W2 rfl rfl (by kernel_rfl) rfl (zeT _ (zam (by simp [putD,ht5]))) id ?_
 obtain⟨sa,sn,sc,hv⟩:∃ sa sn sc,v=.slice sa sn sc:=by
  rcases hF with ⟨h1,_⟩ | ⟨g,cap,ys,h1,_⟩<;>exact⟨_,_,_,h1⟩
 refine Gw.op (o:=⟨some 22,.build 115 #[(0,.tmp 20),(1,.tmp 21)],_,_,_,none⟩) (.agg #[v,.bool (ansB d x h).2]) W2 rfl rfl (by kernel_rfl) rfl (by rw [hv] at *;exact zi3 _ (zam (by simp [putD,hs])) (zam (by simp [putD,hs]))) id ?_
 refine Gw.send (o:=⟨none,.send (.tmp 19) (.tmp 22),_,_,_,none⟩) (x:=.tmp 19) (y:=.tmp 22) (z:=undef) (v:=.agg #[v,.bool (ansB d x h).2]) rfl rfl rfl rfl (zam (by simp [putD,hs])) (zam (by simp [putD,hs])) (fun e w h=>zo8 e w h) Try.func65 rfl ?_
 intro ρ D own A W' hh'
 rcases hF with ⟨rfl,h0⟩ | ⟨g,cap,ys,rfl,hg1,hg2,hg3⟩
 ·refine⟨hh'.low,.inl ⟨fun _=>.agg #[.slice none 0 0,.bool (ansB d x h).2],fun _=>?_,fun σ=>by simp [ren,renA,renL],fun _=>rfl,h0⟩⟩
  simp [ren,renA,renL]
 ·refine hh'.flat (N:=W.heap.size) (g:=g) (j:=22) hAc hg1 hgl (v:=.agg #[.slice (some ⟨g,0,none⟩) (ansB d x h).1.length cap,.bool (ansB d x h).2]) ?_ (h0:=fun b=>.agg #[.slice (some ⟨b,0,none⟩) (ansB d x h).1.length cap,.bool (ansB d x h).2]) rfl ?_ ?_ hg3 (zlW fun u hu=>?_) ?_
  ·simp [putD,hs]
  ·intro D' hsv
   simp only [supV,ren,renA,renL,Option.map_some,Value.agg.injEq,Array.mk.injEq,List.cons.injEq,Value.slice.injEq,Option.some.injEq,renAddr_eq,and_true,true_and] at hsv
   exact dbl_eq.1 hsv
  ·intro σ m
   simp [ren,renA,renL,zak]
  ·simp only [List.mem_toArray,List.mem_map] at hu
   obtain⟨n,_,rfl⟩:=hu
   exact⟨n,rfl⟩
  ·exact⟨cap,ys,fun _=>rfl,rfl,rfl,hg2,rfl⟩
end Go.Proofs.Ytedomogjmhommaa
namespace Go.Proofs.Ytedomogjmhommaa
open Go.RowKit Go.Con Go.Conc
section
variable {W Wc:World} {n:Nat} {roots X:Nat→Prop}
theorem zos (h:CutOf (Rch W n roots X) W Wc) {b i:Nat} {v:Value} (hb:Rch W n roots X b) (hc:W.cell? ⟨b,i,none⟩=some v) (hv:∀ S,Nice S v):Wc.cell? ⟨b,i,none⟩=some v:=h.cell b i _ hb hc (hv _)
def TwoC (W:World) (b:Nat):Prop:=∃ i v,1≤i∧W.cell? ⟨b,i,none⟩=some v
theorem zm3 (h:CutOf (Rch W n roots (TwoC W)) W Wc) {r i sz:Nat} {v:Value} {xs:List (List Value)} (hr:Rch W n roots (TwoC W) r) (hc:W.cell? ⟨r,i,none⟩=some v)
  (hs:Sl W v sz xs) (hne:xs≠[]) (hl:∀ l∈xs,2≤l.length) (hp:∀ l∈xs,∀ x∈l,∀ S,Nice S x):Wc.cell? ⟨r,i,none⟩=some v∧Sl Wc v sz xs:=by
 obtain⟨cap,⟨h1,_⟩ | ⟨b,off,rfl,hb,hcs⟩⟩:=hs
 ·exact absurd h1 hne
 ·obtain⟨l0,hl0⟩:∃ l0,xs[0]?=some l0:=by
   cases xs with
   | nil=>exact absurd rfl hne
   | cons l0 _=>exact⟨l0,rfl⟩
  have h2:=hl l0 (List.mem_of_getElem? hl0)
  have hx:l0[1]?=some (l0[1]'(by omega)):=List.getElem?_eq_getElem _
  have hc1:=hcs 0 1 l0 _ hl0 hx
  have hR:Rch W n roots (TwoC W) b:=.cell hr hc (.inr (.inl ⟨_,_,_,rfl,rfl⟩)) (.inl (zbU hc1)) ⟨_,_,by omega,hc1⟩
  refine⟨h.cell r i _ hr hc hR,⟨cap,.inr ⟨b,off,rfl,?_,fun j k l x hj hk'=>?_⟩⟩⟩
  ·rw [h.size];exact hb
  ·exact h.cell b _ _ hR (hcs j k l x hj hk') (hp l (List.mem_of_getElem? hj) x (List.mem_of_getElem? hk') _)
theorem zqg (h:CutOf (Rch W n roots (TwoC W)) W Wc) (hgl:Try.prog.globals.size≤W.heap.size) {p0 p1 p2 p3 B c k:Nat} {d:Dry} (hst:StoveAt W B d) (h1:d.heats≠[]) (h2:d.steps≠[])
  (q0:roots p0) (q1:roots p1) (q2:roots p2) (q3:roots p3) (r0:W.cell? ⟨p0,0,none⟩=some (ptr B)) (r3:W.cell? ⟨p1,3,none⟩=some (num d.start.w)) (r4:W.cell? ⟨p1,4,none⟩=some (num d.start.c)) (r5:W.cell? ⟨p1,5,none⟩=some (num d.start.h)) (r2:W.cell? ⟨p2,0,none⟩=some (num k)) (rc:W.cell? ⟨p3,0,none⟩=some (.chan (some (2 * c)))) :
  WkD Wc p0 p1 p2 p3 B c k d:=by
 have rB:Rch W n roots (TwoC W) B:=.cell (.root q0) r0 (.inl ⟨_,rfl,rfl⟩) (.inl (zbU hst.soak)) ⟨1,_,by omega,hst.soak⟩
 have nn:∀ {b i:Nat} {z:Int},Rch W n roots (TwoC W) b→W.cell? ⟨b,i,none⟩=some (num z)→Wc.cell? ⟨b,i,none⟩=some (num z):=fun hb hc=>zos h hb hc fun _=>trivial
 obtain⟨v0,c0,s0⟩:=hst.heats
 obtain⟨v6,c6,s6⟩:=hst.steps
 obtain⟨v7,c7,s7⟩:=hst.stages
 have k0:=zm3 h rB c0 s0 (by simpa using h1) (fun l hl=>by obtain⟨p,_,rfl⟩:=List.mem_map.1 hl;exact Nat.le_refl 2) (fun l hl x hx S=>by
  obtain⟨p,_,rfl⟩:=List.mem_map.1 hl
  simp only [two,List.mem_cons,List.not_mem_nil,or_false] at hx
  rcases hx with rfl | rfl<;>trivial)
 have k6:=zm3 h rB c6 s6 (by simpa using h2) (fun l hl=>by obtain⟨p,_,rfl⟩:=List.mem_map.1 hl;exact Nat.le_add_left 2 4) (fun l hl x hx S=>by
  obtain⟨p,_,rfl⟩:=List.mem_map.1 hl
  simp only [Stp.cells,List.mem_cons,List.not_mem_nil,or_false] at hx
  rcases hx with rfl | rfl | rfl | rfl | rfl | rfl<;>trivial)
 have k7:=zm3 h rB c7 s7 (by simpa using h2) (fun l hl=>by obtain⟨p,_,rfl⟩:=List.mem_map.1 hl;exact Nat.le_add_left 2 5) (fun l hl x hx S=>by
  obtain⟨p,_,rfl⟩:=List.mem_map.1 hl
  simp only [zd5,List.mem_cons,List.not_mem_nil,or_false] at hx
  rcases hx with rfl | rfl | rfl | rfl | rfl | rfl | rfl<;>trivial)
 exact⟨by rw [h.size];exact hgl,⟨by rw [h.size];exact hst.lt,⟨v0,k0⟩,nn rB hst.soak,nn rB hst.brittle,nn rB hst.s0,nn rB hst.s1,nn rB hst.s2,⟨v6,k6⟩,⟨v7,k7⟩⟩,h.cell p0 0 _ (.root q0) r0 rB,nn (.root q1) r3,nn (.root q1) r4,nn (.root q1) r5,nn (.root q2) r2,h.cell p3 0 _ (.root q3) rc (by show 2 * c % 2=0;omega)⟩
theorem zjC (hG:∀ b,b<n→ze9 W b) (hr:∀ b,roots b→ze9 W b) {b:Nat} (h:Rch W n roots (TwoC W) b):ze9 W b:=by
 cases h with
 | glob h=>exact hG _ h
 | root h=>exact hr _ h
 | cell _ _ _ _ hx=>obtain⟨i,v,_,hc⟩:=hx;exact zbU hc
 | entry _ _ _ _ _ hx=>obtain⟨i,v,_,hc⟩:=hx;exact zbU hc
end
end Go.Proofs.Ytedomogjmhommaa
namespace Go.Proofs.Ytedomogjmhommaa
open Go.RowKit Go.Con Go.Conc
theorem ze6 {F:Fence} {n:Nat} {P:Program} {ops:Array Oper} {Q:Exit→Act→World→Prop} {rest:List Oper} {o:Oper} {a:Act} {w:World} (hF:∀ f,F.fn f) (hw:Region.wanted o (yielded ops a.tmps)=false) (h:wpListIn F n P ops Q rest (a.put o.dst undef) w):wpListIn F n P ops Q (o :: rest) a w:=by
 simp only [wpListIn,hw]
 exact⟨fun f _=>hF f,h⟩
def cL:Code→Code | .seq x _=>x | c=>c
def cR:Code→Code | .seq _ y=>y | c=>c
def cB:Code→Code | .block _ x=>x | .loop x=>x | c=>c
noncomputable def b23:Code:=match Try.f23.body with | some c=>c | none=>.skip
noncomputable def zbK:Code:=cR (cR (cR (cR (cR b23))))
noncomputable def zbZ:Code:=cB (cL (cR (cR (cB (cB (cR (cL zbK)))))))
noncomputable def x23_15:Code:=cL (cR zbZ)
theorem zpM (u0 u1 u4 u5 u6 u7 u9 u10 u11 u12 u13 u14 u15 u16 u17 u18 u19 u20 u21 u22 u23 u24 u25 u26 u27 u28 u29 u30 u31 u32 u33 u34 u35 u36 u37 u38 u39 u40 u41 u42 u43 u44 u45 u46 u47 u48 u49 u50 u51 u52 u53 u54 u55 u56:Value) (sa:Option Addr) (scap:Nat) (ss xs:List Int) (sb xb:Bool) (g:Nat) (xv:Value) (w:World) (hg:w.heap[g]?=some (.cells #[xv,.bool xb] 115 (0,0))) (hx:Sl w xv 1 (xs.map one)) (hs:Sl w (.slice sa ss.length scap) 1 (ss.map one)) (hl:xs.length≤1000000000) (hl2:ss.length≤1000000000) :
  x23_15.wpIn FW 0 Try.prog (fun e a w'=>e=.normal∧a.defers=[]∧(a.tmps.size=57∧a.tmps[0]?=some u0∧a.tmps[1]?=some u1∧a.tmps[2]?=some ((.slice sa ss.length scap))∧a.tmps[3]?=some (.bool sb)∧a.tmps[5]?=some u5∧a.tmps[6]?=some u6∧a.tmps[8]?=some (ptr g)∧a.tmps[34]?=some u34∧a.tmps[35]?=some u35∧a.tmps[51]?=some (.bool (xb && (!sb || decide (cmpL xs ss<0)))))∧w'=w) ⟨#[u0,u1,(.slice sa ss.length scap),.bool sb,u4,u5,u6,u7,ptr g,u9,u10,u11,u12,u13,u14,u15,u16,u17,u18,u19,u20,u21,u22,u23,u24,u25,u26,u27,u28,u29,u30,u31,u32,u33,u34,u35,u36,u37,u38,u39,u40,u41,u42,u43,u44,u45,u46,u47,u48,u49,u50,u51,u52,u53,u54,u55,u56],[]⟩ w:=by
 have k67:=fun (w1:World) (h1:w1=w)=>zmX xv (.slice sa ss.length scap) xs ss w1 (h1 ▸ hx) (h1 ▸ hs) hl hl2
 obtain⟨xa,xc,rfl⟩:=hx.cases
 rw [List.length_map] at *
 have e0:w.cell? ⟨g,0,none⟩=some (.slice xa xs.length xc):=zaa hg rfl
 have e1:w.cell? ⟨g,1,none⟩=some (.bool xb):=zaa hg rfl
 generalize cmpL xs ss=c at *
 clear hx hs hg
 simp only [x23_15,zbZ,zbK,b23,Try.f23,cL,cR,cB]
 cases xb
 ·clear k67
  gi_wp2_with (refine ze6 (fun _=>trivial) rfl ?_)
 ·cases sb
  ·clear k67
   gi_wp2_with (refine ze6 (fun _=>trivial) rfl ?_)
  ·gi_wp2_with (gi_at_call 67;refine CallsIn.mono (k67 _ rfl) ?_;rintro e w1 ⟨rfl,hw1⟩;subst hw1)
end Go.Proofs.Ytedomogjmhommaa
namespace Go.Proofs.Ytedomogjmhommaa
open Go.RowKit Go.Con Go.Conc
noncomputable def y0:Code:=cL b23
noncomputable def y1:Code:=cL (cR b23)
noncomputable def yB:Code:=cB (cL (cR (cR b23)))
noncomputable def y2:Code:=cL yB
def cT:Code→Code | .cond _ x _=>x | c=>c
def cE:Code→Code | .cond _ _ y=>y | c=>c
noncomputable def y3:Code:=cL (cT (cR yB))
noncomputable def y4:Code:=cL (cE (cR yB))
noncomputable def y5:Code:=cL (cT (cR (cE (cR yB))))
noncomputable def y6:Code:=cL (cR (cR (cR b23)))
noncomputable def yL1:Code:=cL (cR (cR (cR (cR b23))))
noncomputable def y7:Code:=cL yL1
noncomputable def yX1:Code:=cB (cB (cR yL1))
noncomputable def y8:Code:=cL yX1
noncomputable def y9:Code:=cL (cB (cL (cR (cR yX1))))
noncomputable def y10:Code:=cR (cB (cL (cR (cR yX1))))
noncomputable def y11:Code:=cR (cR (cR yX1))
noncomputable def yL2:Code:=cL zbK
noncomputable def y12:Code:=cL yL2
noncomputable def yX2:Code:=cB (cB (cR yL2))
noncomputable def y13:Code:=cL yX2
noncomputable def y14:Code:=cL (cB (cL (cR (cR yX2))))
noncomputable def y16:Code:=cT (cR (cR (cB (cL (cR (cR yX2))))))
noncomputable def y17:Code:=cR (cR (cR yX2))
noncomputable def y18:Code:=cL (cR zbK)
theorem zqr:b23=.seq y0 (.seq y1 (.seq (.block 0 (.seq y2 (.cond (.tmp 14) (.seq y3 .ret) (.seq y4 (.cond (.tmp 18) (.seq y5 .ret) .skip))))) (.seq y6 (.seq (.seq y7 (.block 1 (.loop yX1))) (.seq (.seq y12 (.block 3 (.loop yX2))) (.seq y18 .ret)))))):=by kernel_rfl
theorem zof:yX1=.seq y8 (.seq (.cond (.tmp 28) .skip (.exit 1)) (.seq (.block 2 (.seq y9 y10)) y11)):=by kernel_rfl
theorem zog:yX2=.seq y13 (.seq (.cond (.tmp 36) .skip (.exit 3)) (.seq (.block 4 (.seq y14 (.seq x23_15 (.cond (.tmp 51) y16 .skip)))) y17)):=by kernel_rfl
theorem exN (n:Nat) {t:Array Value} (h:t.size=n):∃ f:Nat→Value,t=((List.range n).map f).toArray:=by
 refine⟨fun i=>t.getD i undef,?_⟩
 apply Array.ext
 ·simp [h]
 ·intro i h1 h2
  simp [h1]
theorem ex57 {t:Array Value} (h:t.size=57):∃ f:Nat→Value,t=#[f 0,f 1,f 2,f 3,f 4,f 5,f 6,f 7,f 8,f 9,f 10,f 11,f 12,f 13,f 14,f 15,f 16,f 17,f 18,f 19,f 20,f 21,f 22,f 23,f 24,f 25,f 26,f 27,f 28,f 29,f 30,f 31,f 32,f 33,f 34,f 35,f 36,f 37,f 38,f 39,f 40,f 41,f 42,f 43,f 44,f 45,f 46,f 47,f 48,f 49,f 50,f 51,f 52,f 53,f 54,f 55,f 56]:=by
 obtain⟨f,rfl⟩:=exN 57 h
 exact⟨f,by kernel_rfl⟩
theorem bl0 (hv sv:Value) (d:Dry) (t:Array Value) (hs:t.size=57) (h0:t[0]?=some (Value.agg #[hv,num d.soak,num d.brittle,num d.start.w,num d.start.c,num d.start.h,sv])) (w:World)  :
  y0.wpIn FW 0 Try.prog (fun e a w'=>e=.normal∧a.defers=[]∧(a.tmps.size=57∧a.tmps[1]?=some (ptr w.heap.size)∧a.tmps[2]?=some (.slice none 0 0)∧a.tmps[3]?=some (.bool false)∧a.tmps[4]?=some (num 0))∧w'=w.alloc (.cells #[hv,num d.soak,num d.brittle,num d.start.w,num d.start.c,num d.start.h,sv] 27)) ⟨t,[]⟩ w:=by
 obtain⟨f,rfl⟩:=ex57 hs
 have g0:f 0=Value.agg #[hv,num d.soak,num d.brittle,num d.start.w,num d.start.c,num d.start.h,sv]:=by simpa using h0
 rw [g0] at *
 clear hs h0
 simp only [y0,y1,yB,y2,cT,cE,y3,y4,y5,y6,yL1,y7,yX1,y8,y9,y10,y11,yL2,y12,yX2,y13,y14,y16,y17,y18,x23_15,zbZ,zbK,b23,Try.f23,cL,cR,cB]
 gi_wp2
theorem bl2a (p0 p1:Nat) (t:Array Value) (hs:t.size=57) (h1:t[1]?=some (ptr p1)) (h2:t[2]?=some (.slice none 0 0)) (h3:t[3]?=some (.bool false)) (h5:t[5]?=some (ptr p0)) (h4:t[4]?=some (num 0)) (w:World)  :
  y2.wpIn FW 0 Try.prog (fun e a w'=>e=.normal∧a.defers=[]∧(a.tmps.size=57∧a.tmps[1]?=some (ptr p1)∧a.tmps[2]?=some (.slice none 0 0)∧a.tmps[3]?=some (.bool false)∧a.tmps[5]?=some (ptr p0)∧a.tmps[4]?=some (num 0)∧a.tmps[14]?=some (.bool false))∧w'=w) ⟨t,[]⟩ w:=by
 obtain⟨f,rfl⟩:=ex57 hs
 have g1:f 1=ptr p1:=by simpa using h1
 have g2:f 2=.slice none 0 0:=by simpa using h2
 have g3:f 3=.bool false:=by simpa using h3
 have g5:f 5=ptr p0:=by simpa using h5
 have g4:f 4=num 0:=by simpa using h4
 rw [g1,g2,g3,g5,g4] at *
 clear hs h1 h2 h3 h5 h4
 simp only [y0,y1,yB,y2,cT,cE,y3,y4,y5,y6,yL1,y7,yX1,y8,y9,y10,y11,yL2,y12,yX2,y13,y14,y16,y17,y18,x23_15,zbZ,zbK,b23,Try.f23,cL,cR,cB]
 gi_wp2
theorem bl2b (p0 p1:Nat) (n:Int) (hn:n≠0) (t:Array Value) (hs:t.size=57) (h1:t[1]?=some (ptr p1)) (h2:t[2]?=some (.slice none 0 0)) (h3:t[3]?=some (.bool false)) (h5:t[5]?=some (ptr p0)) (h4:t[4]?=some (num n)) (w:World)  :
  y2.wpIn FW 0 Try.prog (fun e a w'=>e=.normal∧a.defers=[]∧(a.tmps.size=57∧a.tmps[1]?=some (ptr p1)∧a.tmps[2]?=some (.slice none 0 0)∧a.tmps[3]?=some (.bool false)∧a.tmps[5]?=some (ptr p0)∧a.tmps[4]?=some (num n)∧a.tmps[14]?=some (.bool true))∧w'=w) ⟨t,[]⟩ w:=by
 obtain⟨f,rfl⟩:=ex57 hs
 have g1:f 1=ptr p1:=by simpa using h1
 have g2:f 2=.slice none 0 0:=by simpa using h2
 have g3:f 3=.bool false:=by simpa using h3
 have g5:f 5=ptr p0:=by simpa using h5
 have g4:f 4=num n:=by simpa using h4
 rw [g1,g2,g3,g5,g4] at *
 clear hs h1 h2 h3 h5 h4
 simp only [y0,y1,yB,y2,cT,cE,y3,y4,y5,y6,yL1,y7,yX1,y8,y9,y10,y11,yL2,y12,yX2,y13,y14,y16,y17,y18,x23_15,zbZ,zbK,b23,Try.f23,cL,cR,cB]
 gi_wp2
theorem bl3 (n:Int) (t:Array Value) (hs:t.size=57) (h4:t[4]?=some (num n)) (w:World)  :
  y3.wpIn FW 0 Try.prog (fun e a w'=>e=.normal∧a.defers=[]∧(a.tmps.size=57∧a.tmps[2]?=some (.slice none 0 0)∧a.tmps[3]?=some (.bool false)∧a.tmps[4]?=some (num n))∧w'=w) ⟨t,[]⟩ w:=by
 obtain⟨f,rfl⟩:=ex57 hs
 have g4:f 4=num n:=by simpa using h4
 rw [g4] at *
 clear hs h4
 simp only [y0,y1,yB,y2,cT,cE,y3,y4,y5,y6,yL1,y7,yX1,y8,y9,y10,y11,yL2,y12,yX2,y13,y14,y16,y17,y18,x23_15,zbZ,zbK,b23,Try.f23,cL,cR,cB]
 gi_wp2
theorem bl4 (p0 p1:Nat) (ha sa:Option Addr) (hn hcap sn scap:Nat) (t:Array Value) (hs:t.size=57) (h1:t[1]?=some (ptr p1)) (h2:t[2]?=some (.slice none 0 0)) (h3:t[3]?=some (.bool false)) (h5:t[5]?=some (ptr p0)) (h4:t[4]?=some (num 0)) (w:World) (c0:w.cell? ⟨p1,0,none⟩=some (.slice ha hn hcap)) (c6:w.cell? ⟨p1,6,none⟩=some (.slice sa sn scap)) :
  y4.wpIn FW 0 Try.prog (fun e a w'=>e=.normal∧a.defers=[]∧(a.tmps.size=57∧a.tmps[1]?=some (ptr p1)∧a.tmps[2]?=some (.slice none 0 0)∧a.tmps[3]?=some (.bool false)∧a.tmps[5]?=some (ptr p0)∧a.tmps[4]?=some (num 0)∧a.tmps[18]?=some (.bool ((sn:Int) == 0)))∧w'=w) ⟨t,[]⟩ w:=by
 obtain⟨f,rfl⟩:=ex57 hs
 have g1:f 1=ptr p1:=by simpa using h1
 have g2:f 2=.slice none 0 0:=by simpa using h2
 have g3:f 3=.bool false:=by simpa using h3
 have g5:f 5=ptr p0:=by simpa using h5
 have g4:f 4=num 0:=by simpa using h4
 rw [g1,g2,g3,g5,g4] at *
 clear hs h1 h2 h3 h5 h4
 simp only [y0,y1,yB,y2,cT,cE,y3,y4,y5,y6,yL1,y7,yX1,y8,y9,y10,y11,yL2,y12,yX2,y13,y14,y16,y17,y18,x23_15,zbZ,zbK,b23,Try.f23,cL,cR,cB]
 gi_wp2
theorem bl5  (t:Array Value) (hs:t.size=57)  (w:World)  :
  y5.wpIn FW 0 Try.prog (fun e a w'=>e=.normal∧a.defers=[]∧(a.tmps.size=57∧a.tmps[2]?=some (.slice none 0 0)∧a.tmps[3]?=some (.bool true)∧a.tmps[4]?=some (num 0))∧w'=w) ⟨t,[]⟩ w:=by
 obtain⟨f,rfl⟩:=ex57 hs
 clear hs
 simp only [y0,y1,yB,y2,cT,cE,y3,y4,y5,y6,yL1,y7,yX1,y8,y9,y10,y11,yL2,y12,yX2,y13,y14,y16,y17,y18,x23_15,zbZ,zbK,b23,Try.f23,cL,cR,cB]
 gi_wp2
theorem bl7 (p0 p1 pc:Nat) (ha sa:Option Addr) (hn hcap sn scap:Nat) (t:Array Value) (hs:t.size=57) (h1:t[1]?=some (ptr p1)) (h2:t[2]?=some (.slice none 0 0)) (h3:t[3]?=some (.bool false)) (h5:t[5]?=some (ptr p0)) (h6:t[6]?=some (ptr pc)) (w:World) (c0:w.cell? ⟨p1,0,none⟩=some (.slice ha hn hcap)) (c6:w.cell? ⟨p1,6,none⟩=some (.slice sa sn scap)) :
  y7.wpIn FW 0 Try.prog (fun e a w'=>e=.normal∧a.defers=[]∧(a.tmps.size=57∧a.tmps[1]?=some (ptr p1)∧a.tmps[2]?=some (.slice none 0 0)∧a.tmps[3]?=some (.bool false)∧a.tmps[5]?=some (ptr p0)∧a.tmps[6]?=some (ptr pc)∧a.tmps[26]?=some (num hn)∧a.tmps[27]?=some (num 0))∧w'=w) ⟨t,[]⟩ w:=by
 obtain⟨f,rfl⟩:=ex57 hs
 have g1:f 1=ptr p1:=by simpa using h1
 have g2:f 2=.slice none 0 0:=by simpa using h2
 have g3:f 3=.bool false:=by simpa using h3
 have g5:f 5=ptr p0:=by simpa using h5
 have g6:f 6=ptr pc:=by simpa using h6
 rw [g1,g2,g3,g5,g6] at *
 clear hs h1 h2 h3 h5 h6
 simp only [y0,y1,yB,y2,cT,cE,y3,y4,y5,y6,yL1,y7,yX1,y8,y9,y10,y11,yL2,y12,yX2,y13,y14,y16,y17,y18,x23_15,zbZ,zbK,b23,Try.f23,cL,cR,cB]
 gi_wp2
theorem bl8 (p0 p1 pc:Nat) (n j:Nat) (t:Array Value) (hs:t.size=57) (h1:t[1]?=some (ptr p1)) (h2:t[2]?=some (.slice none 0 0)) (h3:t[3]?=some (.bool false)) (h5:t[5]?=some (ptr p0)) (h6:t[6]?=some (ptr pc)) (h26:t[26]?=some (num n)) (h27:t[27]?=some (num j)) (w:World)  :
  y8.wpIn FW 0 Try.prog (fun e a w'=>e=.normal∧a.defers=[]∧(a.tmps.size=57∧a.tmps[1]?=some (ptr p1)∧a.tmps[2]?=some (.slice none 0 0)∧a.tmps[3]?=some (.bool false)∧a.tmps[5]?=some (ptr p0)∧a.tmps[6]?=some (ptr pc)∧a.tmps[26]?=some (num n)∧a.tmps[27]?=some (num j)∧a.tmps[28]?=some (.bool (decide ((j:Int)<n))))∧w'=w) ⟨t,[]⟩ w:=by
 obtain⟨f,rfl⟩:=ex57 hs
 have g1:f 1=ptr p1:=by simpa using h1
 have g2:f 2=.slice none 0 0:=by simpa using h2
 have g3:f 3=.bool false:=by simpa using h3
 have g5:f 5=ptr p0:=by simpa using h5
 have g6:f 6=ptr pc:=by simpa using h6
 have g26:f 26=num n:=by simpa using h26
 have g27:f 27=num j:=by simpa using h27
 rw [g1,g2,g3,g5,g6,g26,g27] at *
 clear hs h1 h2 h3 h5 h6 h26 h27
 simp only [y0,y1,yB,y2,cT,cE,y3,y4,y5,y6,yL1,y7,yX1,y8,y9,y10,y11,yL2,y12,yX2,y13,y14,y16,y17,y18,x23_15,zbZ,zbK,b23,Try.f23,cL,cR,cB]
 gi_wp2
theorem bl9 (p0 p1 pc:Nat) (n j:Nat) (t:Array Value) (hs:t.size=57) (h1:t[1]?=some (ptr p1)) (h2:t[2]?=some (.slice none 0 0)) (h3:t[3]?=some (.bool false)) (h5:t[5]?=some (ptr p0)) (h6:t[6]?=some (ptr pc)) (h26:t[26]?=some (num n)) (h27:t[27]?=some (num j)) (w:World)  :
  y9.wpIn FW 0 Try.prog (fun e a w'=>e=.normal∧a.defers=[]∧(a.tmps.size=57∧a.tmps[1]?=some (ptr p1)∧a.tmps[2]?=some (.slice none 0 0)∧a.tmps[3]?=some (.bool false)∧a.tmps[5]?=some (ptr p0)∧a.tmps[6]?=some (ptr pc)∧a.tmps[26]?=some (num n)∧a.tmps[27]?=some (num j)∧a.tmps[7]?=some (ptr w.heap.size))∧w'=w.alloc (.cells #[num j] 3)) ⟨t,[]⟩ w:=by
 obtain⟨f,rfl⟩:=ex57 hs
 have g1:f 1=ptr p1:=by simpa using h1
 have g2:f 2=.slice none 0 0:=by simpa using h2
 have g3:f 3=.bool false:=by simpa using h3
 have g5:f 5=ptr p0:=by simpa using h5
 have g6:f 6=ptr pc:=by simpa using h6
 have g26:f 26=num n:=by simpa using h26
 have g27:f 27=num j:=by simpa using h27
 rw [g1,g2,g3,g5,g6,g26,g27] at *
 clear hs h1 h2 h3 h5 h6 h26 h27
 simp only [y0,y1,yB,y2,cT,cE,y3,y4,y5,y6,yL1,y7,yX1,y8,y9,y10,y11,yL2,y12,yX2,y13,y14,y16,y17,y18,x23_15,zbZ,zbK,b23,Try.f23,cL,cR,cB]
 gi_wp2
theorem bl11 (p0 p1 pc:Nat) (n j:Nat) (hj:j≤1000000000) (t:Array Value) (hs:t.size=57) (h1:t[1]?=some (ptr p1)) (h2:t[2]?=some (.slice none 0 0)) (h3:t[3]?=some (.bool false)) (h5:t[5]?=some (ptr p0)) (h6:t[6]?=some (ptr pc)) (h26:t[26]?=some (num n)) (h27:t[27]?=some (num j)) (w:World)  :
  y11.wpIn FW 0 Try.prog (fun e a w'=>e=.normal∧a.defers=[]∧(a.tmps.size=57∧a.tmps[1]?=some (ptr p1)∧a.tmps[2]?=some (.slice none 0 0)∧a.tmps[3]?=some (.bool false)∧a.tmps[5]?=some (ptr p0)∧a.tmps[6]?=some (ptr pc)∧a.tmps[26]?=some (num n)∧a.tmps[27]?=some (num ((j:Int)+1)))∧w'=w) ⟨t,[]⟩ w:=by
 obtain⟨f,rfl⟩:=ex57 hs
 have g1:f 1=ptr p1:=by simpa using h1
 have g2:f 2=.slice none 0 0:=by simpa using h2
 have g3:f 3=.bool false:=by simpa using h3
 have g5:f 5=ptr p0:=by simpa using h5
 have g6:f 6=ptr pc:=by simpa using h6
 have g26:f 26=num n:=by simpa using h26
 have g27:f 27=num j:=by simpa using h27
 rw [g1,g2,g3,g5,g6,g26,g27] at *
 clear hs h1 h2 h3 h5 h6 h26 h27
 simp only [y0,y1,yB,y2,cT,cE,y3,y4,y5,y6,yL1,y7,yX1,y8,y9,y10,y11,yL2,y12,yX2,y13,y14,y16,y17,y18,x23_15,zbZ,zbK,b23,Try.f23,cL,cR,cB]
 gi_wp2
theorem bl12 (p0 p1 pc:Nat) (ha sa:Option Addr) (hn hcap sn scap:Nat) (t:Array Value) (hs:t.size=57) (h1:t[1]?=some (ptr p1)) (h2:t[2]?=some (.slice none 0 0)) (h3:t[3]?=some (.bool false)) (h5:t[5]?=some (ptr p0)) (h6:t[6]?=some (ptr pc)) (w:World) (c0:w.cell? ⟨p1,0,none⟩=some (.slice ha hn hcap)) (c6:w.cell? ⟨p1,6,none⟩=some (.slice sa sn scap)) :
  y12.wpIn FW 0 Try.prog (fun e a w'=>e=.normal∧a.defers=[]∧(a.tmps.size=57∧a.tmps[1]?=some (ptr p1)∧a.tmps[2]?=some (.slice none 0 0)∧a.tmps[3]?=some (.bool false)∧a.tmps[5]?=some (ptr p0)∧a.tmps[6]?=some (ptr pc)∧a.tmps[34]?=some (num hn)∧a.tmps[35]?=some (num 0))∧w'=w) ⟨t,[]⟩ w:=by
 obtain⟨f,rfl⟩:=ex57 hs
 have g1:f 1=ptr p1:=by simpa using h1
 have g2:f 2=.slice none 0 0:=by simpa using h2
 have g3:f 3=.bool false:=by simpa using h3
 have g5:f 5=ptr p0:=by simpa using h5
 have g6:f 6=ptr pc:=by simpa using h6
 rw [g1,g2,g3,g5,g6] at *
 clear hs h1 h2 h3 h5 h6
 simp only [y0,y1,yB,y2,cT,cE,y3,y4,y5,y6,yL1,y7,yX1,y8,y9,y10,y11,yL2,y12,yX2,y13,y14,y16,y17,y18,x23_15,zbZ,zbK,b23,Try.f23,cL,cR,cB]
 gi_wp2
theorem bl13 (p0 p1 pc:Nat) (n j:Nat)(va:Option Addr) (vn vc:Nat) (vb:Bool) (t:Array Value) (hs:t.size=57) (h1:t[1]?=some (ptr p1)) (h2:t[2]?=some (.slice va vn vc)) (h3:t[3]?=some (.bool vb)) (h5:t[5]?=some (ptr p0)) (h6:t[6]?=some (ptr pc)) (h34:t[34]?=some (num n)) (h35:t[35]?=some (num j)) (w:World)  :
  y13.wpIn FW 0 Try.prog (fun e a w'=>e=.normal∧a.defers=[]∧(a.tmps.size=57∧a.tmps[1]?=some (ptr p1)∧a.tmps[2]?=some (.slice va vn vc)∧a.tmps[3]?=some (.bool vb)∧a.tmps[5]?=some (ptr p0)∧a.tmps[6]?=some (ptr pc)∧a.tmps[34]?=some (num n)∧a.tmps[35]?=some (num j)∧a.tmps[36]?=some (.bool (decide ((j:Int)<n))))∧w'=w) ⟨t,[]⟩ w:=by
 obtain⟨f,rfl⟩:=ex57 hs
 have g1:f 1=ptr p1:=by simpa using h1
 have g2:f 2=.slice va vn vc:=by simpa using h2
 have g3:f 3=.bool vb:=by simpa using h3
 have g5:f 5=ptr p0:=by simpa using h5
 have g6:f 6=ptr pc:=by simpa using h6
 have g34:f 34=num n:=by simpa using h34
 have g35:f 35=num j:=by simpa using h35
 rw [g1,g2,g3,g5,g6,g34,g35] at *
 clear hs h1 h2 h3 h5 h6 h34 h35
 simp only [y0,y1,yB,y2,cT,cE,y3,y4,y5,y6,yL1,y7,yX1,y8,y9,y10,y11,yL2,y12,yX2,y13,y14,y16,y17,y18,x23_15,zbZ,zbK,b23,Try.f23,cL,cR,cB]
 gi_wp2
theorem bl16 (p0 p1 pc:Nat) (n j:Nat)(va:Option Addr) (vn vc:Nat) (vb:Bool) (g:Nat) (xa:Option Addr) (xn xc:Nat) (t:Array Value) (hs:t.size=57) (h1:t[1]?=some (ptr p1)) (h2:t[2]?=some (.slice va vn vc)) (h3:t[3]?=some (.bool vb)) (h5:t[5]?=some (ptr p0)) (h6:t[6]?=some (ptr pc)) (h34:t[34]?=some (num n)) (h35:t[35]?=some (num j)) (h8:t[8]?=some (ptr g)) (w:World) (cg:w.cell? ⟨g,0,none⟩=some (.slice xa xn xc)) :
  y16.wpIn FW 0 Try.prog (fun e a w'=>e=.normal∧a.defers=[]∧(a.tmps.size=57∧a.tmps[1]?=some (ptr p1)∧a.tmps[2]?=some (.slice xa xn xc)∧a.tmps[3]?=some (.bool true)∧a.tmps[5]?=some (ptr p0)∧a.tmps[6]?=some (ptr pc)∧a.tmps[34]?=some (num n)∧a.tmps[35]?=some (num j))∧w'=w) ⟨t,[]⟩ w:=by
 obtain⟨f,rfl⟩:=ex57 hs
 have g1:f 1=ptr p1:=by simpa using h1
 have g2:f 2=.slice va vn vc:=by simpa using h2
 have g3:f 3=.bool vb:=by simpa using h3
 have g5:f 5=ptr p0:=by simpa using h5
 have g6:f 6=ptr pc:=by simpa using h6
 have g34:f 34=num n:=by simpa using h34
 have g35:f 35=num j:=by simpa using h35
 have g8:f 8=ptr g:=by simpa using h8
 rw [g1,g2,g3,g5,g6,g34,g35,g8] at *
 clear hs h1 h2 h3 h5 h6 h34 h35 h8
 simp only [y0,y1,yB,y2,cT,cE,y3,y4,y5,y6,yL1,y7,yX1,y8,y9,y10,y11,yL2,y12,yX2,y13,y14,y16,y17,y18,x23_15,zbZ,zbK,b23,Try.f23,cL,cR,cB]
 gi_wp2
theorem bl17 (p0 p1 pc:Nat) (n j:Nat)(va:Option Addr) (vn vc:Nat) (vb:Bool) (hj:j≤1000000000) (t:Array Value) (hs:t.size=57) (h1:t[1]?=some (ptr p1)) (h2:t[2]?=some (.slice va vn vc)) (h3:t[3]?=some (.bool vb)) (h5:t[5]?=some (ptr p0)) (h6:t[6]?=some (ptr pc)) (h34:t[34]?=some (num n)) (h35:t[35]?=some (num j)) (w:World)  :
  y17.wpIn FW 0 Try.prog (fun e a w'=>e=.normal∧a.defers=[]∧(a.tmps.size=57∧a.tmps[1]?=some (ptr p1)∧a.tmps[2]?=some (.slice va vn vc)∧a.tmps[3]?=some (.bool vb)∧a.tmps[5]?=some (ptr p0)∧a.tmps[6]?=some (ptr pc)∧a.tmps[34]?=some (num n)∧a.tmps[35]?=some (num ((j:Int)+1)))∧w'=w) ⟨t,[]⟩ w:=by
 obtain⟨f,rfl⟩:=ex57 hs
 have g1:f 1=ptr p1:=by simpa using h1
 have g2:f 2=.slice va vn vc:=by simpa using h2
 have g3:f 3=.bool vb:=by simpa using h3
 have g5:f 5=ptr p0:=by simpa using h5
 have g6:f 6=ptr pc:=by simpa using h6
 have g34:f 34=num n:=by simpa using h34
 have g35:f 35=num j:=by simpa using h35
 rw [g1,g2,g3,g5,g6,g34,g35] at *
 clear hs h1 h2 h3 h5 h6 h34 h35
 simp only [y0,y1,yB,y2,cT,cE,y3,y4,y5,y6,yL1,y7,yX1,y8,y9,y10,y11,yL2,y12,yX2,y13,y14,y16,y17,y18,x23_15,zbZ,zbK,b23,Try.f23,cL,cR,cB]
 gi_wp2
theorem bl18 (p0 p1 pc:Nat)(va:Option Addr) (vn vc:Nat) (vb:Bool) (t:Array Value) (hs:t.size=57) (h1:t[1]?=some (ptr p1)) (h2:t[2]?=some (.slice va vn vc)) (h3:t[3]?=some (.bool vb)) (h5:t[5]?=some (ptr p0)) (h6:t[6]?=some (ptr pc)) (w:World)  :
  y18.wpIn FW 0 Try.prog (fun e a w'=>e=.normal∧a.defers=[]∧(a.tmps.size=57∧a.tmps[2]?=some (.slice va vn vc)∧a.tmps[3]?=some (.bool vb)∧a.tmps[4]?=some (num 0))∧w'=w) ⟨t,[]⟩ w:=by
 obtain⟨f,rfl⟩:=ex57 hs
 have g1:f 1=ptr p1:=by simpa using h1
 have g2:f 2=.slice va vn vc:=by simpa using h2
 have g3:f 3=.bool vb:=by simpa using h3
 have g5:f 5=ptr p0:=by simpa using h5
 have g6:f 6=ptr pc:=by simpa using h6
 rw [g1,g2,g3,g5,g6] at *
 clear hs h1 h2 h3 h5 h6
 simp only [y0,y1,yB,y2,cT,cE,y3,y4,y5,y6,yL1,y7,yX1,y8,y9,y10,y11,yL2,y12,yX2,y13,y14,y16,y17,y18,x23_15,zbZ,zbK,b23,Try.f23,cL,cR,cB]
 gi_wp2
end Go.Proofs.Ytedomogjmhommaa
