import Derived.Test.YtedomogjmhommaaH43
import Derived.Conc.SmallLaws
set_option linter.all false
set_option maxRecDepth 100000
set_option maxHeartbeats 8000000
namespace Go.Proofs.Ytedomogjmhommaa
open Go.RowKit Go.Con Go.Conc
def B1Ok (d:Dry) (w:World) (p1:Nat) (t:Array Value) (w' : World):Prop:=∃ p0 B,t.size=57∧t[1]?=some (ptr p1)∧t[2]?=some (.slice none 0 0)∧t[3]?=some (.bool false)∧t[4]?=some (num 0)∧t[5]?=some (ptr p0)∧w.heap.size≤p0∧w'.cell? ⟨p0,0,none⟩=some (ptr B)∧StoveAt w' B d∧w.heap.size≤w'.heap.size∧∀ b,b<w.heap.size→w'.heap[b]?=w.heap[b]?
def zqX (d:Dry) (w:World) (p1:Nat) (t:Array Value) (w' : World):Prop:=∃ p0,t.size=57∧t[1]?=some (ptr p1)∧t[2]?=some (.slice none 0 0)∧t[3]?=some (.bool false)∧t[4]?=some (num (dryF d))∧t[5]?=some (ptr p0)∧w.heap.size≤w'.heap.size∧∀ b,b<w.heap.size→w'.heap[b]?=w.heap[b]?
theorem zqt (d:Dry) (p1:Nat) (ha sa:Option Addr) (hcap scap:Nat) (t:Array Value) (hs:t.size=57) (h1:t[1]?=some (ptr p1)) (h2:t[2]?=some (.slice none 0 0)) (h3:t[3]?=some (.bool false)) (w:World) (hd:DrySl w d ⟨.slice ha d.heats.length hcap,.slice sa d.steps.length scap⟩) (hb:DBox w p1 d ⟨.slice ha d.heats.length hcap,.slice sa d.steps.length scap⟩) (h:dryF d=0) :
  y1.wpIn FW 0 Try.prog (fun e a w'=>e=.normal∧a.defers=[]∧B1Ok d w p1 a.tmps w') ⟨t,[]⟩ w:=by
 obtain⟨f,rfl⟩:=ex57 hs
 have g1:f 1=ptr p1:=by simpa using h1
 have g2:f 2=.slice none 0 0:=by simpa using h2
 have g3:f 3=.bool false:=by simpa using h3
 rw [g1,g2,g3] at *
 clear hs h1 h2 h3 g1 g2 g3
 have k54:=fun (w1:World) (n:Nx w w1)=>ziv d ⟨.slice ha d.heats.length hcap,.slice sa d.steps.length scap⟩ w1 (hd.nx n) h
 have c0:=hb.at' 0 _ rfl
 have c1:=hb.at' 1 _ rfl
 have c2:=hb.at' 2 _ rfl
 have c3:=hb.at' 3 _ rfl
 have c4:=hb.at' 4 _ rfl
 have c5:=hb.at' 5 _ rfl
 have c6:=hb.at' 6 _ rfl
 clear hb hd
 simp only [y0,y1,yB,y2,cT,cE,y3,y4,y5,y6,yL1,y7,yX1,y8,y9,y10,y11,yL2,y12,yX2,y13,y14,y16,y17,y18,x23_15,zbZ,zbK,b23,Try.f23,cL,cR,cB]
 gi_wp2_with (first | (gi_at_call 54;refine CallsIn.mono (k54 _ (Nx.refl _)) ?_;rintro e w1 ⟨B,rfl,n1,hst⟩) | gi_in)
 obtain⟨n2,s2,g2⟩:=al1 (w:=w1) (o1:=.cells #[ptr B] 87 (0,0)) rfl
 exact⟨w1.heap.size,B,rfl,rfl,rfl,rfl,rfl,rfl,n1.size,zaa g2 rfl,hst.nx n2,(n1.trans n2).size,(n1.trans n2).block⟩
theorem zpL (d:Dry) (p1:Nat) (ha sa:Option Addr) (hcap scap:Nat) (t:Array Value) (hs:t.size=57) (h1:t[1]?=some (ptr p1)) (h2:t[2]?=some (.slice none 0 0)) (h3:t[3]?=some (.bool false)) (w:World) (hd:DrySl w d ⟨.slice ha d.heats.length hcap,.slice sa d.steps.length scap⟩) (hb:DBox w p1 d ⟨.slice ha d.heats.length hcap,.slice sa d.steps.length scap⟩) (h:dryF d≠0) :
  y1.wpIn FW 0 Try.prog (fun e a w'=>e=.normal∧a.defers=[]∧zqX d w p1 a.tmps w') ⟨t,[]⟩ w:=by
 obtain⟨f,rfl⟩:=ex57 hs
 have g1:f 1=ptr p1:=by simpa using h1
 have g2:f 2=.slice none 0 0:=by simpa using h2
 have g3:f 3=.bool false:=by simpa using h3
 rw [g1,g2,g3] at *
 clear hs h1 h2 h3 g1 g2 g3
 have k54:=fun (w1:World) (n:Nx w w1)=>zga d ⟨.slice ha d.heats.length hcap,.slice sa d.steps.length scap⟩ w1 (hd.nx n) h
 have c0:=hb.at' 0 _ rfl
 have c1:=hb.at' 1 _ rfl
 have c2:=hb.at' 2 _ rfl
 have c3:=hb.at' 3 _ rfl
 have c4:=hb.at' 4 _ rfl
 have c5:=hb.at' 5 _ rfl
 have c6:=hb.at' 6 _ rfl
 clear hb hd
 simp only [y0,y1,yB,y2,cT,cE,y3,y4,y5,y6,yL1,y7,yX1,y8,y9,y10,y11,yL2,y12,yX2,y13,y14,y16,y17,y18,x23_15,zbZ,zbK,b23,Try.f23,cL,cR,cB]
 gi_wp2_with (first | (gi_at_call 54;refine CallsIn.mono (k54 _ (Nx.refl _)) ?_;rintro e w1 ⟨rfl,n1⟩) | gi_in)
 obtain⟨n2,s2,g2⟩:=al1 (w:=w1) (o1:=.cells #[.pointer none] 87 (0,0)) rfl
 exact⟨w1.heap.size,rfl,rfl,rfl,rfl,rfl,rfl,(n1.trans n2).size,(n1.trans n2).block⟩
end Go.Proofs.Ytedomogjmhommaa
namespace Go.Proofs.Ytedomogjmhommaa
open Go.RowKit Go.Con Go.Conc
theorem bl15 (p0 p1 pc n j:Nat) (sa:Option Addr) (scap:Nat) (ss xs:List Int) (sb xb:Bool) (g:Nat) (xv:Value) (t:Array Value) (hs0:t.size=57) (h1:t[1]?=some (ptr p1)) (h2:t[2]?=some (.slice sa ss.length scap)) (h3:t[3]?=some (.bool sb)) (h5:t[5]?=some (ptr p0)) (h6:t[6]?=some (ptr pc)) (h8:t[8]?=some (ptr g)) (h34:t[34]?=some (num n)) (h35:t[35]?=some (num j)) (w:World) (hg:w.heap[g]?=some (.cells #[xv,.bool xb] 115 (0,0))) (hx:Sl w xv 1 (xs.map one)) (hs:Sl w (.slice sa ss.length scap) 1 (ss.map one)) (hl:xs.length≤1000000000) (hl2:ss.length≤1000000000) :
  x23_15.wpIn FW 0 Try.prog (fun e a w'=>e=.normal∧a.defers=[]∧(a.tmps.size=57∧a.tmps[1]?=some (ptr p1)∧a.tmps[2]?=some (.slice sa ss.length scap)∧a.tmps[3]?=some (.bool sb)∧a.tmps[5]?=some (ptr p0)∧a.tmps[6]?=some (ptr pc)∧a.tmps[8]?=some (ptr g)∧a.tmps[34]?=some (num n)∧a.tmps[35]?=some (num j)∧a.tmps[51]?=some (.bool (xb && (!sb || decide (cmpL xs ss<0)))))∧w'=w) ⟨t,[]⟩ w:=by
 obtain⟨f,rfl⟩:=ex57 hs0
 have g1:f 1=ptr p1:=by simpa using h1
 have g2:f 2=.slice sa ss.length scap:=by simpa using h2
 have g3:f 3=.bool sb:=by simpa using h3
 have g5:f 5=ptr p0:=by simpa using h5
 have g6:f 6=ptr pc:=by simpa using h6
 have g8:f 8=ptr g:=by simpa using h8
 have g34:f 34=num n:=by simpa using h34
 have g35:f 35=num j:=by simpa using h35
 have:=zpM (f 0) (f 1) (f 4) (f 5) (f 6) (f 7) (f 9) (f 10) (f 11) (f 12) (f 13) (f 14) (f 15) (f 16) (f 17) (f 18) (f 19) (f 20) (f 21) (f 22) (f 23) (f 24) (f 25) (f 26) (f 27) (f 28) (f 29) (f 30) (f 31) (f 32) (f 33) (f 34) (f 35) (f 36) (f 37) (f 38) (f 39) (f 40) (f 41) (f 42) (f 43) (f 44) (f 45) (f 46) (f 47) (f 48) (f 49) (f 50) (f 51) (f 52) (f 53) (f 54) (f 55) (f 56) sa scap ss xs sb xb g xv w hg hx hs hl hl2
 rw [← g2,← g3,← g8] at this
 refine wpIn_mono this ?_
 rintro e a w' ⟨k1,k2,⟨k3,m0,m1,m2,m3,m5,m6,m8,m34,m35,m51⟩,k4⟩
 rw [g1] at m1
 rw [g2] at m2
 rw [g3] at m3
 rw [g5] at m5
 rw [g6] at m6
 rw [g8] at m8
 rw [g34] at m34
 rw [g35] at m35
 exact⟨k1,k2,⟨k3,m1,m2,m3,m5,m6,m8,m34,m35,m51⟩,k4⟩
local instance zre:Lone:=dryL
structure OldC (w w' : World):Prop where
 size:w.heap.size≤w'.heap.size
 cell:∀ a:Addr,a.block<w.heap.size→w'.cell? a=w.cell? a
theorem OldC.refl (w:World):OldC w w:=⟨Nat.le_refl _,fun _ _=>rfl⟩
theorem OldC.trans {a b c:World} (h:OldC a b) (k:OldC b c):OldC a c:=⟨Nat.le_trans h.size k.size,fun x hx=>(k.cell x (Nat.lt_of_lt_of_le hx h.size)).trans (h.cell x hx)⟩
theorem OldC.heap {w w' : World} (hs:w.heap.size≤w'.heap.size) (h:∀ b,b<w.heap.size→w'.heap[b]?=w.heap[b]?):OldC w w' :=
 ⟨hs,fun a ha=>by unfold World.cell?;rw [h a.block ha]⟩
theorem OldC.same {w w' : World} (e:w'.heap=w.heap):OldC w w':=.heap (by rw [e];exact Nat.le_refl _) fun b _=>by rw [e]
theorem OldC.nx {w w' : World} (n:Nx w w'):OldC w w':=.heap n.size fun b hb=>n.block b hb
theorem OldC.al {w w' : World} {o:Obj} (e:w'.heap=(w.alloc o).heap):OldC w w':=by
 have n:=zaj (Nx.refl w) o
 exact .heap (by rw [e];exact n.size) fun b hb=>by rw [e];exact n.block b hb
theorem zkd (S:Nat→Prop) (w:World) (a:Addr):(zb9 S w).cell? a=w.cell? a:=by
 unfold World.cell?
 rw [zgI]
 cases w.heap[a.block]? with
 | none=>rfl
 | some o =>
  by_cases hS:S a.block
  ·simp only [Option.map_some,if_pos hS]
   cases o<;>rfl
  ·simp only [Option.map_some,if_neg hS]
theorem OldC.freeze (S:Nat→Prop) (w:World):OldC w (zb9 S w):=⟨by rw [zcP];exact Nat.le_refl _,fun a _=>zkd S w a⟩
theorem OldC.at {w w' : World} (h:OldC w w') {b i:Nat} {v:Value} (hc:w.cell? ⟨b,i,none⟩=some v):w'.cell? ⟨b,i,none⟩=some v:=(h.cell _ (by exact zgo hc)).trans hc
theorem Sl.oc {w w' : World} {v:Value} {sz:Nat} {xs:List (List Value)} (h:Sl w v sz xs) (o:OldC w w'):Sl w' v sz xs:=by
 obtain⟨cap,h | ⟨b,off,h1,h2,h3⟩⟩:=h
 ·exact⟨cap,.inl h⟩
 ·exact⟨cap,.inr ⟨b,off,h1,Nat.lt_of_lt_of_le h2 o.size,fun j k l x hj hk=>(o.cell _ h2).trans (h3 j k l x hj hk)⟩⟩
theorem StoveAt.oc {w w' : World} {B:Nat} {d:Dry} (h:StoveAt w B d) (o:OldC w w'):StoveAt w' B d :=
 ⟨Nat.lt_of_lt_of_le h.lt o.size,h.heats.imp fun _ x=>⟨o.at x.1,x.2.oc o⟩,o.at h.soak,o.at h.brittle,o.at h.s0,o.at h.s1,o.at h.s2,h.steps.imp fun _ x=>⟨o.at x.1,x.2.oc o⟩,h.stages.imp fun _ x=>⟨o.at x.1,x.2.oc o⟩⟩
theorem DBox.oc {w w' : World} {B:Nat} {d:Dry} {r:R2} (h:DBox w B d r) (o:OldC w w'):DBox w' B d r:=⟨Nat.lt_of_lt_of_le h.lt o.size,fun i v hv=>o.at (h.at' i v hv)⟩
theorem DrySl.oc {w w' : World} {d:Dry} {r:R2} (h:DrySl w d r) (o:OldC w w'):DrySl w' d r:=⟨h.heats.oc o,h.steps.oc o,h.hl,h.sl⟩
structure BF (t:Array Value) (p1 p0 pc:Nat) (v:Value) (b:Bool):Prop where
 size:t.size=57
 h1:t[1]?=some (ptr p1)
 h2:t[2]?=some v
 h3:t[3]?=some (.bool b)
 h5:t[5]?=some (ptr p0)
 h6:t[6]?=some (ptr pc)
structure BW (w:World) (p1 p0 pc B c:Nat) (d:Dry) (r:R2):Prop where
 box:DBox w p1 d r
 st:StoveAt w B d
 c0:w.cell? ⟨p0,0,none⟩=some (ptr B)
 cc:w.cell? ⟨pc,0,none⟩=some (.chan (some (2 * c)))
theorem BW.oc {w w' : World} {p1 p0 pc B c:Nat} {d:Dry} {r:R2} (h:BW w p1 p0 pc B c d r) (o:OldC w w'):BW w' p1 p0 pc B c d r:=⟨h.box.oc o,h.st.oc o,o.at h.c0,o.at h.cc⟩
def kks:Nat→List Nat
 | 0=>[]
 | j+1=>j :: kks j
theorem znr:∀ j,(kks j).length=j
 | 0=>rfl
 | j+1=>by simp [kks,znr j]
theorem mem_kks:∀ {j k:Nat},k∈kks j↔k<j
 | 0,k=>by simp [kks]
 | j+1,k=>by simp [kks,mem_kks (j:=j)];omega
section
variable {dst:Option Nat} {ty:TypeId} {pos:String} {af:Array Edge} {gd:Option (Nat×Bool)} {x y:Nat}
theorem zlY (xs:Array Operand) (e:Operand→Value) (w:World) :
  (execOp e ⟨dst,.makeFunc (.func 65) #[] xs,ty,pos,af,gd⟩).run Try.prog w=.ok (.value (.func (.func 65) #[] (xs.map e))) w∧(execOp e ⟨dst,.makeFunc (.func 65) #[] xs,ty,pos,af,gd⟩).events Try.prog w #[]=#[]:=by
 constructor<;>simp [execOp,go_sem]
theorem zo3 {c:Nat} (e:Operand→Value) (w:World) (h:e (.tmp x)=.chan (some c)) :
  (execOp e ⟨dst,.recv 111 (.tmp x) false,ty,pos,af,gd⟩).run Try.prog w=.ok (.comm #[rcase c (.agg #[.slice none 0 0,.bool false])] true (.recv false)) w∧(execOp e ⟨dst,.recv 111 (.tmp x) false,ty,pos,af,gd⟩).events Try.prog w #[]=#[]:=by
 simp [execOp,go_sem,h]
 rfl
theorem zpV:∃ i:TypeInfo,Try.prog.info? 115=some i∧i.bytes≤64:=by
 have h:(Try.prog.info? 115).map (fun i=>decide (i.bytes≤64))=some true:=by kernel_rfl
 cases hi:Try.prog.info? 115 with
 | none=>rw [hi] at h;cases h
 | some i =>
  rw [hi] at h
  simp only [Option.map_some,Option.some.injEq,decide_eq_true_eq] at h
  exact⟨i,rfl,h⟩
theorem zor {k:Value} (e:Operand→Value) (w:World) (h:e (.const k)=.int .i64 0) :
  (execOp e ⟨dst,.makeChan 111 (.const k),ty,pos,af,gd⟩).run Try.prog w=.ok (.value (.chan (some w.heap.size))) { w with heap:=w.heap.push (.chan 0 #[] false 0 0 false) }∧(execOp e ⟨dst,.makeChan 111 (.const k),ty,pos,af,gd⟩).events Try.prog w #[]=#[]:=by
 obtain⟨i,hi,hb⟩:=zpV
 have h1:=run_makeChan (P:=Try.prog) (w:=w) Try.underlying111 hi .i64 0 (by omega) (by omega)
 have h2:=events_makeChan (P:=Try.prog) (w:=w) Try.underlying111 hi .i64 0 (by omega) (by omega)
 have e0:((0:Nat):Int)=0:=rfl
 rw [e0] at h1 h2
 simp [execOp,go_sem,h,h1,h2]
theorem ziW {w:World} (e:Operand→Value) (τ:Tape):(execOp e ⟨dst,.alloc 111,ty,pos,af,gd⟩).run Try.prog { w with tape:=τ }=.ok (.value (ptr w.heap.size)) { w.alloc (.cells #[.chan none] 111) with tape:=τ }:=by
 simp [execOp,go_sem]
 rfl
theorem zjW {w:World} (e:Operand→Value) {g:Nat} {r:Option Nat} {u:Value} (h:e (.tmp x)=ptr g) (h2:e (.tmp y)=.chan r) (hc:w.cell? ⟨g,0,none⟩=some u) (hf:w.frozen? ⟨g,0,none⟩=false) (τ:Tape) :
  (execOp e ⟨dst,.store 111 (.tmp x) (.tmp y),ty,pos,af,gd⟩).run Try.prog { w with tape:=τ }=.ok .skip { w.setCell ⟨g,0,none⟩ (.chan r) with tape:=τ }:=by
 have hc' : ({ w with tape:=τ }:World).cell? ⟨g,0,none⟩=some u:=hc
 have hf' : ({ w with tape:=τ }:World).frozen? ⟨g,0,none⟩=false:=hf
 simp [execOp,go_sem,h,h2,hc',hf']
 rfl
theorem ziX {w:World} (e:Operand→Value) (τ:Tape):(execOp e ⟨dst,.alloc 115,ty,pos,af,gd⟩).run Try.prog { w with tape:=τ }=.ok (.value (ptr w.heap.size)) { w.alloc (.cells #[.slice none 0 0,.bool false] 115) with tape:=τ }:=by
 simp [execOp,go_sem]
 rfl
theorem zjX {w:World} (e:Operand→Value) {g:Nat} {a:Option Addr} {m c:Nat} {b:Bool} {u0 u1:Value} (h:e (.tmp x)=ptr g) (h2:e (.tmp y)=.agg #[.slice a m c,.bool b]) (h0:w.cell? ⟨g,0,none⟩=some u0) (h1:w.cell? ⟨g,1,none⟩=some u1) (f0:w.frozen? ⟨g,0,none⟩=false) (f1:w.frozen? ⟨g,1,none⟩=false) (τ:Tape) :
  (execOp e ⟨dst,.store 115 (.tmp x) (.tmp y),ty,pos,af,gd⟩).run Try.prog { w with tape:=τ }=.ok .skip { (w.setCell ⟨g,0,none⟩ (.slice a m c)).setCell ⟨g,1,none⟩ (.bool b) with tape:=τ }:=by
 have h0' : ({ w with tape:=τ }:World).cell? ⟨g,0,none⟩=some u0:=h0
 have h1' : ({ w with tape:=τ }:World).cell? ⟨g,1,none⟩=some u1:=h1
 have f0' : ({ w with tape:=τ }:World).frozen? ⟨g,0,none⟩=false:=f0
 have f1' : ({ w with tape:=τ }:World).frozen? ⟨g,1,none⟩=false:=f1
 simp [execOp,go_sem,h,h2,h0',h1',f0',f1']
 rfl
end
theorem fr65 (v1 v2 v3 v4:Value):#[v1,v2,v3,v4]++Array.replicate (Try.f65.ntmps-(#[v1,v2,v3,v4]:Array Value).size) undef=#[v1,v2,v3,v4,undef,undef,undef,undef,undef,undef,undef,undef,undef,undef,undef,undef,undef,undef,undef,undef,undef,undef,undef]:=by
 simp only [Try.ntmps65,List.size_toArray,List.length_cons,List.length_nil,Nat.reduceAdd,Nat.reduceSub,Array.replicate_succ,Array.replicate_zero,List.push_toArray,List.append_toArray,List.nil_append,List.cons_append]
theorem zmT:Try.f65.body=some b65:=by kernel_rfl
theorem zfl:Try.prog.globals.size=0:=by kernel_rfl
noncomputable def ops10:Array Oper:=opsOf y10
theorem zpF:y10=.region 10 ops10 false:=by kernel_rfl
def zeX (B0:Nat) (d:Dry) (x:Stp) (kk:Nat):Hand:=zdR B0 (KB (ansB d x kk))
end Go.Proofs.Ytedomogjmhommaa
namespace Go.Proofs.Ytedomogjmhommaa
open Go.RowKit Go.Con Go.Conc
local instance zrr:Lone:=dryL
structure DOk (d:Dry) (x:Stp):Prop where
 ok:d.Ok
 st:d.start.Ok d.heats.length
 si:StI d.start
 hx:d.steps[0]?=some x
 hw:0≤d.start.h∧d.start.h≤4
theorem zmm (E Arg:Nat→Prop) (W0:World) (Q:(Nat→Prop)→(Nat→Prop)→Goroutine→World→Prop) (cs:List Frame) (k:List Item) (Wh:World) (p1 p0 pc B c n:Nat) (d:Dry) (r:R2) (x:Stp) (hd:DOk d x) (hn:n=d.heats.length) (hW:BW Wh p1 p0 pc B c d r)
  (hcont:∀ (W1:World) (Fz1:Nat→Prop) (t1:Array Value),OldC Wh W1→BF t1 p1 p0 pc (.slice none 0 0) false→GoM Try.prog true E Fz1 Arg W0 Q ⟨true,c,0,zeX W0.heap.size d x⟩ (kks n) (Fr 23 t1 k) cs W1) :
  ∀ (q j:Nat) (Fz:Nat→Prop) (W:World) (t:Array Value),j+q=n→OldC Wh W→BF t p1 p0 pc (.slice none 0 0) false→t[26]?=some (num n)→t[27]?=some (num j) →
   GoM Try.prog true E Fz Arg W0 Q ⟨true,c,0,zeX W0.heap.size d x⟩ (kks j) (Fr 23 t (.code yX1 :: .inLoop yX1 :: .inBlock 1 :: k)) cs W:=by
 have h4:=hd.ok.h4
 intro q
 induction q with
 | zero =>
  intro j Fz W t hj hO hB h26 h27
  rw [zof]
  refine Gm.seq ?_
  refine Gm.lone (F:=FW) (fun t1 W1=>BF t1 p1 p0 pc (.slice none 0 0) false∧t1[28]?=some (.bool (decide ((j:Int)<n)))∧W1.heap=W.heap) rfl rfl trivial zbl (by kernel_rfl) (by kernel_rfl) (fun τ=>?_) ?_
  ·refine wpIn_mono (bl8 p0 p1 pc n j t hB.size hB.h1 hB.h2 hB.h3 hB.h5 hB.h6 h26 h27 { W with tape:=τ }) ?_
   rintro e a w' ⟨k1,k2,⟨m,m1,m2,m3,m5,m6,m26,m27,m28⟩,rfl⟩
   exact⟨k1,k2,⟨m,m1,m2,m3,m5,m6⟩,m28,rfl⟩
  rintro t1 W1 ⟨hB1,h28,hW1⟩
  refine Gm.seq ?_
  have hb:decide ((j:Int)<n)=false:=by simp;omega
  refine Gm.cond (b:=false) (by rw [← hb];exact zam h28) rfl ?_
  refine Gm.exit [.code (.seq (.block 2 (.seq y9 y10)) y11),.inLoop (.seq y8 (.seq (.cond (.tmp 28) .skip (.exit 1)) (.seq (.block 2 (.seq y9 y10)) y11))),.inBlock 1] rfl ?_
  obtain rfl:j=n:=by omega
  exact hcont W1 Fz t1 (hO.trans (OldC.same hW1)) hB1
 | succ q ih =>
  intro j Fz W t hj hO hB h26 h27
  rw [zof]
  refine Gm.seq ?_
  refine Gm.lone (F:=FW) (fun t1 W1=>(BF t1 p1 p0 pc (.slice none 0 0) false∧t1[26]?=some (num n)∧t1[27]?=some (num j))∧t1[28]?=some (.bool (decide ((j:Int)<n)))∧W1.heap=W.heap) rfl rfl trivial zbl (by kernel_rfl) (by kernel_rfl) (fun τ=>?_) ?_
  ·refine wpIn_mono (bl8 p0 p1 pc n j t hB.size hB.h1 hB.h2 hB.h3 hB.h5 hB.h6 h26 h27 { W with tape:=τ }) ?_
   rintro e a w' ⟨k1,k2,⟨m,m1,m2,m3,m5,m6,m26,m27,m28⟩,rfl⟩
   exact⟨k1,k2,⟨⟨m,m1,m2,m3,m5,m6⟩,m26,m27⟩,m28,rfl⟩
  rintro t1 W1 ⟨⟨hB1,q26,q27⟩,h28,hW1⟩
  refine Gm.seq ?_
  have hb:decide ((j:Int)<n)=true:=by simp;omega
  refine Gm.cond (b:=true) (by rw [← hb];exact zam h28) rfl ?_
  refine Gm.skip (Gm.seq (Gm.block (Gm.seq ?_)))
  have hO1:OldC Wh W1:=hO.trans (OldC.same hW1)
  clear hO hB h26 h27 h28
  refine Gm.lone (F:=FW) (fun t2 W2=>(BF t2 p1 p0 pc (.slice none 0 0) false∧t2[26]?=some (num n)∧t2[27]?=some (num j)∧t2[7]?=some (ptr W1.heap.size))∧W2.heap=(W1.alloc (.cells #[num j] 3)).heap) rfl rfl trivial zbl (by kernel_rfl) (by kernel_rfl) (fun τ=>?_) ?_
  ·refine wpIn_mono (bl9 p0 p1 pc n j t1 hB1.size hB1.h1 hB1.h2 hB1.h3 hB1.h5 hB1.h6 q26 q27 { W1 with tape:=τ }) ?_
   rintro e a w' ⟨k1,k2,⟨m,m1,m2,m3,m5,m6,m26,m27,m7⟩,rfl⟩
   exact⟨k1,k2,⟨⟨m,m1,m2,m3,m5,m6⟩,m26,m27,m7⟩,rfl⟩
  rintro t2 W2 ⟨⟨hB2,q26',q27',h7⟩,hW2⟩
  clear hB1 q26 q27
  have hO2:OldC Wh W2:=hO1.trans (OldC.al hW2)
  have hb2:=hW.oc hO2
  have cN:W2.cell? ⟨W1.heap.size,0,none⟩=some (num j):=zaa (by rw [hW2];exact zaT) rfl
  have hgl:∀ b,b<Try.prog.globals.size→ze9 W2 b:=fun b hb=>by rw [zfl] at hb;omega
  have hrt:∀ b,(b=p0∨b=p1∨b=W1.heap.size∨b=pc)→ze9 W2 b:=by
   rintro b (rfl | rfl | rfl | rfl)
   ·exact zbU hb2.c0
   ·exact zbU (hb2.box.at' 1 _ rfl)
   ·exact zbU cN
   ·exact zbU hb2.cc
  rw [zpF]
  refine Gm.region ?_
  rw [show List.range ops10.size=[0,1] by kernel_rfl]
  refine Gm.fork (roots:=fun b=>b=p0∨b=p1∨b=W1.heap.size∨b=pc) (X:=TwoC W2) (d:=30) (g:=65) (fn:=Try.f65) (body:=b65) (xs:=#[.tmp 5,.tmp 1,.tmp 7,.tmp 6]) (captured:=#[ptr p0,ptr p1,ptr W1.heap.size,ptr pc]) j (o:=⟨some 30,.makeFunc (.func 65) #[] #[.tmp 5,.tmp 1,.tmp 7,.tmp 6],_,_,_,none⟩) (o2:=⟨none,.go { callee:=.value (.tmp 30),args:=#[],argTypes:=#[] },_,_,_,none⟩) (c:={ callee:=.value (.tmp 30),args:=#[],argTypes:=#[] })
   rfl rfl rfl (by rw [hB2.size];omega) (fun e w=>zlY _ e w) (by kernel_rfl) ?_ rfl rfl rfl rfl rfl rfl rfl (.inl rfl) ?_ ?_ (fun b hb=>.inl (zjC hgl hrt hb)) Try.func65 zmT (by kernel_rfl) (fun Wc hcut=>?_) fun u=>?_
  ·have e5:(Fr 23 t2 []).eval (.tmp 5)=ptr p0:=zam hB2.h5
   have e1:(Fr 23 t2 []).eval (.tmp 1)=ptr p1:=zam hB2.h1
   have e7:(Fr 23 t2 []).eval (.tmp 7)=ptr W1.heap.size:=zam h7
   have e6:(Fr 23 t2 []).eval (.tmp 6)=ptr pc:=zam hB2.h6
   simp only [List.map_toArray,List.map_cons,List.map_nil]
   rw [e5,e1,e7,e6]
  ·intro v hv
   simp only [List.mem_toArray,List.mem_cons,List.not_mem_nil,or_false] at hv
   rcases hv with rfl | rfl | rfl | rfl
   ·exact⟨p0,rfl,.inl rfl⟩
   ·exact⟨p1,rfl,.inr (.inl rfl)⟩
   ·exact⟨W1.heap.size,rfl,.inr (.inr (.inl rfl))⟩
   ·exact⟨pc,rfl,.inr (.inr (.inr rfl))⟩
  ·rintro b (rfl | rfl | rfl | rfl)
   ·exact⟨5,0,none,hB2.h5⟩
   ·exact⟨1,0,none,hB2.h1⟩
   ·exact⟨7,0,none,h7⟩
   ·exact⟨6,0,none,hB2.h6⟩
  ·rw [fr65]
   refine zod _ W0.heap.size Wc p0 p1 W1.heap.size pc B c j d x hd.ok hd.st hd.si hd.hx (by omega) hd.hw (zqg hcut (by rw [zfl];omega) hb2.st (by intro e;rw [e] at h4;simp at h4) (by intro e;have:=hd.hx;rw [e] at this;cases this) (.inl rfl) (.inr (.inl rfl)) (.inr (.inr (.inl rfl))) (.inr (.inr (.inr rfl))) hb2.c0 (hb2.box.at' 3 _ rfl) (hb2.box.at' 4 _ rfl) (hb2.box.at' 5 _ rfl) cN hb2.cc) fun b hb=>?_
   rw [hcut.size]
   obtain⟨_,_,_,h1⟩:=zjC hgl hrt hb
   exact (Array.getElem?_eq_some_iff.1 h1).1
  refine Gm.regionEnd (Gm.inBlock ?_)
  generalize hS:Rch W2 Try.prog.globals.size (fun b=>b=p0∨b=p1∨b=W1.heap.size∨b=pc) (TwoC W2)=S
  have hO3:OldC Wh (zb9 S W2):=hO2.trans (OldC.freeze S W2)
  generalize zb9 S W2=W3 at hO3 ⊢
  have hB3:BF (putD t2 (some 30) u) p1 p0 pc (.slice none 0 0) false:=⟨by simp [putD,hB2.size],by simp [putD,hB2.h1],by simp [putD,hB2.h2],by simp [putD,hB2.h3],by simp [putD,hB2.h5],by simp [putD,hB2.h6]⟩
  have r26:(putD t2 (some 30) u)[26]?=some (num n):=by simp [putD,q26']
  have r27:(putD t2 (some 30) u)[27]?=some (num j):=by simp [putD,q27']
  generalize putD t2 (some 30) u=t3 at hB3 r26 r27 ⊢
  refine Gm.lone (F:=FW) (fun t4 W4=>(BF t4 p1 p0 pc (.slice none 0 0) false∧t4[26]?=some (num n)∧t4[27]?=some (num (j+1)))∧W4.heap=W3.heap) rfl rfl trivial zbl (by kernel_rfl) (by kernel_rfl) (fun τ=>?_) ?_
  ·refine wpIn_mono (bl11 p0 p1 pc n j (by omega) t3 hB3.size hB3.h1 hB3.h2 hB3.h3 hB3.h5 hB3.h6 r26 r27 { W3 with tape:=τ }) ?_
   rintro e a w' ⟨k1,k2,⟨m,m1,m2,m3,m5,m6,m26,m27⟩,rfl⟩
   exact⟨k1,k2,⟨⟨m,m1,m2,m3,m5,m6⟩,m26,m27⟩,rfl⟩
  rintro t4 W4 ⟨⟨hB4,s26,s27⟩,hW4⟩
  refine Gm.inLoop ?_
  rw [← zpF,← zof]
  exact ih (j+1) _ W4 t4 (by omega) (hO3.trans (OldC.same hW4)) hB4 s26 s27
end Go.Proofs.Ytedomogjmhommaa
