import Derived.Test.YtbbanmifdbeneaaDoorF09
set_option linter.all false
set_option maxRecDepth 100000
set_option maxHeartbeats 4000000
namespace Go.Proofs.YtbbanmifdbeneaaDoor
open Go.RowKit
def zbw (loss:Int):Nat→Int→Int
 | 0,x=>x
 | n+1,x=>zbw loss n (x-(x * loss).tdiv 1000)
theorem zgP {loss x:Int} (hl:0≤loss∧loss≤1000) (hx:0≤x∧x≤100000):(0≤x * loss∧x * loss≤100000000)∧(0≤x-(x * loss).tdiv 1000∧x-(x * loss).tdiv 1000≤x):=by
 have h0:0≤x * loss:=Int.mul_nonneg hx.1 hl.1;have h1:x * loss≤x * 1000:=Int.mul_le_mul_of_nonneg_left hl.2 hx.1;rw [Int.tdiv_eq_ediv_of_nonneg h0];refine⟨⟨h0,by omega⟩,?_,?_⟩<;>omega
theorem ziu {loss:Int} (hl:0≤loss∧loss≤1000):∀ (n:Nat) (x:Int),0≤x∧x≤100000→0≤zbw loss n x∧zbw loss n x≤x
 | 0,x,hx=>by unfold zbw;omega
 | n+1,x,hx=>by
  have h:=(zgP hl hx).2;have:=ziu hl n _ (show 0≤x-(x * loss).tdiv 1000∧x-(x * loss).tdiv 1000≤100000 by omega);unfold zbw;omega
theorem zhb (x:Int) (n:Nat) (loss:Int) (w:World) (hx:0≤x∧x≤100000) (hn:n≤20) (hl:0≤loss∧loss≤1000) :
  CallsIn FL 0 Tryd.prog 71 #[num x,num n,num loss] w fun e w'=>e=.returned (num (zbw loss n x))∧w'=w:=by
 gi_enter Tryd.func71,Tryd.ntmps71;gi_wp2
 gi_loopw [0,8] (fun y i wr=>∃ (k:Nat) (z:Int),k≤n∧i=num k∧y=num z∧(0≤z∧z≤100000)∧zbw loss n x=zbw loss (n-k) z∧wr=w) (fun _ i _=>n-(intOf i).toNat)
 case atStart=>exact⟨0,x,Nat.zero_le _,rfl,rfl,hx,rfl,rfl⟩
 case round =>
  obtain⟨k,z,hk,rfl,rfl,hz,he,rfl⟩:=hrel;have HE:=Lib.hid he;clear he;by_cases hlt:k<n
  ·obtain⟨h1,h2⟩:=zgP hl hz
   gi_wp2;refine⟨⟨k+1,z-(z * loss).tdiv 1000,hlt,by simp,?_,by omega,?_,trivial⟩,by simp [intOf];omega⟩
   ·refine congrArg (Value.int IntKind.i64) ?_
    rw [Int.tdiv_eq_ediv_of_nonneg h1.1]
   ·rw [HE.out,show n-k=(n-(k+1))+1 by omega,zbw]
  ·obtain rfl:k=n:=by omega
   gi_wp2;go_ret;exact⟨by rw [HE.out,Nat.sub_self];rfl,rfl⟩
def Dit.gets (d:Dit) (p:Plot):Int×Int:=(zbw d.loss.2 p.far.toNat d.flow.1,zbw d.loss.1 p.far.toNat d.flow.2)
theorem zqL (tmps:Array Value) (W:World) (b:Nat) (x y:Int) (hp:tmps.getD 4 undef=.pointer (some ⟨b,0,none⟩)) (h0:W.cell? ⟨b,0,none⟩=some (num x)) (h1:W.cell? ⟨b,1,none⟩=some (num y)) :
  (results Tryd.f59 tmps).run Tryd.prog W=.ok (.agg #[num x,num y]) W:=by
 have hp' : tmps[4]?.getD undef=.pointer (some ⟨b,0,none⟩):=by simpa using hp
 simp [results,Tryd.results59,go_sem,hp',h0,h1]
theorem zog (B:Nat) (d:Dit) (k:Nat) (p:Plot) (w:World) (hd:DitAt w B 0 d) (hO:d.Ok) (hp:d.plots[k]?=some p) :
  CallsIn FL 0 Tryd.prog 59 #[.pointer (some ⟨B,0,none⟩),num k] w fun e w'=>e=.returned (.agg #[num (d.gets p).1,num (d.gets p).2])∧Nx w w':=by
 obtain⟨hlt,_⟩:=List.getElem?_eq_some_iff.1 hp;generalize hW:w.alloc (Obj.cells #[Value.int IntKind.i64 0,Value.int IntKind.i64 0] 28)=W;have nW:Nx w W:=by rw [← hW];exact (Below.refl _ _).alloc (Nat.le_refl _) _
 have hz:W.heap[w.heap.size]?=some (Obj.cells #[Value.int IntKind.i64 0,Value.int IntKind.i64 0] 28):=by rw [← hW];exact heap_alloc_new w _
 obtain⟨v,c13,hv⟩:=(hd.nx nW).plots;obtain⟨a,cap,rfl⟩:=hv.cases;rw [List.length_map] at c13 hv;obtain⟨b,off,ha,hbl,hcl⟩:=hv.get (by simp;omega);subst ha;obtain⟨g0,g1,g2,g3,g4,g5⟩:=Sl.at6 hcl (Below.refl _ W) hbl hp;have hpl:=hO.pl k p hp;have c9:=(hd.nx nW).flow1;have c10:=(hd.nx nW).flow2;have c11:=(hd.nx nW).loss1;have c12:=(hd.nx nW).loss2;simp only [Nat.zero_add] at c9 c10 c11 c12 c13;have hf:=hO.flow;have hl:=hO.loss;have h8:=hO.p8;obtain⟨n,hn⟩:=Int.eq_ofNat_of_zero_le hpl.2.2.2.1.1;have hn20:n≤20:=by omega
 have hfn:p.far.toNat=n:=by rw [hn];rfl
 rw [hn] at g2;have e4:W.cell? ⟨w.heap.size,0,none⟩=some (num 0):=by simp [World.cell?,hz]
 have e5:W.cell? ⟨w.heap.size,1,none⟩=some (num 0):=by simp [World.cell?,hz]
 have e6:W.frozen? ⟨w.heap.size,0,none⟩=false:=by simp [World.frozen?,hz]
 have e7:W.frozen? ⟨w.heap.size,1,none⟩=false:=by simp [World.frozen?,hz]
 have kA:∀ m,CallsIn FL 0 Tryd.prog 71 #[num d.flow.1,num n,num d.loss.2] (W.drewN m) fun e w''=>e=.returned (num (zbw d.loss.2 n d.flow.1))∧∃ m,w''=W.drewN m:=fun m=>CallsIn.quiet_of_same (zhb d.flow.1 n d.loss.2 _ (by omega) hn20 (by omega));have kB:∀ m,CallsIn FL 0 Tryd.prog 71 #[num d.flow.2,num n,num d.loss.1] (W.drewN m) fun e w''=>e=.returned (num (zbw d.loss.1 n d.flow.2))∧∃ m,w''=W.drewN m:=fun m=>CallsIn.quiet_of_same (zhb d.flow.2 n d.loss.1 _ (by omega) hn20 (by omega));have HG:Hid (d.gets p=(zbw d.loss.2 n d.flow.1,zbw d.loss.1 n d.flow.2)):=by show _=_;unfold Dit.gets;rw [hfn]
 clear hv hcl hd hp hpl hz hfn hn;gi_enter Tryd.func59,Tryd.ntmps59;gi_upto_region 2 with fail
 refine zfI 33 rfl (by kernel_rfl) (by kernel_rfl) ?_;simp only [List.take_succ_cons,List.take_zero,List.drop_succ_cons,List.drop_zero]
 repeat (gi_big_quiet_step (first | (gi_at_call 71;first | with_reducible exact kA _ | with_reducible exact kB _)))
 refine wpQuietIn_nil ?_;intro w' hw';obtain⟨nq,hw''⟩:=hw';subst hw'';gi_wp2;obtain⟨r1,r2⟩:=set2 (W.drewN nq) w.heap.size (zbw d.loss.2 n d.flow.1) (zbw d.loss.1 n d.flow.2) 0 0 e4 e5;refine bodyPost_ret (zqL _ _ w.heap.size (zbw d.loss.2 n d.flow.1) (zbw d.loss.1 n d.flow.2) rfl r1 r2) rfl ?_;exact⟨by rw [HG.out],((Nx.drewN nW _).setCell (by exact Nat.le_refl _) _).setCell (by exact Nat.le_refl _) _⟩
theorem zkU (x y:Int) (w:World):(Instr.field 28 (.agg #[num x,num y]) 0).run Tryd.prog w=.ok (num x) w∧(Instr.field 28 (.agg #[num x,num y]) 1).run Tryd.prog w=.ok (num y) w:=by
 simp [Instr.field,go_sem,asAgg]
def Dit.needs (d:Dit) (p:Plot):Int×Bool:=if p.high=0 then (0,true) else if (d.gets p).1=0 then (0,false) else ((p.high+(d.gets p).1-1).tdiv (d.gets p).1,true)
theorem zmU {d:Dit} (hO:d.Ok) {p:Plot}:0≤(d.gets p).1∧(d.gets p).1≤100000:=by
 have hf:=hO.flow;have hl:=hO.loss;have:=ziu (loss:=d.loss.2) (by omega) p.far.toNat d.flow.1 (by omega);unfold Dit.gets;dsimp only;omega
theorem zm3 (B:Nat) (d:Dit) (k:Nat) (p:Plot) (w:World) (hd:DitAt w B 0 d) (hO:d.Ok) (hp:d.plots[k]?=some p) :
  CallsIn FL 0 Tryd.prog 38 #[.pointer (some ⟨B,0,none⟩),num k] w fun e w'=>e=.returned (.tuple #[num (d.needs p).1,.bool (d.needs p).2])∧Nx w w':=by
 obtain⟨hlt,_⟩:=List.getElem?_eq_some_iff.1 hp;obtain⟨v,c13,hv⟩:=hd.plots;obtain⟨a,cap,rfl⟩:=hv.cases;rw [List.length_map] at c13 hv;obtain⟨b,off,ha,hbl,hcl⟩:=hv.get (by simp;omega);subst ha;have cells:∀ w1,Nx w w1→w1.cell? ⟨b,off+k * 6+3+1,none⟩=some (num p.high)∧w1.cell? ⟨B,13,none⟩=some (.slice (some ⟨b,off,none⟩) d.plots.length cap):=fun w1 n1 =>
  ⟨(Sl.at6 hcl n1 hbl hp).2.2.2.2.1,(n1.cell (p:=⟨B,13,none⟩) (by exact hd.lt)).trans (by simpa using c13)⟩
 obtain⟨g4,c13'⟩:=cells _ (Below.refl _ w);have hpl:=hO.pl k p hp;have h8:=hO.p8;have nd:Nx w w.drew:=Below.drew (Below.refl _ _);have kg:CallsIn FL 0 Tryd.prog 59 #[.pointer (some ⟨B,0,none⟩),num k] w.drew fun e w'=>e=.returned (.agg #[num (d.gets p).1,num (d.gets p).2])∧Nx w w':=(zog B d k p w.drew (hd.nx nd) hO hp).mono fun e w' ⟨x,y⟩=>⟨x,Nx.trans nd y⟩;have hgb:=zmU hO (p:=p);have HN:Hid (d.needs p=if p.high=0 then (0,true) else if (d.gets p).1=0 then (0,false) else ((p.high+(d.gets p).1-1).tdiv (d.gets p).1,true)):=rfl;obtain⟨_,_,_,_,hph,_⟩:=hpl;generalize (d.gets p).1=g at kg hgb HN;generalize (d.gets p).2=g' at kg;generalize p.high=ph at cells g4 hph HN;have hfd:=fun w1=>(zkU g g' w1).1;clear hv hcl hd c13;by_cases h0:ph=0
 ·have HD:Hid (d.needs p=(0,true)):=by show _=_;rw [HN.out,if_pos h0]
  have hb:(ph == 0)=true:=by simpa using h0
  clear h0;gi_enter Tryd.func38,Tryd.ntmps38;gi_upto_region 1 with fail
  gi_region_with (first | (gi_at_call 59;refine CallsIn.mono kg ?_;rintro e w1 ⟨rfl,n1⟩;obtain⟨z1,z2⟩:=cells _ n1))
  all_goals (
   gi_wp2;go_ret2;exact⟨by rw [HD.out];rfl,n1⟩)
 ·have hb:(ph == 0)=false:=by simpa using h0
  by_cases h1:g=0
  ·have HD:Hid (d.needs p=(0,false)):=by show _=_;rw [HN.out,if_neg h0,if_pos h1]
   have hb1:(g == 0)=true:=by simpa using h1
   clear h0 h1;gi_enter Tryd.func38,Tryd.ntmps38;gi_upto_region 1 with fail
   gi_region_with (first | (gi_at_call 59;refine CallsIn.mono kg ?_;rintro e w1 ⟨rfl,n1⟩;obtain⟨z1,z2⟩:=cells _ n1))
   all_goals (
    gi_wp2;go_ret2;exact⟨by rw [HD.out];rfl,n1⟩)
  ·have HD:Hid (d.needs p=((ph+g-1).tdiv g,true)):=by show _=_;rw [HN.out,if_neg h0,if_neg h1]
   have hb1:(g == 0)=false:=by simpa using h1
   have hg0:0<g:=by omega
   have hq:=zcg (ph+g-1) g;gi_enter Tryd.func38,Tryd.ntmps38;gi_upto_region 1 with fail
   gi_region_with (first | (gi_at_call 59;refine CallsIn.mono kg ?_;rintro e w1 ⟨rfl,n1⟩;obtain⟨z1,z2⟩:=cells _ n1))
   all_goals (
    gi_wp2;go_ret2;exact⟨by rw [HD.out];rfl,n1⟩)
end Go.Proofs.YtbbanmifdbeneaaDoor
