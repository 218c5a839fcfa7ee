import Derived.Test.YtbbanmifdbeneaaDoorF41
import Derived.Test.YtbbanmifdbeneaaDoorF40
import Derived.Test.YtbbanmifdbeneaaDoorF02
import Derived.Test.YtbbanmifdbeneaaDoorF08
import Derived.Test.YtbbanmifdbeneaaDoorF11
set_option linter.all false
set_option maxRecDepth 100000
set_option maxHeartbeats 4000000
open List renaming getElem?_eq_getElem → jqa
namespace Go.Proofs.YtbbanmifdbeneaaDoor
open Go.RowKit
def Dit.cs (d:Dit):List Int:=d.swaps.map (·.1)++d.loans.map (·.1)
theorem znK (v:Value) (l:List (List UInt8)) (s:List UInt8) (w:World) (hv:Sl w v 1 (l.map fun c=>[str c])) (hl:l.length≤1000000000) :
  CallsIn FL 0 Tryd.prog 42 #[v,str s] w fun e w'=>e=.returned (num (idxOf (fun x=>decide (x=s)) l))∧w'=w:=by
 obtain⟨cap,⟨hn,rfl⟩ | ⟨b,off,rfl,hbl,hcl⟩⟩:=hv
 ·gi_enter Tryd.func42,Tryd.ntmps42
  gi_wp2
  gi_loopw [5] (fun i wr=>i=num 0∧wr=w) (fun _ _=>0)
  case atStart=>exact⟨rfl,rfl⟩
  case round =>
   obtain⟨rfl,rfl⟩:=hrel;gi_wp2;go_ret;have hf:l=[]:=List.map_eq_nil_iff.1 hn;exact⟨by rw [hf];rfl,rfl⟩
 ·rw [List.length_map] at *
  gi_enter Tryd.func42,Tryd.ntmps42;gi_wp2
  gi_loopw [5] (fun i wr=>∃ k:Nat,k≤l.length∧i=num k∧(∀ (j:Nat) (x:List UInt8),j<k→l[j]?=some x→decide (x=s)=false)∧wr=w) (fun i _=>l.length-(intOf i).toNat)
  case atStart=>exact⟨0,Nat.zero_le _,rfl,fun _ _ h=>absurd h (Nat.not_lt_zero _),rfl⟩
  case round =>
   obtain⟨k,hk,rfl,hno,rfl⟩:=hrel;by_cases hlt:k<l.length
   ·have g1:wr.cell? ⟨b,off+k,none⟩=some (str l[k]):=by
     have:=hcl k 0 [str l[k]] _ (by simp [hlt]) rfl
     rwa [Nat.mul_one] at this
    have hx:l[k]?=some l[k]:=jqa hlt;have HX:Hid _:=hx;have HN:Hid (∀ (j:Nat) (x:List UInt8),j<k→l[j]?=some x→decide (x=s)=false):=hno;clear hno hcl hx;generalize hxk:l[k]=x at g1 HX;clear hxk;gi_wp2
    ·rename_i hb
     go_ret;exact⟨by rw [zd5 (show l[k]?=some x from HX) (decide_eq_true (beq_iff_eq.1 hb)) HN];rfl,rfl⟩
    ·rename_i hb
     refine⟨⟨k+1,hlt,by simp,?_,trivial⟩,by simp [intOf];omega⟩;intro j y hj hy;rcases Nat.lt_succ_iff_lt_or_eq.1 hj with hj | rfl
     ·exact HN j y hj hy
     ·have hz:l[j]?=some x:=HX
      rw [hz] at hy;cases hy
      exact decide_eq_false fun e=>by rw [e] at hb;simp at hb
   ·obtain rfl:k=l.length:=by omega
    have HN:Hid (∀ (j:Nat) (x:List UInt8),j<l.length→l[j]?=some x→decide (x=s)=false):=hno;clear hno hcl;gi_wp2;go_ret;exact⟨by rw [zeg HN];rfl,rfl⟩
theorem zp8 {s:List UInt8} {k:Nat} (h:k<s.length):((({ data:=s.toArray }:ByteArray)[k]'(by simpa [ByteArray.size] using h)).toNat:Int)=(s[k].toNat:Int):=rfl
theorem zhs (s:List UInt8) (w:World) (hl:s.length≤1000000000):CallsIn FL 0 Tryd.prog 41 #[str s] w fun e w'=>e=.returned (.bool (zbu s))∧w'=w:=by
 have key0:=fun n=>zby n 1 14 w;gi_enter Tryd.func41,Tryd.ntmps41;by_cases hlen:1≤s.length∧s.length≤14
 ·have H:Hid (zbu s=(decide (97≤zg2 s) && decide (zg2 s≤122) && !(bytes s).any badB)):=by unfold zbu Hid;simp [hlen]
  have HB:=@zki s (by omega);generalize hc:zg2 s=c at H HB;clear hc;by_cases h1:97≤c
  ·by_cases h2:c≤122
   ·gi_wp2_with (first | (gi_at_call 32;refine CallsIn.mono (key0 _) ?_;rintro e w1 ⟨rfl,rfl⟩) | gi_in)
    gi_loopw [3,4] (fun i _ wr=>∃ k:Nat,k≤s.length∧i=num k∧(∀ (j:Nat) (x:UInt8),j<k→s[j]?=some x→badB x.toNat=false)∧wr=w1) (fun i _ _=>s.length-(intOf i).toNat)
    case atStart=>exact⟨0,Nat.zero_le _,rfl,fun _ _ h=>absurd h (Nat.not_lt_zero _),rfl⟩
    case round =>
     obtain⟨k,hk,rfl,hno,rfl⟩:=hrel;have HN:Hid (∀ (j:Nat) (x:UInt8),j<k→s[j]?=some x→badB x.toNat=false):=hno;clear hno;have H2:Hid (zbu s=!(bytes s).any badB):=by show _=_;rw [show zbu s=_ from H];simp [h1,h2]
     clear H;by_cases hlt:k<s.length
     ·have hx:s[k]?=some s[k]:=jqa hlt
      have HX:Hid _:=hx;have HK:=zp8 hlt;clear hx;have HBad:Hid (badB (s[k].toNat:Int)=true→zbu s=false):=by
       show _→_;intro h;have ha:(bytes s).any badB=true:=List.any_eq_true.2 ⟨_,List.mem_map.2 ⟨s[k],List.getElem_mem hlt,rfl⟩,h⟩;rw [show zbu s=_ from H2,ha];rfl
      have HGood:Hid (badB (s[k].toNat:Int)=false→∀ (j:Nat) (x:UInt8),j<k+1→s[j]?=some x→badB x.toNat=false):=by
       show _→_;intro h j x hj hx;rcases Nat.lt_succ_iff_lt_or_eq.1 hj with hj | rfl
       ·exact HN j x hj hx
       ·have hz:s[j]?=some s[j]:=HX
        rw [hz] at hx;cases hx
        exact h
      have hy0:0≤(s[k].toNat:Int)∧(s[k].toNat:Int)≤255:=⟨by omega,by have:=s[k].toNat_lt;omega⟩;clear HX;generalize (s[k].toNat:Int)=y at HK HBad HGood hy0;have bad:∀ (_:badB y=true),zbu s=false:=HBad;have good:badB y=false→_:=HGood;have LEN:(k:Int)<s.length:=by omega
      by_cases a1:y<97
      ·by_cases a3:y<48
       ·by_cases a5:y=45
        ·have G:=Lib.hid (good (by simp [badB,a5]))
         subst a5;clear bad good;gi_wp2;exact⟨⟨k+1,hlt,by simp,G.out,trivial⟩,by simp [intOf];omega⟩
        ·have G:=Lib.hid (bad (by simp [badB];omega))
         clear bad good;gi_wp2;go_ret;exact⟨by rw [G.out];rfl,rfl⟩
       ·by_cases a4:57<y
        ·have G:=Lib.hid (bad (by simp [badB];omega))
         clear bad good;gi_wp2;go_ret;exact⟨by rw [G.out];rfl,rfl⟩
        ·have G:=Lib.hid (good (by simp [badB];omega))
         clear bad good;gi_wp2;exact⟨⟨k+1,hlt,by simp,G.out,trivial⟩,by simp [intOf];omega⟩
      ·by_cases a2:122<y
       ·have G:=Lib.hid (bad (by simp [badB];omega))
        have b3:¬ y<48:=by omega
        have b4:57<y:=by omega
        have b5:(y != 45)=true:=by simp;omega
        clear bad good;gi_wp2;go_ret;exact⟨by rw [G.out];rfl,rfl⟩
       ·have G:=Lib.hid (good (by simp [badB];omega))
        clear bad good;gi_wp2;exact⟨⟨k+1,hlt,by simp,G.out,trivial⟩,by simp [intOf];omega⟩
     ·obtain rfl:k=s.length:=by omega
      have G:Hid (zbu s=true):=by
       show _=_;rw [show zbu s=_ from H2];have:(bytes s).any badB=false:=by
        rw [List.any_eq_false];intro z hz;obtain⟨x,hx,rfl⟩:=List.mem_map.1 hz;obtain⟨j,hj,rfl⟩:=List.getElem_of_mem hx;have:=HN j s[j] hj (jqa hj);rw [this];simp
       rw [this];rfl
      clear H2;gi_wp2;go_ret;exact⟨by rw [G.out];rfl,rfl⟩
   ·gi_wp2_with (first | (gi_at_call 32;refine CallsIn.mono (key0 _) ?_;rintro e w1 ⟨rfl,rfl⟩) | gi_in)
    go_ret;exact⟨congrArg (fun b=>Ending.returned (.bool b)) (by rw [show zbu s=_ from H];simp;omega),rfl⟩
  ·gi_wp2_with (first | (gi_at_call 32;refine CallsIn.mono (key0 _) ?_;rintro e w1 ⟨rfl,rfl⟩) | gi_in)
   go_ret;exact⟨congrArg (fun b=>Ending.returned (.bool b)) (by rw [show zbu s=_ from H];simp;omega),rfl⟩
 ·have H:Hid (zbu s=false):=by unfold zbu Hid;simp [hlen]
  gi_wp2_with (first | (gi_at_call 32;refine CallsIn.mono (key0 _) ?_;rintro e w1 ⟨rfl,rfl⟩) | gi_in)
  all_goals (go_ret;exact⟨congrArg (fun b=>Ending.returned (.bool b)) (by rw [show zbu s=_ from H]),rfl⟩)
section
variable {F:Fence} {n:Nat} {ops:Array Oper} {C:World→Prop} {a:Act} {dst:Option Nat} {ty:TypeId} {pos:String} {af:Array Edge}
theorem zeE {s i:Nat} {x y:Int} (h:a.eval (.tmp s)=num x) (hi:a.eval (.tmp i)=num y) (hb : -9223372036854775808≤x-y∧x-y≤9223372036854775807):YieldsC F n Tryd.prog ops C ⟨dst,.binOp .sub 3 (.tmp s) (.tmp i) 3,ty,pos,af,none⟩ (num (x-y)) a :=
 yC rfl (fun _=>rfl) fun w _=>by
  generalize a.eval=ρ at h hi ⊢;simp [execOp,go_sem,h,hi];exact IntWalk.i64_in _ hb
theorem zqm {s i:Nat} {x y:Int} (h:a.eval (.tmp s)=num x) (hi:a.eval (.tmp i)=num y) (hb : -9223372036854775808≤x * y∧x * y≤9223372036854775807):YieldsC F n Tryd.prog ops C ⟨dst,.binOp .mul 3 (.tmp s) (.tmp i) 3,ty,pos,af,none⟩ (num (x * y)) a :=
 yC rfl (fun _=>rfl) fun w _=>by
  generalize a.eval=ρ at h hi ⊢;simp [execOp,go_sem,h,hi];exact IntWalk.i64_in _ hb
theorem zdN {s:Nat} {v:Value} (h:a.eval (.tmp s)=v):YieldsC F n Tryd.prog ops C ⟨dst,.assign (.tmp s),ty,pos,af,none⟩ v a :=
 yC rfl (fun _=>rfl) fun x _=>by generalize a.eval=ρ at h ⊢;simp [execOp,go_sem,h]
end
end Go.Proofs.YtbbanmifdbeneaaDoor

