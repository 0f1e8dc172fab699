/- Walks: whether a manifest may be. -/
import Derived.Test.YtmajfklnagdlpaaGreatDoorChecked
import Derived.Test.YtmajfklnagdlpaaGreatDoorG32Bs
import Derived.Test.YtmajfklnagdlpaaGreatDoorG38Bs
import Derived.Test.YtmajfklnagdlpaaGreatDoorG3Bs
set_option linter.unusedVariables false
set_option linter.unusedSimpArgs false
namespace Go.Proofs.YtmajfklnagdlpaaGreatDoor
open Go.RowKit
def q0T (nx ck:Int) (L:List (List Int)):Bool:=decide (0≤nx∧nx≤1000000∧0≤ck∧ck≤2147483647)&&q0i L&&L.flatten.all fun x=>decide (x<nx)
theorem q3w {nx ck:Int} {L:List (List Int)} (h:¬(0≤nx∧nx≤1000000∧0≤ck∧ck≤2147483647)):q0T nx ck L=false:=by
  unfold q0T;rw[decide_eq_false h];rfl
theorem z2s {nx ck:Int} {L:List (List Int)} (h:q0i L=false):q0T nx ck L=false:=by
  unfold q0T;rw[h,Bool.and_false,Bool.false_and]
theorem q7r {nx ck:Int} {L:List (List Int)} (h:0≤nx∧nx≤1000000∧0≤ck∧ck≤2147483647) (h2:q0i L=true):q0T nx ck L=L.flatten.all fun x=>decide (x<nx):=by
  unfold q0T;rw[decide_eq_true h,h2,Bool.true_and,Bool.true_and]
theorem z2L {w w1:World} {a b c d:Value} {t:TypeId} (h:Ext (w.alloc (.cells #[a,b,c,d] t)) w1):
    w1.cell? ⟨w.heap.size,0,none⟩=some a∧w1.cell? ⟨w.heap.size,1,none⟩=some b∧w1.cell? ⟨w.heap.size,2,none⟩=some c∧w1.cell? ⟨w.heap.size,3,none⟩=some d:=
  ⟨q0A h (by simp),q0A h (by simp),q0A h (by simp),q0A h (by simp)⟩
theorem z7H (x nx:Int) (g:Nat) (w:World) (h:w.cell? ⟨g,0,none⟩=some (.int .i64 nx)):
    Calls Tryz.prog 183 #[.int .i64 x,.pointer (some ⟨g,0,none⟩)] w fun e w'=>e= .returned (.bool (decide (nx≤x)))∧Ext w w':=by
  go_enter Tryz.func183,Tryz.ntmps183
  go_wp2_with fail
  go_ret
  exact ⟨rfl,Ext.refl _⟩
def q3V (xs:List Int) (nx:Int):Int:=if xs.any (fun x=>decide (nx≤x)) then (xs.findIdx (fun x=>decide (nx≤x)):Int) else-1
theorem q9o (xs:List Int) (nx:Int) (k:Nat) (hk:k<xs.length) (h0:(xs.take k).any (fun x=>decide (nx≤x))=false) (h1:nx≤xs.getD k 0):q3V xs nx=k:=by
  have ha:xs.any (fun x=>decide (nx≤x))=true:=q9x _ 0 xs k hk (decide_eq_true h1)
  unfold q3V
  rw[if_pos ha]
  have :xs.findIdx (fun x=>decide (nx≤x))=k:=by
    rw[List.findIdx_eq hk]
    refine ⟨?_,fun j hj=>?_⟩
    · rw[List.getD_eq_getElem?_getD,List.getElem?_eq_getElem hk] at h1
      exact decide_eq_true h1
    · rw[List.any_eq_false] at h0
      have:=h0 xs[j] (List.mem_take_iff_getElem.2 ⟨j,by omega,rfl⟩)
      simpa using this
  rw[this]
theorem q8l (xs:List Int) (nx:Int) (h:xs.any (fun x=>decide (nx≤x))=false):q3V xs nx= -1:=by
  unfold q3V;rw[h];rfl
theorem q8t (xs:List Int) (nx:Int):decide (0≤q3V xs nx)=xs.any (fun x=>decide (nx≤x)):=by
  unfold q3V
  cases h:xs.any (fun x=>decide (nx≤x))
  · simp
  · simp
theorem q8R (xs:List Int) (nx:Int):(!(xs.any fun x=>decide (nx≤x)))=xs.all fun x=>decide (x<nx):=by
  rw[List.not_any_eq_all_not]
  congr 1
  funext x
  by_cases h:nx≤x
  · rw[decide_eq_true h,decide_eq_false (by omega)];rfl
  · rw[decide_eq_false h,decide_eq_true (by omega)];rfl
set_option maxRecDepth 100000 in
set_option maxHeartbeats 1600000 in
theorem z9E (ao:Option Addr) (n cap:Nat) (xs:List Int) (nx:Int) (g:Nat) (w:World) (hx:Ints w ao n cap xs) (hg:w.cell? ⟨g,0,none⟩=some (.int .i64 nx)):
    Calls Tryz.prog 230 #[.slice ao n cap,.func (Fn.func 183) #[] #[.pointer (some ⟨g,0,none⟩)]] w fun e w'=>e= .returned (.int .i64 (q3V xs nx))∧Ext w w':=by
  have Hx:=Lib.hid hx
  have HG:=Lib.hid hg
  have b1:=hx.fits;have b2:=hx.bound
  clear hx hg
  go_enter Tryz.func230,Tryz.ntmps230
  go_wp2_with fail
  go_loopw [8] (fun i w'=> ∃k:Nat,k≤n∧i= .int .i64 k∧(xs.take k).any (fun x=>decide (nx≤x))=false∧Ext w w') (fun i _=>n-(intOf i).toNat)
  case atStart=>exact ⟨0,Nat.zero_le _,rfl,by simp,Ext.refl _⟩
  case round=>
    obtain ⟨k,hk,rfl,heq,hb⟩:=hrel
    have Heq:=Lib.hid heq;have Hb:=Lib.hid hb
    clear heq hb
    by_cases hlt:k<n
    · obtain ⟨b,off,rfl,c1⟩:=(Hx.out.ext Hb.out).at hlt
      generalize hX:xs.getD k 0=X at*
      have HX:=Lib.hid hX;clear hX
      go_wp2_with fail
      refine (z7H X nx g _ (q0A Hb.out HG.out)).mono ?_
      rintro e w1 ⟨rfl,hb1⟩
      have HB1:=Lib.hid (Hb.out.trans hb1);clear hb1
      by_cases hge:nx≤X
      · go_wp2_with fail
        go_ret
        exact ⟨rn (q9o xs nx k (by rw[Hx.out.len];exact hlt) Heq.out (by rw[HX.out];exact hge)),HB1.out⟩
      · go_wp2_with fail
        go_roundw
        case rel=>exact ⟨k+1,by omega,by go_num,q8j _ 0 xs k (by rw[Hx.out.len];exact hlt) Heq.out (by rw[HX.out];exact decide_eq_false (by omega)),HB1.out⟩
        case measure=>simp[intOf];omega
    · go_wp2_with fail
      go_ret
      exact ⟨rn (q8l xs nx (z0b _ xs n k Hx.out.len (by omega) Heq.out)),Hb.out⟩
theorem q9v (ao:Option Addr) (n cap:Nat) (xs:List Int) (nx:Int) (g:Nat) (w:World) (hx:Ints w ao n cap xs) (hg:w.cell? ⟨g,0,none⟩=some (.int .i64 nx)):
    Calls Tryz.prog 182 #[.slice ao n cap,.func (Fn.func 183) #[] #[.pointer (some ⟨g,0,none⟩)]] w fun e w'=>e= .returned (.bool (xs.any fun x=>decide (nx≤x)))∧Ext w w':=by
  have Hx:=Lib.hid hx
  have HG:=Lib.hid hg
  clear hx hg
  go_enter Tryz.func182,Tryz.ntmps182
  go_wp2_with fail
  refine (z9E _ _ _ xs nx g _ Hx.out HG.out).mono ?_
  rintro e w1 ⟨rfl,hb⟩
  have HB:=Lib.hid hb;clear hb
  go_wp2_with fail
  go_ret
  exact ⟨rb (by rw[←q8t]),HB.out⟩
set_option maxRecDepth 100000 in
set_option maxHeartbeats 1600000 in
theorem q7y (nx ck sd:Int) (ao:Option Addr) (n cap:Nat) (L:List (List Int)) (w:World) (hx:Grid w ao n cap L) (hsum:L.flatten.length≤17592186044416) (hwf: ∀x∈L.flatten,(Lit.int .i64 x).wf=true):
    Calls Tryz.prog 128 #[.agg #[.int .i64 nx,.int .i64 ck,.int .u64 sd,.slice ao n cap]] w fun e w'=>e= .returned (.bool (q0T nx ck L))∧Ext w w':=by
  have Hx:=Lib.hid hx
  have HWF:=Lib.hid hwf
  clear hx hwf
  by_cases h1:nx<0
  · have hm:q0T nx ck L=false:=q3w (by omega)
    have HM:=Lib.hid hm;clear hm
    go_enter Tryz.func128,Tryz.ntmps128
    go_wp2_with fail
    go_ret
    exact ⟨by rw[HM.out];rfl,q0C _ _⟩
  by_cases h2:1000000<nx
  · have hm:q0T nx ck L=false:=q3w (by omega)
    have HM:=Lib.hid hm;clear hm
    go_enter Tryz.func128,Tryz.ntmps128
    go_wp2_with fail
    go_ret
    exact ⟨by rw[HM.out];rfl,q0C _ _⟩
  by_cases h3:ck<0
  · have hm:q0T nx ck L=false:=q3w (by omega)
    have HM:=Lib.hid hm;clear hm
    go_enter Tryz.func128,Tryz.ntmps128
    go_wp2_with fail
    go_ret
    exact ⟨by rw[HM.out];rfl,q0C _ _⟩
  by_cases h4:2147483647<ck
  · have hm:q0T nx ck L=false:=q3w (by omega)
    have HM:=Lib.hid hm;clear hm
    go_enter Tryz.func128,Tryz.ntmps128
    go_wp2_with fail
    go_ret
    exact ⟨by rw[HM.out];rfl,q0C _ _⟩
  go_enter Tryz.func128,Tryz.ntmps128
  go_wp2_with fail
  refine (z4Z _ _ _ L _ (Hx.out.ext (q0C _ _)) hsum HWF.out).mono ?_
  rintro e w1 ⟨rfl,hb⟩
  obtain ⟨d0,d1,d2,d3⟩:=z2L hb
  have HB:=Lib.hid hb;clear hb
  by_cases h5:q0i L=false
  · have hm:q0T nx ck L=false:=z2s h5
    have HM:=Lib.hid hm;clear hm
    go_wp2_with fail
    go_ret
    exact ⟨by rw[HM.out];rfl,(q0C _ _).trans HB.out⟩
  have h5':q0i L=true:=by simpa using h5
  have hm:q0T nx ck L=!(L.flatten.any fun x=>decide (nx≤x)):=by rw[q8R];exact q7r (by omega) h5'
  have HM:=Lib.hid hm;clear hm h5
  generalize hF:L.flatten=xs at*
  have HF:=Lib.hid hF;clear hF
  go_wp2_with fail
  refine (z4I _ _ _ L _ ((Hx.out.ext (q0C _ _)).ext HB.out) (by rw[HF.out];exact hsum)).mono ?_
  rw[HF.out]
  rintro e w2 ⟨v2,rfl,hown,hb⟩
  obtain ⟨a2,c2,rfl,hi2⟩:=q3P hown
  have HB2:=Lib.hid (HB.out.trans hb)
  obtain ⟨e0,e1,e2,e3⟩:=z2L HB2.out
  have HI2:=Lib.hid hi2
  have E0:=Lib.hid e0
  clear hown hb hi2 HB d0 d1 d2 d3
  go_wp2_with fail
  refine (q9v _ _ _ xs nx w.heap.size _ HI2.out E0.out).mono ?_
  rintro e w3 ⟨rfl,hb⟩
  have HB3:=Lib.hid (HB2.out.trans hb);clear hb e0 e1 e2 e3
  go_wp2_with fail
  go_ret
  exact ⟨rb HM.out,(q0C _ _).trans HB3.out⟩
end Go.Proofs.YtmajfklnagdlpaaGreatDoor
