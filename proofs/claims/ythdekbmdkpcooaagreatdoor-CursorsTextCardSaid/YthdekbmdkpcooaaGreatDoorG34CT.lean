/- Walks. -/
import Derived.Test.YthdekbmdkpcooaaGreatDoorG28CT
import Derived.Maps.OwnOps
import Derived.Maps.OwnSet
import Derived.Maps.Views
set_option linter.unusedVariables false
set_option linter.unusedSimpArgs false
set_option maxRecDepth 100000
set_option maxHeartbeats 1600000
namespace Go.Proofs.YthdekbmdkpcooaaGreatDoor
theorem η34 {p:Prop} (h:p):Go.RowKit.Hid p:=Lib.hid h
section
open Go.RowKit Go.Maps
theorem Tryz.keyInt :Keyed Tryz.prog 3:=int_keyed Tryz.underlying3
theorem Tryz.zeroInt (w:World):(zeroValue 3).run Tryz.prog w= .ok (.int .i64 0) w:=by kernel_rfl
def Seen (w:World) (b n:Nat) (xs:List Int):Prop:=
 ∃D:DataW Unit,w.ownsMap Tryz.prog 3 (plainElem Tryz.prog 3) b n D∧ ∀x,D.atKey (.int .i64 x) (.lit (.int .i64 0))= .lit (.int .i64 (if x∈xs then 1 else 0))
theorem Seen.made (w:World):Seen (w.alloc (.map #[] 0)) w.heap.size 0 []:=⟨_,World.ownsMap_made _ _ _ _,fun x=>by simp[DataW.atKey]⟩
theorem Seen.look {w:World} {b n:Nat} {xs:List Int} (h:Seen w b n xs) (x:Int) (hw:(Lit.int .i64 x).wf=true):
  (Instr.lookup 324 (.map (some b)) (.int .i64 x) false).run Tryz.prog w= .ok (.int .i64 (if x∈xs then 1 else 0)) w:=by
 obtain ⟨D,h1,h2⟩:=h;obtain ⟨c,hrun,hat,_⟩:=h1.lookup_int Tryz.keyInt Tryz.underlying324 Tryz.underlying3 (Tryz.zeroInt _) (keyOf_int_mk Tryz.underlying3 hw);rw[h2 x] at hat;injection hat with hat;injection hat with _ hat;rw[hat];exact hrun
theorem Seen.put {w':World} {b n:Nat} {xs:List Int} {D:DataW Unit} (hD: ∀x,D.atKey (.int .i64 x) (.lit (.int .i64 0))= .lit (.int .i64 (if x∈xs then 1 else 0))) (hm:IsMap D) (x:Int)
  (h:w'.ownsMap Tryz.prog 3 (plainElem Tryz.prog 3) b n (D.put (.int .i64 x) (.lit (.int .i64 1)))) (ys:List Int) (hy: ∀z,z∈ys↔(z∈xs∨z=x)):Seen w' b n ys:=by
 refine ⟨_,h,fun z=>?_⟩;by_cases hz:z=x
 ·subst hz
  rw[atKey_put_same hm (k:= .int .i64 z) (show WideAt.IsKeyLit (.int .i64 z) from trivial),if_pos ((hy z).2 (.inr rfl))]
 ·rw[atKey_put_other (by intro h;injection h with _ h;exact hz h),hD z]
  have:(z∈ys)↔(z∈xs):=by rw[hy];exact ⟨fun h=>h.elim id fun h=>(hz h).elim,.inl⟩
  simp only[this]
theorem z9G (ao:Option Addr) (n cap:Nat) (L:List (List Int)) (w:World) (hx:Grid w ao n cap L) (hsum:L.flatten.length≤17592186044416) (hwf: ∀x∈L.flatten,(Lit.int .i64 x).wf=true):
  Calls Tryz.prog 200 #[.slice ao n cap] w fun e w'=>e= .returned (.bool (q1c L))∧Ext w w':=by
 have Hx:=η34 hx;have b1:=hx.fits;have b2:=hx.bound;have hl:=hx.len;have HL:=η34 hl;have HWF:=η34 hwf;clear hx hl hwf;have hmm:=@run_makeMap Tryz.prog;go_enter Tryz.func200,Tryz.ntmps200;go_wp2_with fail;refine (z3k _ _ _ L _ Hx.out hsum).mono ?_;rintro e w1 ⟨v1,rfl,hown,hb1⟩;obtain ⟨a1,c1,rfl,hi⟩:=q2l hown;have HB1:=η34 hb1;have HI:=η34 hi;have f1:=hi.fits;have f2:=hi.bound;clear hown hb1 hi;have V1:=η34 (z1I L);have V2:=η34 (z0X L);have V3:=η34 (z4C L);have V4:=η34 (z3t L);have V5:=η34 (q9s L);generalize L.flatten=xs at*;by_cases h5:5<n
 ·go_wp2_with fail
  go_ret;exact ⟨rb (V1.out (by rw[HL.out];exact h5)),HB1.out⟩
 by_cases h40:40<xs.length
 ·go_wp2_with fail
  go_ret;exact ⟨rb (V2.out h40),HB1.out⟩
 go_wp2_with fail
 go_loopw [20] (fun i w'=> ∃k:Nat,k≤xs.length∧i= .int .i64 k∧Seen w' w1.heap.size k (xs.take k)∧(∀x∈xs.take k,0≤x)∧(xs.take k).Nodup∧Ext w1 w') (fun i _=>xs.length-(intOf i).toNat)
 case atStart=>exact ⟨0,Nat.zero_le _,rfl,Seen.made _,by simp,by simp,(Ext.refl _).alloc _⟩
 case round=>
  obtain ⟨k,hk,rfl,hseen,hpos,hnd,hb⟩:=hrel;have HS:=η34 hseen;have HP:=η34 hpos;have HN:=η34 hnd;have Hb:=η34 hb;clear hseen hpos hnd hb;by_cases hlt:k<xs.length
  ·obtain ⟨b,off,rfl,d1⟩:=(HI.out.ext Hb.out).at hlt
   have v3:=V3.out k hlt;have v4:=V4.out k hlt;have n1:=q6H xs k hlt HP.out;have n2:=q6p xs k hlt HN.out;have n3:=q8n xs k hlt;have hwx:=HWF.out _ (q3j xs k hlt);generalize xs.getD k 0=X at*;have V3':=η34 v3;have V4':=η34 v4;have N1:=η34 n1;have N2:=η34 n2;have N3:=η34 n3;have HWX:=η34 hwx;clear v3 v4 n1 n2 n3 hwx;by_cases hneg:X<0
   ·go_wp2_with fail
    go_ret;exact ⟨rb (V3'.out hneg),HB1.out.trans Hb.out⟩
   ·have hlook:=HS.out.look X HWX.out
    by_cases hin:X∈xs.take k
    ·rw[if_pos hin] at hlook
     have HIN:=η34 hin;clear hin;go_wp2_with fail;go_ret;exact ⟨rb (V4'.out HIN.out),HB1.out.trans Hb.out⟩
    ·rw[if_neg hin] at hlook
     have HIN:=η34 hin;clear hin;obtain ⟨D,o1,o2⟩:=HS.out;have O1:=η34 o1;have O2:=η34 o2;clear o1 o2
     go_wp2_with (at_mapUpdate;refine wpList_mapUpdate_own _ rfl _ _ _ 324 rfl 3 3 Tryz.keyInt Tryz.underlying324 _ w1.heap.size k _ rfl O1.out (by unfold maxLen;omega) _ _ _ rfl rfl (keyOf_int_mk Tryz.underlying3 HWX.out) _ [] (plainElem_int Tryz.underlying3 (by decide)) ?_;intro w2 hown2 hgrow2)
     have hs2:=Seen.put O2.out (World.ownsMap.isMap O1.out) X hown2 (xs.take (k+1)) N3.out;have hb2:Ext w1 w2:=Hb.out.grown hgrow2 Hb.out.size (fun j hj=>by cases hj;exact Nat.le_refl _);have HS2:=η34 hs2;have HB2:=η34 hb2;clear hs2 hb2 hown2 hgrow2;go_wp2_with fail
     go_roundw
     case rel=>exact ⟨k+1,by omega,by go_num,HS2.out,N1.out hneg,N2.out HIN.out,HB2.out⟩
     case measure=>simp[intOf];omega
  ·have hk2:xs.take k=xs:=List.take_of_length_le (by omega)
   have HK:=η34 hk2;clear hk2;go_wp2_with fail;go_ret;exact ⟨rb (V5.out (by rw[HL.out];omega) (by omega) (by have:=HP.out;rwa [HK.out] at this) (by have:=HN.out;rwa [HK.out] at this)),HB1.out.trans Hb.out⟩
end
section
open Go.RowKit
def q0d (nx ck:Int) (L:List (List Int)):Bool:=decide (0≤nx∧nx≤1000000∧0≤ck∧ck≤2147483647)&&q1c L&&L.flatten.all fun x=>decide (x<nx)
theorem q4Y {nx ck:Int} {L:List (List Int)} (h:¬(0≤nx∧nx≤1000000∧0≤ck∧ck≤2147483647)):q0d nx ck L=false:=by
 unfold q0d;rw[decide_eq_false h];rfl
theorem z3P {nx ck:Int} {L:List (List Int)} (h:q1c L=false):q0d nx ck L=false:=by
 unfold q0d;rw[h,Bool.and_false,Bool.false_and]
theorem q7k {nx ck:Int} {L:List (List Int)} (h:0≤nx∧nx≤1000000∧0≤ck∧ck≤2147483647) (h2:q1c L=true):q0d nx ck L=L.flatten.all fun x=>decide (x<nx):=by
 unfold q0d;rw[decide_eq_true h,h2,Bool.true_and,Bool.true_and]
theorem z4m {w w1:World} {a b c d:Value} {t:TypeId} (h:Ext (w.alloc (.cells #[a,b,c,d] t)) w1):
  w1.cell? ⟨w.heap.size,0,none⟩=some a∧w1.cell? ⟨w.heap.size,1,none⟩=some b∧w1.cell? ⟨w.heap.size,2,none⟩=some c∧w1.cell? ⟨w.heap.size,3,none⟩=some d:=
 ⟨q0A h (by simp),q0A h (by simp),q0A h (by simp),q0A h (by simp)⟩
theorem z8b (x nx:Int) (g:Nat) (w:World) (h:w.cell? ⟨g,0,none⟩=some (.int .i64 nx)):
  Calls Tryz.prog 224 #[.int .i64 x,.pointer (some ⟨g,0,none⟩)] w fun e w'=>e= .returned (.bool (decide (nx≤x)))∧Ext w w':=by
 go_enter Tryz.func224,Tryz.ntmps224;go_wp2_with fail;go_ret;exact ⟨rfl,Ext.refl _⟩
def q3f (xs:List Int) (nx:Int):Int:=if xs.any (fun x=>decide (nx≤x)) then (xs.findIdx (fun x=>decide (nx≤x)):Int) else-1
theorem z0b (xs:List Int) (nx:Int) (k:Nat) (hk:k<xs.length) (h0:(xs.take k).any (fun x=>decide (nx≤x))=false) (h1:nx≤xs.getD k 0):q3f xs nx=k:=by
 have ha:xs.any (fun x=>decide (nx≤x))=true:=z1s _ 0 xs k hk (decide_eq_true h1);unfold q3f;rw[if_pos ha];have :xs.findIdx (fun x=>decide (nx≤x))=k:=by
  rw[List.findIdx_eq hk];refine ⟨?_,fun j hj=>?_⟩
  ·rw[List.getD_eq_getElem?_getD,List.getElem?_eq_getElem hk] at h1
   exact decide_eq_true h1
  ·rw[List.any_eq_false] at h0
   have:=h0 xs[j] (List.mem_take_iff_getElem.2 ⟨j,by omega,rfl⟩)
   simpa using this
 rw[this]
theorem q9I (xs:List Int) (nx:Int) (h:xs.any (fun x=>decide (nx≤x))=false):q3f xs nx= -1:=by
 unfold q3f;rw[h];rfl
theorem z0a (xs:List Int) (nx:Int):decide (0≤q3f xs nx)=xs.any (fun x=>decide (nx≤x)):=by
 unfold q3f
 cases h:xs.any (fun x=>decide (nx≤x))
 ·simp
 ·simp
theorem q8V (xs:List Int) (nx:Int):(!(xs.any fun x=>decide (nx≤x)))=xs.all fun x=>decide (x<nx):=by
 rw[List.not_any_eq_all_not]
 congr 1
 funext x
 by_cases h:nx≤x
 ·rw[decide_eq_true h,decide_eq_false (by omega)];rfl
 ·rw[decide_eq_false h,decide_eq_true (by omega)];rfl
theorem y0T (ao:Option Addr) (n cap:Nat) (xs:List Int) (nx:Int) (g:Nat) (w:World) (hx:Ints w ao n cap xs) (hg:w.cell? ⟨g,0,none⟩=some (.int .i64 nx)):
  Calls Tryz.prog 264 #[.slice ao n cap,.func (Fn.func 224) #[] #[.pointer (some ⟨g,0,none⟩)]] w fun e w'=>e= .returned (.int .i64 (q3f xs nx))∧Ext w w':=by
 have Hx:=η34 hx;have HG:=η34 hg;have b1:=hx.fits;have b2:=hx.bound;clear hx hg;go_enter Tryz.func264,Tryz.ntmps264;go_wp2_with fail
 go_loopw [8] (fun i w'=> ∃k:Nat,k≤n∧i= .int .i64 k∧(xs.take k).any (fun x=>decide (nx≤x))=false∧Ext w w') (fun i _=>n-(intOf i).toNat)
 case atStart=>exact ⟨0,Nat.zero_le _,rfl,by simp,Ext.refl _⟩
 case round=>
  obtain ⟨k,hk,rfl,heq,hb⟩:=hrel;have Heq:=η34 heq;have Hb:=η34 hb;clear heq hb;by_cases hlt:k<n
  ·obtain ⟨b,off,rfl,c1⟩:=(Hx.out.ext Hb.out).at hlt
   generalize hX:xs.getD k 0=X at*;have HX:=η34 hX;clear hX;go_wp2_with fail;refine (z8b X nx g _ (q0A Hb.out HG.out)).mono ?_;rintro e w1 ⟨rfl,hb1⟩;have HB1:=η34 (Hb.out.trans hb1);clear hb1;by_cases hge:nx≤X
   ·go_wp2_with fail
    go_ret;exact ⟨rn (z0b xs nx k (by rw[Hx.out.len];exact hlt) Heq.out (by rw[HX.out];exact hge)),HB1.out⟩
   ·go_wp2_with fail
    go_roundw
    case rel=>exact ⟨k+1,by omega,by go_num,q8m _ 0 xs k (by rw[Hx.out.len];exact hlt) Heq.out (by rw[HX.out];exact decide_eq_false (by omega)),HB1.out⟩
    case measure=>simp[intOf];omega
  ·go_wp2_with fail
   go_ret;exact ⟨rn (q9I xs nx (z1V _ xs n k Hx.out.len (by omega) Heq.out)),Hb.out⟩
theorem z1U (ao:Option Addr) (n cap:Nat) (xs:List Int) (nx:Int) (g:Nat) (w:World) (hx:Ints w ao n cap xs) (hg:w.cell? ⟨g,0,none⟩=some (.int .i64 nx)):
  Calls Tryz.prog 223 #[.slice ao n cap,.func (Fn.func 224) #[] #[.pointer (some ⟨g,0,none⟩)]] w fun e w'=>e= .returned (.bool (xs.any fun x=>decide (nx≤x)))∧Ext w w':=by
 have Hx:=η34 hx;have HG:=η34 hg;clear hx hg;go_enter Tryz.func223,Tryz.ntmps223;go_wp2_with fail;refine (y0T _ _ _ xs nx g _ Hx.out HG.out).mono ?_;rintro e w1 ⟨rfl,hb⟩;have HB:=η34 hb;clear hb;go_wp2_with fail;go_ret;exact ⟨rb (by rw[←z0a]),HB.out⟩
theorem q9G (nx ck sd:Int) (ao:Option Addr) (n cap:Nat) (L:List (List Int)) (w:World) (hx:Grid w ao n cap L) (hsum:L.flatten.length≤17592186044416) (hwf: ∀x∈L.flatten,(Lit.int .i64 x).wf=true):
  Calls Tryz.prog 177 #[.agg #[.int .i64 nx,.int .i64 ck,.int .u64 sd,.slice ao n cap]] w fun e w'=>e= .returned (.bool (q0d nx ck L))∧Ext w w':=by
 have Hx:=η34 hx;have HWF:=η34 hwf;clear hx hwf;by_cases h1:nx<0
 ·have hm:q0d nx ck L=false:=q4Y (by omega)
  have HM:=η34 hm;clear hm;go_enter Tryz.func177,Tryz.ntmps177;go_wp2_with fail;go_ret;exact ⟨by rw[HM.out];rfl,q0B _ _⟩
 by_cases h2:1000000<nx
 ·have hm:q0d nx ck L=false:=q4Y (by omega)
  have HM:=η34 hm;clear hm;go_enter Tryz.func177,Tryz.ntmps177;go_wp2_with fail;go_ret;exact ⟨by rw[HM.out];rfl,q0B _ _⟩
 by_cases h3:ck<0
 ·have hm:q0d nx ck L=false:=q4Y (by omega)
  have HM:=η34 hm;clear hm;go_enter Tryz.func177,Tryz.ntmps177;go_wp2_with fail;go_ret;exact ⟨by rw[HM.out];rfl,q0B _ _⟩
 by_cases h4:2147483647<ck
 ·have hm:q0d nx ck L=false:=q4Y (by omega)
  have HM:=η34 hm;clear hm;go_enter Tryz.func177,Tryz.ntmps177;go_wp2_with fail;go_ret;exact ⟨by rw[HM.out];rfl,q0B _ _⟩
 go_enter Tryz.func177,Tryz.ntmps177;go_wp2_with fail;refine (z9G _ _ _ L _ (Hx.out.ext (q0B _ _)) hsum HWF.out).mono ?_;rintro e w1 ⟨rfl,hb⟩;obtain ⟨d0,d1,d2,d3⟩:=z4m hb;have HB:=η34 hb;clear hb;by_cases h5:q1c L=false
 ·have hm:q0d nx ck L=false:=z3P h5
  have HM:=η34 hm;clear hm;go_wp2_with fail;go_ret;exact ⟨by rw[HM.out];rfl,(q0B _ _).trans HB.out⟩
 have h5':q1c L=true:=by simpa using h5
 have hm:q0d nx ck L=!(L.flatten.any fun x=>decide (nx≤x)):=by rw[q8V];exact q7k (by omega) h5'
 have HM:=η34 hm;clear hm h5;generalize hF:L.flatten=xs at*;have HF:=η34 hF;clear hF;go_wp2_with fail;refine (z3k _ _ _ L _ ((Hx.out.ext (q0B _ _)).ext HB.out) (by rw[HF.out];exact hsum)).mono ?_;rw[HF.out];rintro e w2 ⟨v2,rfl,hown,hb⟩;obtain ⟨a2,c2,rfl,hi2⟩:=q2l hown;have HB2:=η34 (HB.out.trans hb);obtain ⟨e0,e1,e2,e3⟩:=z4m HB2.out;have HI2:=η34 hi2;have E0:=η34 e0;clear hown hb hi2 HB d0 d1 d2 d3;go_wp2_with fail;refine (z1U _ _ _ xs nx w.heap.size _ HI2.out E0.out).mono ?_;rintro e w3 ⟨rfl,hb⟩;have HB3:=η34 (HB2.out.trans hb);clear hb e0 e1 e2 e3;go_wp2_with fail;go_ret;exact ⟨rb HM.out,(q0B _ _).trans HB3.out⟩
end
end Go.Proofs.YthdekbmdkpcooaaGreatDoor
