/- Walks: all tables, by levels. Walks: clones, trimmed levels, five levels. Walks: great levels, a number among some, the first place of a number. Walks: whether levels may be, by the document. Walks: the document's five levels, and trimmed ones. Walks: the small helpers of the statements on levels. -/
import Derived.Test.YtmajfklnagdlpaaGreatDoorChecked
import Derived.Test.YtmajfklnagdlpaaGreatDoorG1Bs
import Derived.WalkSpells
set_option linter.unusedVariables false
set_option linter.unusedSimpArgs false
namespace Go.Proofs.YtmajfklnagdlpaaGreatDoor
open Go.RowKit
theorem Tryz.infoInt :(Tryz.prog.info? 3).map (fun i=>(i.zero,i.size,i.bytes))=some (some (.int .i64 0),1,8):=by kernel_rfl
theorem Tryz.infoInts :(Tryz.prog.info? 80).map (fun i=>(i.zero,i.size,i.bytes))=some (some (.slice none 0 0),1,24):=by kernel_rfl
set_option maxRecDepth 100000 in
set_option maxHeartbeats 400000 in
theorem z9B (n:Nat) (w:World) (hn:n≤17592186044416):
    Calls Tryz.prog 163 #[.slice none 0 0,.int .i64 n] w (z9X 3 w []):=by
  by_cases h0:n=0
  · subst h0
    go_enter Tryz.func163,Tryz.ntmps163
    go_wp2_with fail
    go_ret
    exact ⟨_,rfl,Own.nil _ _ _ _,Ext.refl _⟩
  · have h1:0<n:=by omega
    obtain ⟨i,hi,hz,hsize,hby⟩:=info_parts Tryz.infoInt
    have hr:=Lib.run_append_nil_zeros (P:=Tryz.prog) w 80 3 80 3 i (.int .i64 0) .i64 .i64 Tryz.underlying80 Tryz.underlying3 hi hz n h1 (by omega) (by omega) (by rw[hby];omega)
    have HR:=Lib.hid hr;clear hr
    have Hge:=Lib.hid (grownCap_ge w n 0 3)
    have Hle:=Lib.hid (grownCap_le_maxLen w n 0 3 (by unfold maxLen;omega))
    have HS:=Lib.hid hsize;clear hi hz hsize hby
    go_enter Tryz.func163,Tryz.ntmps163
    go_wp2_with (at_builtin;refine Lib.wpList_append_run _ rfl _ _ _ _ rfl _ _ rfl rfl _ _ HR.out ?_)
    go_ret
    refine ⟨_,rfl,Own.of_row ⟨rfl,.inr ⟨w.heap.size,grownCap w n 0 3,_,rfl,Nat.le_refl _,heap_alloc_new w.drew _,Nat.zero_le _,Hle.out,?_,rfl⟩⟩,(Ext.refl w).drew.alloc _⟩
    have:=Hge.out
    simp[size_zeroCells];omega
set_option maxRecDepth 100000 in
set_option maxHeartbeats 800000 in
theorem z6E (ao:Option Addr) (n cap:Nat) (L:List (List Int)) (w:World) (hx:Grid w ao n cap L) (hsum:L.flatten.length≤17592186044416):
    Calls Tryz.prog 95 #[.slice ao n cap] w (z9X 3 w L.flatten):=by
  have Hx:=Lib.hid hx
  have b1:=hx.fits;have b2:=hx.bound
  clear hx
  go_enter Tryz.func95,Tryz.ntmps95
  go_wp2_with fail
  go_loopw [3,11] (fun s i w'=> ∃k:Nat,k≤n∧i= .int .i64 k∧s= .int .i64 (L.take k).flatten.length∧Ext w w') (fun _ i _=>n-(intOf i).toNat)
  case atStart=>exact ⟨0,Nat.zero_le _,rfl,rfl,Ext.refl _⟩
  case round=>
    obtain ⟨k,hk,rfl,rfl,hb⟩:=hrel
    have Hb:=Lib.hid hb;clear hb
    by_cases hlt:k<n
    · obtain ⟨b,off,ai,ni,ci,rfl,c1,r1⟩:=(Hx.out.ext Hb.out).at hlt
      have R1:=Lib.hid r1;clear r1
      have hkl:k<L.length:=by rw[Hx.out.len];exact hlt
      have hs:=q1z L k hkl
      have hle:=q1N L (k+1)
      have hlen:(L.take k).flatten.length+ni=(L.take (k+1)).flatten.length:=by rw[hs,List.length_append,R1.out.len]
      have HL:=Lib.hid hlen
      have g1:(L.take k).flatten.length+ni≤17592186044416:=by omega
      clear hs hle hlen
      generalize (L.take k).flatten.length=F at*
      go_wp2_with fail
      go_roundw
      case rel=>exact ⟨k+1,by omega,by go_num,by rw[←HL.out];go_num,Hb.out⟩
      case measure=>simp[intOf];omega
    · have hk2:L.take k=L:=List.take_of_length_le (by have:=Hx.out.len;omega)
      have HK:=Lib.hid hk2
      have hF:(L.take k).flatten.length=L.flatten.length:=by rw[hk2]
      rw[hF]
      clear hk2 hF
      generalize hF:L.flatten.length=F at*
      have HF:=Lib.hid hF;clear hF
      go_wp2_with (go_at_call 163;(with_reducible refine (z9B F _ (by omega)).mono ?_);rintro e w1 ⟨v1,rfl,hown,hb1⟩)
      have HB:=Lib.hid (Hb.out.trans hb1)
      have hown0:Own w1 w.heap.size 3 1 v1 0 []:=hown.base Hb.out.size
      have HO:=Lib.hid hown0
      clear hown hown0 hb1 Hb
      go_loopw [6,27] (fun v i w'=> ∃k:Nat,k≤n∧i= .int .i64 k∧Own w' w.heap.size 3 1 v (L.take k).flatten.length ((L.take k).flatten.map (Value.int .i64))∧Ext w w') (fun _ i _=>n-(intOf i).toNat)
      case atStart=>exact ⟨0,Nat.zero_le _,rfl,HO.out,HB.out⟩
      case round=>
        clear HO HB
        obtain ⟨k,hk,rfl,hown,hb⟩:=hrel
        have Hb:=Lib.hid hb;clear hb
        have Hown:=Lib.hid hown;clear hown
        by_cases hlt:k<n
        · obtain ⟨b,off,ai,ni,ci,rfl,c1,r1⟩:=(Hx.out.ext Hb.out).at hlt
          have R1:=Lib.hid r1;clear r1
          have hkl:k<L.length:=by rw[Hx.out.len];exact hlt
          have hs:=q1z L k hkl
          have hle:=q1N L (k+1)
          have hlen:(L.take k).flatten.length+ni=(L.take (k+1)).flatten.length:=by rw[hs,List.length_append,R1.out.len]
          have HS:=Lib.hid hs;clear hs
          have HL:=Lib.hid hlen;clear hlen
          have HFF:=HF.out
          have hle2:(L.take (k+1)).flatten.length≤F:=by omega
          clear HFF hle
          go_wp2_with (at_builtin;refine q0Q rfl _ _ 80 rfl w.heap.size 3 _ 1 8 Tryz.underlying80 Tryz.infoInt rfl (by decide) _ _ _ rfl Hown.out _ _ _ ((L.getD k []).map (Value.int .i64)) rfl (by rw[List.length_map,R1.out.len];omega) R1.out.nil R1.out.rd (ints_oneCell _ _) (by have:=HL.out;omega) (by have:=HL.out;omega) Hb.out.size ?_;intro v' w2 hown' hg _)
          have hb1:=q0u Hb.out Hown.out hg Hb.out.size
          have HB1:=Lib.hid hb1;clear hb1
          rw[←List.map_append,←HS.out,HL.out] at hown'
          have HO:=Lib.hid hown';clear hown' hg
          go_wp2_with fail
          go_roundw
          case rel=>exact ⟨k+1,by omega,by go_num,HO.out,HB1.out⟩
          case measure=>simp[intOf];omega
        · have hk2:L.take k=L:=List.take_of_length_le (by have:=Hx.out.len;omega)
          have HK:=Lib.hid hk2;clear hk2
          go_wp2_with fail
          go_ret
          exact ⟨_,rfl,by have:=Hown.out;rw[HK.out] at this;exact this,Hb.out⟩
theorem z4I (ao:Option Addr) (n cap:Nat) (L:List (List Int)) (w:World) (hx:Grid w ao n cap L) (hsum:L.flatten.length≤17592186044416):
    Calls Tryz.prog 28 #[.slice ao n cap] w (z9X 3 w L.flatten):=by
  have Hx:=Lib.hid hx
  clear hx
  go_enter Tryz.func28,Tryz.ntmps28
  go_wp2_with (go_at_call 95;(with_reducible refine (z6E _ _ _ L _ Hx.out hsum).mono ?_);rintro e w1 ⟨v1,rfl,hown,hb1⟩)
  go_ret
  exact ⟨_,rfl,by assumption,by assumption⟩
end Go.Proofs.YtmajfklnagdlpaaGreatDoor
namespace Go.Proofs.YtmajfklnagdlpaaGreatDoor
open Go.RowKit
theorem Rd.none {w:World} {cs:List Value} (h:Rd w none cs):cs=[]:=by
  cases cs with
  |nil=>rfl
  |cons y ys=>obtain ⟨b,off,e,_⟩:=h 0 y rfl;cases e
set_option maxRecDepth 100000 in
set_option maxHeartbeats 400000 in
theorem z7f (ao:Option Addr) (n cap:Nat) (xs:List Int) (w:World) (hx:Ints w ao n cap xs) (hs:n≤17592186044416):
    Calls Tryz.prog 141 #[.slice ao n cap] w (z9X 3 w xs):=by
  have Hx:=Lib.hid hx
  have b1:=hx.fits;have b2:=hx.bound
  have hl:=hx.len
  have hnil:=hx.nil
  have hq:=fun (w:World) (a:Option Addr) (n c n' c':Nat)=>Lib.run_eql_slice_nil (P:=Tryz.prog) w 80 3 a n c n' c' Tryz.underlying80
  cases ao with
  | none=>
    have h0:xs=[]:=by simpa using hx.rd.none
    have hc:=hnil rfl
    subst h0 hc
    obtain rfl:n=0:=by omega
    clear hx hl hnil
    go_enter Tryz.func141,Tryz.ntmps141
    go_wp2_with fail
    go_ret
    exact ⟨_,rfl,Own.nil _ _ _ _,Ext.refl _⟩
  | some a=>
    have HL:=Lib.hid hl
    clear hx hl hnil
    go_enter Tryz.func141,Tryz.ntmps141
    go_wp2_with (at_builtin;refine q0Q rfl _ _ 80 rfl w.heap.size 3 _ 1 8 Tryz.underlying80 Tryz.infoInt rfl (by decide) _ _ _ rfl (Own.lit w #[] 3 1 0 (Nat.le_refl _) rfl (by omega)) _ _ _ (xs.map (Value.int .i64)) rfl (by rw[List.length_map,HL.out];omega) (fun h=>by cases h) (Hx.out.rd.ext ((Ext.refl w).alloc _)) (ints_oneCell _ _) (by omega) (by omega) (by simp) ?_;intro v' w1 hown' hg _)
    have hb:=q0u ((Ext.refl w).alloc (.cells #[] 3)) (Own.lit w #[] 3 1 0 (Nat.le_refl _) rfl (by omega)) hg (by simp)
    have HB:=Lib.hid hb
    have HO:=Lib.hid hown'
    clear hb hown' hg
    go_wp2_with fail
    go_ret
    exact ⟨_,rfl,by have:=HO.out;rw[HL.out];simpa using this,HB.out⟩
set_option maxRecDepth 100000 in
set_option maxHeartbeats 1600000 in
theorem z6n (ao:Option Addr) (n cap:Nat) (w:World) (h:n≤cap) (_hb:cap≤9223372036854775807):
    Calls Tryz.prog 190 #[.slice ao n cap] w fun e w'=>e= .returned (.slice ao n n)∧w=w':=by
  go_enter Tryz.func190,Tryz.ntmps190
  go_wp2_with fail
  go_ret
  exact ⟨rfl,rfl⟩
set_option maxRecDepth 100000 in
set_option maxHeartbeats 1600000 in
theorem z7T (ao:Option Addr) (n cap:Nat) (L:List (List Int)) (w:World) (hx:Grid w ao n cap L) (hs: ∀i,(L.getD i []).length≤17592186044416) (hn:n≤1000000000):
    Calls Tryz.prog 137 #[.slice ao n cap] w (z9w 80 3 w (q0N L)):=by
  have Hx:=Lib.hid hx
  have b1:=hx.fits;have b2:=hx.bound
  clear hx
  go_enter Tryz.func137,Tryz.ntmps137
  go_wp2_with fail
  go_loopw [3,8] (fun v i w'=> ∃k:Nat,k≤n∧i= .int .i64 k∧(∃vs,OGr w' w.heap.size 80 3 v vs (L.take k))∧Ext w w') (fun _ i _=>n-(intOf i).toNat)
  case atStart=>exact ⟨0,Nat.zero_le _,rfl,⟨[],OGr.nil _ _ _ _⟩,Ext.refl _⟩
  case round =>
    obtain ⟨k,hk,rfl,⟨vs,hown⟩,hb⟩:=hrel
    have Hb:=Lib.hid hb;clear hb
    have Hown:=Lib.hid hown;clear hown
    by_cases hlt:k<n
    · obtain ⟨b,off,ai,ni,ci,rfl,c1,r1⟩:=(Hx.out.ext Hb.out).at hlt
      have hkl:k<L.length:=by rw[Hx.out.len];exact hlt
      have hni:ni≤17592186044416:=by have:=r1.len;have:=hs k;omega
      have htk:=q0J L [] k hkl
      generalize L.getD k []=R at*
      have R1:=Lib.hid r1;clear r1
      have HTK:=Lib.hid htk;clear htk
      go_wp2_with fail
      refine (z7f _ _ _ R _ R1.out hni).mono ?_
      rintro e w1 ⟨vi,rfl,hvi,hb1⟩
      obtain ⟨ai',ci',rfl⟩:=hvi.slice
      have HV:=Lib.hid hvi
      have HB1:=Lib.hid hb1
      have hsz:=hb1.size
      have hsz0:=Hb.out.size
      clear hvi hb1
      have hlk:(L.take k).length=k:=by simp;omega
      have HLK:=Lib.hid hlk;clear hlk
      have hout:OGr (w1.alloc (.cells #[.slice ai' R.length ci'] 80)) w.heap.size 80 3 u3 vs (L.take k):=(Hown.out.ext HB1.out).ext ((Ext.refl _).alloc _)
      have HOut:=Lib.hid hout;clear hout
      go_wp2_with (at_builtin;refine q0Q rfl _ _ 43 rfl w.heap.size 80 _ 1 24 Tryz.underlying43 Tryz.infoInts rfl (by decide) _ _ _ rfl HOut.out.own _ _ _ [.slice ai' R.length ci'] rfl rfl (fun h=>by cases h) (Rd.lit _ _ _) (by intro u hu;rw[List.mem_singleton.1 hu];rfl) (by rw[HLK.out];omega) (by rw[HLK.out];omega) (by simp;omega) ?_;intro v' w2 hown' hg _)
      have hb2:=q0u (Hb.out.trans (HB1.out.alloc _)) HOut.out.own hg (by simp;omega)
      have HB2:=Lib.hid hb2;clear hb2
      have hgr:=HOut.out.push (by decide) (HV.out.ext ((Ext.refl _).alloc _)) hsz0 Hown.out.lt hown' hg
      rw[←HTK.out] at hgr
      have HGR:=Lib.hid hgr;clear hgr hown' hg
      go_wp2_with fail
      go_roundw
      case rel=>exact ⟨k+1,by omega,by go_num,⟨_,HGR.out⟩,HB2.out⟩
      case measure=>simp[intOf];omega
    · have hkn :k=n:=by omega
      have hL:L.take k=L.take n:=by rw[hkn]
      rw[hL] at Hown
      clear hL hkn
      have hll:=Hx.out.len
      have h1:=Hown.out
      obtain ⟨ao1,cap1,rfl,_⟩:=h1.grid
      have hnn:(L.take n).length=n:=by simp;omega
      rw[hnn] at h1
      rw[hnn]
      have HLL:=Lib.hid hll;clear hll
      have H1:=Lib.hid h1;clear h1 hnn Hown
      go_wp2_with fail
      go_loopw [3] (fun v w'=> ∃m:Nat,m≤n∧(∃ao c vs,v= .slice ao m c∧OGr w' w.heap.size 80 3 v vs (L.take m))∧q0h L m=q0h L n∧Ext w w') (fun v _=>z9Y v)
      case atStart=>exact ⟨n,Nat.le_refl _,⟨_,_,_,rfl,H1.out⟩,rfl,Hb.out⟩
      case round=>
        clear Hb H1 hlt hk
        obtain ⟨m,hm,⟨ao2,c2,vs2,rfl,hown⟩,htn,hb⟩:=hrel
        have HTN:=Lib.hid htn;clear htn
        have Hb:=Lib.hid hb;clear hb
        have Hown:=Lib.hid hown;clear hown
        have hmm:(L.take m).length=m:=by have:=HLL.out;simp;omega
        have fin: ∀w',Ext w w'→OGr w' w.heap.size 80 3 (.slice ao2 m c2) vs2 (L.take m)→q0h L m=m→z9w 80 3 w (q0N L) (.returned (.slice ao2 m m)) w':=by
          intro w' he hg ht
          have hT:q0N L=(L.take m).take m:=by
            rw[q0N,HLL.out,←HTN.out,ht,List.take_take,Nat.min_self]
          refine ⟨_,vs2.take m,rfl,?_,he⟩
          rw[hT]
          obtain ⟨_,_,e,hgr⟩:=hg.grid
          rw[hmm] at e
          cases e
          exact hg.cut hmm (Nat.le_refl _) (Nat.le_refl _) (by have:=hgr.fits;omega)
        have FIN:=Lib.hid fin;clear fin
        have hgr:=Hown.out.grid
        obtain ⟨_,_,e,hgr⟩:=hgr
        rw[hmm] at e hgr
        cases e
        have HGR:=Lib.hid hgr
        have f1:=hgr.fits;have f2:=hgr.bound
        clear hgr
        have HMM:=Lib.hid hmm;clear hmm
        cases m with
        | zero=>
          go_wp2_with (go_at_call 190;(with_reducible refine (z6n _ _ _ _ (by omega) (by omega)).mono ?_);rintro e w1 ⟨rfl,rfl⟩)
          go_ret
          exact FIN.out _ Hb.out Hown.out rfl
        | succ m=>
          obtain ⟨b,off,ai,ni,ci,rfl,c1,r1⟩:=HGR.out.at (Nat.lt_succ_self m)
          have hrow:(L.take (m+1)).getD m []=L.getD m []:=q2u _ _ _ _ (by omega)
          rw[hrow] at r1
          have hR:=r1.len
          have g1:=r1.fits;have g2:=r1.bound
          have HR:=Lib.hid hR
          clear r1 hrow hR
          by_cases h0:ni=0
          · have he:L.getD m []=[]:=List.eq_nil_of_length_eq_zero (by have:=HR.out;omega)
            have HE:=Lib.hid he;clear he
            subst h0
            go_wp2_with fail
            go_roundw
            case rel=>
              refine ⟨m,by omega,⟨_,_,vs2.take m,rfl,?_⟩,by rw[←q3U L m HE.out];exact HTN.out,Hb.out⟩
              have hc:=Hown.out.cut HMM.out (m:=m) (c:=c2) (by omega) (by omega) (Nat.le_refl _)
              rw[List.take_take,Nat.min_eq_left (by omega)] at hc
              exact hc
            case measure=>simp[z9Y]
          · have hne:L.getD m []≠[]:=by intro h;have:=HR.out;rw[h] at this;simp at this;omega
            have hz:((ni:Int)==0)=false:=by simpa using h0
            have HNE:=Lib.hid hne;clear hne h0
            go_wp2_with (go_at_call 190;(with_reducible refine (z6n _ _ _ _ (by omega) (by omega)).mono ?_);rintro e w1 ⟨rfl,rfl⟩)
            go_ret
            exact FIN.out _ Hb.out Hown.out (q2c L m HNE.out)
end Go.Proofs.YtmajfklnagdlpaaGreatDoor
namespace Go.Proofs.YtmajfklnagdlpaaGreatDoor
open Go.RowKit
theorem q8j {α:Type} (p:α→Bool) (d:α) (L:List α) (k:Nat) (h:k<L.length) (h0:(L.take k).any p=false) (h1:p (L.getD k d)=false):(L.take (k+1)).any p=false:=by
  rw[q0J L d k h,List.any_append,h0];simp only[List.any_cons,List.any_nil,h1,Bool.or_self]
theorem q9x {α:Type} (p:α→Bool) (d:α) (L:List α) (k:Nat) (h:k<L.length) (h1:p (L.getD k d)=true):L.any p=true:=by
  rw[List.any_eq_true]
  refine ⟨L[k],List.getElem_mem h,?_⟩
  rw[List.getD_eq_getElem?_getD,List.getElem?_eq_getElem h] at h1
  exact h1
theorem z0b {α:Type} (p:α→Bool) (L:List α) (n k:Nat) (hn:L.length=n) (hk:n≤k) (h0:(L.take k).any p=false):L.any p=false:=by
  rwa [List.take_of_length_le (by omega)] at h0
theorem q5D (xs:List Int) (x:Int) (k:Nat) (h:k<xs.length) (h0:x∉xs.take k) (h1:xs.getD k 0≠x):x∉xs.take (k+1):=by
  rw[q0J xs 0 k h,List.mem_append]
  rintro (h2|h2)
  · exact h0 h2
  · exact h1 (List.mem_singleton.1 h2).symm
theorem z0X (xs:List Int) (x:Int) (k:Nat) (h:k<xs.length) (h1:xs.getD k 0=x):x∈xs:=by
  rw[←h1,List.getD_eq_getElem?_getD,List.getElem?_eq_getElem h];exact List.getElem_mem h
theorem q6x (xs:List Int) (x:Int) (n k:Nat) (hn:xs.length=n) (hk:n≤k) (h0:x∉xs.take k):x∉xs:=by
  rwa [List.take_of_length_le (by omega)] at h0
def z7Q (xs:List Int) (x:Int):Int:=if x∈xs then (xs.idxOf x:Int) else-1
theorem z5M (xs:List Int) (x:Int) (k:Nat) (h:k<xs.length) (h0:x∉xs.take k) (h1:xs.getD k 0=x):z7Q xs x=k:=by
  have hm:=z0X xs x k h h1
  rw[z7Q,if_pos hm]
  have e:xs=xs.take k++xs.drop k:=(List.take_append_drop k xs).symm
  have e2:xs.drop k=x::xs.drop (k+1):=by
    rw[List.drop_eq_getElem_cons h]
    rw[List.getD_eq_getElem?_getD,List.getElem?_eq_getElem h] at h1
    simp at h1
    rw[h1]
  have:xs.idxOf x=k:=by
    rw[e,e2,List.idxOf_append,if_neg h0,List.idxOf_cons_self]
    simp;omega
  omega
theorem z4k (xs:List Int) (x:Int) (h:x∉xs):z7Q xs x= -1:=by rw[z7Q,if_neg h]
theorem z5a (xs:List Int) (x:Int):decide (0≤z7Q xs x)=decide (x∈xs):=by
  unfold z7Q
  by_cases h:x∈xs
  · simp[h]
  · simp[h]
set_option maxHeartbeats 400000 in
theorem z7v (ao:Option Addr) (n cap:Nat) (xs:List Int) (x:Int) (w:World) (hx:Ints w ao n cap xs):
    Calls Tryz.prog 189 #[.slice ao n cap,.int .i64 x] w fun e w'=>e= .returned (.int .i64 (z7Q xs x))∧Ext w w':=by
  have Hx:=Lib.hid hx
  have b1:=hx.fits;have b2:=hx.bound
  clear hx
  go_enter Tryz.func189,Tryz.ntmps189
  go_wp2_with fail
  go_loopw [8] (fun i w'=> ∃k:Nat,k≤n∧i= .int .i64 k∧x∉xs.take k∧Ext w w') (fun i _=>n-(intOf i).toNat)
  case atStart=>exact ⟨0,Nat.zero_le _,rfl,by simp,Ext.refl _⟩
  case round=>
    obtain ⟨k,hk,rfl,heq,hb⟩:=hrel
    have Heq:=Lib.hid heq;clear heq
    have Hb:=Lib.hid hb;clear hb
    by_cases hlt:k<n
    · obtain ⟨b,off,rfl,c1⟩:=(Hx.out.ext Hb.out).at hlt
      generalize hX:xs.getD k 0=X at*
      have HX:=Lib.hid hX;clear hX
      by_cases hg:X=x
      · have hg':(x==X)=true:=by simpa using hg.symm
        have Hg:=Lib.hid hg;clear hg
        go_wp2_with fail
        go_ret
        exact ⟨rn (z5M xs x k (by rw[Hx.out.len];exact hlt) Heq.out (HX.out.trans Hg.out)),Hb.out⟩
      · have hg':(x==X)=false:=by simpa using (Ne.symm hg)
        have Hg:=Lib.hid hg;clear hg
        go_wp2_with fail
        go_roundw
        case rel=>exact ⟨k+1,by omega,by go_num,q5D xs x k (by rw[Hx.out.len];exact hlt) Heq.out (by rw[HX.out];exact Hg.out),Hb.out⟩
        case measure=>simp[intOf];omega
    · go_wp2_with fail
      go_ret
      exact ⟨rn (z4k xs x (q6x xs x n k Hx.out.len (by omega) Heq.out)),Hb.out⟩
theorem q7e (ao:Option Addr) (n cap:Nat) (xs:List Int) (x:Int) (w:World) (hx:Ints w ao n cap xs):
    Calls Tryz.prog 136 #[.slice ao n cap,.int .i64 x] w fun e w'=>e= .returned (.bool (decide (x∈xs)))∧Ext w w':=by
  have Hx:=Lib.hid hx
  clear hx
  go_enter Tryz.func136,Tryz.ntmps136
  go_wp2_with (go_at_call 189;(with_reducible refine (z7v _ _ _ xs x _ Hx.out).mono ?_);rintro e w' ⟨rfl,hb⟩)
  go_ret
  exact ⟨rb (by rw[←z5a]),by assumption⟩
end Go.Proofs.YtmajfklnagdlpaaGreatDoor
namespace Go.Proofs.YtmajfklnagdlpaaGreatDoor
open Go.RowKit
end Go.Proofs.YtmajfklnagdlpaaGreatDoor
namespace Go.Proofs.YtmajfklnagdlpaaGreatDoor
open Go.RowKit
set_option maxRecDepth 100000 in
set_option maxHeartbeats 800000 in
theorem q9A (ao:Option Addr) (n cap:Nat) (L:List (List Int)) (w:World) (hx:Grid w ao n cap L):
    Calls Tryz.prog 108 #[.slice ao n cap] w fun e w'=>e= .returned (.slice ao (q0h L n) cap)∧Ext w w':=by
  have Hx:=Lib.hid hx
  have b1:=hx.fits;have b2:=hx.bound
  clear hx
  go_enter Tryz.func108,Tryz.ntmps108
  go_wp2_with fail
  go_loopw [3] (fun i w'=> ∃m:Nat,m≤n∧i= .int .i64 m∧q0h L m=q0h L n∧Ext w w') (fun i _=>(intOf i).toNat)
  case atStart=>exact ⟨n,Nat.le_refl _,rfl,rfl,Ext.refl _⟩
  case round=>
    obtain ⟨m,hm,rfl,htn,hb⟩:=hrel
    have HTN:=Lib.hid htn;clear htn
    have Hb:=Lib.hid hb;clear hb
    cases m with
    | zero=>
      have ht:q0h L n=0:=HTN.out.symm
      have HT:=Lib.hid ht;clear ht
      go_wp2_with fail
      go_ret
      exact ⟨by rw[HT.out];rfl,Hb.out⟩
    | succ m=>
      obtain ⟨b,off,ai,ni,ci,rfl,c1,r1⟩:=(Hx.out.ext Hb.out).at (show m<n by omega)
      have hR:=r1.len
      have g1:=r1.fits;have g2:=r1.bound
      have HR:=Lib.hid hR
      clear r1 hR
      by_cases h0:ni=0
      · have he:L.getD m []=[]:=List.eq_nil_of_length_eq_zero (by have:=HR.out;omega)
        have HE:=Lib.hid he;clear he
        subst h0
        go_wp2_with fail
        go_roundw
        case rel=>exact ⟨m,by omega,by go_num,by rw[←q3U L m HE.out];exact HTN.out,Hb.out⟩
        case measure=>simp[intOf]
      · have hne:L.getD m []≠[]:=by intro h;have:=HR.out;rw[h] at this;simp at this;omega
        have hz:((ni:Int)==0)=false:=by simpa using h0
        have hT:q0h L n=m+1:=by rw[←HTN.out];exact q2c L m hne
        have HNE:=Lib.hid hne;clear hne h0
        have HT:=Lib.hid hT;clear hT
        go_wp2_with fail
        go_ret
        exact ⟨by rw[HT.out];rfl,Hb.out⟩
end Go.Proofs.YtmajfklnagdlpaaGreatDoor
namespace Go.Proofs.YtmajfklnagdlpaaGreatDoor
open Go.RowKit
theorem q9f (xs ys:List Int) (k:Nat) (h1:k<xs.length) (h2:k<ys.length) (h:xs.take k=ys.take k) (he:xs.getD k 0=ys.getD k 0):xs.take (k+1)=ys.take (k+1):=by
  rw[q0J xs 0 k h1,q0J ys 0 k h2,h,he]
theorem q5Q (xs ys:List Int) (k:Nat) (he:xs.getD k 0≠ys.getD k 0):decide (xs=ys)=false:=by
  rw[decide_eq_false_iff_not];intro h;exact he (by rw[h])
theorem q5o (xs ys:List Int) (he:xs.length≠ys.length):decide (xs=ys)=false:=by
  rw[decide_eq_false_iff_not];intro h;exact he (by rw[h])
theorem q5J (xs ys:List Int) (n k:Nat) (h1:xs.length=n) (h2:ys.length=n) (hk:n≤k) (he:xs.take k=ys.take k):decide (xs=ys)=true:=by
  rw[decide_eq_true_iff]
  rwa [List.take_of_length_le (by omega),List.take_of_length_le (by omega)] at he
set_option maxHeartbeats 400000 in
theorem z6t (ao bo:Option Addr) (n m cap cap2:Nat) (xs ys:List Int) (w:World) (hx:Ints w ao n cap xs) (hy:Ints w bo m cap2 ys):
    Calls Tryz.prog 173 #[.slice ao n cap,.slice bo m cap2] w fun e w'=>e= .returned (.bool (decide (xs=ys)))∧Ext w w':=by
  have Hx:=Lib.hid hx;have Hy:=Lib.hid hy
  have b1:=hx.fits;have b2:=hx.bound;have b3:=hy.fits;have b4:=hy.bound
  clear hx hy
  by_cases hlen:(n:Int)=m
  · have hlen1:((n:Int) !=m)=false:=by simp[hlen]
    have Hl:=Lib.hid hlen;clear hlen
    go_enter Tryz.func173,Tryz.ntmps173
    go_wp2_with fail
    go_loopw [5] (fun i w'=> ∃k:Nat,k≤n∧i= .int .i64 k∧xs.take k=ys.take k∧Ext w w') (fun i _=>n-(intOf i).toNat)
    case atStart=>exact ⟨0,Nat.zero_le _,rfl,rfl,Ext.refl _⟩
    case round=>
      obtain ⟨k,hk,rfl,heq,hb⟩:=hrel
      have Heq:=Lib.hid heq;clear heq
      have Hb:=Lib.hid hb;clear hb
      by_cases hlt:k<n
      · have hk2:k<m:=by have:=Hl.out;omega
        obtain ⟨b,off,rfl,c1⟩:=(Hx.out.ext Hb.out).at hlt
        obtain ⟨b',off',rfl,c2⟩:=(Hy.out.ext Hb.out).at hk2
        generalize hX:xs.getD k 0=X at*
        generalize hY:ys.getD k 0=Y at*
        have HX:=Lib.hid hX;clear hX
        have HY:=Lib.hid hY;clear hY
        go_wp2_with fail
        go_quiet (fail)
        go_wp2_with fail
        · have hne:(X !=Y)=true:=by assumption
          go_ret
          exact ⟨rb (q5Q xs ys k (by rw[HX.out,HY.out];simpa using hne)),Hb.out.drewN _⟩
        · have hne:(X !=Y)=false:=by assumption
          go_roundw
          case rel=>exact ⟨k+1,by omega,by go_num,q9f xs ys k (by have:=Hx.out.len;omega) (by have:=Hy.out.len;omega) Heq.out (by rw[HX.out,HY.out];simpa using hne),Hb.out.drewN _⟩
          case measure=>simp[intOf];omega
      · go_wp2_with fail
        go_ret
        exact ⟨rb (q5J xs ys n k Hx.out.len (by have:=Hy.out.len;have:=Hl.out;omega) (by omega) Heq.out),Hb.out⟩
  · have hlen1:((n:Int) !=m)=true:=by simpa using hlen
    have Hl:=Lib.hid hlen;clear hlen
    go_enter Tryz.func173,Tryz.ntmps173
    go_wp2_with fail
    go_ret
    exact ⟨rb (q5o xs ys (by have:=Hx.out.len;have:=Hy.out.len;have:=Hl.out;omega)),Ext.refl _⟩
theorem q8e (xs ys:List (List Int)) (k:Nat) (h1:k<xs.length) (h2:k<ys.length) (h:xs.take k=ys.take k) (he:xs.getD k []=ys.getD k []):xs.take (k+1)=ys.take (k+1):=by
  rw[q0J xs [] k h1,q0J ys [] k h2,h,he]
theorem q4a (xs ys:List (List Int)) (k:Nat) (he:xs.getD k []≠ys.getD k []):decide (xs=ys)=false:=by
  rw[decide_eq_false_iff_not];intro h;exact he (by rw[h])
theorem q5R (xs ys:List (List Int)) (he:xs.length≠ys.length):decide (xs=ys)=false:=by
  rw[decide_eq_false_iff_not];intro h;exact he (by rw[h])
theorem q4Y (xs ys:List (List Int)) (n k:Nat) (h1:xs.length=n) (h2:ys.length=n) (hk:n≤k) (he:xs.take k=ys.take k):decide (xs=ys)=true:=by
  rw[decide_eq_true_iff]
  rwa [List.take_of_length_le (by omega),List.take_of_length_le (by omega)] at he
set_option maxHeartbeats 400000 in
theorem z8F (ao bo:Option Addr) (n m cap cap2:Nat) (xs ys:List (List Int)) (w:World) (hx:Grid w ao n cap xs) (hy:Grid w bo m cap2 ys):
    Calls Tryz.prog 107 #[.slice ao n cap,.slice bo m cap2] w fun e w'=>e= .returned (.bool (decide (xs=ys)))∧Ext w w':=by
  have Hx:=Lib.hid hx;have Hy:=Lib.hid hy
  have b1:=hx.fits;have b2:=hx.bound;have b3:=hy.fits;have b4:=hy.bound
  clear hx hy
  by_cases hlen:(n:Int)=m
  · have hlen1:((n:Int) !=m)=false:=by simp[hlen]
    have Hl:=Lib.hid hlen;clear hlen
    go_enter Tryz.func107,Tryz.ntmps107
    go_wp2_with fail
    go_loopw [5] (fun i w'=> ∃k:Nat,k≤n∧i= .int .i64 k∧xs.take k=ys.take k∧Ext w w') (fun i _=>n-(intOf i).toNat)
    case atStart=>exact ⟨0,Nat.zero_le _,rfl,rfl,Ext.refl _⟩
    case round=>
      obtain ⟨k,hk,rfl,heq,hb⟩:=hrel
      have Heq:=Lib.hid heq;clear heq
      have Hb:=Lib.hid hb;clear hb
      by_cases hlt:k<n
      · have hk2:k<m:=by have:=Hl.out;omega
        obtain ⟨b,off,ai,ni,ci,rfl,c1,r1⟩:=(Hx.out.ext Hb.out).at hlt
        obtain ⟨b',off',ai',ni',ci',rfl,c2,r2⟩:=(Hy.out.ext Hb.out).at hk2
        have d1:=q0F c1;have d2:=q0F c2
        have R1:=Lib.hid r1;have R2:=Lib.hid r2;clear r1 r2
        go_wp2_with fail
        by_cases hne:xs.getD k []=ys.getD k []
        · have hd:decide (xs.getD k []=ys.getD k [])=true:=decide_eq_true hne
          have Hd:=Lib.hid hd;have Hne:=Lib.hid hne;clear hd hne
          refine q0D (by kernel_rfl) (by kernel_rfl) ?_
          repeat (go_big_quiet_step (exact Calls.quiet_ext (Calls.to (congrArg Value.bool Hd.out) (z6t _ _ _ _ _ _ _ _ _ (R1.out.ext (ExtOf.h _)) (R2.out.ext (ExtOf.h _))))))
          refine wpQuiet_nil ?_
          intro w2 hw2
          have HW:=Lib.hid hw2;clear hw2
          go_wp2_with fail
          go_roundw
          case rel=>exact ⟨k+1,by omega,by go_num,q8e xs ys k (by have:=Hx.out.len;omega) (by have:=Hy.out.len;omega) Heq.out Hne.out,Hb.out.trans HW.out⟩
          case measure=>simp[intOf];omega
        · have hd:decide (xs.getD k []=ys.getD k [])=false:=decide_eq_false hne
          have Hd:=Lib.hid hd;have Hne:=Lib.hid hne;clear hd hne
          refine q0D (by kernel_rfl) (by kernel_rfl) ?_
          repeat (go_big_quiet_step (exact Calls.quiet_ext (Calls.to (congrArg Value.bool Hd.out) (z6t _ _ _ _ _ _ _ _ _ (R1.out.ext (ExtOf.h _)) (R2.out.ext (ExtOf.h _))))))
          refine wpQuiet_nil ?_
          intro w2 hw2
          have HW:=Lib.hid hw2;clear hw2
          go_wp2_with fail
          go_ret
          exact ⟨rb (q4a xs ys k Hne.out),Hb.out.trans HW.out⟩
      · go_wp2_with fail
        go_ret
        exact ⟨rb (q4Y xs ys n k Hx.out.len (by have:=Hy.out.len;have:=Hl.out;omega) (by omega) Heq.out),Hb.out⟩
  · have hlen1:((n:Int) !=m)=true:=by simpa using hlen
    have Hl:=Lib.hid hlen;clear hlen
    go_enter Tryz.func107,Tryz.ntmps107
    go_wp2_with fail
    go_ret
    exact ⟨rb (q5R xs ys (by have:=Hx.out.len;have:=Hy.out.len;have:=Hl.out;omega)),Ext.refl _⟩
end Go.Proofs.YtmajfklnagdlpaaGreatDoor
