/- Walks: whether levels may be. Walks: a table is put behind those of the level 0. Walks: the document's way to add; what is picked. Walks: one table in the place of a level's. Walks: the document's way to put one table in the place of a level's. -/
import Derived.Test.YtmajfklnagdlpaaGreatDoorChecked
import Derived.Test.YtmajfklnagdlpaaGreatDoorG32Bs
import Derived.Test.YtmajfklnagdlpaaGreatDoorG1Bs
import Derived.Maps.OwnOps
import Derived.Maps.OwnSet
import Derived.Maps.Views
set_option linter.unusedVariables false
set_option linter.unusedSimpArgs false
namespace Go.Proofs.YtmajfklnagdlpaaGreatDoor
open Go.RowKit Go.Maps
theorem Tryz.keyInt :Keyed Tryz.prog 3:=int_keyed Tryz.underlying3
theorem Tryz.zeroInt (w:World):(zeroValue 3).run Tryz.prog w= .ok (.int .i64 0) w:=by kernel_rfl
def Seen (w:World) (b n:Nat) (xs:List Int):Prop:=
  ∃D:DataW Unit,w.ownsMap Tryz.prog 3 (plainElem Tryz.prog 3) b n D∧ ∀x,D.atKey (.int .i64 x) (.lit (.int .i64 0))= .lit (.int .i64 (if x∈xs then 1 else 0))
theorem Seen.made (w:World):Seen (w.alloc (.map #[] 0)) w.heap.size 0 []:=⟨_,World.ownsMap_made _ _ _ _,fun x=>by simp[DataW.atKey]⟩
set_option maxRecDepth 100000 in
theorem Seen.look {w:World} {b n:Nat} {xs:List Int} (h:Seen w b n xs) (x:Int) (hw:(Lit.int .i64 x).wf=true):
    (Instr.lookup 250 (.map (some b)) (.int .i64 x) false).run Tryz.prog w= .ok (.int .i64 (if x∈xs then 1 else 0)) w:=by
  obtain ⟨D,h1,h2⟩:=h
  obtain ⟨c,hrun,hat,_⟩:=h1.lookup_int Tryz.keyInt Tryz.underlying250 Tryz.underlying3 (Tryz.zeroInt _) (keyOf_int_mk Tryz.underlying3 hw)
  rw[h2 x] at hat
  injection hat with hat
  injection hat with _ hat
  rw[hat];exact hrun
theorem Seen.put {w':World} {b n:Nat} {xs:List Int} {D:DataW Unit} (hD: ∀x,D.atKey (.int .i64 x) (.lit (.int .i64 0))= .lit (.int .i64 (if x∈xs then 1 else 0))) (hm:IsMap D) (x:Int)
    (h:w'.ownsMap Tryz.prog 3 (plainElem Tryz.prog 3) b n (D.put (.int .i64 x) (.lit (.int .i64 1)))) (ys:List Int) (hy: ∀z,z∈ys↔(z∈xs∨z=x)):Seen w' b n ys:=by
  refine ⟨_,h,fun z=>?_⟩
  by_cases hz:z=x
  · subst hz
    rw[atKey_put_same hm (k:= .int .i64 z) (show WideAt.IsKeyLit (.int .i64 z) from trivial),if_pos ((hy z).2 (.inr rfl))]
  · rw[atKey_put_other (by intro h;injection h with _ h;exact hz h),hD z]
    have:(z∈ys)↔(z∈xs):=by rw[hy];exact ⟨fun h=>h.elim id fun h=>(hz h).elim,.inl⟩
    simp only[this]
set_option maxRecDepth 100000 in
set_option maxHeartbeats 1600000 in
theorem z4Z (ao:Option Addr) (n cap:Nat) (L:List (List Int)) (w:World) (hx:Grid w ao n cap L) (hsum:L.flatten.length≤17592186044416) (hwf: ∀x∈L.flatten,(Lit.int .i64 x).wf=true):
    Calls Tryz.prog 135 #[.slice ao n cap] w fun e w'=>e= .returned (.bool (q0i L))∧Ext w w':=by
  have Hx:=Lib.hid hx
  have b1:=hx.fits;have b2:=hx.bound;have hl:=hx.len
  have HL:=Lib.hid hl
  have HWF:=Lib.hid hwf
  clear hx hl hwf
  have hmm:=@run_makeMap Tryz.prog
  go_enter Tryz.func135,Tryz.ntmps135
  go_wp2_with fail
  refine (z4I _ _ _ L _ Hx.out hsum).mono ?_
  rintro e w1 ⟨v1,rfl,hown,hb1⟩
  obtain ⟨a1,c1,rfl,hi⟩:=q3P hown
  have HB1:=Lib.hid hb1
  have HI:=Lib.hid hi
  have f1:=hi.fits;have f2:=hi.bound
  clear hown hb1 hi
  have V1:=Lib.hid (z0f L);have V2:=Lib.hid (q9F L);have V3:=Lib.hid (z2M L);have V4:=Lib.hid (z2K L);have V5:=Lib.hid (q6j L)
  generalize L.flatten=xs at*
  by_cases h5:5<n
  · go_wp2_with fail
    go_ret
    exact ⟨rb (V1.out (by rw[HL.out];exact h5)),HB1.out⟩
  by_cases h40:40<xs.length
  · go_wp2_with fail
    go_ret
    exact ⟨rb (V2.out h40),HB1.out⟩
  go_wp2_with fail
  go_loopw [20] (fun i w'=> ∃k:Nat,k≤xs.length∧i= .int .i64 k∧Seen w' w1.heap.size k (xs.take k)∧(∀x∈xs.take k,0≤x)∧(xs.take k).Nodup∧Ext w1 w') (fun i _=>xs.length-(intOf i).toNat)
  case atStart=>exact ⟨0,Nat.zero_le _,rfl,Seen.made _,by simp,by simp,(Ext.refl _).alloc _⟩
  case round=>
    obtain ⟨k,hk,rfl,hseen,hpos,hnd,hb⟩:=hrel
    have HS:=Lib.hid hseen;have HP:=Lib.hid hpos;have HN:=Lib.hid hnd;have Hb:=Lib.hid hb
    clear hseen hpos hnd hb
    by_cases hlt:k<xs.length
    · obtain ⟨b,off,rfl,d1⟩:=(HI.out.ext Hb.out).at hlt
      have v3:=V3.out k hlt
      have v4:=V4.out k hlt
      have n1:=q5k xs k hlt HP.out
      have n2:=q6p xs k hlt HN.out
      have n3:=q8Q xs k hlt
      have hwx:=HWF.out _ (q5u xs k hlt)
      generalize xs.getD k 0=X at*
      have V3':=Lib.hid v3;have V4':=Lib.hid v4;have N1:=Lib.hid n1;have N2:=Lib.hid n2;have N3:=Lib.hid n3;have HWX:=Lib.hid hwx
      clear v3 v4 n1 n2 n3 hwx
      by_cases hneg:X<0
      · go_wp2_with fail
        go_ret
        exact ⟨rb (V3'.out hneg),HB1.out.trans Hb.out⟩
      · have hlook:=HS.out.look X HWX.out
        by_cases hin:X∈xs.take k
        · rw[if_pos hin] at hlook
          have HIN:=Lib.hid hin;clear hin
          go_wp2_with fail
          go_ret
          exact ⟨rb (V4'.out HIN.out),HB1.out.trans Hb.out⟩
        · rw[if_neg hin] at hlook
          have HIN:=Lib.hid hin;clear hin
          obtain ⟨D,o1,o2⟩:=HS.out
          have O1:=Lib.hid o1;have O2:=Lib.hid o2;clear o1 o2
          go_wp2_with (at_mapUpdate;refine wpList_mapUpdate_own _ rfl _ _ _ 250 rfl 3 3 Tryz.keyInt Tryz.underlying250 _ w1.heap.size k _ rfl O1.out (by unfold maxLen;omega) _ _ _ rfl rfl (keyOf_int_mk Tryz.underlying3 HWX.out) _ [] (plainElem_int Tryz.underlying3 (by decide)) ?_;intro w2 hown2 hgrow2)
          have hs2:=Seen.put O2.out (World.ownsMap.isMap O1.out) X hown2 (xs.take (k+1)) N3.out
          have hb2:Ext w1 w2:=Hb.out.grown hgrow2 Hb.out.size (fun j hj=>by cases hj;exact Nat.le_refl _)
          have HS2:=Lib.hid hs2;have HB2:=Lib.hid hb2
          clear hs2 hb2 hown2 hgrow2
          go_wp2_with fail
          go_roundw
          case rel=>exact ⟨k+1,by omega,by go_num,HS2.out,N1.out hneg,N2.out HIN.out,HB2.out⟩
          case measure=>simp[intOf];omega
    · have hk2:xs.take k=xs:=List.take_of_length_le (by omega)
      have HK:=Lib.hid hk2;clear hk2
      go_wp2_with fail
      go_ret
      exact ⟨rb (V5.out (by rw[HL.out];omega) (by omega) (by have:=HP.out;rwa [HK.out] at this) (by have:=HN.out;rwa [HK.out] at this)),HB1.out.trans Hb.out⟩
end Go.Proofs.YtmajfklnagdlpaaGreatDoor
namespace Go.Proofs.YtmajfklnagdlpaaGreatDoor
open Go.RowKit
set_option maxRecDepth 100000 in
set_option maxHeartbeats 1600000 in
theorem z9m (ao:Option Addr) (n cap:Nat) (L:List (List Int)) (x:Int) (w:World) (hx:Grid w ao n cap L) (hsum:L.flatten.length≤1000000000) (hn:n≤1000000000) (hwf: ∀x∈L.flatten,(Lit.int .i64 x).wf=true):
    Calls Tryz.prog 67 #[.slice ao n cap,.int .i64 x] w (z9s 80 3 w (addS L x)):=by
  have Hx:=Lib.hid hx
  have b1:=hx.fits;have b2:=hx.bound
  have HWF:=Lib.hid hwf
  clear hx hwf
  go_enter Tryz.func67,Tryz.ntmps67
  go_wp2_with fail
  refine (z4I _ _ _ L _ Hx.out (by omega)).mono ?_
  rintro e w1 ⟨v1,rfl,hown,hb1⟩
  obtain ⟨a1,c1,rfl,hi⟩:=q3P hown
  have HB1:=Lib.hid hb1
  have HI:=Lib.hid hi
  have f1:=hi.fits;have f2:=hi.bound
  clear hown hb1 hi
  have S1:=Lib.hid (z1S L x);have S2:=Lib.hid (q8o L x);have S3:=Lib.hid (z3e L x)
  have HRL:=Lib.hid (q4E L)
  have HTG:=Lib.hid (q2A L)
  have HAL:Hid (q4G L x=(if q0N L=[] then [[]] else q0N L).set 0 (L.getD 0 []++[x])):=Lib.hid rfl
  generalize hF:L.flatten=xs at*
  have HF:=Lib.hid hF;clear hF
  go_wp2_with fail
  refine (z4Z _ _ _ L _ (Hx.out.ext HB1.out) (by rw[HF.out];omega) (by rw[HF.out];exact HWF.out)).mono ?_
  rintro e w2 ⟨rfl,hb2⟩
  have HB2:=Lib.hid (HB1.out.trans hb2)
  have HI2:=Lib.hid (HI.out.ext hb2)
  clear hb2 HI
  by_cases hv:q0i L=false
  · go_wp2_with fail
    go_ret2
    exact ⟨.slice none 0 0,[],by rw[S1.out (.inl hv)];rfl,by rw[S1.out (.inl hv)];exact OGr.nil _ _ _ _,HB2.out⟩
  have hv':q0i L=true:=by simpa using hv
  by_cases h0:x<0
  · go_wp2_with fail
    go_ret2
    exact ⟨.slice none 0 0,[],by rw[S1.out (.inr (.inl h0))];rfl,by rw[S1.out (.inr (.inl h0))];exact OGr.nil _ _ _ _,HB2.out⟩
  go_wp2_with fail
  refine (q7e _ _ _ xs x _ HI2.out).mono ?_
  rintro e w3 ⟨rfl,hb3⟩
  have HB3:=Lib.hid (HB2.out.trans hb3)
  clear hb3 HB2
  by_cases hin:x∈xs
  · have hd:decide (x∈xs)=true:=decide_eq_true hin
    have HIN:=Lib.hid hin;clear hin
    go_wp2_with fail
    go_ret2
    exact ⟨.slice none 0 0,[],by rw[S1.out (.inr (.inr HIN.out))];rfl,by rw[S1.out (.inr (.inr HIN.out))];exact OGr.nil _ _ _ _,HB3.out⟩
  have hd:decide (x∈xs)=false:=decide_eq_false hin
  have hno:¬(q0i L=false∨x<0∨x∈xs):=by rintro (h|h|h);exact hv h;exact absurd h (by omega);exact hin h
  have HNO:=Lib.hid hno;clear hno hin
  by_cases h40:40≤xs.length
  · go_wp2_with fail
    go_ret2
    exact ⟨.slice none 0 0,[],by rw[S2.out HNO.out h40];rfl,by rw[S2.out HNO.out h40];exact OGr.nil _ _ _ _,HB3.out⟩
  go_wp2_with fail
  refine (z7T _ _ _ L _ (Hx.out.ext HB3.out) (fun i=>by have:=HRL.out i;omega) hn).mono ?_
  rintro e w4 ⟨v4,vs4,rfl,hgr,hb4⟩
  obtain ⟨a4,c4,rfl,hgd⟩:=hgr.grid
  have HGD:=Lib.hid hgd
  have HB4:=Lib.hid (HB3.out.trans hb4)
  have hgr':=hgr.base HB3.out.size
  clear hb4 hgr HB3
  have q1:=hgd.fits;have q2:=hgd.bound
  clear hgd
  have hrow0:=HRL.out 0
  have S3':=Lib.hid (S3.out HNO.out h40)
  clear S1 S2 S3 HNO HI2 HRL
  have HGR:=Lib.hid hgr';clear hgr'
  go_upto_if 31 with fail
  go_cut [7] (fun v w'=> ∃(M:List (List Int)) (vs:List Value) (G c:Nat),v= .slice (some ⟨G,0,none⟩) M.length c∧OGr w' w.heap.size 80 3 v vs M∧0<M.length∧M.set 0 (M.getD 0 []++[x])=q4G L x∧(M.getD 0 []).length≤xs.length∧Ext w w')
  case first=>
    by_cases ht:q0N L=[]
    · have hal:[[]].set 0 ([[]].getD 0 []++[x])=q4G L x:=by rw[HAL.out,if_pos ht,←HTG.out,ht];rfl
      have HFIN:=Lib.hid hal;clear hal HAL
      rw[ht]
      clear ht
      go_wp2_with fail
      go_meet
      exact ⟨[[]],_,_,_,rfl,OGr.one _ HB4.out.size,by decide,HFIN.out,by simp,HB4.out.alloc _⟩
    · have hpos:0<(q0N L).length:=List.length_pos_iff.2 ht
      have hal:(q0N L).set 0 (L.getD 0 []++[x])=q4G L x:=by rw[HAL.out,if_neg ht]
      have hz:(((q0N L).length:Int)==0)=false:=by rw[beq_eq_false_iff_ne];omega
      obtain ⟨G,ai,ci,e0,_⟩:=HGR.out.head (i:=0) hpos
      cases e0
      have HFIN:=Lib.hid hal;clear hal HAL ht
      have HPOS:=Lib.hid hpos;clear hpos
      go_wp2_with fail
      go_meet
      exact ⟨q0N L,_,_,_,rfl,HGR.out,HPOS.out,by rw[HTG.out];exact HFIN.out,by rw[HTG.out];exact hrow0,HB4.out⟩
  case rest=>
    obtain ⟨M,vs,G,c,rfl,hgr,hlt,hfin,hrow,hbel⟩:=hcut
    have HFIN:=Lib.hid hfin
    have HBel:=Lib.hid hbel
    have HLt:=Lib.hid hlt
    obtain ⟨g,ai,ci,e0,k1,k2,k3,k4⟩:=hgr.head (i:=0) hlt
    cases e0
    have h1:=hgr.own.rd
    obtain ⟨_,_,e,m1,m2,_⟩:=h1
    cases e
    have HOWN1:=Lib.hid (hgr.ext ((Ext.refl _).alloc (.cells #[.int .i64 x] 3)))
    generalize M.getD 0 []=R at*
    have HRow:=Lib.hid k3
    have HVs:=Lib.hid k2
    clear HGR HGD HAL HTG hfin hbel hgr k2 k3 HB4 hrow0
    go_wp2_with (at_builtin;refine q0Q rfl _ _ 80 rfl w.heap.size 3 _ 1 8 Tryz.underlying80 Tryz.infoInt rfl (by decide) _ _ _ rfl (HRow.out.ext ((Ext.refl _).alloc _)) _ _ _ [.int .i64 x] rfl rfl (fun h=>by cases h) (Rd.lit _ _ _) (by intro u hu;rw[List.mem_singleton.1 hu];rfl) (by omega) (by omega) (by have:=HBel.out.size;simp;omega) ?_;intro v' w5 hown' hg hfr;obtain ⟨a',c',e2⟩:=hown'.slice;subst e2;obtain ⟨g',e1,d0,d1,d2,d3⟩:=HOWN1.out.cell (i:=0) (by decide) HLt.out hg (.inr (by rw[HVs.out];rfl));cases e1)
    have hput:=HOWN1.out.put (i:=0) (by decide) rfl HLt.out (l:=R++[x]) (by simpa using hown') hg (.inr (by rw[HVs.out];rfl)) hfr
    have hb5:=(q0u (HBel.out.alloc (.cells #[.int .i64 x] 3)) (HRow.out.ext ((Ext.refl _).alloc _)) hg (by have:=HBel.out.size;simp;omega)).setCell (p:=⟨G,0,none⟩) k4 (.slice a' (R.length+1) c')
    have HP:=Lib.hid hput
    have HB5:=Lib.hid hb5
    clear hput hb5 hown' hg hfr
    go_wp2_with fail
    go_ret2
    refine ⟨.slice (some ⟨G,0,none⟩) M.length c,vs.set 0 (.slice a' (R.length+1) c'),?_,?_,HB5.out⟩
    · rw[S3'.out];rfl
    · rw[S3'.out];exact HFIN.out▸HP.out
end Go.Proofs.YtmajfklnagdlpaaGreatDoor
namespace Go.Proofs.YtmajfklnagdlpaaGreatDoor
open Go.RowKit
end Go.Proofs.YtmajfklnagdlpaaGreatDoor
namespace Go.Proofs.YtmajfklnagdlpaaGreatDoor
open Go.RowKit
end Go.Proofs.YtmajfklnagdlpaaGreatDoor
namespace Go.Proofs.YtmajfklnagdlpaaGreatDoor
open Go.RowKit
end Go.Proofs.YtmajfklnagdlpaaGreatDoor
