/- Walks. -/
import Derived.Test.YtjjfiejoeelndaaGreatDoorG35Bp
set_option linter.unusedVariables false
set_option linter.unusedSimpArgs false
set_option maxRecDepth 100000
set_option maxHeartbeats 3200000
namespace Go.Proofs.YtjjfiejoeelndaaGreatDoor
theorem η40 {p:Prop} (h:p):Go.RowKit.Hid p:=Lib.hid h
section
open Go.RowKit
theorem y4C (ao:Option Addr) (n cap:Nat) (L:List (List Int)) (x:Int) (w:World) (hx:Grid w ao n cap L) (hsum:L.flatten.length≤1000000000) (hn:n≤1000000000) (hwf: ∀x∈L.flatten,(Lit.int .i64 x).wf=true):
  Calls Tryz.prog 104 #[.slice ao n cap,.int .i64 x] w (RetGE 55 3 w (addS L x)):=by
 have Hx:=η40 hx;have b1:=hx.fits;have b2:=hx.bound;have HWF:=η40 hwf;clear hx hwf;go_enter Tryz.func104,Tryz.ntmps104;go_wp2_with fail;refine (z2R _ _ _ L _ Hx.out (by omega)).mono ?_;rintro e w1 ⟨v1,rfl,hown,hb1⟩;obtain ⟨a1,c1,rfl,hi⟩:=q1z hown;have HB1:=η40 hb1;have HI:=η40 hi;have f1:=hi.fits;have f2:=hi.bound;clear hown hb1 hi;have S1:=η40 (z4R L x);have S2:=η40 (z2V L x);have S3:=η40 (z7p L x);have HRL:=η40 (q2s L);have HTG:=η40 (q1R L);have HAL:Hid (q5a L x=(if q0O L=[] then [[]] else q0O L).set 0 (L.getD 0 []++[x])):=η40 rfl;generalize hF:L.flatten=xs at*;have HF:=η40 hF;clear hF;go_wp2_with fail;refine (z3D _ _ _ L _ (Hx.out.ext HB1.out) (by rw[HF.out];omega) (by rw[HF.out];exact HWF.out)).mono ?_;rintro e w2 ⟨rfl,hb2⟩;have HB2:=η40 (HB1.out.trans hb2);have HI2:=η40 (HI.out.ext hb2);clear hb2 HI;by_cases hv:q0a L=false
 ·go_wp2_with fail
  go_ret2;exact ⟨.slice none 0 0,[],by rw[S1.out (.inl hv)];rfl,by rw[S1.out (.inl hv)];exact OGr.nil _ _ _ _,HB2.out⟩
 have hv':q0a L=true:=by simpa using hv
 by_cases h0:x<0
 ·go_wp2_with fail
  go_ret2;exact ⟨.slice none 0 0,[],by rw[S1.out (.inr (.inl h0))];rfl,by rw[S1.out (.inr (.inl h0))];exact OGr.nil _ _ _ _,HB2.out⟩
 go_wp2_with fail;refine (q7B _ _ _ xs x _ HI2.out).mono ?_;rintro e w3 ⟨rfl,hb3⟩;have HB3:=η40 (HB2.out.trans hb3);clear hb3 HB2;by_cases hin:x∈xs
 ·have hd:decide (x∈xs)=true:=decide_eq_true hin
  have HIN:=η40 hin;clear hin;go_wp2_with fail;go_ret2;exact ⟨.slice none 0 0,[],by rw[S1.out (.inr (.inr HIN.out))];rfl,by rw[S1.out (.inr (.inr HIN.out))];exact OGr.nil _ _ _ _,HB3.out⟩
 have hd:decide (x∈xs)=false:=decide_eq_false hin;have hno:¬(q0a L=false∨x<0∨x∈xs):=by rintro (h|h|h);exact hv h;exact absurd h (by omega);exact hin h
 have HNO:=η40 hno;clear hno hin;by_cases h40:40≤xs.length
 ·go_wp2_with fail
  go_ret2;exact ⟨.slice none 0 0,[],by rw[S2.out HNO.out h40];rfl,by rw[S2.out HNO.out h40];exact OGr.nil _ _ _ _,HB3.out⟩
 go_wp2_with fail;refine (z7x _ _ _ L _ (Hx.out.ext HB3.out) (fun i=>by have:=HRL.out i;omega) hn).mono ?_;rintro e w4 ⟨v4,vs4,rfl,hgr,hb4⟩;obtain ⟨a4,c4,rfl,hgd⟩:=hgr.grid;have HGD:=η40 hgd;have HB4:=η40 (HB3.out.trans hb4);have hgr':=hgr.base HB3.out.size;clear hb4 hgr HB3;have q1:=hgd.fits;have q2:=hgd.bound;clear hgd;have hrow0:=HRL.out 0;have S3':=η40 (S3.out HNO.out h40);clear S1 S2 S3 HNO HI2 HRL;have HGR:=η40 hgr';clear hgr'
 go_upto_if 31 with fail
 go_cut [7] (fun v w'=> ∃(M:List (List Int)) (vs:List Value) (G c:Nat),v= .slice (some ⟨G,0,none⟩) M.length c∧OGr w' w.heap.size 55 3 v vs M∧0<M.length∧M.set 0 (M.getD 0 []++[x])=q5a L x∧(M.getD 0 []).length≤xs.length∧Ext w w')
 case first=>
  by_cases ht:q0O L=[]
  ·have hal:[[]].set 0 ([[]].getD 0 []++[x])=q5a L x:=by rw[HAL.out,if_pos ht,←HTG.out,ht];rfl
   have HFIN:=η40 hal;clear hal HAL;rw[ht];clear ht;go_wp2_with fail
   go_meet
   exact ⟨[[]],_,_,_,rfl,OGr.one _ HB4.out.size,by decide,HFIN.out,by simp,HB4.out.alloc _⟩
  ·have hpos:0<(q0O L).length:=List.length_pos_iff.2 ht
   have hal:(q0O L).set 0 (L.getD 0 []++[x])=q5a L x:=by rw[HAL.out,if_neg ht]
   have hz:(((q0O L).length:Int)==0)=false:=by rw[beq_eq_false_iff_ne];omega
   obtain ⟨G,ai,ci,e0,_⟩:=HGR.out.head (i:=0) hpos
   cases e0;have HFIN:=η40 hal;clear hal HAL ht;have HPOS:=η40 hpos;clear hpos;go_wp2_with fail
   go_meet
   exact ⟨q0O L,_,_,_,rfl,HGR.out,HPOS.out,by rw[HTG.out];exact HFIN.out,by rw[HTG.out];exact hrow0,HB4.out⟩
 case rest=>
  obtain ⟨M,vs,G,c,rfl,hgr,hlt,hfin,hrow,hbel⟩:=hcut;have HFIN:=η40 hfin;have HBel:=η40 hbel;have HLt:=η40 hlt;obtain ⟨g,ai,ci,e0,k1,k2,k3,k4⟩:=hgr.head (i:=0) hlt
  cases e0;have h1:=hgr.own.rd;obtain ⟨_,_,e,m1,m2,_⟩:=h1
  cases e;have HOWN1:=η40 (hgr.ext ((Ext.refl _).alloc (.cells #[.int .i64 x] 3)));generalize M.getD 0 []=R at*;have HRow:=η40 k3;have HVs:=η40 k2;clear HGR HGD HAL HTG hfin hbel hgr k2 k3 HB4 hrow0
  go_wp2_with (at_builtin;refine q0R rfl _ _ 55 rfl w.heap.size 3 _ 1 8 Tryz.underlying55 Tryz.infoInt rfl (by decide) _ _ _ rfl (HRow.out.ext ((Ext.refl _).alloc _)) _ _ _ [.int .i64 x] rfl rfl (fun h=>by cases h) (Rd.lit _ _ _) (by intro u hu;rw[List.mem_singleton.1 hu];rfl) (by omega) (by omega) (by have:=HBel.out.size;simp;omega) ?_;intro v' w5 hown' hg hfr;obtain ⟨a',c',e2⟩:=hown'.slice;subst e2;obtain ⟨g',e1,d0,d1,d2,d3⟩:=HOWN1.out.cell (i:=0) (by decide) HLt.out hg (.inr (by rw[HVs.out];rfl));cases e1)
  have hput:=HOWN1.out.put (i:=0) (by decide) rfl HLt.out (l:=R++[x]) (by simpa using hown') hg (.inr (by rw[HVs.out];rfl)) hfr;have hb5:=(q0p (HBel.out.alloc (.cells #[.int .i64 x] 3)) (HRow.out.ext ((Ext.refl _).alloc _)) hg (by have:=HBel.out.size;simp;omega)).setCell (p:=⟨G,0,none⟩) k4 (.slice a' (R.length+1) c');have HP:=η40 hput;have HB5:=η40 hb5;clear hput hb5 hown' hg hfr;go_wp2_with fail;go_ret2;refine ⟨.slice (some ⟨G,0,none⟩) M.length c,vs.set 0 (.slice a' (R.length+1) c'),?_,?_,HB5.out⟩
  ·rw[S3'.out];rfl
  ·rw[S3'.out];exact HFIN.out▸HP.out
end
section
open Go.RowKit
theorem y1H (ao:Option Addr) (n cap:Nat) (L:List (List Int)) (k:Int) (w:World) (hx:Grid w ao n cap L) (hsum:L.flatten.length≤1000000000) (hwf: ∀x∈L.flatten,(Lit.int .i64 x).wf=true):
  Calls Tryz.prog 109 #[.slice ao n cap,.int .i64 k] w (RetIE 3 w (q0y L k)):=by
 have Hx:=η40 hx;have b1:=hx.fits;have b2:=hx.bound;have HLen:=η40 hx.len;clear hx;go_enter Tryz.func109,Tryz.ntmps109;go_wp2_with fail;refine (z3D _ _ _ L _ Hx.out (by omega) hwf).mono ?_;rintro e w1 ⟨rfl,hb1⟩;have HB1:=η40 hb1;clear hb1 hwf;have S1:=η40 (z1s L k);have S2:=η40 (q9m L k);have S3:=η40 (y0e L k);have HRL:=η40 (q2s L);generalize hF:L.flatten=xs at*;by_cases hv:q0a L=false
 ·go_wp2_with fail
  go_ret2;exact RetIE.err (S1.out (.inl hv)) HB1.out
 have hv':q0a L=true:=by simpa using hv
 by_cases h0:k<0
 ·go_wp2_with fail
  go_ret2;exact RetIE.err (S1.out (.inr (.inl h0))) HB1.out
 by_cases h5:5≤k
 ·go_wp2_with fail
  go_ret2;exact RetIE.err (S1.out (.inr (.inr h5))) HB1.out
 have hno:¬(q0a L=false∨k<0∨5≤k):=by rintro (h|h|h);exact hv h;exact absurd h (by omega);exact absurd h (by omega)
 have HNO:=η40 hno;clear hno;obtain ⟨j,rfl⟩:=Int.eq_ofNat_of_zero_le (show 0≤k by omega);rw[Int.toNat_natCast] at S2 S3;by_cases hlt:j<n
 ·obtain ⟨b,off,ai,ni,ci,rfl,c1,r1⟩:=(Hx.out.ext HB1.out).at hlt
  have hR:=r1.len;have hrl:=HRL.out j;have m1:=r1.fits;have m2:=r1.bound;generalize L.getD j []=R at*;have R1:=η40 r1;clear r1;by_cases hz:ni=0
  ·have hRn:R=[]:=List.eq_nil_of_length_eq_zero (by omega)
   have HRN:=η40 hRn;clear hRn;subst hz;clear hR;go_wp2_with fail;go_ret2;exact RetIE.err (S2.out HNO.out HRN.out) HB1.out
  ·have hRn:¬R=[]:=by intro h;rw[h] at hR;simp at hR;omega
   have hzz:((ni:Int)==0)=false:=by rw[beq_eq_false_iff_ne];omega
   have HRN:=η40 hRn;clear hRn;have hni:ni≤1000000000:=by omega
   have HR:=η40 hR;clear hR;go_wp2_with fail;refine (z7D _ _ _ R _ R1.out (by omega)).mono ?_;rintro e w2 ⟨v2,rfl,hown,hb2⟩;have HO:=η40 hown;have HB2:=η40 hb2;clear hown hb2;go_wp2_with fail;go_ret2;refine ⟨v2,?_,?_,HB1.out.trans HB2.out⟩
   ·rw[S3.out HNO.out HRN.out];rfl
   ·rw[S3.out HNO.out HRN.out];exact HO.out.base HB1.out.size
 ·have hRn:L.getD j []=[]:=q4C _ _ _ (by have:=HLen.out;omega)
  have HRN:=η40 hRn;clear hRn;go_wp2_with fail;go_ret2;exact RetIE.err (S2.out HNO.out HRN.out) HB1.out
end
section
open Go.RowKit
theorem OGr.cell0 {w:World} {B:Nat} {tO tI:TypeId} {vs:List Value} {L:List (List Int)} {i n cap:Nat} {ao:Option Addr} (h:OGr w B tO tI (.slice ao n cap) vs L) (hne:tO≠tI) (hi:i<L.length):
  ∃g,ao=some ⟨g,0,none⟩∧w.cell? ⟨g,i,none⟩=some (vs.getD i (.slice none 0 0))∧w.frozen? ⟨g,i,none⟩=false∧B≤g:=by
 obtain ⟨g,h1,h2,_,h3,h4⟩:=h.cell hne hi (World.grownBy.refl w none) (.inl rfl);exact ⟨g,h1,h2,h3,h4⟩
theorem OGr.addr {w:World} {B:Nat} {tO tI:TypeId} {v:Value} {vs:List Value} {L:List (List Int)} (h:OGr w B tO tI v vs L) (hi:0<L.length): ∃G c,v= .slice (some ⟨G,0,none⟩) L.length c:=by
 obtain ⟨a,c,rfl⟩:=h.own.slice;obtain ⟨g,_,_,rfl,_⟩:=h.head hi;exact ⟨g,c,rfl⟩
theorem OGr.strike {w:World} {B:Nat} {tO tI:TypeId} {vs:List Value} {L:List (List Int)} {i g n cap:Nat} (h:OGr w B tO tI (.slice (some ⟨g,0,none⟩) n cap) vs L) (hne:tO≠tI) (hi:i<L.length):
  OGr (w.setCell ⟨g,i,none⟩ (.slice none 0 0)) B tO tI (.slice (some ⟨g,0,none⟩) n cap) (vs.set i (.slice none 0 0)) (L.set i []):=
 h.put (l:=[]) hne rfl hi (Own.nil _ _ _ _) (World.grownBy.refl w none) (.inl rfl) (.inl rfl)
theorem z8V (ao:Option Addr) (n cap:Nat) (L:List (List Int)) (k x:Int) (w:World) (hx:Grid w ao n cap L) (hsum:L.flatten.length≤1000000000) (hn:n≤1000000000) (hwf: ∀x∈L.flatten,(Lit.int .i64 x).wf=true):
  Calls Tryz.prog 111 #[.slice ao n cap,.int .i64 k,.int .i64 x] w (RetGE 55 3 w (q0T L k x)):=by
 have Hx:=η40 hx;have b1:=hx.fits;have b2:=hx.bound;have HLen:=η40 hx.len;clear hx;go_enter Tryz.func111,Tryz.ntmps111;go_wp2_with fail;refine (y1H _ _ _ L k _ Hx.out (by omega) hwf).mono ?_;rintro e w1 ⟨v1,rfl,hown,hb1⟩;obtain ⟨a1,c1,rfl⟩:=hown.slice;have HB1:=η40 hb1;clear hb1 hown hwf;have S1:=η40 (z2T L k x);have S2:=η40 (z2c L k x);have S3:=η40 (z4A L k x);have HPZ:=η40 (z6L L k);have HRL:=η40 (q2s L);have HVL:=η40 (z5b L);generalize hF:L.flatten=xs at*;have HF:=η40 hF;clear hF;generalize (q0y L k).1.length=pl at*;generalize (q0y L k).2=pe at*;by_cases hp:pe≠0
 ·have hp1:(pe !=0)=true:=by simpa using hp
  have HPP:=η40 hp;clear hp;go_wp2_with fail;go_ret2;exact RetGE.err (S1.out HPP.out) HB1.out
 have hp:pe=0:=by omega
 obtain ⟨z1,z2,z3,z4⟩:=HPZ.out (by omega);have S2':=η40 (S2.out (by omega));have S3':=η40 (S3.out (by omega));subst hp;obtain ⟨j,rfl⟩:=Int.eq_ofNat_of_zero_le z2;rw[Int.toNat_natCast] at z4 S3';have hj:j<5:=by omega
 have h5:=(HVL.out z1).1;have hrepP:=y1O L j x h5 hj z4;have hjt:=z5M L j z4;have htl:(q0O L).length≤5:=by have:=q2Y L L.length;rw[q1V];omega
 have HRP:=η40 hrepP;have HJT:=η40 hjt;clear S1 S2 S3 HPZ HVL z1 z2 z3 z4 hrepP hjt h5;by_cases h0:x<0
 ·go_wp2_with fail
  go_ret2;exact RetGE.err (S2'.out (.inl h0)) HB1.out
 go_wp2_with fail;refine (z2R _ _ _ L _ (Hx.out.ext HB1.out) (by rw[HF.out];omega)).mono ?_;rintro e w2 ⟨v2,rfl,hown,hb2⟩;obtain ⟨a2,c2,rfl,hi⟩:=q1z hown;have HB2:=η40 (HB1.out.trans hb2);rw[HF.out] at hi⊢;have HI:=η40 hi;have f1:=hi.fits;have f2:=hi.bound;clear hown hb2 hi;go_wp2_with fail;refine (q7B _ _ _ xs x _ HI.out).mono ?_;rintro e w3 ⟨rfl,hb3⟩;have HB3:=η40 (HB2.out.trans hb3);clear hb3 HB2 HI;by_cases hin:x∈xs
 ·have hd:decide (x∈xs)=true:=decide_eq_true hin
  have HIN:=η40 hin;clear hin;go_wp2_with fail;go_ret2;exact RetGE.err (S2'.out (.inr HIN.out)) HB3.out
 have hd:decide (x∈xs)=false:=decide_eq_false hin;have hno:¬(x<0∨x∈xs):=by rintro (h|h);exact absurd h (by omega);exact hin h
 have S3:=η40 (S3'.out hno);clear hno hin S2' S3';go_wp2_with fail;refine (z7x _ _ _ L _ (Hx.out.ext HB3.out) (fun i=>by have:=HRL.out i;omega) hn).mono ?_;rintro e w4 ⟨v4,vs4,rfl,hgr0,hb4⟩;have HB4:=η40 (HB3.out.trans hb4);have hgr:=hgr0.base HB3.out.size;clear hgr0 hb4 HB3;obtain ⟨a4,c4,rfl⟩:=hgr.own.slice;have hTR: ∀i,((q0O L).getD i []).length≤xs.length:=fun i=>by rw[q1R];exact HRL.out i
 have HTR:=η40 hTR;have hRPe:z2x L j x=(if ((q0O L).set j []).length≤min (j+1) 4 then (q0O L).set j []++[[]] else (q0O L).set j []).set (min (j+1) 4) ((if ((q0O L).set j []).length≤min (j+1) 4 then (q0O L).set j []++[[]] else (q0O L).set j []).getD (min (j+1) 4) []++[x]):=HRP.out.symm;have HRPE:=η40 hRPe;clear hTR hRPe HRP;generalize q0O L=T at*;obtain ⟨G,e0,d0,d1,d2⟩:=hgr.cell0 (by decide) HJT.out
 cases e0;have hst:=hgr.strike (by decide) HJT.out;have hbs:Ext w (w4.setCell ⟨G,j,none⟩ (.slice none 0 0)):=HB4.out.setCell (p:=⟨G,j,none⟩) d2 _;obtain ⟨_,_,e,m1,m2,_⟩:=hgr.own.rd
 cases e;have HST:=η40 hst;have HBS:=η40 hbs;have hM1:(T.set j []).length=T.length:=List.length_set;have hjt:=HJT.out;have hM1r: ∀i,((T.set j []).getD i []).length≤xs.length:=by
  intro i;rw[q1k _ _ _ _ _ hjt];split
  ·simp
  ·exact HTR.out i
 have HM1R:=η40 hM1r;clear hgr hst hbs hM1r HTR;obtain ⟨t,ht⟩: ∃t:Nat,t=min (j+1) 4:=⟨_,rfl⟩
 have hmin:(if (4:Int)<(j:Int)+1 then (4:Int) else (j:Int)+1)=(t:Int):=by split<;>omega
 have t1:t≤4:=by omega
 have t2:T.length≤t→t=T.length:=by omega
 have HT2:=η40 t2;rw[←ht,hM1] at HRPE;have HM1:=η40 hM1;have HT:=η40 ht;clear t2 hM1 hjt ht
 go_upto_if 42 with fail
 generalize w4.setCell ⟨G,j,none⟩ (.slice none 0 0)=W at*
 go_cut [10] (fun v w'=> ∃(M:List (List Int)) (vs:List Value) (G c:Nat),v= .slice (some ⟨G,0,none⟩) M.length c∧OGr w' w.heap.size 55 3 v vs M∧t<M.length∧M.set t (M.getD t []++[x])=z2x L j x∧(M.getD t []).length≤xs.length∧Ext w w')
 case first=>
  by_cases hle:T.length≤t
  ·have hfin:(T.set j []++[[]]).set t ((T.set j []++[[]]).getD t []++[x])=z2x L j x:=by rw[HRPE.out,if_pos hle]
   have HFIN:=η40 hfin;clear hfin HRPE;have HTE:=η40 (HT2.out hle);have hout:=HST.out.ext ((Ext.refl _).alloc (.cells #[.slice none 0 0] 55));have HOut:=η40 hout;clear hout
   go_wp2_with (at_builtin;refine q0R rfl _ _ 79 rfl w.heap.size 55 _ 1 24 Tryz.underlying79 Tryz.infoInts rfl (by decide) _ _ _ rfl HOut.out.own _ _ _ [.slice none 0 0] rfl rfl (fun h=>by cases h) (Rd.lit _ _ _) (by intro u hu;rw[List.mem_singleton.1 hu];rfl) (by rw[HM1.out];omega) (by rw[HM1.out];omega) (by have:=HBS.out.size;simp;omega) ?_;intro v' w6 hown' hg _)
   have hb6:=q0p (HBS.out.alloc (.cells #[.slice none 0 0] 55)) HOut.out.own hg (by have:=HBS.out.size;simp;omega);have hgr6:=HOut.out.push (l:=[]) (B':=(W.alloc (.cells #[.slice none 0 0] 55)).heap.size) (by decide) (Own.nil _ _ _ _) (by have:=HBS.out.size;simp;omega) HOut.out.lt hown' hg;obtain ⟨G6,c6,e6⟩:=hgr6.addr (by simp);subst e6;have HG6:=η40 hgr6;have HB6:=η40 hb6;clear hgr6 hb6 hown' hg;go_wp2_with fail
   go_meet
   exact ⟨T.set j []++[[]],_,G6,c6,by simp,HG6.out,by have:=HTE.out;have:=HM1.out;simp;omega,HFIN.out,by rw[q4H];split;exact HM1R.out _;split<;>simp,HB6.out⟩
  ·have hfin:(T.set j []).set t ((T.set j []).getD t []++[x])=z2x L j x:=by rw[HRPE.out,if_neg hle]
   have HFIN:=η40 hfin;clear hfin HRPE;go_wp2_with fail
   go_meet
   exact ⟨_,_,_,_,by rw[HM1.out],HST.out,by rw[HM1.out];omega,HFIN.out,HM1R.out _,HBS.out⟩
 case rest=>
  obtain ⟨M,vs,G,c,rfl,hgr,hlt,hfin,hrow,hbel⟩:=hcut;have HFIN:=η40 hfin;have HBel:=η40 hbel;have HLt:=η40 hlt;obtain ⟨g,ai,ci,e0,k1,k2,k3,k4⟩:=hgr.head (i:=t) hlt
  cases e0;obtain ⟨_,_,e,m3,m4,_⟩:=hgr.own.rd
  cases e;have HOWN1:=η40 (hgr.ext ((Ext.refl _).alloc (.cells #[.int .i64 x] 3)));generalize M.getD t []=R at*;have HRow:=η40 k3;have HVs:=η40 k2;clear HRPE hfin hbel hgr k2 k3 HB4 HST HBS HM1R HM1
  go_wp2_with (at_builtin;refine q0R rfl _ _ 55 rfl w.heap.size 3 _ 1 8 Tryz.underlying55 Tryz.infoInt rfl (by decide) _ _ _ rfl (HRow.out.ext ((Ext.refl _).alloc _)) _ _ _ [.int .i64 x] rfl rfl (fun h=>by cases h) (Rd.lit _ _ _) (by intro u hu;rw[List.mem_singleton.1 hu];rfl) (by omega) (by omega) (by have:=HBel.out.size;simp;omega) ?_;intro v' w9 hown' hg hfr;obtain ⟨a',c',e2⟩:=hown'.slice;subst e2;obtain ⟨g',e1,d0,d1,d2,d3⟩:=HOWN1.out.cell (i:=t) (by decide) HLt.out hg (.inr (by rw[HVs.out];rfl));cases e1)
  have hput:=HOWN1.out.put (i:=t) (by decide) rfl HLt.out (l:=R++[x]) (by simpa using hown') hg (.inr (by rw[HVs.out];rfl)) hfr;have hb5:=(q0p (HBel.out.alloc (.cells #[.int .i64 x] 3)) (HRow.out.ext ((Ext.refl _).alloc _)) hg (by have:=HBel.out.size;simp;omega)).setCell (p:=⟨G,t,none⟩) k4 (.slice a' (R.length+1) c');have HP:=η40 hput;have HB5:=η40 hb5;clear hput hb5 hown' hg hfr;go_wp2_with fail;go_ret2;exact RetGE.mk S3.out (HFIN.out▸HP.out) HB5.out
end
section
open Go.RowKit
end
end Go.Proofs.YtjjfiejoeelndaaGreatDoor
