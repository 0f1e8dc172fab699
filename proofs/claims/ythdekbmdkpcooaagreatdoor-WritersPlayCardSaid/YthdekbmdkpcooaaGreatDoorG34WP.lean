/- Walks. -/
import Derived.WalkSpells
import Derived.Test.YthdekbmdkpcooaaGreatDoorG33WP
import Derived.Test.YthdekbmdkpcooaaGreatDoorG3WP
import Derived.Laws.ResultCell
set_option linter.unusedVariables false
set_option linter.unusedSimpArgs false
set_option maxRecDepth 100000
set_option maxHeartbeats 3200000
namespace Go.Proofs.YthdekbmdkpcooaaGreatDoor
theorem η34 {p:Prop} (h:p):Go.RowKit.Hid p:=Lib.hid h
section
open Go.RowKit
end
section
open Go.RowKit
end
section
open Go.RowKit
theorem z9Z (ao:Option Addr) (n cap:Nat) (L:List (List Int)) (w:World) (hx:Grid w ao n cap L):
  Calls Tryz.prog 274 #[.slice ao n cap] w fun e w'=>e= .returned (.slice ao (q1o L n) cap)∧Ext w w':=by
 have Hx:=η34 hx;have b1:=hx.fits;have b2:=hx.bound;clear hx;go_enter Tryz.func274,Tryz.ntmps274;go_wp2_with fail
 go_loopw [0] (fun v w'=> ∃m:Nat,m≤n∧v= .slice ao m cap∧q1o L m=q1o L n∧Ext w w') (fun v _=>y1t v)
 case atStart=>exact ⟨n,Nat.le_refl _,rfl,rfl,Ext.refl _⟩
 case round=>
  obtain ⟨m,hm,rfl,htn,hb⟩:=hrel;have HTN:=η34 htn;clear htn;have Hb:=η34 hb;clear hb
  cases m with
  | zero=>
   have ht:q1o L n=0:=HTN.out.symm;have HT:=η34 ht;clear ht;go_wp2_with fail;go_ret;exact ⟨by rw[HT.out];rfl,Hb.out⟩
  | succ m=>
   obtain ⟨b,off,ai,ni,ci,rfl,c1,r1⟩:=(Hx.out.ext Hb.out).at (show m<n by omega);have hR:=r1.len;have g1:=r1.fits;have g2:=r1.bound;have HR:=η34 hR;clear r1 hR;by_cases h0:ni=0
   ·have he:L.getD m []=[]:=List.eq_nil_of_length_eq_zero (by have:=HR.out;omega)
    have HE:=η34 he;clear he;subst h0;go_wp2_with fail
    go_roundw
    case rel=>exact ⟨m,by omega,rfl,by rw[←z1N L m HE.out];exact HTN.out,Hb.out⟩
    case measure=>simp[y1t]
   ·have hne:L.getD m []≠[]:=by intro h;have:=HR.out;rw[h] at this;simp at this;omega
    have hz:((ni:Int)==0)=false:=by simpa using h0
    have hT:q1o L n=m+1:=by rw[←HTN.out];exact q8g L m hne
    have HNE:=η34 hne;clear hne h0;have HT:=η34 hT;clear hT;go_wp2_with fail;go_ret;exact ⟨by rw[HT.out];rfl,Hb.out⟩
theorem Grid.cut {w:World} {ao:Option Addr} {n cap:Nat} {L:List (List Int)} (h:Grid w ao n cap L) {m:Nat} (hm:m≤n):Grid w ao m cap (L.take m):=by
 have hl:=h.len;have hlm:(L.take m).length=m:=by simp;omega
 refine ⟨hlm,Nat.le_trans hm h.fits,h.bound,h.nil,fun i hi=>?_⟩;obtain ⟨b,off,ai,ci,x1,x2,x3⟩:=h.rd i (by omega);rw[List.getElem_take];exact ⟨b,off,ai,ci,x1,x2,x3⟩
theorem Grid.trim {w:World} {ao:Option Addr} {n cap:Nat} {L:List (List Int)} (h:Grid w ao n cap L):Grid w ao (q1o L n) cap (q0s L):=by
 have e:q0s L=L.take (q1o L n):=by unfold q0s;rw[h.len]
 rw[e];exact h.cut (q5X L n)
def q0r (l:List Int):List UInt8:=be 1 l.length++(l.map fun x=>be 4 x.toNat).flatten
def q2h (nx ck sd:Int) (k:Nat):List UInt8:=[105,109,97,112]++be 4 nx.toNat++be 4 ck.toNat++be 8 sd.toNat++be 1 k
def q1r (nx ck sd:Int) (L:List (List Int)):List UInt8:=q2h nx ck sd (q0s L).length++((q0s L).map q0r).flatten
def q3J (nx ck sd:Int) (L:List (List Int)):List UInt8×Int:=if q0g nx ck L then (q1N (q1r nx ck sd L),0) else ([],2)
theorem q6D (l:List Int):(l.map fun x=>be 4 x.toNat).flatten.length=4*l.length:=by
 induction l with
 |nil=>rfl
 |cons x l ih=>simp only[List.map_cons,List.flatten_cons,List.length_append,ih,q0H,List.length_cons];omega
theorem q7t (l:List Int):(q0r l).length=1+4*l.length:=by
 unfold q0r;rw[List.length_append,q0H,q6D]
theorem q7g (T:List (List Int)):(T.map q0r).flatten.length=T.length+4*T.flatten.length:=by
 induction T with
 |nil=>rfl
 |cons x l ih=>simp only[List.map_cons,List.flatten_cons,List.length_append,ih,q7t,List.length_cons];omega
theorem q8D (nx ck sd:Int) (k:Nat):(q2h nx ck sd k).length=21:=by simp[q2h,q0H]
theorem q2Z {nx ck:Int} {L:List (List Int)} (h:q0g nx ck L=true):(0≤nx∧nx≤1000000∧0≤ck∧ck≤2147483647)∧q1h L=true∧ ∀x∈L.flatten,x<nx:=by
 unfold q0g at h;rw[Bool.and_eq_true,Bool.and_eq_true] at h;exact ⟨of_decide_eq_true h.1.1,h.1.2,fun x hx=>of_decide_eq_true (List.all_eq_true.1 h.2 x hx)⟩
theorem q5W {α β:Type} (f:α→List β) (l:List α) (d:α) (k:Nat) (h:k<l.length):((l.take (k+1)).map f).flatten=((l.take k).map f).flatten++f (l.getD k d):=by
 rw[q0U l d k h];simp
theorem y1N (nx ck sd:Int) (ao:Option Addr) (n cap:Nat) (L:List (List Int)) (w:World) (hx:Grid w ao n cap L) (hsum:L.flatten.length≤17592186044416) (hwf: ∀x∈L.flatten,(Lit.int .i64 x).wf=true) (hs0:0≤sd) (hs1:sd<18446744073709551616):
  Calls Tryz.prog 243 #[.agg #[.int .i64 nx,.int .i64 ck,.int .u64 sd,.slice ao n cap]] w fun e w'=>e= .returned (.tuple #[.string ⟨(q3J nx ck sd L).1.toArray⟩,.int .i64 (q3J nx ck sd L).2])∧Ext w w':=by
 have Hx:=η34 hx;have HLen:=η34 hx.len;clear hx;go_enter Tryz.func243,Tryz.ntmps243;go_wp2_with fail;refine (q8p nx ck sd _ _ _ L _ (Hx.out.ext (q0B _ _)) hsum hwf).mono ?_;rintro e w1 ⟨rfl,hb⟩;obtain ⟨d0,d1,d2,d3⟩:=z6A hb;have HB:=η34 hb;clear hb hwf;by_cases hv:q0g nx ck L=false
 ·have HV:Hid (q3J nx ck sd L=([],2)):=η34 (by unfold q3J;rw[hv];rfl)
  go_wp2_with fail;go_ret2;exact ⟨by rw[HV.out];rfl,(q0B _ _).trans HB.out⟩
 have hv':q0g nx ck L=true:=by simpa using hv
 have HV:Hid (q3J nx ck sd L=(q1N (q1r nx ck sd L),0)):=η34 (by unfold q3J;rw[hv'];rfl);obtain ⟨⟨n1,n2,n3,n4⟩,hvb,hlt⟩:=q2Z hv';obtain ⟨v1,v2,v3,_⟩:=(by unfold q1h at hvb;exact of_decide_eq_true hvb:L.length≤5∧L.flatten.length≤40∧(∀x∈L.flatten,0≤x)∧L.flatten.Nodup)
 have V2:=η34 v2;have V3:=η34 v3;have HLT:=η34 hlt;have hn5:n≤5:=by have:=HLen.out;omega
 clear hv hvb v1 v2 v3 hlt;go_wp2_with fail;refine (z9Z _ _ _ L _ ((Hx.out.ext (q0B _ _)).ext HB.out)).mono ?_;rintro e w2 ⟨rfl,hb⟩;have HB2:=η34 (HB.out.trans hb);obtain ⟨e0,e1,e2,e3⟩:=z6A HB2.out;clear hb HB d0 d1 d2 d3;have f0:=q0D e0;have f1:=q0D e1;have f2:=q0D e2;have hT:(q0s L).length=q1o L n:=by rw[q3L,HLen.out]
 have htn:q1o L n≤n:=q5X L n;have hGT:Grid w2 ao (q1o L n) cap (q0s L):=((Hx.out.ext (q0B _ _)).ext HB2.out).trim;have HGT:=η34 hGT;have HTN:=η34 hT;have HHead:Hid (q2h nx ck sd (q1o L n)=[105,109,97,112]++be 4 nx.toNat++be 4 ck.toNat++be 8 sd.toNat++be 1 (q1o L n)):=η34 rfl;have hl4a:=q0H 4 nx.toNat;have hl4b:=q0H 4 ck.toNat;have hl8:=q0H 8 sd.toNat;have hl1:=q0H 1 (q1o L n);have tl5:q1o L n≤5:=by omega
 have HBody:Hid (q1r nx ck sd L=q2h nx ck sd (q0s L).length++((q0s L).map q0r).flatten):=η34 rfl;have hbt:cap≤9223372036854775807:=hGT.bound;have htc:q1o L n≤cap:=hGT.fits;have HTF:Hid ((q0s L).flatten.length≤40):=η34 (by rw[q1i];exact V2.out)
 have HTR:Hid (∀k,∀x∈(q0s L).getD k [],0≤x∧x≤1000000):=η34 (by
  intro k x hx;rw[q5s] at hx;have hxm:x∈L.flatten:=by
   rcases Nat.lt_or_ge k L.length with h|h
   ·rw[List.getD_eq_getElem?_getD,List.getElem?_eq_getElem h] at hx
    exact List.mem_flatten.2 ⟨_,List.getElem_mem h,hx⟩
   ·rw[q9M _ _ _ h] at hx;cases hx
  have:=V3.out x hxm;have:=HLT.out x hxm
  omega)
 clear hGT hT e0 e1 e2 e3;generalize q1o L n=m at*;generalize q0s L=T at*;go_wp2_with fail;refine q0E (by kernel_rfl) (by kernel_rfl) ?_
 repeat (go_big_quiet_step (first|exact Calls.quiet_ext (z3s _ _ 4 _ (by decide) (by omega) (by omega) (by omega) (by omega))|exact Calls.quiet_ext (z3s _ _ 8 _ (by decide) (by omega) (by omega) (by omega) (by omega))|exact Calls.quiet_ext (y1i _ _ 1 _ (by decide) (by omega) (by omega) (by omega))))
 refine wpQuiet_nil ?_;intro w3 hw3;have HB3:=η34 (HB2.out.trans hw3);have HG3:=η34 (HGT.out.ext hw3);have hst:(({data:=#[105,109,97,112]}++{data:=(be 4 nx.toNat).toArray}++{data:=(be 4 ck.toNat).toArray}++{data:=(be 8 sd.toNat).toArray}++{data:=(be 1 m).toArray}):ByteArray)=⟨(q2h nx ck sd m++((T.take 0).map q0r).flatten).toArray⟩:=by
  rw[HHead.out];have e0:({data:=#[105,109,97,112]}:ByteArray)=⟨([105,109,97,112]:List UInt8).toArray⟩:=rfl;rw[e0,ByteArray.mk_append_mk,ByteArray.mk_append_mk,ByteArray.mk_append_mk,ByteArray.mk_append_mk];simp
 have HST:=η34 hst;have hml:=q7g T;have HML:=η34 hml;have hfl: ∀k,(q2h nx ck sd m++((T.take k).map q0r).flatten).length≤300:=by
  intro k;rw[List.length_append,q8D,q7g];have h1:(T.take k).length≤T.length:=by simp;omega
  have h2:=q2I T k;have h3:=HTF.out;have h4:=HTN.out;omega
 have HFL:=η34 hfl;clear hw3 hst hml hfl HB2 HGT HHead f0 f1 f2 hl4a hl4b hl8 hl1;go_wp2_with fail
 go_loopw [5,37] (fun s i w'=> ∃k:Nat,k≤m∧i= .int .i64 k∧s= .string ⟨(q2h nx ck sd m++((T.take k).map q0r).flatten).toArray⟩∧Ext w3 w') (fun _ i _=>m-(intOf i).toNat)
 case atStart=>exact ⟨0,Nat.zero_le _,rfl,by rw[HST.out],Ext.refl _⟩
 case round =>
  obtain ⟨k,hk,rfl,rfl,hb⟩:=hrel;have Hb:=η34 hb;clear hb;by_cases hlt:k<m
  ·obtain ⟨b,off,ai,ni,ci,rfl,c1,r1⟩:=(HG3.out.ext Hb.out).at hlt
   have hkT:k<T.length:=by have:=HTN.out;omega
   have hnext:=q5W q0r T [] k hkT;have hrows: ∀x∈T.getD k [],0≤x∧x≤1000000:=HTR.out k;have hpl:=HFL.out k;have hrl:(T.getD k []).length≤40:=by have:=q7y T k;have:=HTF.out;omega
   generalize T.getD k []=R at*;generalize hP:q2h nx ck sd m++((T.take k).map q0r).flatten=P at*;have HNX:Hid (q2h nx ck sd m++((T.take (k+1)).map q0r).flatten=P++q0r R):=η34 (by rw[hnext,←List.append_assoc,hP]);have R1:=η34 r1;have g1:=r1.fits;have g2:=r1.bound;have g3:=r1.len;have hni:ni≤40:=by omega
   have HR:=η34 hrows;have G3:=η34 g3;clear r1 hnext hP hrows g3;go_wp2_with fail;have hc:=q6j (ni:Int) 1 wr (by omega) (by omega) (by omega) (by omega);rw[Int.toNat_natCast] at hc;refine hc.mono ?_;clear hc;rintro e w4 ⟨rfl,hb4⟩;have HB4:=η34 (Hb.out.trans hb4);have R1':=η34 (R1.out.ext hb4);clear hb4;have hs1:(({data:=P.toArray}++{data:=(be 1 ni).toArray}):ByteArray)=⟨(P++(be 1 ni++((R.take 0).map fun x=>be 4 x.toNat).flatten)).toArray⟩:=by
    rw[ByteArray.mk_append_mk];simp
   have HS1:=η34 hs1;clear hs1;have hb1:=q0H 1 ni;go_wp2_with fail
   go_loopw [5,49] (fun s i w'=> ∃j:Nat,j≤ni∧i= .int .i64 j∧s= .string ⟨(P++(be 1 ni++((R.take j).map fun x=>be 4 x.toNat).flatten)).toArray⟩∧Ext w4 w') (fun _ i _=>ni-(intOf i).toNat)
   case atStart=>exact ⟨0,Nat.zero_le _,rfl,by rw[HS1.out],Ext.refl _⟩
   case round=>
    obtain ⟨j,hj,rfl,rfl,hb5⟩:=hrel;have Hb5:=η34 hb5;clear hb5;by_cases hjl:j<ni
    ·obtain ⟨b',off',rfl,d1⟩:=(R1'.out.ext Hb5.out).at hjl
     have hjR:j<R.length:=by have:=G3.out;omega
     have hnx:=q5W (fun x:Int=>be 4 x.toNat) R 0 j hjR;have hx:=HR.out _ (q3h R j hjR);have hql:(P++(be 1 ni++((R.take j).map fun x=>be 4 x.toNat).flatten)).length≤500:=by
      rw[List.length_append,List.length_append,hb1,q6D];have:=List.length_take_le j R;omega
     generalize R.getD j 0=X at*;have HQ:Hid (P++(be 1 ni++((R.take (j+1)).map fun x=>be 4 x.toNat).flatten)=(P++(be 1 ni++((R.take j).map fun x=>be 4 x.toNat).flatten))++be 4 X.toNat):=η34 (by rw[hnx];simp);generalize P++(be 1 ni++((R.take j).map fun x=>be 4 x.toNat).flatten)=Q at*;obtain ⟨x1,x2⟩:=hx;clear hnx;go_wp2_with fail;refine (q6j X 4 _ (by omega) (by omega) (by omega) (by omega)).mono ?_;rintro e w5 ⟨rfl,hb6⟩;have HB6:=η34 (Hb5.out.trans hb6);have hb4:=q0H 4 X.toNat;clear hb6;go_wp2_with fail
     go_roundw
     case rel=>exact ⟨j+1,by omega,by go_num,by rw[HQ.out,←ByteArray.mk_append_mk],HB6.out⟩
     case measure=>simp[intOf];omega
    ·have hjn:R.take j=R:=List.take_of_length_le (by have:=G3.out;omega)
     have HJN:=η34 hjn;clear hjn;go_wp2_with fail
     go_roundw
     case rel=>exact ⟨k+1,by omega,by go_num,by rw[HNX.out,HJN.out];unfold q0r;rw[G3.out],HB4.out.trans Hb5.out⟩
     case measure=>simp[intOf];omega
  ·have hkm:k=m:=by omega
   have hTk:T.take k=T:=List.take_of_length_le (by have:=HTN.out;omega);have hbody:q2h nx ck sd m++((T.take k).map q0r).flatten=q1r nx ck sd L:=by rw[HBody.out,HTN.out,hTk]
   rw[hbody];have hbl:(q1r nx ck sd L).length≤300:=by have:=HFL.out k;rwa [hbody] at this
   clear hbody hkm hTk;go_wp2_with fail;refine (z2K _ _ (by omega)).mono ?_;rintro e w6 ⟨rfl,hb6⟩;have HB6:=η34 (Hb.out.trans hb6);clear hb6;go_wp2_with fail;go_ret2;exact ⟨by rw[HV.out];rfl,(q0B _ _).trans (HB3.out.trans HB6.out)⟩
end
section
open Go.RowKit
end
section
open Go.RowKit
end
section
open Go.RowKit
theorem q3f {w w':World} (h:Ext w w') {a:Addr} {u:Value} (hc:w.cell? a=some u) (hz:w.frozen? a=false):w'.frozen? a=false:=
 (h.frozen (World.block_lt_of_cell? (h:=hc))).trans hz
theorem Own.setBelow {w:World} {B:Nat} {e:TypeId} {size:Nat} {v:Value} {n:Nat} {cs:List Value} (h:Own w B e size v n cs) {g:Nat} (hg:g<B) (k:Nat) (u:Value):Own (w.setCell ⟨g,k,none⟩ u) B e size v n cs:=
 h.setOther u fun hb=>by have:=(h.lt _ hb).1;simp at this;omega
theorem OGr.setBelow {w:World} {B:Nat} {tO tI:TypeId} {v:Value} {vs:List Value} {L:List (List Int)} (h:OGr w B tO tI v vs L) {g:Nat} (hg:g<B) (k:Nat) (u:Value):OGr (w.setCell ⟨g,k,none⟩ u) B tO tI v vs L:=
 ⟨h.own.setBelow hg k u,fun i=>(h.row i).setBelow hg k u,h.sep⟩
theorem z9c (l:List UInt8) (ok:Bool) (g:Nat) (k:Int) (w:World) (c0:w.cell? ⟨g,0,none⟩=some (.string ⟨l.toArray⟩)) (c1:w.cell? ⟨g,1,none⟩=some (.bool ok)) (z0:w.frozen? ⟨g,0,none⟩=false) (z1:w.frozen? ⟨g,1,none⟩=false) (_hl:l.length≤9223372036854775807) (_hk0:0≤k) (hk:(l.length:Int)<k):
  Calls Tryz.prog 263 #[.pointer (some ⟨g,0,none⟩),.int .i64 k] w fun e w'=>e= .returned (.int .u64 0)∧w'=(w.setCell ⟨g,0,none⟩ (.string ⟨#[]⟩)).setCell ⟨g,1,none⟩ (.bool false):=by
 go_enter Tryz.func263,Tryz.ntmps263;go_wp2_with fail;go_ret;exact ⟨rfl,rfl⟩
theorem z7C (l:List UInt8) (g:Nat) (k:Nat) (w:World) (c0:w.cell? ⟨g,0,none⟩=some (.string ⟨l.toArray⟩)) (z0:w.frozen? ⟨g,0,none⟩=false) (_hl:l.length≤9223372036854775807) (hk:k≤l.length) (h8:k≤8):
  Calls Tryz.prog 263 #[.pointer (some ⟨g,0,none⟩),.int .i64 k] w fun e w'=>e= .returned (.int .u64 (q1H (l.take k)))∧ ∃w1,Ext w w1∧w'=w1.setCell ⟨g,0,none⟩ (.string ⟨(l.drop k).toArray⟩):=by
 go_enter Tryz.func263,Tryz.ntmps263;have hlt:(l.take k).length≤9223372036854775807:=by simp;omega
 have ht:(l.take k).take 8=l.take k:=by rw[List.take_take];congr 1;omega
 have HT:=η34 ht;clear ht;go_wp2_with fail;refine (q9Z _ _ hlt).mono ?_;rw[HT.out];rintro e w1 ⟨rfl,hb⟩;have c1:=q0A hb c0;have z1:=q3f hb c0 z0;have HB:=η34 hb;clear hb;go_wp2_with fail;go_ret;exact ⟨rfl,w1,HB.out,rfl⟩
structure Off (g:Nat) (w w':World):Prop where
 os:w'.os=w.os
 tape:w'.tape=w.tape
 output:w'.output=w.output
 size:w.heap.size≤w'.heap.size
 block: ∀i,i<w.heap.size→i≠g→w'.heap[i]? =w.heap[i]?
theorem Off.refl (g:Nat) (w:World):Off g w w:=⟨rfl,rfl,rfl,Nat.le_refl _,fun _ _ _=>rfl⟩
theorem Off.trans {g:Nat} {a b c:World} (h:Off g a b) (k:Off g b c):Off g a c:=
 ⟨k.os.trans h.os,k.tape.trans h.tape,k.output.trans h.output,Nat.le_trans h.size k.size,fun i hi hn=>(k.block i (Nat.lt_of_lt_of_le hi h.size) hn).trans (h.block i hi hn)⟩
theorem Off.of_ext {g:Nat} {w w':World} (h:Ext w w'):Off g w w':=⟨h.os,h.tape,h.output,h.size,fun i hi _=>h.block i hi⟩
theorem Off.set {g:Nat} (w:World) (k:Nat) (u:Value):Off g w (w.setCell ⟨g,k,none⟩ u):=
 ⟨rfl,rfl,rfl,by simp[World.setCell],fun i _ hn=>Below.heap_setCell _ _ _ _ hn⟩
theorem Off.ext {g:Nat} {w0 w w':World} (h:Ext w0 w) (hg:w0.heap.size≤g) (k:Off g w w'):Ext w0 w':=
 ⟨k.os.trans h.os,k.tape.trans h.tape,k.output.trans h.output,Nat.le_trans h.size k.size,fun i hi=>(k.block i (Nat.lt_of_lt_of_le hi h.size) (by omega)).trans (h.block i hi)⟩
theorem Off.below {g B:Nat} {w0 w w':World} (h:Below B w0 w) (hg:B≤g) (hs:B≤w.heap.size) (k:Off g w w'):Below B w0 w':=
 ⟨k.os.trans h.os,k.tape.trans h.tape,k.output.trans h.output,Nat.le_trans h.size k.size,fun i hi=>(k.block i (by omega) (by omega)).trans (h.block i hi)⟩
theorem Off.own {g:Nat} {w w':World} {B:Nat} {e:TypeId} {size:Nat} {v:Value} {n:Nat} {cs:List Value} (h:Own w B e size v n cs) (hg:g<B) (k:Off g w w'):Own w' B e size v n cs:=
 h.same fun i hb=>k.block i (h.lt i hb).2 (by have:=(h.lt i hb).1;omega)
theorem Off.ogr {g:Nat} {w w':World} {B:Nat} {tO tI:TypeId} {v:Value} {vs:List Value} {L:List (List Int)} (h:OGr w B tO tI v vs L) (hg:g<B) (k:Off g w w'):OGr w' B tO tI v vs L:=
 ⟨Off.own h.own hg k,fun i=>Off.own (h.row i) hg k,h.sep⟩
theorem Off.grown {g B:Nat} {e:TypeId} {size:Nat} {v:Value} {n:Nat} {xs:List Value} {w0 w w':World} (h:Off g w0 w) (hown:Own w B e size v n xs) (hg:w.grownBy w' v.ownBlock) (hB:w0.heap.size≤B):Off g w0 w':=
 ⟨hg.os.trans h.os,hg.tape.trans h.tape,hg.output.trans h.output,Nat.le_trans h.size hg.size,fun i hi hn=>(hg.block i (Nat.lt_of_lt_of_le hi h.size) (fun e=>by have:=(hown.lt i e.symm).1;omega)).trans (h.block i hi hn)⟩
def Rdr (w:World) (g:Nat) (s:List UInt8) (ok:Bool):Prop:=w.heap[g]? =some (.cells #[.string ⟨s.toArray⟩,.bool ok] 345 (0,0))
theorem Rdr.c0 {w:World} {g:Nat} {s:List UInt8} {ok:Bool} (h:Rdr w g s ok):w.cell? ⟨g,0,none⟩=some (.string ⟨s.toArray⟩):=by unfold Rdr at h;simp[World.cell?,h]
theorem Rdr.c1 {w:World} {g:Nat} {s:List UInt8} {ok:Bool} (h:Rdr w g s ok):w.cell? ⟨g,1,none⟩=some (.bool ok):=by unfold Rdr at h;simp[World.cell?,h]
theorem Rdr.z0 {w:World} {g:Nat} {s:List UInt8} {ok:Bool} (h:Rdr w g s ok):w.frozen? ⟨g,0,none⟩=false:=by unfold Rdr at h;simp[World.frozen?,h]
theorem Rdr.z1 {w:World} {g:Nat} {s:List UInt8} {ok:Bool} (h:Rdr w g s ok):w.frozen? ⟨g,1,none⟩=false:=by unfold Rdr at h;simp[World.frozen?,h]
theorem Rdr.same {w w':World} {g:Nat} {s:List UInt8} {ok:Bool} (h:Rdr w g s ok) (k:w'.heap[g]? =w.heap[g]?):Rdr w' g s ok:=k.trans h
theorem Rdr.lt {w:World} {g:Nat} {s:List UInt8} {ok:Bool} (h:Rdr w g s ok):g<w.heap.size:=World.block_lt_of_cell? (h:=h.c0)
theorem Rdr.ext {w w':World} {g:Nat} {s:List UInt8} {ok:Bool} (h:Rdr w g s ok) (k:Ext w w'):Rdr w' g s ok:=h.same (k.block g h.lt)
def q3K (k:Nat) (s:List UInt8):Nat:=if s.length<k then 0 else q1H (s.take k)
def q1n (k:Nat) (s:List UInt8):List UInt8:=if s.length<k then [] else s.drop k
def q2w (k:Nat) (s:List UInt8) (ok:Bool):Bool:=if s.length<k then false else ok
theorem q8J (l:List UInt8) (ok:Bool) (g k:Nat) (N:Int) (w:World) (hN:N=(k:Int)) (h:Rdr w g l ok) (hl:l.length≤9223372036854775807) (h8:k≤8):
  Calls Tryz.prog 263 #[.pointer (some ⟨g,0,none⟩),.int .i64 N] w fun e w'=>e= .returned (.int .u64 (q3K k l))∧Rdr w' g (q1n k l) (q2w k l ok)∧Off g w w':=by
 subst hN;by_cases hk:l.length<k
 ·refine (z9c l ok g k w h.c0 h.c1 h.z0 h.z1 hl (by omega) (by omega)).mono ?_
  rintro e w' ⟨rfl,rfl⟩;refine ⟨by unfold q3K;rw[if_pos hk];rfl,?_,(Off.set _ _ _).trans (Off.set _ _ _)⟩;unfold q1n q2w Rdr;rw[if_pos hk,if_pos hk];unfold Rdr at h;simp[World.setCell,Array.getElem?_modify,h]
 ·refine (z7C l g k w h.c0 h.z0 hl (by omega) h8).mono ?_
  rintro e w' ⟨rfl,w1,hb,rfl⟩;have h1:=h.ext hb;refine ⟨by unfold q3K;rw[if_neg hk],?_,(Off.of_ext hb).trans (Off.set _ _ _)⟩;unfold q1n q2w Rdr;rw[if_neg hk,if_neg hk];unfold Rdr at h1;simp[World.setCell,Array.getElem?_modify,h1]
end
section
open Go.RowKit
def z1t :Nat→List UInt8→Bool→List Int→List Int×List UInt8×Bool
 |0,s,ok,acc=>(acc,s,ok)
 |i+1,s,ok,acc=>if ok then z1t i (q1n 4 s) (q2w 4 s ok) (acc++[(q3K 4 s:Int)]) else (acc,s,ok)
def q3z :Nat→List UInt8→Bool→List (List Int)→List (List Int)×List UInt8×Bool
 |0,s,ok,acc=>(acc,s,ok)
 |k+1,s,ok,acc=>if ok then q3z k (z1t (q3K 1 s) (q1n 1 s) (q2w 1 s ok) []).2.1 (z1t (q3K 1 s) (q1n 1 s) (q2w 1 s ok) []).2.2 (acc++[(z1t (q3K 1 s) (q1n 1 s) (q2w 1 s ok) []).1]) else (acc,s,ok)
theorem q4a (k:Nat) (s:List UInt8):q3K k s<256^k:=by
 unfold q3K
 split
 ·exact Nat.pow_pos (by decide)
 ·have:=q1t (s.take k)
  rwa [List.length_take,Nat.min_eq_left (by omega)] at this
theorem q4c (k:Nat) (s:List UInt8):(q1n k s).length≤s.length:=by unfold q1n;split<;>simp
structure q7P where
 nx:Int
 ck:Int
 sd:Int
 L:List (List Int)
 r:List UInt8
 ok:Bool
def q2k (s:List UInt8):q7P:=
 let r0:=s.drop 4
 let r1:=q1n 4 r0;let o1:=q2w 4 r0 true
 let r2:=q1n 4 r1;let o2:=q2w 4 r1 o1
 let r3:=q1n 8 r2;let o3:=q2w 8 r2 o2
 let r4:=q1n 1 r3;let o4:=q2w 1 r3 o3
 let p:=q3z (q3K 1 r3) r4 o4 []
 ⟨q3K 4 r0,q3K 4 r1,q3K 8 r2,p.1,p.2.1,p.2.2⟩
def z4m (x:Int):Prop:=0≤x∧x<4294967296
structure Got where
 nx:Int
 ck:Int
 sd:Int
 L:List (List Int)
 en:Int
def z4r :Got:=⟨0,0,0,[],90⟩
def q3S (t:List UInt8):Bool:=decide (4≤t.length)&&decide (t.take 4=[105,109,97,112])
def q2B (p:q7P) (s:List UInt8):Bool:=p.ok&&decide (p.r=[])&&q0g p.nx p.ck p.L&&decide ((q3J p.nx p.ck p.sd p.L).1=s)
def q3C (s:List UInt8):Got:=
 if q1v s&&q3S (q1j s) then (if q2B (q2k (q1j s)) s then ⟨(q2k (q1j s)).nx,(q2k (q1j s)).ck,(q2k (q1j s)).sd,(q2k (q1j s)).L,0⟩ else z4r) else z4r
def RetM (w:World) (g:Got) (e:Ending) (w':World):Prop:=
 ∃v vs,e= .returned (.tuple #[.agg #[.int .i64 g.nx,.int .i64 g.ck,.int .u64 g.sd,v],.int .i64 g.en])∧OGr w' w.heap.size 36 3 v vs g.L∧Ext w w'
theorem z3M {w w1:World} (h:Ext w w1) (g:Nat) (hg:w.heap.size≤g) (a b c d:Value):Ext w ((((w1.setCell ⟨g,0,none⟩ a).setCell ⟨g,1,none⟩ b).setCell ⟨g,2,none⟩ c).setCell ⟨g,3,none⟩ d):=
 Below.setCell (Below.setCell (Below.setCell (Below.setCell h hg a) hg b) hg c) hg d
theorem RetM.bad {w w1:World} (h:Ext w w1) (g:Nat) (hg:w.heap.size≤g) (s:List UInt8) (hs:q3C s=z4r) (a b c d:Value):
  RetM w (q3C s) (.returned (.tuple #[.agg #[.int .i64 0,.int .i64 0,.int .u64 0,.slice none 0 0],.int .i64 90])) ((((w1.setCell ⟨g,0,none⟩ a).setCell ⟨g,1,none⟩ b).setCell ⟨g,2,none⟩ c).setCell ⟨g,3,none⟩ d):=by
 rw[hs];exact ⟨_,_,rfl,OGr.nil _ _ _ _,z3M h g hg a b c d⟩
theorem z3e {w w1:World} {a b c d:Value} {t:TypeId} (h:Ext (w.alloc (.cells #[a,b,c,d] t)) w1):
  w1.frozen? ⟨w.heap.size,0,none⟩=false∧w1.frozen? ⟨w.heap.size,1,none⟩=false∧w1.frozen? ⟨w.heap.size,2,none⟩=false∧w1.frozen? ⟨w.heap.size,3,none⟩=false:=by
 have k:=z6A (w:=w) (Ext.refl (w.alloc (.cells #[a,b,c,d] t)));exact ⟨q3f h k.1 (by simp),q3f h k.2.1 (by simp),q3f h k.2.2.1 (by simp),q3f h k.2.2.2 (by simp)⟩
theorem z7K {t:List UInt8} (h:q3S t=false):(decide ((t.length:Int)<4)||!(t.take 4==[105,109,97,112]))=true:=by
 unfold q3S at h;rw[Bool.and_eq_false_iff,decide_eq_false_iff_not,decide_eq_false_iff_not] at h;rw[Bool.or_eq_true,decide_eq_true_iff];rcases h with h|h
 ·left;omega
 ·right;simpa using h
theorem q8O (m:Nat): ∀L:List (List Int),(∀r∈L,r.length≤m)→L.flatten.length≤m*L.length
 |[],_=>by simp
 | r::L,h=>by
  have h1:=h r (by simp);have h2:=q8O m L fun x hx=>h x (by simp[hx])
  simp only[List.flatten_cons,List.length_append,List.length_cons,Nat.mul_add];omega
def Mbx (w:World) (g:Nat) (a b c:Int) (v:Value):Prop:=w.heap[g]? =some (.cells #[.int .i64 a,.int .i64 b,.int .u64 c,v] 148 (0,0))
theorem Mbx.cs {w:World} {g:Nat} {a b c:Int} {v:Value} (h:Mbx w g a b c v):w.cell? ⟨g,0,none⟩=some (.int .i64 a)∧w.cell? ⟨g,1,none⟩=some (.int .i64 b)∧w.cell? ⟨g,2,none⟩=some (.int .u64 c)∧w.cell? ⟨g,3,none⟩=some v∧w.frozen? ⟨g,3,none⟩=false:=by
 unfold Mbx at h;simp[World.cell?,World.frozen?,h]
theorem Mbx.same {w w':World} {g:Nat} {a b c:Int} {v:Value} (h:Mbx w g a b c v) (k:w'.heap[g]? =w.heap[g]?):Mbx w' g a b c v:=k.trans h
theorem Mbx.lt {w:World} {g:Nat} {a b c:Int} {v:Value} (h:Mbx w g a b c v):g<w.heap.size:=World.block_lt_of_cell? (h:=h.cs.1)
theorem Mbx.set {w:World} {g:Nat} {a b c:Int} {v:Value} (h:Mbx w g a b c v) (u:Value):Mbx (w.setCell ⟨g,3,none⟩ u) g a b c u:=by
 unfold Mbx at h⊢;simp[World.setCell,Array.getElem?_modify,h]
theorem y0Y {x:Int} (h:z4m x):(Lit.int .i64 x).wf=true:=by
 obtain ⟨h1,h2⟩:=h;have e1:IntKind.i64.min= -9223372036854775808:=rfl;have e2:IntKind.i64.max=9223372036854775807:=rfl;simp[Lit.wf];omega
def z9D (r:List Int):Prop:=r.length≤255∧ ∀x∈r,z4m x
theorem q8T {m a:Nat} {s s2:List UInt8} {ok2:Bool} {acc:List (List Int)} {row:List Int} (ha:q3K 1 s=a) (hd:z1t a (q1n 1 s) (q2w 1 s true) []=(row,s2,ok2)):
  q3z (m+1) s true acc=q3z m s2 ok2 (acc++[row]):=by rw[q3z,if_pos rfl,ha,hd]
theorem z8C {m:Nat} {s:List UInt8} {acc:List (List Int)}:q3z m s false acc=(acc,s,false):=by
 cases m with
 |zero=>rfl
 |succ m=>rw[q3z];simp
theorem y0C {m:Nat} {s:List UInt8} {acc:List Int}:z1t m s false acc=(acc,s,false):=by
 cases m with
 |zero=>rfl
 |succ m=>rw[z1t];simp
theorem q8i {p:q7P} {s:List UInt8} (h:p.ok=false):q2B p s=false:=by unfold q2B;rw[h];rfl
theorem z4o {p:q7P} {s:List UInt8} (h:p.r≠[]):q2B p s=false:=by unfold q2B;rw[decide_eq_false h,Bool.and_false];rfl
theorem z5p {p:q7P} {s:List UInt8} (h:q0g p.nx p.ck p.L=false):q2B p s=false:=by unfold q2B;rw[h,Bool.and_false];rfl
theorem z6Q {p:q7P} {s:List UInt8} (h:(q3J p.nx p.ck p.sd p.L).1≠s):q2B p s=false:=by unfold q2B;rw[decide_eq_false h,Bool.and_false]
theorem z0V {p:q7P} {s:List UInt8} (h1:p.ok=true) (h2:p.r=[]) (h3:q0g p.nx p.ck p.L=true) (h4:(q3J p.nx p.ck p.sd p.L).1=s):q2B p s=true:=by unfold q2B;rw[h1,h3,decide_eq_true h2,decide_eq_true h4];rfl
structure Front (r0:List UInt8) (a1 a2 a3 a4:Nat) (r1 r2 r3 r4:List UInt8) (o1 o2 o3 o4:Bool):Prop where
 A1:q3K 4 r0=a1
 R1:q1n 4 r0=r1
 O1:q2w 4 r0 true=o1
 A2:q3K 4 r1=a2
 R2:q1n 4 r1=r2
 O2:q2w 4 r1 o1=o2
 A3:q3K 8 r2=a3
 R3:q1n 8 r2=r3
 O3:q2w 8 r2 o2=o3
 A4:q3K 1 r3=a4
 R4:q1n 1 r3=r4
 O4:q2w 1 r3 o3=o4
theorem Front.made (r0:List UInt8): ∃a1 a2 a3 a4 r1 r2 r3 r4 o1 o2 o3 o4,Front r0 a1 a2 a3 a4 r1 r2 r3 r4 o1 o2 o3 o4:=⟨_,_,_,_,_,_,_,_,_,_,_,_,⟨rfl,rfl,rfl,rfl,rfl,rfl,rfl,rfl,rfl,rfl,rfl,rfl⟩⟩
theorem Front.parse {t:List UInt8} {a1 a2 a3 a4:Nat} {r1 r2 r3 r4:List UInt8} {o1 o2 o3 o4:Bool} (h:Front (t.drop 4) a1 a2 a3 a4 r1 r2 r3 r4 o1 o2 o3 o4):
  q2k t=⟨a1,a2,a3,(q3z a4 r4 o4 []).1,(q3z a4 r4 o4 []).2.1,(q3z a4 r4 o4 []).2.2⟩:=by
 obtain ⟨rfl,rfl,rfl,rfl,rfl,rfl,rfl,rfl,rfl,rfl,rfl,rfl⟩:=h;rfl
theorem Front.b {r0:List UInt8} {a1 a2 a3 a4:Nat} {r1 r2 r3 r4:List UInt8} {o1 o2 o3 o4:Bool} (h:Front r0 a1 a2 a3 a4 r1 r2 r3 r4 o1 o2 o3 o4):
  (a1:Int)<4294967296∧(a2:Int)<4294967296∧(a3:Int)<18446744073709551616∧(a4:Int)<256∧r1.length≤r0.length∧r2.length≤r0.length∧r3.length≤r0.length∧r4.length≤r0.length:=by
 obtain ⟨rfl,rfl,rfl,rfl,rfl,rfl,rfl,rfl,rfl,rfl,rfl,rfl⟩:=h;have l1:=q4c 4 r0;have l2:=q4c 4 (q1n 4 r0);have l3:=q4c 8 (q1n 4 (q1n 4 r0));have l4:=q4c 1 (q1n 8 (q1n 4 (q1n 4 r0)));refine ⟨Int.ofNat_lt.2 (q4a 4 _),Int.ofNat_lt.2 (q4a 4 _),Int.ofNat_lt.2 (q4a 8 _),Int.ofNat_lt.2 (q4a 1 _),?_,?_,?_,?_⟩<;>omega
theorem y1Y (s : List UInt8) (w:World) (hl:s.length≤4611686018427387903):
  Calls Tryz.prog 222 #[.string ⟨s.toArray⟩] w (RetM w (q3C s)):=by
 have HBad1:Hid (q1v s=false→q3C s=z4r):=η34 (fun h=>by unfold q3C;rw[h];rfl);have HBad2:Hid (q3S (q1j s)=false→q3C s=z4r):=η34 (fun h=>by unfold q3C;rw[h,Bool.and_false];rfl);have HBad3:Hid (q2B (q2k (q1j s)) s=false→q3C s=z4r):=η34 (fun h=>by unfold q3C;rw[h];split<;>rfl);have HGood:Hid (q1v s=true→q3S (q1j s)=true→q2B (q2k (q1j s)) s=true→q3C s=⟨(q2k (q1j s)).nx,(q2k (q1j s)).ck,(q2k (q1j s)).sd,(q2k (q1j s)).L,0⟩):=η34 (fun h1 h2 h3=>by unfold q3C;rw[h1,h2,h3];rfl);have hot:(q1j s).length≤s.length:=by unfold q1j;split<;>simp
 generalize hOT:q1j s=t at*;have HOT:=η34 hOT;clear hOT;go_enter Tryz.func222,Tryz.ntmps222;go_wp2_with fail;refine (z2R s _ hl).mono ?_;rw[HOT.out];rintro e w1 ⟨rfl,hb⟩;obtain ⟨d0,d1,d2,d3⟩:=z6A hb;obtain ⟨z0,z1,z2,z3⟩:=z3e hb;have HB:=η34 hb;clear hb;by_cases ho:q1v s=false
 ·have HS:=η34 (HBad1.out ho)
  rw[ho];go_wp2_with fail
  ((try simp only[Exit.inBlock,Exit.then]);refine bodyPost_ret (v:= .tuple #[.agg #[_,_,_,_],_]) (by rw[results_cell_tmp rfl];go_simp;exact ⟨⟨rfl,rfl,rfl,rfl⟩,rfl⟩) rfl ?_)
  exact RetM.bad ((q0B _ _).trans HB.out) _ (Nat.le_refl _) s HS.out _ _ _ _
 have ho:q1v s=true:=by simpa using ho
 have HO:=η34 ho;rw[ho];clear ho;by_cases hf:q3S t=false
 ·have HS:=η34 (HBad2.out hf)
  have hf2:=z7K hf;clear hf;by_cases h4:t.length<4
  ·clear hf2
   go_wp2_with fail
   ((try simp only[Exit.inBlock,Exit.then]);refine bodyPost_ret (v:= .tuple #[.agg #[_,_,_,_],_]) (by rw[results_cell_tmp rfl];go_simp;exact ⟨⟨rfl,rfl,rfl,rfl⟩,rfl⟩) rfl ?_)
   exact RetM.bad ((q0B _ _).trans HB.out) _ (Nat.le_refl _) s HS.out _ _ _ _
  ·have hf3:(List.take 4 t==[105,109,97,112])=false:=by
    rw[Bool.or_eq_true,decide_eq_true_iff] at hf2;rcases hf2 with h|h
    ·omega
    ·simpa using h
   clear hf2;go_wp2_with fail
   ((try simp only[Exit.inBlock,Exit.then]);refine bodyPost_ret (v:= .tuple #[.agg #[_,_,_,_],_]) (by rw[results_cell_tmp rfl];go_simp;exact ⟨⟨rfl,rfl,rfl,rfl⟩,rfl⟩) rfl ?_)
   exact RetM.bad ((q0B _ _).trans HB.out) _ (Nat.le_refl _) s HS.out _ _ _ _
 have hf:q3S t=true:=by simpa using hf
 have HF:=η34 hf;have ⟨h4,hf4⟩:4≤t.length∧t.take 4=[105,109,97,112]:=by
  unfold q3S at hf;rw[Bool.and_eq_true,decide_eq_true_iff,decide_eq_true_iff] at hf;exact hf
 have HGood':=η34 (HGood.out HO.out HF.out);have HT4:Hid ((t.drop 4).length≤4611686018427387903):=η34 (by rw[List.length_drop];omega);obtain ⟨a1,a2,a3,a4,r1,r2,r3,r4,o1,o2,o3,o4,hfr⟩:=Front.made (t.drop 4);have HFr:=η34 hfr;clear hfr;have HBad3':=η34 (fun h=>HBad3.out h);have htl:t.length≤4611686018427387903:=by omega
 clear hf HGood HBad1 HBad2 HBad3 hot;have hG:(w.alloc (.cells #[.int .i64 0,.int .i64 0,.int .u64 0,.slice none 0 0] 148)).heap.size≤w1.heap.size:=HB.out.size;have HG:=η34 hG;clear hG;go_wp2_with fail;have hrd:Rdr (w1.alloc (.cells #[.string ⟨(t.drop 4).toArray⟩,.bool true] 345)) w1.heap.size (t.drop 4) true:=heap_alloc_new _ _;refine (q8J (t.drop 4) true _ 4 4 _ rfl hrd (by have:=HT4.out;omega) (by decide)).mono ?_;rw[HFr.out.A1,HFr.out.R1,HFr.out.O1];rintro e w2 ⟨rfl,hrd2,hof2⟩;have HRd2:=η34 hrd2;have HX2:=η34 (Off.ext (HB.out.trans (q0B _ _)) HG.out hof2);clear hrd hrd2 hof2;have b1:=HFr.out.b.1;have b2:=HFr.out.b.2.1;go_wp2_with fail;refine (q8J r1 o1 _ 4 4 _ rfl HRd2.out (by have:=HFr.out.b;have:=HT4.out;omega) (by decide)).mono ?_;rw[HFr.out.A2,HFr.out.R2,HFr.out.O2];rintro e w3 ⟨rfl,hrd3,hof3⟩;have HRd3:=η34 hrd3;have HX3:=η34 (Off.ext HX2.out HG.out hof3);clear hrd3 hof3
 go_wp2_with fail;refine (q8J r2 o2 _ 8 8 _ rfl HRd3.out (by have:=HFr.out.b;have:=HT4.out;omega) (by decide)).mono ?_;rw[HFr.out.A3,HFr.out.R3,HFr.out.O3];rintro e w4 ⟨rfl,hrd4,hof4⟩;have HRd4:=η34 hrd4;have HX4:=η34 (Off.ext HX3.out HG.out hof4);have hlt4:=hrd4.lt;clear hrd4 hof4;go_wp2_with fail;have hmb5:Mbx (w4.alloc (.cells #[.int .i64 a1,.int .i64 a2,.int .u64 a3,.slice none 0 0] 148)) w4.heap.size a1 a2 a3 (.slice none 0 0):=heap_alloc_new _ _;refine (q8J r3 o3 _ 1 1 _ rfl (HRd4.out.ext (q0B _ _)) (by have:=HFr.out.b;have:=HT4.out;omega) (by decide)).mono ?_;rw[HFr.out.A4,HFr.out.R4,HFr.out.O4];rintro e w5 ⟨rfl,hrd5,hof5⟩;have HMb5:=η34 (hmb5.same (hof5.block _ hmb5.lt (by omega)));have HRd5:=η34 hrd5;have HX5:=η34 (Off.ext (HX4.out.trans (q0B _ _)) HG.out hof5);have hlt5:w4.heap.size<w5.heap.size:=HMb5.out.lt;have b4:=HFr.out.b.2.2.2.1;have HRL:Hid (r4.length≤4611686018427387903):=η34 (by have:=HFr.out.b;have:=HT4.out;omega)
 clear hrd5 hof5 hmb5 HX2 HX3 HX4 HRd2 HRd3 HRd4 HOT hf4 w2 w3;go_wp2_with fail
 go_loopw [9] (fun i w'=> ∃(k:Nat) (s':List UInt8) (ok':Bool) (acc:List (List Int)) (v:Value) (vs:List Value),k≤a4∧i= .int .i64 k∧Rdr w' w1.heap.size s' ok'∧q3z (a4-k) s' ok' acc=q3z a4 r4 o4 []∧Mbx w' w4.heap.size a1 a2 a3 v∧OGr w' w5.heap.size 36 3 v vs acc∧acc.length=k∧(∀r∈acc,z9D r)∧s'.length≤4611686018427387903∧w5.heap.size≤w'.heap.size∧Ext (w.alloc (.cells #[.int .i64 0,.int .i64 0,.int .u64 0,.slice none 0 0] 148)) w') (fun i _=>a4-(intOf i).toNat)
 case atStart=>exact ⟨0,r4,o4,[],_,[],Nat.zero_le _,rfl,HRd5.out,rfl,HMb5.out,OGr.nil _ _ _ _,rfl,by simp,HRL.out,Nat.le_refl _,HX5.out⟩
 case round =>
  obtain ⟨k,s',ok',acc,v,vs,hk,rfl,hrd,hlev,hmb,hog,hal,hrows,hsl,hw5,hx⟩:=hrel;obtain ⟨ao,co,rfl⟩:=hog.own.slice;have hc1:=hrd.c1;have HRd:=η34 hrd;have HLev:=η34 hlev;have HMb:=η34 hmb;have HOg:=η34 hog;have HAl:=η34 hal;have HRows:=η34 hrows;have HSl:=η34 hsl;have HX:=η34 hx;have HW5:=η34 hw5;clear HRd5 HMb5 HX5 HRL;clear hrd hlev hmb hog hal hrows hsl hw5 hx;by_cases hkl:k<a4
  ·cases ok' with
   | false=>
    have HS:Hid (q3C s=z4r):=η34 (HBad3'.out (q8i (by rw[HFr.out.parse,←HLev.out,z8C])));clear d0 d1 d2 d3 z0 z1 z2 z3 b1 b2;obtain ⟨d0,d1,d2,d3⟩:=z6A HX.out;obtain ⟨z0,z1,z2,z3⟩:=z3e HX.out;go_wp2_with fail
    ((try simp only[Exit.inBlock,Exit.then]);refine bodyPost_ret (v:= .tuple #[.agg #[_,_,_,_],_]) (by rw[results_cell_tmp rfl];go_simp;exact ⟨⟨rfl,rfl,rfl,rfl⟩,rfl⟩) rfl ?_)
    exact RetM.bad ((q0B _ _).trans HX.out) _ (Nat.le_refl _) s HS.out _ _ _ _
   | true =>
    go_wp2_with fail;refine (q8J s' true _ 1 1 _ rfl HRd.out (by have:=HSl.out;omega) (by decide)).mono ?_;obtain ⟨a,ha⟩: ∃x,q3K 1 s'=x:=⟨_,rfl⟩
    have ba:(a:Int)<256:=by have:=q4a 1 s';rw[ha] at this;exact Int.ofNat_lt.2 this
    have HA:=η34 ha;rw[ha];clear ha;rintro e w6 ⟨rfl,hrd6,hof6⟩;have HRd6:=η34 hrd6;have HOf6:=η34 hof6;have HTL:Hid ((q1n 1 s').length≤4611686018427387903):=η34 (by have:=q4c 1 s';have:=HSl.out;omega);have hlt6:w1.heap.size<w6.heap.size:=hrd6.lt;have HS6:=η34 hof6.size;have HW6:Hid (w5.heap.size≤w6.heap.size):=η34 (by have:=HW5.out;have:=hof6.size;omega);clear hrd6 hof6;go_wp2_with fail
    go_loopw [10,11] (fun v10 i w'=> ∃(j:Nat) (s2:List UInt8) (ok2:Bool) (row:List Int),j≤a∧i= .int .i64 j∧Rdr w' w1.heap.size s2 ok2∧z1t j s2 ok2 row=z1t a (q1n 1 s') (q2w 1 s' true) []∧Own w' w6.heap.size 3 1 v10 row.length (row.map (Value.int .i64))∧row.length+j=a∧(∀x∈row,z4m x)∧s2.length≤4611686018427387903∧Off w1.heap.size w6 w') (fun _ i _=>(intOf i).toNat)
    case atStart=>exact ⟨a,_,_,[],Nat.le_refl _,rfl,HRd6.out,rfl,Own.nil _ _ _ _,by simp,by simp,HTL.out,Off.refl _ _⟩
    case round =>
     obtain ⟨j,s2,ok2,row,hj,rfl,hrd7,hlev7,hown7,hrl,hok7,hsl7,hof7⟩:=hrel;have hc7:=hrd7.c1;have HRd7:=η34 hrd7;have HLev7:=η34 hlev7;have HOwn7:=η34 hown7;have HOk7:=η34 hok7;have HSl7:=η34 hsl7;have HOf7:=η34 hof7;clear hrd7 hlev7 hown7 hok7 hsl7 hof7
     cases j with
     | zero =>
      have HD:Hid (z1t a (q1n 1 s') (q2w 1 s' true) []=(row,s2,ok2)):=η34 (by rw[←HLev7.out];rfl);have HOf:=η34 (HOf6.out.trans HOf7.out);obtain ⟨ai,ci,rfl⟩:=HOwn7.out.slice;have HMb7:=η34 (HMb.out.same (HOf.out.block _ HMb.out.lt (by omega)));have m1:=HMb7.out.cs;obtain ⟨_,_,_,m3,_⟩:=m1;have hout:=(Off.ogr HOg.out (show w1.heap.size<w5.heap.size by omega) HOf.out).ext (q0B _ (.cells #[.slice ai row.length ci] 36));have HOut:=η34 hout;clear hout;have hk255:acc.length≤255:=by have:=HAl.out;omega
      have HOwnR:=η34 HOwn7.out;have HRdR:=η34 HRd7.out;clear HOwn7 HRd7 HLev7 HTL HOf7 HRd6 HOf6 d0 d1 d2 d3 z0 z1 z2 z3 b1 b2 hc7 hc1;have hbz:w5.heap.size≤wr.heap.size:=by have:=HW5.out;have:=HOf.out.size;omega
      go_wp2_with (at_builtin;refine q0k rfl _ _ 146 rfl w5.heap.size 36 _ 1 24 Tryz.underlying146 Tryz.infoInts rfl (by decide) _ _ _ rfl HOut.out.own _ _ _ [.slice ai row.length ci] rfl rfl (fun h=>by cases h) (Rd.lit _ _ _) (by intro u hu;rw[List.mem_singleton.1 hu];rfl) (by omega) (by omega) (by simp;omega) ?_;intro v' w8 hown' hg _;obtain ⟨ap,cp,rfl⟩:=hown'.slice;have HMb8:=η34 ((HMb7.out.same ((q0B _ _).block _ HMb7.out.lt)).same (hg.block _ (by have:=HMb7.out.lt;simp;omega) (by intro e;have:=(HOut.out.own.lt _ e.symm).1;omega)));have ⟨_,_,_,m4,m5⟩:=HMb8.out.cs)
      have hrd8:Rdr w8 w1.heap.size s2 ok2:=(HRdR.out.ext (q0B _ _)).same (hg.block _ (by have:=HRdR.out.lt;simp;omega) (by intro e;have:=(HOut.out.own.lt _ e.symm).1;omega));have hb8:=q1W ((Off.below HX.out HG.out HX.out.size HOf.out).alloc (Nat.le_trans HX.out.size HOf.out.size) (.cells #[.slice ai row.length ci] 36)) (HOut.out.own.base (by have:=HG.out;omega)) hg (Nat.le_trans HX.out.size (Nat.le_trans HOf.out.size (q0B _ _).size));have hgr:=HOut.out.push (l:=row) (by decide) (HOwnR.out.ext ((Ext.refl _).alloc _)) (show w5.heap.size≤w6.heap.size from HW6.out) (fun j g hh=>Nat.lt_of_lt_of_le (HOg.out.lt j g hh) HS6.out) hown' hg;have HRd8:=η34 hrd8;have HB8:=η34 (Below.setCell hb8 (p:=⟨w4.heap.size,3,none⟩) (by have:=HG.out;show _≤w4.heap.size;omega) (.slice ap (acc.length+1) cp));have HGr:=η34 hgr;have hs8:=hg.size;have HS8:Hid (w5.heap.size≤w8.heap.size):=η34 (by simp at hs8;omega)
      clear hrd8 hb8 hgr hown' hg hs8;go_wp2_with fail
      go_roundw
      case rel=>
       refine ⟨k+1,s2,ok2,acc++[row],.slice ap (acc.length+1) cp,vs++[.slice ai row.length ci],by omega,by go_num,HRd8.out.same (Below.heap_setCell _ _ _ _ (show w1.heap.size≠w4.heap.size by omega)),?_,HMb8.out.set _,HGr.out.setBelow (by omega) _ _,by rw[List.length_append,HAl.out];rfl,?_,HSl7.out,Nat.le_trans HS8.out (Off.set (g:=w4.heap.size) w8 3 _).size,HB8.out⟩
       ·rw[←HLev.out]
        have e:a4-k=(a4-(k+1))+1:=by omega
        rw[e,q8T HA.out HD.out]
       ·intro r hr
        rw[List.mem_append,List.mem_singleton] at hr;rcases hr with hr|rfl
        ·exact HRows.out r hr
        ·exact ⟨by omega,HOk7.out⟩
      case measure=>simp[intOf];omega
     | succ j =>
      cases ok2 with
      | false =>
        have HD:Hid (z1t a (q1n 1 s') (q2w 1 s' true) []=(row,s2,false)):=η34 (by rw[←HLev7.out];exact y0C);have HOf:=η34 (HOf6.out.trans HOf7.out);obtain ⟨ai,ci,rfl⟩:=HOwn7.out.slice;have HMb7:=η34 (HMb.out.same (HOf.out.block _ HMb.out.lt (by omega)));have m1:=HMb7.out.cs;obtain ⟨_,_,_,m3,_⟩:=m1;have hout:=(Off.ogr HOg.out (show w1.heap.size<w5.heap.size by omega) HOf.out).ext (q0B _ (.cells #[.slice ai row.length ci] 36));have HOut:=η34 hout;clear hout;have hk255:acc.length≤255:=by have:=HAl.out;omega
        have HOwnR:=η34 HOwn7.out;have HRdR:=η34 HRd7.out;clear HOwn7 HRd7 HLev7 HTL HOf7 HRd6 HOf6 d0 d1 d2 d3 z0 z1 z2 z3 b1 b2 hc1;have hj0:(0:Int)<(j:Int)+1:=by omega
        have hbz:w5.heap.size≤wr.heap.size:=by have:=HW5.out;have:=HOf.out.size;omega
        go_wp2_with (at_builtin;refine q0k rfl _ _ 146 rfl w5.heap.size 36 _ 1 24 Tryz.underlying146 Tryz.infoInts rfl (by decide) _ _ _ rfl HOut.out.own _ _ _ [.slice ai row.length ci] rfl rfl (fun h=>by cases h) (Rd.lit _ _ _) (by intro u hu;rw[List.mem_singleton.1 hu];rfl) (by omega) (by omega) (by simp;omega) ?_;intro v' w8 hown' hg _;obtain ⟨ap,cp,rfl⟩:=hown'.slice;have HMb8:=η34 ((HMb7.out.same ((q0B _ _).block _ HMb7.out.lt)).same (hg.block _ (by have:=HMb7.out.lt;simp;omega) (by intro e;have:=(HOut.out.own.lt _ e.symm).1;omega)));have ⟨_,_,_,m4,m5⟩:=HMb8.out.cs)
        have hrd8:Rdr w8 w1.heap.size s2 false:=(HRdR.out.ext (q0B _ _)).same (hg.block _ (by have:=HRdR.out.lt;simp;omega) (by intro e;have:=(HOut.out.own.lt _ e.symm).1;omega));have hb8:=q1W ((Off.below HX.out HG.out HX.out.size HOf.out).alloc (Nat.le_trans HX.out.size HOf.out.size) (.cells #[.slice ai row.length ci] 36)) (HOut.out.own.base (by have:=HG.out;omega)) hg (Nat.le_trans HX.out.size (Nat.le_trans HOf.out.size (q0B _ _).size));have hgr:=HOut.out.push (l:=row) (by decide) (HOwnR.out.ext ((Ext.refl _).alloc _)) (show w5.heap.size≤w6.heap.size from HW6.out) (fun j g hh=>Nat.lt_of_lt_of_le (HOg.out.lt j g hh) HS6.out) hown' hg;have HRd8:=η34 hrd8;have HB8:=η34 (Below.setCell hb8 (p:=⟨w4.heap.size,3,none⟩) (by have:=HG.out;show _≤w4.heap.size;omega) (.slice ap (acc.length+1) cp));have HGr:=η34 hgr;have hs8:=hg.size;have HS8:Hid (w5.heap.size≤w8.heap.size):=η34 (by simp at hs8;omega)
        clear hrd8 hb8 hgr hown' hg hs8;go_wp2_with fail
        go_roundw
        case rel=>
         refine ⟨k+1,s2,false,acc++[row],.slice ap (acc.length+1) cp,vs++[.slice ai row.length ci],by omega,by go_num,HRd8.out.same (Below.heap_setCell _ _ _ _ (show w1.heap.size≠w4.heap.size by omega)),?_,HMb8.out.set _,HGr.out.setBelow (by omega) _ _,by rw[List.length_append,HAl.out];rfl,?_,HSl7.out,Nat.le_trans HS8.out (Off.set (g:=w4.heap.size) w8 3 _).size,HB8.out⟩
         ·rw[←HLev.out]
          have e:a4-k=(a4-(k+1))+1:=by omega
          rw[e,q8T HA.out HD.out]
         ·intro r hr
          rw[List.mem_append,List.mem_singleton] at hr;rcases hr with hr|rfl
          ·exact HRows.out r hr
          ·exact ⟨by omega,HOk7.out⟩
        case measure=>simp[intOf];omega
      | true =>
       obtain ⟨ai,ci,rfl⟩:=HOwn7.out.slice;have hrow:row.length≤255:=by omega
       have hj0:(0:Int)<(j:Int)+1:=by omega
       clear HRd6 HTL HS6 HW6 HMb HOg HRd HRows d0 d1 d2 d3 z0 z1 z2 z3 b1 b2 hc1;go_wp2_with fail;refine (q8J s2 true _ 4 4 _ rfl HRd7.out (by have:=HSl7.out;omega) (by decide)).mono ?_;obtain ⟨x,hxx⟩: ∃x,q3K 4 s2=x:=⟨_,rfl⟩
       have bx:(x:Int)<4294967296:=by have:=q4a 4 s2;rw[hxx] at this;exact Int.ofNat_lt.2 this
       have HXX:=η34 hxx;rw[hxx];clear hxx;rintro e w8 ⟨rfl,hrd8,hof8⟩;have HRd8:=η34 hrd8;have HOf8:=η34 (HOf7.out.trans hof8);have HOwnA:=η34 ((Off.own HOwn7.out hlt6 hof8).ext (q0B _ (.cells #[.int .i64 x] 3)));have hs8:=HOf8.out.size;clear hrd8 hof8 HRd7 HOwn7 hc7
       go_wp2_with (at_builtin;refine q0k rfl _ _ 36 rfl w6.heap.size 3 _ 1 8 Tryz.underlying36 Tryz.infoInt rfl (by decide) _ _ _ rfl HOwnA.out _ _ _ [.int .i64 x] rfl rfl (fun h=>by cases h) (Rd.lit _ _ _) (by intro u hu;rw[List.mem_singleton.1 hu];rfl) (by omega) (by omega) (Nat.le_trans hs8 (q0B _ _).size) ?_;intro v' w9 hown9 hg9 _)
       have hrd9:Rdr w9 w1.heap.size (q1n 4 s2) (q2w 4 s2 true):=(HRd8.out.ext (q0B _ _)).same (hg9.block _ (by have:=HRd8.out.lt;simp;omega) (by intro e;have:=(HOwnA.out.lt _ e.symm).1;omega));have hof9:=Off.grown (HOf8.out.trans (Off.of_ext (q0B _ _))) HOwnA.out hg9 (Nat.le_refl _);have hown9':Own w9 w6.heap.size 3 1 v' (row++[(x:Int)]).length ((row++[(x:Int)]).map (Value.int .i64)):=by rw[List.length_append,List.map_append];exact hown9
       have HRd9:=η34 hrd9;have HOf9:=η34 hof9;have HOwn9:=η34 hown9';clear hrd9 hof9 hown9' hown9 hg9 hs8;go_wp2_with fail
       go_roundw
       case rel=>
        refine ⟨j,q1n 4 s2,q2w 4 s2 true,row++[(x:Int)],by omega,by go_num,HRd9.out,?_,HOwn9.out,by simp;omega,?_,by have:=q4c 4 s2;have:=HSl7.out;omega,HOf9.out⟩
        ·rw[←HLev7.out,z1t,if_pos rfl,HXX.out]
        ·intro y hy
         rw[List.mem_append,List.mem_singleton] at hy;rcases hy with hy|rfl
         ·exact HOk7.out y hy
         ·exact ⟨by omega,bx⟩
       case measure=>simp[intOf]
  ·have hk':k=a4:=by omega
   have HE:Hid (q2k t=⟨a1,a2,a3,acc,s',ok'⟩):=η34 (by rw[HFr.out.parse,←HLev.out,hk',Nat.sub_self];rfl);clear hk';clear d0 d1 d2 d3 z0 z1 z2 z3 b1 b2
   cases ok' with
   | false=>
    have HS:Hid (q3C s=z4r):=η34 (HBad3'.out (q8i (by rw[HE.out])));obtain ⟨d0,d1,d2,d3⟩:=z6A HX.out;obtain ⟨z0,z1,z2,z3⟩:=z3e HX.out;go_wp2_with fail
    ((try simp only[Exit.inBlock,Exit.then]);refine bodyPost_ret (v:= .tuple #[.agg #[_,_,_,_],_]) (by rw[results_cell_tmp rfl];go_simp;exact ⟨⟨rfl,rfl,rfl,rfl⟩,rfl⟩) rfl ?_)
    exact RetM.bad ((q0B _ _).trans HX.out) _ (Nat.le_refl _) s HS.out _ _ _ _
   | true =>
    have hc0:=HRd.out.c0;obtain ⟨m0,m1,m2,m3,_⟩:=HMb.out.cs;by_cases hs:s'=[]
    ·subst hs
     obtain ⟨ao',co',he,hgr⟩:=HOg.out.grid
     cases he;have hsum:acc.flatten.length≤17592186044416:=by have:=q8O 255 acc fun r hr=>(HRows.out r hr).1;have:=HAl.out;omega
     have hoki: ∀x∈acc.flatten,z4m x:=fun x hx=>by obtain ⟨r,h1,h2⟩:=List.mem_flatten.1 hx;exact (HRows.out r h1).2 x h2
     have HGr:=η34 hgr;have HSum:=η34 hsum;have HOki:=η34 hoki;have B3:=η34 HFr.out.b.2.2.1;clear HLev HAl hgr hsum hoki;go_wp2_with fail;refine (q8p a1 a2 a3 _ _ _ acc _ HGr.out HSum.out (fun x hx=>y0Y (HOki.out x hx))).mono ?_;rintro e w8 ⟨rfl,hb8⟩;have HX8:=η34 (HX.out.trans hb8);have HG8:=η34 (HGr.out.ext hb8);have HB8:=η34 hb8;have m0':=q0A hb8 m0;have m1':=q0A hb8 m1;have m2':=q0A hb8 m2;have m3':=q0A hb8 m3;clear hb8 m0 m1 m2 m3 hc0 hc1;by_cases hv:q0g a1 a2 acc=false
     ·have HS:Hid (q3C s=z4r):=η34 (HBad3'.out (z5p (by rw[HE.out];exact hv)))
      rw[hv];obtain ⟨d0,d1,d2,d3⟩:=z6A HX8.out;obtain ⟨z0,z1,z2,z3⟩:=z3e HX8.out;go_wp2_with fail
      ((try simp only[Exit.inBlock,Exit.then]);refine bodyPost_ret (v:= .tuple #[.agg #[_,_,_,_],_]) (by rw[results_cell_tmp rfl];go_simp;exact ⟨⟨rfl,rfl,rfl,rfl⟩,rfl⟩) rfl ?_)
      exact RetM.bad ((q0B _ _).trans HX8.out) _ (Nat.le_refl _) s HS.out _ _ _ _
     have hv:q0g a1 a2 acc=true:=by simpa using hv
     have HV:=η34 hv;rw[hv];clear hv;go_wp2_with fail;refine (y1N a1 a2 a3 _ _ _ acc _ HG8.out HSum.out (fun x hx=>y0Y (HOki.out x hx)) (by omega) B3.out).mono ?_;obtain ⟨P,hP⟩: ∃P,q3J a1 a2 a3 acc=(P,0):=⟨_,by unfold q3J;rw[HV.out];rfl⟩
     have HP:=η34 hP;rw[hP];clear hP;rintro e w9 ⟨rfl,hb9⟩;have HX9:=η34 (HX8.out.trans hb9);have HB9:=η34 (HB8.out.trans hb9);have n0:=q0A hb9 m0';have n1:=q0A hb9 m1';have n2:=q0A hb9 m2';have n3:=q0A hb9 m3';obtain ⟨d0,d1,d2,d3⟩:=z6A HX9.out;obtain ⟨z0,z1,z2,z3⟩:=z3e HX9.out;clear hb9 m0' m1' m2' m3' HG8 HX8;by_cases hps:P=s
     ·have HS:Hid (q3C s=⟨a1,a2,a3,acc,0⟩):=η34 (by rw[HGood'.out (z0V (by rw[HE.out]) (by rw[HE.out]) (by rw[HE.out];exact HV.out) (by rw[HE.out];show (q3J a1 a2 a3 acc).1=s;rw[HP.out];exact hps)),HE.out])
      subst hps;go_wp2_with fail
      ((try simp only[Exit.inBlock,Exit.then]);refine bodyPost_ret (v:= .tuple #[.agg #[_,_,_,_],_]) (by rw[results_cell_tmp rfl];go_simp;exact ⟨⟨rfl,rfl,rfl,rfl⟩,rfl⟩) rfl ?_)
      have hw:w.heap.size<w5.heap.size:=by have:=HG.out;simp at this;omega
      rw[HS.out];exact ⟨.slice ao acc.length co,vs,rfl,((((HOg.out.ext HB9.out).setBelow hw _ _).setBelow hw _ _).setBelow hw _ _|>.setBelow hw _ _).base (by omega),z3M ((q0B _ _).trans HX9.out) _ (Nat.le_refl _) _ _ _ _⟩
     ·have HS:Hid (q3C s=z4r):=η34 (HBad3'.out (z6Q (by rw[HE.out];show (q3J a1 a2 a3 acc).1≠s;rw[HP.out];exact hps)))
      have hps':(P==s)=false:=by simpa using hps
      go_wp2_with fail
      ((try simp only[Exit.inBlock,Exit.then]);refine bodyPost_ret (v:= .tuple #[.agg #[_,_,_,_],_]) (by rw[results_cell_tmp rfl];go_simp;exact ⟨⟨rfl,rfl,rfl,rfl⟩,rfl⟩) rfl ?_)
      exact RetM.bad ((q0B _ _).trans HX9.out) _ (Nat.le_refl _) s HS.out _ _ _ _
    ·have HS:Hid (q3C s=z4r):=η34 (HBad3'.out (z4o (by rw[HE.out];exact hs)))
     have hs':(s'==[])=false:=by simpa using hs
     obtain ⟨d0,d1,d2,d3⟩:=z6A HX.out;obtain ⟨z0,z1,z2,z3⟩:=z3e HX.out;go_wp2_with fail
     ((try simp only[Exit.inBlock,Exit.then]);refine bodyPost_ret (v:= .tuple #[.agg #[_,_,_,_],_]) (by rw[results_cell_tmp rfl];go_simp;exact ⟨⟨rfl,rfl,rfl,rfl⟩,rfl⟩) rfl ?_)
     exact RetM.bad ((q0B _ _).trans HX.out) _ (Nat.le_refl _) s HS.out _ _ _ _
end
section
open Go.RowKit
end
section
open Go.RowKit
end
section
theorem q5p (k x:Nat) (r:List UInt8) (h:x<256^k):q3K k (be k x++r)=x∧q1n k (be k x++r)=r∧ ∀ok,q2w k (be k x++r) ok=ok:=by
 have hl:¬(be k x++r).length<k:=by simp[q0H]
 refine ⟨?_,?_,fun ok=>?_⟩
 ·unfold q3K
  rw[if_neg hl,List.take_left' (q0H k x),q4w,Nat.mod_eq_of_lt h]
 ·unfold q1n
  rw[if_neg hl,List.drop_left' (q0H k x)]
 ·unfold q2w
  rw[if_neg hl]
def b4 (x:Int):List UInt8:=be 4 x.toNat
theorem z2v : ∀(l:List Int) (r:List UInt8) (acc:List Int),(∀x∈l,z4m x)→z1t l.length ((l.map b4).flatten++r) true acc=(acc++l,r,true)
 |[],r,acc,_=>by simp[z1t]
 | x::l,r,acc,h=>by
  have hx:=h x (by simp);obtain ⟨h1,h2⟩:=hx;have ht:=q5p 4 x.toNat ((l.map b4).flatten++r) (by omega);have e:((x::l).map b4).flatten++r=be 4 x.toNat++((l.map b4).flatten++r):=by simp[b4]
  rw[List.length_cons,z1t,if_pos rfl,e,ht.1,ht.2.1,ht.2.2,z2v l r _ fun y hy=>h y (by simp[hy]),List.append_assoc,Int.toNat_of_nonneg h1]
  rfl
theorem z0S : ∀(T:List (List Int)) (r:List UInt8) (acc:List (List Int)),(∀l∈T,z9D l)→q3z T.length ((T.map q0r).flatten++r) true acc=(acc++T,r,true)
 |[],r,acc,_=>by simp[q3z]
 | l ::T,r,acc,h=>by
  have hl:=h l (by simp);have ht:=q5p 1 l.length ((l.map b4).flatten++((T.map q0r).flatten++r)) (by have:=hl.1;omega);have e:((l::T).map q0r).flatten++r=be 1 l.length++((l.map b4).flatten++((T.map q0r).flatten++r)):=by
   simp[q0r,List.append_assoc];rfl
  rw[List.length_cons,q3z,if_pos rfl,e,ht.1,ht.2.1,ht.2.2,z2v l _ [] hl.2];simp only[List.nil_append];rw[z0S T r _ fun y hy=>h y (by simp[hy]),List.append_assoc]
  rfl
theorem z0f (L:List (List Int)):(q0s L).length≤L.length:=by rw[q3L];exact q5X _ _
theorem z1f (L:List (List Int)):q0s (q0s L)=q0s L:=by
 apply z4z;rcases Nat.eq_zero_or_pos (q0s L).length with h|h
 ·exact .inl (List.eq_nil_of_length_eq_zero h)
 ·exact .inr (z4F L _ (by omega))
theorem q7G {L:List (List Int)} (h:q1h L=true):q1h (q0s L)=true:=by
 have hp:=q6P h;have hf:=q1i L;exact z0X _ (Nat.le_trans (z0f L) hp.1) (by rw[hf];exact hp.2.1) (by rw[hf];exact hp.2.2.1) (by rw[hf];exact hp.2.2.2)
theorem q4o {nx ck:Int} {L:List (List Int)} (h:q0g nx ck L=true):q0g nx ck (q0s L)=true:=by
 have hp:=q2Z h;rw[q8W hp.1 (q7G hp.2.1),q1i,List.all_eq_true];intro x hx
 simpa using hp.2.2 x hx
theorem z0D {nx ck sd:Int} {L:List (List Int)} (h:q0g nx ck L=true):q3J nx ck sd (q0s L)=q3J nx ck sd L:=by
 unfold q3J q1r;rw[if_pos (q4o h),if_pos h,z1f]
theorem z5F {nx ck:Int} {L:List (List Int)} (h:q0g nx ck L=true):(q0s L).length≤5∧ ∀l∈q0s L,z9D l:=by
 have hp:=q2Z h;have hv:=q6P (q7G hp.2.1);refine ⟨hv.1,fun l hl=>⟨?_,fun x hx=>?_⟩⟩
 ·have:l.length≤(q0s L).flatten.length:=(List.sublist_flatten_of_mem hl).length_le
  omega
 ·have hm:x∈(q0s L).flatten:=List.mem_flatten.2 ⟨l,hl,hx⟩
  have h0:=hv.2.2.1 x hm;rw[q1i] at hm;have h1:=hp.2.2 x hm;exact ⟨h0,by omega⟩
theorem q8Z {nx ck sd:Int} {L:List (List Int)} (h:q0g nx ck L=true):q3J nx ck sd L=(q1N (q1r nx ck sd L),0):=by unfold q3J;rw[if_pos h]
theorem q8c (nx ck sd:Int) (L:List (List Int)) (r:List UInt8):
  q1r nx ck sd L++r=[105,109,97,112]++(be 4 nx.toNat++(be 4 ck.toNat++(be 8 sd.toNat++(be 1 (q0s L).length++(((q0s L).map q0r).flatten++r))))):=by
 simp[q1r,q2h,List.append_assoc]
structure z5v (u:List UInt8) (a1 a2 a3 a4:Nat) (r4:List UInt8):Prop where
 f:u=[105,109,97,112]++(be 4 a1++(be 4 a2++(be 8 a3++(be 1 a4++r4))))
 b1:a1<256^4
 b2:a2<256^4
 b3:a3<256^8
 b4:a4<256^1
theorem z1V {u:List UInt8} {a1 a2 a3 a4:Nat} {r4:List UInt8} (h:z5v u a1 a2 a3 a4 r4):
  q2k u=⟨a1,a2,a3,(q3z a4 r4 true []).1,(q3z a4 r4 true []).2.1,(q3z a4 r4 true []).2.2⟩:=by
 obtain ⟨rfl,b1,b2,b3,b4⟩:=h;unfold q2k;have t1:=q5p 4 a1 (be 4 a2++(be 8 a3++(be 1 a4++r4))) b1;have t2:=q5p 4 a2 (be 8 a3++(be 1 a4++r4)) b2;have t3:=q5p 8 a3 (be 1 a4++r4) b3;have t4:=q5p 1 a4 r4 b4;have e:([105,109,97,112]++(be 4 a1++(be 4 a2++(be 8 a3++(be 1 a4++r4))))).drop 4=be 4 a1++(be 4 a2++(be 8 a3++(be 1 a4++r4))):=rfl;simp only[e,t1.1,t1.2.1,t1.2.2,t2.1,t2.2.1,t2.2.2,t3.1,t3.2.1,t3.2.2,t4.1,t4.2.1,t4.2.2]
theorem z4G {nx ck sd:Int} {L:List (List Int)} (h:q0g nx ck L=true) (h1:sd<18446744073709551616) (r:List UInt8):
  z5v (q1r nx ck sd L++r) nx.toNat ck.toNat sd.toNat (q0s L).length (((q0s L).map q0r).flatten++r):=by
 have hp:=q2Z h;have hr:=z5F h;exact ⟨q8c _ _ _ _ _,by omega,by omega,by omega,by omega⟩
theorem z3g {nx ck sd:Int} {L:List (List Int)} (h:q0g nx ck L=true) (h0:0≤sd) (h1:sd<18446744073709551616) (r:List UInt8):
  q2k (q1r nx ck sd L++r)=⟨nx,ck,sd,q0s L,r,true⟩:=by
 have hp:=q2Z h;have hr:=z5F h;rw[z1V (z4G h h1 r),z0S _ _ _ hr.2];simp only[List.nil_append,Int.toNat_of_nonneg hp.1.1,Int.toNat_of_nonneg hp.1.2.2.1,Int.toNat_of_nonneg h0]
theorem z5U (l:List UInt8):q1v (q1N l)=true∧q1j (q1N l)=l:=by
 have hl:=q1E l;have ht:(q1N l).take ((q1N l).length-4)=l:=by
  rw[hl,Nat.add_sub_cancel];unfold q1N;exact List.take_left
 have hb:q1v (q1N l)=true:=by
  unfold q1v;rw[ht,decide_eq_true (show 4≤(q1N l).length by omega),decide_eq_true rfl];rfl
 exact ⟨hb,by unfold q1j;rw[if_pos hb,ht]⟩
theorem z6n {nx ck sd:Int} {L:List (List Int)} (h:q0g nx ck L=true) (h0:0≤sd) (h1:sd<18446744073709551616):
  q3C (q1N (q1r nx ck sd L))=⟨nx,ck,sd,q0s L,0⟩:=by
 obtain ⟨o1,o2⟩:=z5U (q1r nx ck sd L);have hp:=z3g h h0 h1 [];rw[List.append_nil] at hp;have hf:q3S (q1r nx ck sd L)=true:=by
  have e:=q8c nx ck sd L [];rw[List.append_nil] at e;unfold q3S;rw[e,Bool.and_eq_true];exact ⟨by simp,by simp⟩
 unfold q3C;rw[o1,o2,hf,if_pos (by rfl),hp];have hk:q2B ⟨nx,ck,sd,q0s L,[],true⟩ (q1N (q1r nx ck sd L))=true:=
  z0V rfl rfl (q4o h) (by show (q3J nx ck sd (q0s L)).1=_;rw[z0D h,q8Z h])
 rw[hk,if_pos rfl]
end
section
end
end Go.Proofs.YthdekbmdkpcooaaGreatDoor
namespace Go.Proofs.YthdekbmdkpcooaaGreatDoor
section
open Go.RowKit
end
section
open Go.RowKit
end
section
open Go.RowKit
end
section
open Go.RowKit
end
end Go.Proofs.YthdekbmdkpcooaaGreatDoor
