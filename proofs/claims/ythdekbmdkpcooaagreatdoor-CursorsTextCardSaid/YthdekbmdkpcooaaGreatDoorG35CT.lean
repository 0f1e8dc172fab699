/- Walks. -/
import Derived.WalkSpells
import Derived.Test.YthdekbmdkpcooaaGreatDoorG34CT
import Derived.Test.YthdekbmdkpcooaaGreatDoorG5CT
set_option linter.unusedVariables false
set_option linter.unusedSimpArgs false
set_option maxRecDepth 100000
set_option maxHeartbeats 3200000
namespace Go.Proofs.YthdekbmdkpcooaaGreatDoor
theorem η35 {p:Prop} (h:p):Go.RowKit.Hid p:=Lib.hid h
section
open Go.RowKit
end
section
open Go.RowKit
end
section
open Go.RowKit
theorem z9t (ao:Option Addr) (n cap:Nat) (L:List (List Int)) (w:World) (hx:Grid w ao n cap L):
  Calls Tryz.prog 274 #[.slice ao n cap] w fun e w'=>e= .returned (.slice ao (q1n L n) cap)∧Ext w w':=by
 have Hx:=η35 hx;have b1:=hx.fits;have b2:=hx.bound;clear hx;go_enter Tryz.func274,Tryz.ntmps274;go_wp2_with fail
 go_loopw [0] (fun v w'=> ∃m:Nat,m≤n∧v= .slice ao m cap∧q1n L m=q1n L n∧Ext w w') (fun v _=>y1g v)
 case atStart=>exact ⟨n,Nat.le_refl _,rfl,rfl,Ext.refl _⟩
 case round=>
  obtain ⟨m,hm,rfl,htn,hb⟩:=hrel;have HTN:=η35 htn;clear htn;have Hb:=η35 hb;clear hb
  cases m with
  | zero=>
   have ht:q1n L n=0:=HTN.out.symm;have HT:=η35 ht;clear ht;go_wp2_with fail;go_ret;exact ⟨by rw[HT.out];rfl,Hb.out⟩
  | succ m=>
   obtain ⟨b,off,ai,ni,ci,rfl,c1,r1⟩:=(Hx.out.ext Hb.out).at (show m<n by omega);have hR:=r1.len;have g1:=r1.fits;have g2:=r1.bound;have HR:=η35 hR;clear r1 hR;by_cases h0:ni=0
   ·have he:L.getD m []=[]:=List.eq_nil_of_length_eq_zero (by have:=HR.out;omega)
    have HE:=η35 he;clear he;subst h0;go_wp2_with fail
    go_roundw
    case rel=>exact ⟨m,by omega,rfl,by rw[←z1f L m HE.out];exact HTN.out,Hb.out⟩
    case measure=>simp[y1g]
   ·have hne:L.getD m []≠[]:=by intro h;have:=HR.out;rw[h] at this;simp at this;omega
    have hz:((ni:Int)==0)=false:=by simpa using h0
    have hT:q1n L n=m+1:=by rw[←HTN.out];exact q8C L m hne
    have HNE:=η35 hne;clear hne h0;have HT:=η35 hT;clear hT;go_wp2_with fail;go_ret;exact ⟨by rw[HT.out];rfl,Hb.out⟩
theorem Grid.cut {w:World} {ao:Option Addr} {n cap:Nat} {L:List (List Int)} (h:Grid w ao n cap L) {m:Nat} (hm:m≤n):Grid w ao m cap (L.take m):=by
 have hl:=h.len;have hlm:(L.take m).length=m:=by simp;omega
 refine ⟨hlm,Nat.le_trans hm h.fits,h.bound,h.nil,fun i hi=>?_⟩;obtain ⟨b,off,ai,ci,x1,x2,x3⟩:=h.rd i (by omega);rw[List.getElem_take];exact ⟨b,off,ai,ci,x1,x2,x3⟩
theorem Grid.trim {w:World} {ao:Option Addr} {n cap:Nat} {L:List (List Int)} (h:Grid w ao n cap L):Grid w ao (q1n L n) cap (q0p L):=by
 have e:q0p L=L.take (q1n L n):=by unfold q0p;rw[h.len]
 rw[e];exact h.cut (q5N L n)
def q0o (l:List Int):List UInt8:=be 1 l.length++(l.map fun x=>be 4 x.toNat).flatten
def q2c (nx ck sd:Int) (k:Nat):List UInt8:=[105,109,97,112]++be 4 nx.toNat++be 4 ck.toNat++be 8 sd.toNat++be 1 k
def q1o (nx ck sd:Int) (L:List (List Int)):List UInt8:=q2c nx ck sd (q0p L).length++((q0p L).map q0o).flatten
def q3H (nx ck sd:Int) (L:List (List Int)):List UInt8×Int:=if q0d nx ck L then (q1M (q1o nx ck sd L),0) else ([],2)
theorem q5x (l:List Int):(l.map fun x=>be 4 x.toNat).flatten.length=4*l.length:=by
 induction l with
 |nil=>rfl
 |cons x l ih=>simp only[List.map_cons,List.flatten_cons,List.length_append,ih,q0I,List.length_cons];omega
theorem q7J (l:List Int):(q0o l).length=1+4*l.length:=by
 unfold q0o;rw[List.length_append,q0I,q5x]
theorem q6X (T:List (List Int)):(T.map q0o).flatten.length=T.length+4*T.flatten.length:=by
 induction T with
 |nil=>rfl
 |cons x l ih=>simp only[List.map_cons,List.flatten_cons,List.length_append,ih,q7J,List.length_cons];omega
theorem q7c (nx ck sd:Int) (k:Nat):(q2c nx ck sd k).length=21:=by simp[q2c,q0I]
theorem q2U {nx ck:Int} {L:List (List Int)} (h:q0d nx ck L=true):(0≤nx∧nx≤1000000∧0≤ck∧ck≤2147483647)∧q1c L=true∧ ∀x∈L.flatten,x<nx:=by
 unfold q0d at h;rw[Bool.and_eq_true,Bool.and_eq_true] at h;exact ⟨of_decide_eq_true h.1.1,h.1.2,fun x hx=>of_decide_eq_true (List.all_eq_true.1 h.2 x hx)⟩
theorem q5U {α β:Type} (f:α→List β) (l:List α) (d:α) (k:Nat) (h:k<l.length):((l.take (k+1)).map f).flatten=((l.take k).map f).flatten++f (l.getD k d):=by
 rw[q0T l d k h];simp
theorem y0z (nx ck sd:Int) (ao:Option Addr) (n cap:Nat) (L:List (List Int)) (w:World) (hx:Grid w ao n cap L) (hsum:L.flatten.length≤17592186044416) (hwf: ∀x∈L.flatten,(Lit.int .i64 x).wf=true) (hs0:0≤sd) (hs1:sd<18446744073709551616):
  Calls Tryz.prog 243 #[.agg #[.int .i64 nx,.int .i64 ck,.int .u64 sd,.slice ao n cap]] w fun e w'=>e= .returned (.tuple #[.string ⟨(q3H nx ck sd L).1.toArray⟩,.int .i64 (q3H nx ck sd L).2])∧Ext w w':=by
 have Hx:=η35 hx;have HLen:=η35 hx.len;clear hx;go_enter Tryz.func243,Tryz.ntmps243;go_wp2_with fail;refine (q9G nx ck sd _ _ _ L _ (Hx.out.ext (q0B _ _)) hsum hwf).mono ?_;rintro e w1 ⟨rfl,hb⟩;obtain ⟨d0,d1,d2,d3⟩:=z4m hb;have HB:=η35 hb;clear hb hwf;by_cases hv:q0d nx ck L=false
 ·have HV:Hid (q3H nx ck sd L=([],2)):=η35 (by unfold q3H;rw[hv];rfl)
  go_wp2_with fail;go_ret2;exact ⟨by rw[HV.out];rfl,(q0B _ _).trans HB.out⟩
 have hv':q0d nx ck L=true:=by simpa using hv
 have HV:Hid (q3H nx ck sd L=(q1M (q1o nx ck sd L),0)):=η35 (by unfold q3H;rw[hv'];rfl);obtain ⟨⟨n1,n2,n3,n4⟩,hvb,hlt⟩:=q2U hv';obtain ⟨v1,v2,v3,_⟩:=(by unfold q1c at hvb;exact of_decide_eq_true hvb:L.length≤5∧L.flatten.length≤40∧(∀x∈L.flatten,0≤x)∧L.flatten.Nodup)
 have V2:=η35 v2;have V3:=η35 v3;have HLT:=η35 hlt;have hn5:n≤5:=by have:=HLen.out;omega
 clear hv hvb v1 v2 v3 hlt;go_wp2_with fail;refine (z9t _ _ _ L _ ((Hx.out.ext (q0B _ _)).ext HB.out)).mono ?_;rintro e w2 ⟨rfl,hb⟩;have HB2:=η35 (HB.out.trans hb);obtain ⟨e0,e1,e2,e3⟩:=z4m HB2.out;clear hb HB d0 d1 d2 d3;have f0:=q0F e0;have f1:=q0F e1;have f2:=q0F e2;have hT:(q0p L).length=q1n L n:=by rw[q3L,HLen.out]
 have htn:q1n L n≤n:=q5N L n;have hGT:Grid w2 ao (q1n L n) cap (q0p L):=((Hx.out.ext (q0B _ _)).ext HB2.out).trim;have HGT:=η35 hGT;have HTN:=η35 hT;have HHead:Hid (q2c nx ck sd (q1n L n)=[105,109,97,112]++be 4 nx.toNat++be 4 ck.toNat++be 8 sd.toNat++be 1 (q1n L n)):=η35 rfl;have hl4a:=q0I 4 nx.toNat;have hl4b:=q0I 4 ck.toNat;have hl8:=q0I 8 sd.toNat;have hl1:=q0I 1 (q1n L n);have tl5:q1n L n≤5:=by omega
 have HBody:Hid (q1o nx ck sd L=q2c nx ck sd (q0p L).length++((q0p L).map q0o).flatten):=η35 rfl;have hbt:cap≤9223372036854775807:=hGT.bound;have htc:q1n L n≤cap:=hGT.fits;have HTF:Hid ((q0p L).flatten.length≤40):=η35 (by rw[q1h];exact V2.out)
 have HTR:Hid (∀k,∀x∈(q0p L).getD k [],0≤x∧x≤1000000):=η35 (by
  intro k x hx;rw[q5j] at hx;have hxm:x∈L.flatten:=by
   rcases Nat.lt_or_ge k L.length with h|h
   ·rw[List.getD_eq_getElem?_getD,List.getElem?_eq_getElem h] at hx
    exact List.mem_flatten.2 ⟨_,List.getElem_mem h,hx⟩
   ·rw[q8h _ _ _ h] at hx;cases hx
  have:=V3.out x hxm;have:=HLT.out x hxm
  omega)
 clear hGT hT e0 e1 e2 e3;generalize q1n L n=m at*;generalize q0p L=T at*;go_wp2_with fail;refine q0E (by kernel_rfl) (by kernel_rfl) ?_
 repeat (go_big_quiet_step (first|exact Calls.quiet_ext (z3r _ _ 4 _ (by decide) (by omega) (by omega) (by omega) (by omega))|exact Calls.quiet_ext (z3r _ _ 8 _ (by decide) (by omega) (by omega) (by omega) (by omega))|exact Calls.quiet_ext (y0G _ _ 1 _ (by decide) (by omega) (by omega) (by omega))))
 refine wpQuiet_nil ?_;intro w3 hw3;have HB3:=η35 (HB2.out.trans hw3);have HG3:=η35 (HGT.out.ext hw3);have hst:(({data:=#[105,109,97,112]}++{data:=(be 4 nx.toNat).toArray}++{data:=(be 4 ck.toNat).toArray}++{data:=(be 8 sd.toNat).toArray}++{data:=(be 1 m).toArray}):ByteArray)=⟨(q2c nx ck sd m++((T.take 0).map q0o).flatten).toArray⟩:=by
  rw[HHead.out];have e0:({data:=#[105,109,97,112]}:ByteArray)=⟨([105,109,97,112]:List UInt8).toArray⟩:=rfl;rw[e0,ByteArray.mk_append_mk,ByteArray.mk_append_mk,ByteArray.mk_append_mk,ByteArray.mk_append_mk];simp
 have HST:=η35 hst;have hml:=q6X T;have HML:=η35 hml;have hfl: ∀k,(q2c nx ck sd m++((T.take k).map q0o).flatten).length≤300:=by
  intro k;rw[List.length_append,q7c,q6X];have h1:(T.take k).length≤T.length:=by simp;omega
  have h2:=q2A T k;have h3:=HTF.out;have h4:=HTN.out;omega
 have HFL:=η35 hfl;clear hw3 hst hml hfl HB2 HGT HHead f0 f1 f2 hl4a hl4b hl8 hl1;go_wp2_with fail
 go_loopw [5,37] (fun s i w'=> ∃k:Nat,k≤m∧i= .int .i64 k∧s= .string ⟨(q2c nx ck sd m++((T.take k).map q0o).flatten).toArray⟩∧Ext w3 w') (fun _ i _=>m-(intOf i).toNat)
 case atStart=>exact ⟨0,Nat.zero_le _,rfl,by rw[HST.out],Ext.refl _⟩
 case round =>
  obtain ⟨k,hk,rfl,rfl,hb⟩:=hrel;have Hb:=η35 hb;clear hb;by_cases hlt:k<m
  ·obtain ⟨b,off,ai,ni,ci,rfl,c1,r1⟩:=(HG3.out.ext Hb.out).at hlt
   have hkT:k<T.length:=by have:=HTN.out;omega
   have hnext:=q5U q0o T [] k hkT;have hrows: ∀x∈T.getD k [],0≤x∧x≤1000000:=HTR.out k;have hpl:=HFL.out k;have hrl:(T.getD k []).length≤40:=by have:=q7e T k;have:=HTF.out;omega
   generalize T.getD k []=R at*;generalize hP:q2c nx ck sd m++((T.take k).map q0o).flatten=P at*;have HNX:Hid (q2c nx ck sd m++((T.take (k+1)).map q0o).flatten=P++q0o R):=η35 (by rw[hnext,←List.append_assoc,hP]);have R1:=η35 r1;have g1:=r1.fits;have g2:=r1.bound;have g3:=r1.len;have hni:ni≤40:=by omega
   have HR:=η35 hrows;have G3:=η35 g3;clear r1 hnext hP hrows g3;go_wp2_with fail;have hc:=q6v (ni:Int) 1 wr (by omega) (by omega) (by omega) (by omega);rw[Int.toNat_natCast] at hc;refine hc.mono ?_;clear hc;rintro e w4 ⟨rfl,hb4⟩;have HB4:=η35 (Hb.out.trans hb4);have R1':=η35 (R1.out.ext hb4);clear hb4;have hs1:(({data:=P.toArray}++{data:=(be 1 ni).toArray}):ByteArray)=⟨(P++(be 1 ni++((R.take 0).map fun x=>be 4 x.toNat).flatten)).toArray⟩:=by
    rw[ByteArray.mk_append_mk];simp
   have HS1:=η35 hs1;clear hs1;have hb1:=q0I 1 ni;go_wp2_with fail
   go_loopw [5,49] (fun s i w'=> ∃j:Nat,j≤ni∧i= .int .i64 j∧s= .string ⟨(P++(be 1 ni++((R.take j).map fun x=>be 4 x.toNat).flatten)).toArray⟩∧Ext w4 w') (fun _ i _=>ni-(intOf i).toNat)
   case atStart=>exact ⟨0,Nat.zero_le _,rfl,by rw[HS1.out],Ext.refl _⟩
   case round=>
    obtain ⟨j,hj,rfl,rfl,hb5⟩:=hrel;have Hb5:=η35 hb5;clear hb5;by_cases hjl:j<ni
    ·obtain ⟨b',off',rfl,d1⟩:=(R1'.out.ext Hb5.out).at hjl
     have hjR:j<R.length:=by have:=G3.out;omega
     have hnx:=q5U (fun x:Int=>be 4 x.toNat) R 0 j hjR;have hx:=HR.out _ (q3j R j hjR);have hql:(P++(be 1 ni++((R.take j).map fun x=>be 4 x.toNat).flatten)).length≤500:=by
      rw[List.length_append,List.length_append,hb1,q5x];have:=List.length_take_le j R;omega
     generalize R.getD j 0=X at*;have HQ:Hid (P++(be 1 ni++((R.take (j+1)).map fun x=>be 4 x.toNat).flatten)=(P++(be 1 ni++((R.take j).map fun x=>be 4 x.toNat).flatten))++be 4 X.toNat):=η35 (by rw[hnx];simp);generalize P++(be 1 ni++((R.take j).map fun x=>be 4 x.toNat).flatten)=Q at*;obtain ⟨x1,x2⟩:=hx;clear hnx;go_wp2_with fail;refine (q6v X 4 _ (by omega) (by omega) (by omega) (by omega)).mono ?_;rintro e w5 ⟨rfl,hb6⟩;have HB6:=η35 (Hb5.out.trans hb6);have hb4:=q0I 4 X.toNat;clear hb6;go_wp2_with fail
     go_roundw
     case rel=>exact ⟨j+1,by omega,by go_num,by rw[HQ.out,←ByteArray.mk_append_mk],HB6.out⟩
     case measure=>simp[intOf];omega
    ·have hjn:R.take j=R:=List.take_of_length_le (by have:=G3.out;omega)
     have HJN:=η35 hjn;clear hjn;go_wp2_with fail
     go_roundw
     case rel=>exact ⟨k+1,by omega,by go_num,by rw[HNX.out,HJN.out];unfold q0o;rw[G3.out],HB4.out.trans Hb5.out⟩
     case measure=>simp[intOf];omega
  ·have hkm:k=m:=by omega
   have hTk:T.take k=T:=List.take_of_length_le (by have:=HTN.out;omega);have hbody:q2c nx ck sd m++((T.take k).map q0o).flatten=q1o nx ck sd L:=by rw[HBody.out,HTN.out,hTk]
   rw[hbody];have hbl:(q1o nx ck sd L).length≤300:=by have:=HFL.out k;rwa [hbody] at this
   clear hbody hkm hTk;go_wp2_with fail;refine (z1z _ _ (by omega)).mono ?_;rintro e w6 ⟨rfl,hb6⟩;have HB6:=η35 (Hb.out.trans hb6);clear hb6;go_wp2_with fail;go_ret2;exact ⟨by rw[HV.out];rfl,(q0B _ _).trans (HB3.out.trans HB6.out)⟩
end
section
open Go.RowKit
end
section
open Go.RowKit
end
section
open Go.RowKit
theorem q3b {w w':World} (h:Ext w w') {a:Addr} {u:Value} (hc:w.cell? a=some u) (hz:w.frozen? a=false):w'.frozen? a=false:=
 (h.frozen (World.block_lt_of_cell? (h:=hc))).trans hz
theorem Own.setBelow {w:World} {B:Nat} {e:TypeId} {size:Nat} {v:Value} {n:Nat} {cs:List Value} (h:Own w B e size v n cs) {g:Nat} (hg:g<B) (k:Nat) (u:Value):Own (w.setCell ⟨g,k,none⟩ u) B e size v n cs:=
 h.setOther u fun hb=>by have:=(h.lt _ hb).1;simp at this;omega
theorem OGr.setBelow {w:World} {B:Nat} {tO tI:TypeId} {v:Value} {vs:List Value} {L:List (List Int)} (h:OGr w B tO tI v vs L) {g:Nat} (hg:g<B) (k:Nat) (u:Value):OGr (w.setCell ⟨g,k,none⟩ u) B tO tI v vs L:=
 ⟨h.own.setBelow hg k u,fun i=>(h.row i).setBelow hg k u,h.sep⟩
theorem z8e (l:List UInt8) (ok:Bool) (g:Nat) (k:Int) (w:World) (c0:w.cell? ⟨g,0,none⟩=some (.string ⟨l.toArray⟩)) (c1:w.cell? ⟨g,1,none⟩=some (.bool ok)) (z0:w.frozen? ⟨g,0,none⟩=false) (z1:w.frozen? ⟨g,1,none⟩=false) (_hl:l.length≤9223372036854775807) (_hk0:0≤k) (hk:(l.length:Int)<k):
  Calls Tryz.prog 263 #[.pointer (some ⟨g,0,none⟩),.int .i64 k] w fun e w'=>e= .returned (.int .u64 0)∧w'=(w.setCell ⟨g,0,none⟩ (.string ⟨#[]⟩)).setCell ⟨g,1,none⟩ (.bool false):=by
 go_enter Tryz.func263,Tryz.ntmps263;go_wp2_with fail;go_ret;exact ⟨rfl,rfl⟩
theorem z7F (l:List UInt8) (g:Nat) (k:Nat) (w:World) (c0:w.cell? ⟨g,0,none⟩=some (.string ⟨l.toArray⟩)) (z0:w.frozen? ⟨g,0,none⟩=false) (_hl:l.length≤9223372036854775807) (hk:k≤l.length) (h8:k≤8):
  Calls Tryz.prog 263 #[.pointer (some ⟨g,0,none⟩),.int .i64 k] w fun e w'=>e= .returned (.int .u64 (q1F (l.take k)))∧ ∃w1,Ext w w1∧w'=w1.setCell ⟨g,0,none⟩ (.string ⟨(l.drop k).toArray⟩):=by
 go_enter Tryz.func263,Tryz.ntmps263;have hlt:(l.take k).length≤9223372036854775807:=by simp;omega
 have ht:(l.take k).take 8=l.take k:=by rw[List.take_take];congr 1;omega
 have HT:=η35 ht;clear ht;go_wp2_with fail;refine (q8S _ _ hlt).mono ?_;rw[HT.out];rintro e w1 ⟨rfl,hb⟩;have c1:=q0A hb c0;have z1:=q3b hb c0 z0;have HB:=η35 hb;clear hb;go_wp2_with fail;go_ret;exact ⟨rfl,w1,HB.out,rfl⟩
structure Off (g:Nat) (w w':World):Prop where
 os:w'.os=w.os
 tape:w'.tape=w.tape
 output:w'.output=w.output
 size:w.heap.size≤w'.heap.size
 block: ∀i,i<w.heap.size→i≠g→w'.heap[i]? =w.heap[i]?
theorem Off.refl (g:Nat) (w:World):Off g w w:=⟨rfl,rfl,rfl,Nat.le_refl _,fun _ _ _=>rfl⟩
theorem Off.trans {g:Nat} {a b c:World} (h:Off g a b) (k:Off g b c):Off g a c:=
 ⟨k.os.trans h.os,k.tape.trans h.tape,k.output.trans h.output,Nat.le_trans h.size k.size,fun i hi hn=>(k.block i (Nat.lt_of_lt_of_le hi h.size) hn).trans (h.block i hi hn)⟩
theorem Off.of_ext {g:Nat} {w w':World} (h:Ext w w'):Off g w w':=⟨h.os,h.tape,h.output,h.size,fun i hi _=>h.block i hi⟩
theorem Off.set {g:Nat} (w:World) (k:Nat) (u:Value):Off g w (w.setCell ⟨g,k,none⟩ u):=
 ⟨rfl,rfl,rfl,by simp[World.setCell],fun i _ hn=>Below.heap_setCell _ _ _ _ hn⟩
theorem Off.ext {g:Nat} {w0 w w':World} (h:Ext w0 w) (hg:w0.heap.size≤g) (k:Off g w w'):Ext w0 w':=
 ⟨k.os.trans h.os,k.tape.trans h.tape,k.output.trans h.output,Nat.le_trans h.size k.size,fun i hi=>(k.block i (Nat.lt_of_lt_of_le hi h.size) (by omega)).trans (h.block i hi)⟩
theorem Off.below {g B:Nat} {w0 w w':World} (h:Below B w0 w) (hg:B≤g) (hs:B≤w.heap.size) (k:Off g w w'):Below B w0 w':=
 ⟨k.os.trans h.os,k.tape.trans h.tape,k.output.trans h.output,Nat.le_trans h.size k.size,fun i hi=>(k.block i (by omega) (by omega)).trans (h.block i hi)⟩
theorem Off.own {g:Nat} {w w':World} {B:Nat} {e:TypeId} {size:Nat} {v:Value} {n:Nat} {cs:List Value} (h:Own w B e size v n cs) (hg:g<B) (k:Off g w w'):Own w' B e size v n cs:=
 h.same fun i hb=>k.block i (h.lt i hb).2 (by have:=(h.lt i hb).1;omega)
theorem Off.ogr {g:Nat} {w w':World} {B:Nat} {tO tI:TypeId} {v:Value} {vs:List Value} {L:List (List Int)} (h:OGr w B tO tI v vs L) (hg:g<B) (k:Off g w w'):OGr w' B tO tI v vs L:=
 ⟨Off.own h.own hg k,fun i=>Off.own (h.row i) hg k,h.sep⟩
theorem Off.grown {g B:Nat} {e:TypeId} {size:Nat} {v:Value} {n:Nat} {xs:List Value} {w0 w w':World} (h:Off g w0 w) (hown:Own w B e size v n xs) (hg:w.grownBy w' v.ownBlock) (hB:w0.heap.size≤B):Off g w0 w':=
 ⟨hg.os.trans h.os,hg.tape.trans h.tape,hg.output.trans h.output,Nat.le_trans h.size hg.size,fun i hi hn=>(hg.block i (Nat.lt_of_lt_of_le hi h.size) (fun e=>by have:=(hown.lt i e.symm).1;omega)).trans (h.block i hi hn)⟩
def Rdr (w:World) (g:Nat) (s:List UInt8) (ok:Bool):Prop:=w.heap[g]? =some (.cells #[.string ⟨s.toArray⟩,.bool ok] 345 (0,0))
theorem Rdr.c0 {w:World} {g:Nat} {s:List UInt8} {ok:Bool} (h:Rdr w g s ok):w.cell? ⟨g,0,none⟩=some (.string ⟨s.toArray⟩):=by unfold Rdr at h;simp[World.cell?,h]
theorem Rdr.c1 {w:World} {g:Nat} {s:List UInt8} {ok:Bool} (h:Rdr w g s ok):w.cell? ⟨g,1,none⟩=some (.bool ok):=by unfold Rdr at h;simp[World.cell?,h]
theorem Rdr.z0 {w:World} {g:Nat} {s:List UInt8} {ok:Bool} (h:Rdr w g s ok):w.frozen? ⟨g,0,none⟩=false:=by unfold Rdr at h;simp[World.frozen?,h]
theorem Rdr.z1 {w:World} {g:Nat} {s:List UInt8} {ok:Bool} (h:Rdr w g s ok):w.frozen? ⟨g,1,none⟩=false:=by unfold Rdr at h;simp[World.frozen?,h]
theorem Rdr.same {w w':World} {g:Nat} {s:List UInt8} {ok:Bool} (h:Rdr w g s ok) (k:w'.heap[g]? =w.heap[g]?):Rdr w' g s ok:=k.trans h
theorem Rdr.lt {w:World} {g:Nat} {s:List UInt8} {ok:Bool} (h:Rdr w g s ok):g<w.heap.size:=World.block_lt_of_cell? (h:=h.c0)
theorem Rdr.ext {w w':World} {g:Nat} {s:List UInt8} {ok:Bool} (h:Rdr w g s ok) (k:Ext w w'):Rdr w' g s ok:=h.same (k.block g h.lt)
def q3I (k:Nat) (s:List UInt8):Nat:=if s.length<k then 0 else q1F (s.take k)
def q1l (k:Nat) (s:List UInt8):List UInt8:=if s.length<k then [] else s.drop k
def q2w (k:Nat) (s:List UInt8) (ok:Bool):Bool:=if s.length<k then false else ok
theorem q7p (l:List UInt8) (ok:Bool) (g k:Nat) (N:Int) (w:World) (hN:N=(k:Int)) (h:Rdr w g l ok) (hl:l.length≤9223372036854775807) (h8:k≤8):
  Calls Tryz.prog 263 #[.pointer (some ⟨g,0,none⟩),.int .i64 N] w fun e w'=>e= .returned (.int .u64 (q3I k l))∧Rdr w' g (q1l k l) (q2w k l ok)∧Off g w w':=by
 subst hN;by_cases hk:l.length<k
 ·refine (z8e l ok g k w h.c0 h.c1 h.z0 h.z1 hl (by omega) (by omega)).mono ?_
  rintro e w' ⟨rfl,rfl⟩;refine ⟨by unfold q3I;rw[if_pos hk];rfl,?_,(Off.set _ _ _).trans (Off.set _ _ _)⟩;unfold q1l q2w Rdr;rw[if_pos hk,if_pos hk];unfold Rdr at h;simp[World.setCell,Array.getElem?_modify,h]
 ·refine (z7F l g k w h.c0 h.z0 hl (by omega) h8).mono ?_
  rintro e w' ⟨rfl,w1,hb,rfl⟩;have h1:=h.ext hb;refine ⟨by unfold q3I;rw[if_neg hk],?_,(Off.of_ext hb).trans (Off.set _ _ _)⟩;unfold q1l q2w Rdr;rw[if_neg hk,if_neg hk];unfold Rdr at h1;simp[World.setCell,Array.getElem?_modify,h1]
end
section
open Go.RowKit
end
section
open Go.RowKit
end
section
open Go.RowKit
end
section
open Go.RowKit
end
end Go.Proofs.YthdekbmdkpcooaaGreatDoor
