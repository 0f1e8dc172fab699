/- Walks. -/
import Derived.Test.YthdekbmdkpcooaaGreatDoorG7CT
import Derived.Test.YthdekbmdkpcooaaGreatDoorG8CT
import Derived.Laws.ResultCell
set_option linter.unusedVariables false
set_option linter.unusedSimpArgs false
set_option maxRecDepth 100000
set_option maxHeartbeats 12800000
namespace Go.Proofs.YthdekbmdkpcooaaGreatDoor
theorem η10 {p:Prop} (h:p):Go.RowKit.Hid p:=Lib.hid h
section
open Go.RowKit
theorem z7H (e:En) (w:World) (h:q3J e=true):Calls Tryz.prog 79 #[enV e] w fun r w'=>r= .returned (.string ⟨(q4B e).toArray⟩)∧Ext w w':=by
 obtain ⟨a0,a1,b0,b1,c0,c1⟩:=okEn_iff.1 h;obtain ⟨x,y,z⟩:=e;simp only at a0 a1 b0 b1 c0 c1;have hE:q4B (x,y,z)=be 8 x.toNat++(be 8 y.toNat++be 8 z.toNat):=rfl;have HE:=η10 hE;have l1:=q0I 8 x.toNat;have l2:=q0I 8 y.toNat;have l3:=q0I 8 z.toNat;have P1:=η10 (fun W=>q6v x 8 W (by omega) (by omega) a0 a1);have P2:=η10 (fun W=>q6v y 8 W (by omega) (by omega) b0 (by omega));have P3:=η10 (fun W=>q6v z 8 W (by omega) (by omega) c0 (by omega));generalize q4B (x,y,z)=EE at*;generalize be 8 x.toNat=X at*;generalize be 8 y.toNat=Y at*;generalize be 8 z.toNat=Z at*;have hw2:IntKind.u64.wrap y=y:=by rw[IntKind.wrap_u64];omega
 have hw3:IntKind.u64.wrap z=z:=by rw[IntKind.wrap_u64];omega
 have hbk:=Blk.new w 106 #[.int .u64 x,.int .i64 y,.int .i64 z];have e0:(w.alloc (.cells #[.int .u64 x,.int .i64 y,.int .i64 z] 106)).cell? ⟨w.heap.size,0,none⟩=some (.int .u64 x):=hbk.cell 0;have e1:(w.alloc (.cells #[.int .u64 x,.int .i64 y,.int .i64 z] 106)).cell? ⟨w.heap.size,1,none⟩=some (.int .i64 y):=hbk.cell 1;have e2:(w.alloc (.cells #[.int .u64 x,.int .i64 y,.int .i64 z] 106)).cell? ⟨w.heap.size,2,none⟩=some (.int .i64 z):=hbk.cell 2;have u0:=q0F e0;have u1:=q0F e1;have u2:=q0F e2;have q1:¬(9223372036854775807<X.length+Y.length):=by omega
 have q2:¬(9223372036854775807<(X++Y).length+Z.length):=by rw[List.length_append];omega
 have q3:¬(9223372036854775807<X.length+Y.length+Z.length):=by omega
 have HX:=η10 (q0B w (.cells #[.int .u64 x,.int .i64 y,.int .i64 z] 106));clear hbk hE e0 e1 e2 h;show Calls Tryz.prog 79 #[.agg #[.int .u64 x,.int .i64 y,.int .i64 z]] w _;go_enter Tryz.func79,Tryz.ntmps79;go_wp2_with fail;refine q0E (by kernel_rfl) (by kernel_rfl) ?_
 repeat (go_big_quiet_step (fail))
 go_big_quiet_step (exact Calls.quiet_ext (P1.out _))
 repeat (go_big_quiet_step (fail))
 go_big_quiet_step (exact Calls.quiet_ext (P2.out _))
 repeat (go_big_quiet_step (fail))
 go_big_quiet_step (exact Calls.quiet_ext (P3.out _))
 repeat (go_big_quiet_step (fail))
 refine wpQuiet_nil ?_;intro w2 hw;have HB2:=η10 (HX.out.trans hw);clear hw;go_wp2_with fail;go_ret;exact ⟨by rw[HE.out,q2i,q2i];simp,HB2.out⟩
end
section
open Go.RowKit
def q6C (e:En) (h v:Int):Bool:=decide (e.1<h)||(decide (e.1=h)&&decide (e.2.1<v))
theorem z3S {e:En} (h v:Int) (hp:0≤e.2.2):q6C e h v=q0e e (h,v,0):=by
 rw[Bool.eq_iff_iff,lessE_iff];unfold q6C;simp only[Bool.or_eq_true,Bool.and_eq_true,decide_eq_true_eq];omega
theorem z9s (e:En) (h v:Int) (w:World):
  Calls Tryz.prog 187 #[enV e,.int .u64 h,.int .i64 v] w fun r w'=>r= .returned (.bool (q6C e h v))∧Ext w w':=by
 obtain ⟨a,b,c⟩:=e;show Calls _ _ #[.agg #[.int .u64 a,.int .i64 b,.int .i64 c],_,_] _ _;have hbk:=Blk.new w 106 #[.int .u64 a,.int .i64 b,.int .i64 c];have HX:=η10 (q0B w (.cells #[.int .u64 a,.int .i64 b,.int .i64 c] 106));have c0:(w.alloc (.cells #[.int .u64 a,.int .i64 b,.int .i64 c] 106)).cell? ⟨w.heap.size,0,none⟩=some (.int .u64 a):=hbk.cell 0;have c1:(w.alloc (.cells #[.int .u64 a,.int .i64 b,.int .i64 c] 106)).cell? ⟨w.heap.size,1,none⟩=some (.int .i64 b):=hbk.cell 1;have h3:(decide (a<h)=true∧q6C (a,b,c) h v=true)∨(decide (a<h)=false∧(a==h)=false∧q6C (a,b,c) h v=false)∨(decide (a<h)=false∧(a==h)=true∧q6C (a,b,c) h v=decide (b<v)):=by
  unfold q6C;by_cases g1:a<h
  ·exact .inl ⟨decide_eq_true g1,by simp[g1]⟩
  ·by_cases g2:a=h
   ·exact .inr (.inr ⟨decide_eq_false g1,by simpa using g2,by simp[g1,g2]⟩)
   ·exact .inr (.inl ⟨decide_eq_false g1,by simpa using g2,by simp[g1,g2]⟩)
 clear hbk;rcases h3 with ⟨g1,he⟩|⟨g1,g2,he⟩|⟨g1,g2,he⟩
 all_goals
  rw[he];clear he;go_enter Tryz.func187,Tryz.ntmps187;go_wp2_with fail;go_ret;exact ⟨rfl,HX.out⟩
theorem q8R {ao:Option Addr} {n cap:Nat} {L:List En} (h v:Int) (w:World) (hx:Ens w ao n cap L) (hn:n≤1000000) (hs:q0q L) (ho: ∀e∈L,q3J e=true):
  Calls Tryz.prog 131 #[.slice ao n cap,.int .u64 h,.int .i64 v] w fun r w'=>r= .returned (.int .i64 (lbE L (h,v,0):Int))∧Ext w w':=by
 have Hx:=η10 hx;have HX0:=η10 (Ext.refl w);have HA:=η10 (fun e W=>z9s e h v W);have b1:=hx.fits;have b2:=hx.bound;have HAt:Hid (∀i,i<n→q6C (L.getD i en0) h v=decide (i<lbE L (h,v,0))):=η10 fun i hi=>by
  have hi':i<L.length:=by rw[hx.len];exact hi
  have hg:L.getD i en0=L[i]:=by rw[List.getD_eq_getElem?_getD,List.getElem?_eq_getElem hi'];rfl
  have hok:=ho _ (List.getElem_mem hi');rw[hg,z3S h v (by unfold q3J at hok;simp at hok;omega),q3Y (h,v,0) hs (List.getElem?_eq_getElem hi')]
 have hlb:=q4M L (h,v,0);rw[hx.len] at hlb;generalize lbE L (h,v,0)=lb at*;clear hx hs ho;go_enter Tryz.func131,Tryz.ntmps131
 go_wp2
 go_step3
 go_wp2
 go_step3
 go_wp2
 go_loopw [7,8] (fun i j W=> ∃lo hi:Nat,i= .int .i64 (lo:Int)∧j= .int .i64 (hi:Int)∧lo≤lb∧lb≤hi∧hi≤n∧Ext w W) (fun i j _=>(intOf j).toNat-(intOf i).toNat)
 case atStart=>exact ⟨0,n,rfl,rfl,Nat.zero_le _,hlb,Nat.le_refl _,HX0.out⟩
 case round=>
  obtain ⟨lo,hi,rfl,rfl,h1,h2,h3,hX⟩:=hrel;have HX:=η10 hX;clear hX;have q1:IntKind.i64.wrap ((hi:Int)-(lo:Int))=(hi:Int)-(lo:Int):=by rw[IntKind.wrap_i64];omega
  have q2:Int.tdiv ((hi:Int)-(lo:Int)) 2=((hi:Int)-(lo:Int))/2:=Int.tdiv_eq_ediv_of_nonneg (by omega);obtain ⟨m,hm⟩: ∃m,lo+(hi-lo)/2=m:=⟨_,rfl⟩
  have q3:(lo:Int)+((hi:Int)-(lo:Int))/2=(m:Int):=by omega
  have q4:IntKind.i64.wrap (((hi:Int)-(lo:Int))/2)=((hi:Int)-(lo:Int))/2:=by rw[IntKind.wrap_i64];omega
  have q5:IntKind.i64.wrap (m:Int)=(m:Int):=by rw[IntKind.wrap_i64];omega
  by_cases hlt:lo<hi
  ·have hd:decide ((hi:Int)≤(lo:Int))=false:=decide_eq_false (by omega)
   have q6:(m:Int)<(n:Int):=by omega
   obtain ⟨b,off,rfl,c0,c1,c2⟩:=(Hx.out.ext HX.out).at (show m<n by omega);have hat:=HAt.out m (by omega);have HAm:=η10 (HA.out (L.getD m en0));generalize L.getD m en0=e at*;obtain ⟨a,bb,c⟩:=e;rw[hat] at HAm;by_cases hml:m<lb
   ·rw[decide_eq_true hml] at HAm
    have q7:IntKind.i64.wrap ((m:Int)+1)=(m:Int)+1:=by rw[IntKind.wrap_i64];omega
    clear hat;go_wp2_with fail;refine (HAm.out _).mono ?_;rintro e w1 ⟨rfl,hb⟩;have HX1:=η10 (HX.out.trans hb);clear hb;go_wp2_with fail
    go_roundw
    case rel=>exact ⟨m+1,hi,by go_num,rfl,hml,h2,h3,HX1.out⟩
    case measure=>simp[intOf];omega
   ·rw[decide_eq_false hml] at HAm
    clear hat;go_wp2_with fail;refine (HAm.out _).mono ?_;rintro e w1 ⟨rfl,hb⟩;have HX1:=η10 (HX.out.trans hb);clear hb;go_wp2_with fail
    go_roundw
    case rel=>exact ⟨lo,m,rfl,rfl,h1,by omega,by omega,HX1.out⟩
    case measure=>simp[intOf];omega
  ·have hd:decide ((hi:Int)≤(lo:Int))=true:=decide_eq_true (by omega)
   obtain rfl:lo=lb:=by omega
   go_wp2_with fail;rw[Exit.noGoto_ret];go_ret;exact ⟨rfl,HX.out⟩
end
section
open Go.RowKit
theorem Tryz.infoEnH :(Tryz.prog.info? 106).map (fun i=>(i.zero,i.size,i.bytes))=some (some (.agg #[.int .u64 0,.int .i64 0,.int .i64 0]),3,24):=by kernel_rfl
theorem q8T {ao:Option Addr} {n cap:Nat} {K:List En} (w:World) (hx:Ens w ao n cap K) (hn:n≤1000000):
  Calls Tryz.prog 205 #[.slice ao n cap] w fun e w'=> ∃v,e= .returned v∧w'.ownsRow w.heap.size 106 3 v K.length (ecs K)∧Ext w w':=by
 have hq:=fun (w:World) (a:Option Addr) (n c n' c':Nat)=>Lib.run_eql_slice_nil (P:=Tryz.prog) w 180 106 a n c n' c' Tryz.underlying180
 have b1:=hx.fits;have b2:=hx.bound;have hl:=hx.len;have hnil:=hx.nil;obtain ⟨i,hi,hz,hsize,hby⟩:=info_parts Tryz.infoEnH;have HI:=η10 hi;have HZ:=η10 hz;have HSz:=η10 hsize;have HBy:=η10 hby;have HX0:=η10 (Ext.refl w)
 cases ao with
 | none=>
  obtain rfl:cap=0:=hnil rfl;obtain rfl:n=0:=by omega
  obtain rfl:K=[]:=List.eq_nil_of_length_eq_zero hl;clear hx hl hnil hi hz hsize hby;go_enter Tryz.func205,Tryz.ntmps205;go_wp2_with fail;go_ret;exact ⟨_,rfl,World.ownsRow_nil _ _ _ _,HX0.out⟩
 | some a=>
  have hrow0:(w.alloc (.cells #[] 106)).ownsRow w.heap.size 106 3 (.slice (some ⟨w.heap.size,0,none⟩) 0 0) 0 []:=⟨rfl,.inr ⟨w.heap.size,0,#[],rfl,Nat.le_refl _,Blk.new w _ _,Nat.le_refl _,by unfold maxLen;omega,rfl,rfl⟩⟩
  have HR0:=η10 hrow0;have HX1:=η10 (q0B w (.cells #[] 106));by_cases h0:n=0
  ·subst h0
   obtain rfl:K=[]:=List.eq_nil_of_length_eq_zero hl;clear hx hl hnil hi hz hsize hby hrow0;go_enter Tryz.func205,Tryz.ntmps205;go_wp2_with fail;go_ret;exact ⟨_,rfl,HR0.out,HX1.out⟩
  ·have HNews:Hid (∀j u,(ecs K)[j]? =some u→(w.alloc (.cells #[] 106)).cell? (a.add j)=some u):=η10 fun j u hj=>by
    obtain ⟨b,off,e,h⟩:=(hx.ext HX1.out).rd j u hj
    cases e;rw[Addr.add_lit];exact h
   have HL:=η10 hl;have HLe:Hid ((ecs K).length=n*3):=η10 (by rw[q1V,hl]);clear hx hl hnil hi hz hsize hby hrow0;go_enter Tryz.func205,Tryz.ntmps205
   go_wp2_with (at_builtin;refine wpList_append_lies _ rfl _ _ 180 rfl w.heap.size 106 i _ 3 24 Tryz.underlying180 HI.out HZ.out HSz.out HBy.out (by decide) (by decide) _ 0 [] (by simp[Act.eval]) HR0.out a n cap (ecs K) (by simp[Act.eval]) HLe.out HNews.out (q3c K) (by omega) (by unfold maxLen;omega) (by omega) HX1.out.size _ rfl ?_;intro g cap1 w1 hown hgrow hat hlt2;have HOw:=η10 hown;have HGr:=η10 hgrow;clear hown hgrow hat)
   go_wp2_with fail;go_ret;refine ⟨_,rfl,by have:=HOw.out;rw[HL.out];simpa using this,HX1.out.grown HGr.out HX1.out.size (fun q hq=>by cases hq;exact Nat.le_refl _)⟩
theorem z7g {ao:Option Addr} {n cap:Nat} {L:List En} (h a b:Int) (w:World) (hx:Ens w ao n cap L) (hn:n≤1000000) (hs:q0q L) (ho: ∀e∈L,q3J e=true):
  Calls Tryz.prog 217 #[.slice ao n cap,.int .u64 h,.int .i64 a,.int .i64 b] w fun r w'=> ∃v,r= .returned v∧w'.ownsRow w.heap.size 106 3 v (q0m L h a b).length (ecs (q0m L h a b))∧Ext w w':=by
 have HS:=η10 (q8R h a w hx hn hs ho);have Hx:=η10 hx;have b1:=hx.fits;have b2:=hx.bound;have hlen:=hx.len;have hnil:=hx.nil;have hlb:=q4M L (h,a,0);rw[hlen] at hlb;have HRg:Hid (q0m L h a b=(L.drop (lbE L (h,a,0))).takeWhile (inE h b)):=η10 (q3a hs ho);generalize lbE L (h,a,0)=lb at*;have HLen:=η10 hlen;clear hx hs ho hlen;go_enter Tryz.func217,Tryz.ntmps217;go_wp2_with fail;refine HS.out.mono ?_;rintro e w1 ⟨rfl,hb⟩;have HX1:=η10 hb;clear hb;go_wp2_with fail
 go_loopw [10] (fun i W=> ∃j:Nat,lb≤j∧j≤n∧i= .int .i64 (j:Int)∧W=w1∧(L.drop lb).takeWhile (inE h b)=(L.drop lb).take (j-lb)++(L.drop j).takeWhile (inE h b)) (fun i _=>n-(intOf i).toNat)
 case atStart=>exact ⟨lb,Nat.le_refl _,hlb,rfl,rfl,by simp⟩
 case round =>
  obtain ⟨j,h1,h2,rfl,rfl,hw⟩:=hrel;have HW:=η10 hw;clear hw;by_cases hlt:j<n
  ·have hd:decide ((j:Int)<(n:Int))=true:=decide_eq_true (by omega)
   have q1:IntKind.i64.wrap ((j:Int)+1)=(j:Int)+1:=by rw[IntKind.wrap_i64];omega
   have q5:(j:Int)<(n:Int):=by omega
   obtain ⟨bb,off,rfl,c0,c1,c2⟩:=(Hx.out.ext HX1.out).at hlt;have hjL:j<L.length:=by rw[HLen.out];exact hlt
   have hg:L.getD j en0=L[j]:=by rw[List.getD_eq_getElem?_getD,List.getElem?_eq_getElem hjL];rfl
   rw[hg] at c0 c1 c2;have hdr:(L.drop j).takeWhile (inE h b)=if inE h b L[j] then L[j]::(L.drop (j+1)).takeWhile (inE h b) else []:=by
    rw[List.drop_eq_getElem_cons hjL,List.takeWhile_cons]
   have htk:(L.drop lb).take (j+1-lb)=(L.drop lb).take (j-lb)++[L[j]]:=by
    have h3:j-lb<(L.drop lb).length:=by rw[List.length_drop];omega
    rw[show j+1-lb=(j-lb)+1 by omega,List.take_succ_eq_append_getElem h3,List.getElem_drop]
    congr 3;omega
   have HDr:=η10 hdr;have HTk:=η10 htk;generalize L[j]=e at*;obtain ⟨e0,e1,e2⟩:=e;clear hg hdr htk;by_cases hin:inE h b (e0,e1,e2)=true
   ·have hin':=hin
    unfold inE at hin';simp only[Bool.and_eq_true,decide_eq_true_eq] at hin';obtain ⟨i1,i2⟩:=hin';have g1:(e0==h)=true:=by simpa using i1
    have g2:decide (e1≤b)=true:=decide_eq_true i2;have HW2:Hid ((L.drop lb).takeWhile (inE h b)=(L.drop lb).take (j+1-lb)++(L.drop (j+1)).takeWhile (inE h b)):=η10 (by rw[HW.out,HDr.out,if_pos hin,HTk.out,List.append_assoc];rfl);clear i1 i2 hin;go_wp2_with fail
    go_roundw
    case rel=>exact ⟨j+1,by omega,by omega,by go_num,trivial,HW2.out⟩
    case measure=>simp[intOf];omega
   ·have hcase:(e0==h)=false∨((e0==h)=true∧decide (e1≤b)=false):=by
     by_cases g1:e0=h
     ·refine .inr ⟨by simpa using g1,decide_eq_false fun g2=>hin ?_⟩
      unfold inE;simp[g1,g2]
     ·exact .inl (by simpa using g1)
    have HEnd:Hid ((L.drop lb).takeWhile (inE h b)=(L.drop lb).take (j-lb)):=η10 (by rw[HW.out,HDr.out,if_neg hin,List.append_nil]);clear hin;have hsl:Ens wr (some ⟨bb,off+lb*3,none⟩) (j-lb) (cap-lb) ((L.drop lb).take (j-lb)):=by
     have h5:=(Hx.out.ext HX1.out).cut (show j≤n by omega);refine ⟨by rw[List.length_take,List.length_drop,HLen.out];omega,by omega,by omega,(fun h=>by cases h),?_⟩;have h6:=h5.rd.drop (lb*3);have e6:(ecs (L.take j)).drop (lb*3)=ecs ((L.drop lb).take (j-lb)):=by
      rw[←List.drop_take]
      conv=>lhs;rw[←List.take_append_drop lb (L.take j),q2s]
      exact List.drop_left' (by rw[q1V,List.length_take,List.length_take,HLen.out];omega)
     rwa [e6] at h6
    have HCl:=η10 (q8T wr hsl (by omega));have HRe:Hid (q0m L h a b=(L.drop lb).take (j-lb)):=η10 (by rw[HRg.out,HEnd.out]);clear hsl;rcases hcase with g1|⟨g1,g2⟩
    all_goals
     go_wp2_with fail;refine HCl.out.mono ?_;rintro e w2 ⟨v,rfl,hrow,hb⟩;have HRw:=η10 (q0v hrow HX1.out.size);have HX2:=η10 (HX1.out.trans hb);clear hrow hb;go_wp2_with fail;go_ret;exact ⟨v,rfl,by rw[HRe.out];exact HRw.out,HX2.out⟩
  ·have hd:decide ((j:Int)<(n:Int))=false:=decide_eq_false (by omega)
   obtain rfl:j=n:=by omega
   have HEnd:Hid ((L.drop lb).takeWhile (inE h b)=(L.drop lb).take (j-lb)):=η10 (by rw[HW.out,List.drop_of_length_le (show L.length≤j by rw[HLen.out];exact Nat.le_refl _)];simp);by_cases hlj:lb<j
   ·obtain ⟨bb,off,rfl,_,_,_⟩:=(Hx.out.ext HX1.out).at hlj
    have hsl:Ens wr (some ⟨bb,off+lb*3,none⟩) (j-lb) (cap-lb) ((L.drop lb).take (j-lb)):=by
     have h5:=(Hx.out.ext HX1.out).cut (show j≤j by omega);refine ⟨by rw[List.length_take,List.length_drop,HLen.out];omega,by omega,by omega,(fun h=>by cases h),?_⟩;have h6:=h5.rd.drop (lb*3);have e6:(ecs (L.take j)).drop (lb*3)=ecs ((L.drop lb).take (j-lb)):=by
      rw[←List.drop_take]
      conv=>lhs;rw[←List.take_append_drop lb (L.take j),q2s]
      exact List.drop_left' (by rw[q1V,List.length_take,List.length_take,HLen.out];omega)
     rwa [e6] at h6
    have HCl:=η10 (q8T wr hsl (by omega));have HRe:Hid (q0m L h a b=(L.drop lb).take (j-lb)):=η10 (by rw[HRg.out,HEnd.out]);have hlc:¬(cap=lb):=by omega
    clear hsl;go_wp2_with fail;refine HCl.out.mono ?_;rintro e w2 ⟨v,rfl,hrow,hb⟩;have HRw:=η10 (q0v hrow HX1.out.size);have HX2:=η10 (HX1.out.trans hb);clear hrow hb;go_wp2_with fail;go_ret;exact ⟨v,rfl,by rw[HRe.out];exact HRw.out,HX2.out⟩
   ·obtain rfl:lb=j:=by omega
    have HRe:Hid (q0m L h a b=[]):=η10 (by rw[HRg.out,HEnd.out,Nat.sub_self];rfl);have HCl:=η10 (fun o c (h1:c≤cap) (h2:o=none→c=0)=>q8T (K:=[]) (n:=0) wr ⟨rfl,by omega,by omega,h2,Rd.nil wr o⟩ (by omega));clear hlj HEnd HW HRg;by_cases hcl:cap=lb
    ·go_wp2_with fail
     refine (HCl.out _ _ (by omega) (fun _=>by omega)).mono ?_;rintro e w2 ⟨v,rfl,hrow,hb⟩;have HRw:=η10 (q0v hrow HX1.out.size);have HX2:=η10 (HX1.out.trans hb);clear hrow hb;go_wp2_with fail;go_ret;exact ⟨v,rfl,by rw[HRe.out];exact HRw.out,HX2.out⟩
    ·go_wp2_with fail
     refine (HCl.out _ _ (by omega) (fun h=>by have:=hnil (by cases ao<;>first|rfl|cases h);omega)).mono ?_;rintro e w2 ⟨v,rfl,hrow,hb⟩;have HRw:=η10 (q0v hrow HX1.out.size);have HX2:=η10 (HX1.out.trans hb);clear hrow hb;go_wp2_with fail;go_ret;exact ⟨v,rfl,by rw[HRe.out];exact HRw.out,HX2.out⟩
end
section
open Go.RowKit
theorem z9L {L:List En} (hs:q0q L) (ho: ∀e∈L,q3J e=true) (h v:Int): ∀i,i<L.length→lbE L (h,v,0)≤i→(inE h v (L.getD i en0)=true↔i<lbE L (h,v+1,0)):=fun i hi hl=>by
 have hg:L.getD i en0=L[i]:=by rw[List.getD_eq_getElem?_getD,List.getElem?_eq_getElem hi];rfl
 have h1:=q3Y (h,v+1,0) hs (List.getElem?_eq_getElem hi);have h2:=q3Y (h,v,0) hs (List.getElem?_eq_getElem hi);rw[decide_eq_false (by omega)] at h2;have hok:=ho _ (List.getElem_mem hi);unfold q3J at hok;simp at hok;rw[hg]
 constructor
 ·intro h3
  unfold inE at h3;simp only[Bool.and_eq_true,decide_eq_true_eq] at h3;have h4:q0e L[i] (h,v+1,0)=true:=lessE_iff.2 (.inr ⟨h3.1,.inl (by show L[i].2.1<v+1;omega)⟩);rw[h4] at h1;exact of_decide_eq_true h1.symm
 ·intro h3
  rw[decide_eq_true h3] at h1;have h4:=lessE_iff.1 h1;have h5:¬(L[i].1<h∨(L[i].1=h∧(L[i].2.1<v∨(L[i].2.1=v∧L[i].2.2<0)))):=fun h6=>by rw[lessE_iff.2 h6] at h2;cases h2
  unfold inE;simp only[Bool.and_eq_true,decide_eq_true_eq];simp only at h4;omega
theorem q6w {L:List En} {h v:Int} {e:En} (hl:q2p L h v=some e):inE h v e=true:=by
 unfold q2p at hl;exact (List.mem_filter.1 (List.mem_of_getLast? hl)).2
theorem q7d {w W:World} {a b c:Value} (h:Ext w W):Ext w (((W.setCell ⟨w.heap.size,0,none⟩ a).setCell ⟨w.heap.size,1,none⟩ b).setCell ⟨w.heap.size,2,none⟩ c):=
 Below.setCell (Below.setCell (Below.setCell h (Nat.le_refl _) _) (Nat.le_refl _) _) (Nat.le_refl _) _
theorem z9m {ao:Option Addr} {n cap:Nat} {L:List En} (h v:Int) (w:World) (hx:Ens w ao n cap L) (hn:n≤1000000) (hs:q0q L) (ho: ∀e∈L,q3J e=true):
  Calls Tryz.prog 159 #[.slice ao n cap,.int .u64 h,.int .i64 v] w fun r w'=>r= .returned (.tuple #[enV ((q2p L h v).getD en0),.bool (q2p L h v).isSome])∧Ext w w':=by
 have hx1:=q0B w (.cells #[.int .u64 0,.int .i64 0,.int .i64 0] 106);have hbk:=Blk.new w 106 #[.int .u64 0,.int .i64 0,.int .i64 0];have HX1:=η10 hx1;have HBk:=η10 hbk;have HS:=η10 (q8R h v _ (hx.ext hx1) hn hs ho);have Hx:=η10 hx;have b1:=hx.fits;have b2:=hx.bound;have hlen:=hx.len;have hlb:=q4M L (h,v,0);have hlb2:=q4M L (h,v+1,0);have hmono:lbE L (h,v,0)≤lbE L (h,v+1,0):=by
  unfold lbE;rw[←List.countP_eq_length_filter,←List.countP_eq_length_filter];refine List.countP_mono_left fun e _ he=>?_
  rw[lessE_iff] at he⊢;simp only at he⊢;omega
 rw[hlen] at hlb hlb2;have HNx:=η10 (z9L hs ho h v);have HLa:=η10 (z6Q (l:=L) (h:=h) (t:=v) hs ho);have HLen:=η10 hlen;generalize lbE L (h,v,0)=lb at*;generalize lbE L (h,v+1,0)=lb2 at*;clear hx hs ho hlen hx1 hbk;go_enter Tryz.func159,Tryz.ntmps159;go_wp2_with fail;refine HS.out.mono ?_;rintro e w1 ⟨rfl,hb⟩;have HXb:=η10 hb;clear hb;go_wp2_with fail
 go_loopw [8] (fun i W=> ∃j:Nat,lb≤j∧j≤lb2∧i= .int .i64 (j:Int)∧W=w1) (fun i _=>lb2-(intOf i).toNat)
 case atStart=>exact ⟨lb,Nat.le_refl _,hmono,rfl,rfl⟩
 case round =>
  obtain ⟨j,h1,h2,rfl,rfl⟩:=hrel;by_cases hlt:j<lb2
  ·have hjn:j<n:=by omega
   have hd:decide ((j:Int)<(n:Int))=true:=decide_eq_true (by omega);have q1:IntKind.i64.wrap ((j:Int)+1)=(j:Int)+1:=by rw[IntKind.wrap_i64];omega
   have q5:(j:Int)<(n:Int):=by omega
   obtain ⟨bb,off,rfl,c0,c1,c2⟩:=(Hx.out.ext (HX1.out.trans HXb.out)).at hjn;have hin:=(HNx.out j (by rw[HLen.out];exact hjn) h1).2 hlt;generalize L.getD j en0=e at*;obtain ⟨e0,e1,e2⟩:=e;unfold inE at hin;simp only[Bool.and_eq_true,decide_eq_true_eq] at hin;have g1:(e0==h)=true:=by simpa using hin.1
   have g2:decide (e1≤v)=true:=decide_eq_true hin.2;clear hin;go_wp2_with fail
   go_roundw
   case rel=>exact ⟨j+1,by omega,by omega,by go_num,trivial⟩
   case measure=>simp[intOf];omega
  ·obtain rfl:j=lb2:=by omega
   have HLa2:=η10 HLa.out;have rb:=HBk.out.ext HXb.out;have r0:wr.cell? ⟨w.heap.size,0,none⟩=some (.int .u64 0):=rb.cell 0;have r1:wr.cell? ⟨w.heap.size,1,none⟩=some (.int .i64 0):=rb.cell 1;have r2:wr.cell? ⟨w.heap.size,2,none⟩=some (.int .i64 0):=rb.cell 2;have z0:=rb.free 0;have z1:=rb.free 1;have z2:=rb.free 2;have HXw:=η10 (HX1.out.trans HXb.out);clear rb;have hstop:decide ((j:Int)<(n:Int))=false∨(decide ((j:Int)<(n:Int))=true∧ ∃hjn:j<n,inE h v (L.getD j en0)=false):=by
    by_cases hjn:j<n
    ·refine .inr ⟨decide_eq_true (by omega),hjn,?_⟩
     cases hi:inE h v (L.getD j en0) with
     |false=>rfl
     |true=>have:=(HNx.out j (by rw[HLen.out];exact hjn) h1).1 hi;omega
    ·exact .inl (decide_eq_false (by omega))
   have hend:(j=0∧q2p L h v=none)∨(0<j∧ ∃hj:j-1<n,((L.getD (j-1) en0).1==h)=false∧q2p L h v=none)∨(0<j∧ ∃hj:j-1<n,((L.getD (j-1) en0).1==h)=true∧decide (v<(L.getD (j-1) en0).2.1)=false∧q2p L h v=some (L.getD (j-1) en0)):=by
    by_cases hj0:j=0
    ·exact .inl ⟨hj0,by rw[HLa.out,if_pos hj0]⟩
    ·have hjn:j-1<L.length:=by rw[HLen.out];omega
     have hla:=HLa.out;rw[if_neg hj0,List.getElem?_eq_getElem hjn] at hla;simp only at hla;have hg:L.getD (j-1) en0=L[j-1]:=by rw[List.getD_eq_getElem?_getD,List.getElem?_eq_getElem hjn];rfl
     rw[hg];by_cases he:L[j-1].1=h
     ·rw[if_pos he] at hla
      refine .inr (.inr ⟨by omega,by omega,by simpa using he,?_,hla⟩);have hml:=(q6w hla)
      unfold inE at hml;simp only[Bool.and_eq_true,decide_eq_true_eq] at hml;exact decide_eq_false (by omega)
     ·rw[if_neg he] at hla
      exact .inr (.inl ⟨by omega,by omega,by simpa using he,hla⟩)
   have hst2:decide ((j:Int)<(n:Int))=false∨(decide ((j:Int)<(n:Int))=true∧j<n∧(((L.getD j en0).1==h)=false∨(((L.getD j en0).1==h)=true∧decide ((L.getD j en0).2.1≤v)=false))):=by
    rcases hstop with g|⟨g,hjn,hi⟩
    ·exact .inl g
    ·refine .inr ⟨g,hjn,?_⟩
     unfold inE at hi;by_cases he:(L.getD j en0).1=h
     ·rw[decide_eq_true he,Bool.true_and] at hi
      exact .inr ⟨by simpa using he,hi⟩
     ·exact .inl (by simpa using he)
   have HAt:=η10 (fun i (hi:i<n)=>(Hx.out.ext HXw.out).at hi);have q9:0<j→IntKind.i64.wrap ((j:Int)-1)=((j-1:Nat):Int):=fun h=>by rw[IntKind.wrap_i64];omega
   clear hstop HLa HLa2;rcases hend with ⟨hj0,hres⟩|⟨hj0,hj,g3,hres⟩|⟨hj0,hj,g3,g4,hres⟩
   ·rcases hst2 with g|⟨g,hjn,g5|⟨g5,g6⟩⟩
    ·have g7:¬((j:Int)<(n:Int)):=of_decide_eq_false g
     have q12:((j:Int)==0)=true:=by simp;omega
     go_wp2_with fail
     ((try simp only[Exit.inBlock,Exit.then]);refine bodyPost_ret (v:= .tuple #[.agg #[.int .u64 0,.int .i64 0,.int .i64 0],.bool false]) (by rw[results_cell_tmp rfl];go_simp) rfl ?_)
     refine ⟨by first|rfl|(rw[HRes.out];rfl),?_⟩;exact q7d HXw.out
    ·obtain ⟨bb,off,rfl,c0,c1,c2⟩:=HAt.out j hjn
     generalize L.getD j en0=e at*;obtain ⟨e0,e1,e2⟩:=e;simp only at g5;subst hj0;have m0:wr.cell? ⟨bb,off,none⟩=some (.int .u64 e0):=by simpa using c0
     have m1:wr.cell? ⟨bb,off+1,none⟩=some (.int .i64 e1):=by simpa using c1
     have m2:wr.cell? ⟨bb,off+2,none⟩=some (.int .i64 e2):=by simpa using c2
     have m3:(0:Int)<(n:Int):=of_decide_eq_true g;clear c0 c1 c2 g;have HRes:=η10 hres;clear hres;go_wp2_with fail
     ((try simp only[Exit.inBlock,Exit.then]);refine bodyPost_ret (v:= .tuple #[.agg #[.int .u64 0,.int .i64 0,.int .i64 0],.bool false]) (by rw[results_cell_tmp rfl];go_simp) rfl ?_)
     refine ⟨by first|rfl|(rw[HRes.out];rfl),?_⟩;exact q7d HXw.out
    ·obtain ⟨bb,off,rfl,c0,c1,c2⟩:=HAt.out j hjn
     generalize L.getD j en0=e at*;obtain ⟨e0,e1,e2⟩:=e;simp only at g5;simp only at g6;subst hj0;have m0:wr.cell? ⟨bb,off,none⟩=some (.int .u64 e0):=by simpa using c0
     have m1:wr.cell? ⟨bb,off+1,none⟩=some (.int .i64 e1):=by simpa using c1
     have m2:wr.cell? ⟨bb,off+2,none⟩=some (.int .i64 e2):=by simpa using c2
     have m3:(0:Int)<(n:Int):=of_decide_eq_true g;clear c0 c1 c2 g;have HRes:=η10 hres;clear hres;go_wp2_with fail
     ((try simp only[Exit.inBlock,Exit.then]);refine bodyPost_ret (v:= .tuple #[.agg #[.int .u64 0,.int .i64 0,.int .i64 0],.bool false]) (by rw[results_cell_tmp rfl];go_simp) rfl ?_)
     refine ⟨by first|rfl|(rw[HRes.out];rfl),?_⟩;exact q7d HXw.out
   ·rcases hst2 with g|⟨g,hjn,g5|⟨g5,g6⟩⟩
    ·have g7:¬((j:Int)<(n:Int)):=of_decide_eq_false g
     obtain ⟨pb,poff,pe,d0,d1,d2⟩:=HAt.out (j-1) hj;obtain ⟨x,hxe⟩: ∃x,L.getD (j-1) en0=x:=⟨_,rfl⟩
     rw[hxe] at d0 d1 d2 g3;obtain ⟨x0,x1,x2⟩:=x;obtain ⟨J,hJ⟩: ∃J,j-1=J:=⟨_,rfl⟩
     rw[hJ] at d0 d1 d2 hj;have q10:IntKind.i64.wrap ((j:Int)-1)=(J:Int):=by rw[q9 hj0,hJ]
     have q11:(J:Int)<(n:Int):=by omega
     have q12:((j:Int)==0)=false:=by simp;omega
     have HRes:=η10 hres;clear hres;simp only at g3;have k3:(x0 !=h)=true:=by rw[bne,g3];rfl
     clear g3;clear hJ hxe q9;subst pe;go_wp2_with fail
     ((try simp only[Exit.inBlock,Exit.then]);refine bodyPost_ret (v:= .tuple #[.agg #[.int .u64 0,.int .i64 0,.int .i64 0],.bool false]) (by rw[results_cell_tmp rfl];go_simp) rfl ?_)
     refine ⟨by first|rfl|(rw[HRes.out];rfl),?_⟩;exact q7d HXw.out
    ·obtain ⟨pb,poff,pe,d0,d1,d2⟩:=HAt.out (j-1) hj
     obtain ⟨x,hxe⟩: ∃x,L.getD (j-1) en0=x:=⟨_,rfl⟩
     rw[hxe] at d0 d1 d2 g3;obtain ⟨x0,x1,x2⟩:=x;obtain ⟨J,hJ⟩: ∃J,j-1=J:=⟨_,rfl⟩
     rw[hJ] at d0 d1 d2 hj;have q10:IntKind.i64.wrap ((j:Int)-1)=(J:Int):=by rw[q9 hj0,hJ]
     have q11:(J:Int)<(n:Int):=by omega
     have q12:((j:Int)==0)=false:=by simp;omega
     have HRes:=η10 hres;clear hres;simp only at g3;have k3:(x0 !=h)=true:=by rw[bne,g3];rfl
     clear g3;clear hJ hxe q9;obtain ⟨bb,off,rfl,c0,c1,c2⟩:=HAt.out j hjn;generalize L.getD j en0=e at*;obtain ⟨e0,e1,e2⟩:=e;simp only at g5
     cases pe;go_wp2_with fail
     ((try simp only[Exit.inBlock,Exit.then]);refine bodyPost_ret (v:= .tuple #[.agg #[.int .u64 0,.int .i64 0,.int .i64 0],.bool false]) (by rw[results_cell_tmp rfl];go_simp) rfl ?_)
     refine ⟨by first|rfl|(rw[HRes.out];rfl),?_⟩;exact q7d HXw.out
    ·obtain ⟨pb,poff,pe,d0,d1,d2⟩:=HAt.out (j-1) hj
     obtain ⟨x,hxe⟩: ∃x,L.getD (j-1) en0=x:=⟨_,rfl⟩
     rw[hxe] at d0 d1 d2 g3;obtain ⟨x0,x1,x2⟩:=x;obtain ⟨J,hJ⟩: ∃J,j-1=J:=⟨_,rfl⟩
     rw[hJ] at d0 d1 d2 hj;have q10:IntKind.i64.wrap ((j:Int)-1)=(J:Int):=by rw[q9 hj0,hJ]
     have q11:(J:Int)<(n:Int):=by omega
     have q12:((j:Int)==0)=false:=by simp;omega
     have HRes:=η10 hres;clear hres;simp only at g3;have k3:(x0 !=h)=true:=by rw[bne,g3];rfl
     clear g3;clear hJ hxe q9;obtain ⟨bb,off,rfl,c0,c1,c2⟩:=HAt.out j hjn;generalize L.getD j en0=e at*;obtain ⟨e0,e1,e2⟩:=e;simp only at g5;simp only at g6
     cases pe;go_wp2_with fail
     ((try simp only[Exit.inBlock,Exit.then]);refine bodyPost_ret (v:= .tuple #[.agg #[.int .u64 0,.int .i64 0,.int .i64 0],.bool false]) (by rw[results_cell_tmp rfl];go_simp) rfl ?_)
     refine ⟨by first|rfl|(rw[HRes.out];rfl),?_⟩;exact q7d HXw.out
   ·rcases hst2 with g|⟨g,hjn,g5|⟨g5,g6⟩⟩
    ·have g7:¬((j:Int)<(n:Int)):=of_decide_eq_false g
     obtain ⟨pb,poff,pe,d0,d1,d2⟩:=HAt.out (j-1) hj;obtain ⟨x,hxe⟩: ∃x,L.getD (j-1) en0=x:=⟨_,rfl⟩
     rw[hxe] at d0 d1 d2 hres g3 g4;obtain ⟨x0,x1,x2⟩:=x;obtain ⟨J,hJ⟩: ∃J,j-1=J:=⟨_,rfl⟩
     rw[hJ] at d0 d1 d2 hj;have q10:IntKind.i64.wrap ((j:Int)-1)=(J:Int):=by rw[q9 hj0,hJ]
     have q11:(J:Int)<(n:Int):=by omega
     have q12:((j:Int)==0)=false:=by simp;omega
     have HRes:=η10 hres;clear hres;simp only at g3 g4;have k3:(x0 !=h)=false:=by rw[bne,g3];rfl
     clear g3;clear hJ hxe q9;subst pe;go_wp2_with fail
     ((try simp only[Exit.inBlock,Exit.then]);refine bodyPost_ret (v:= .tuple #[.agg #[.int .u64 x0,.int .i64 x1,.int .i64 x2],.bool true]) (by rw[results_cell_tmp rfl];go_simp) rfl ?_)
     refine ⟨by first|rfl|(rw[HRes.out];rfl),?_⟩;exact q7d HXw.out
    ·obtain ⟨pb,poff,pe,d0,d1,d2⟩:=HAt.out (j-1) hj
     obtain ⟨x,hxe⟩: ∃x,L.getD (j-1) en0=x:=⟨_,rfl⟩
     rw[hxe] at d0 d1 d2 hres g3 g4;obtain ⟨x0,x1,x2⟩:=x;obtain ⟨J,hJ⟩: ∃J,j-1=J:=⟨_,rfl⟩
     rw[hJ] at d0 d1 d2 hj;have q10:IntKind.i64.wrap ((j:Int)-1)=(J:Int):=by rw[q9 hj0,hJ]
     have q11:(J:Int)<(n:Int):=by omega
     have q12:((j:Int)==0)=false:=by simp;omega
     have HRes:=η10 hres;clear hres;simp only at g3 g4;have k3:(x0 !=h)=false:=by rw[bne,g3];rfl
     clear g3;clear hJ hxe q9;obtain ⟨bb,off,rfl,c0,c1,c2⟩:=HAt.out j hjn;generalize L.getD j en0=e at*;obtain ⟨e0,e1,e2⟩:=e;simp only at g5
     cases pe;go_wp2_with fail
     ((try simp only[Exit.inBlock,Exit.then]);refine bodyPost_ret (v:= .tuple #[.agg #[.int .u64 x0,.int .i64 x1,.int .i64 x2],.bool true]) (by rw[results_cell_tmp rfl];go_simp) rfl ?_)
     refine ⟨by first|rfl|(rw[HRes.out];rfl),?_⟩;exact q7d HXw.out
    ·obtain ⟨pb,poff,pe,d0,d1,d2⟩:=HAt.out (j-1) hj
     obtain ⟨x,hxe⟩: ∃x,L.getD (j-1) en0=x:=⟨_,rfl⟩
     rw[hxe] at d0 d1 d2 hres g3 g4;obtain ⟨x0,x1,x2⟩:=x;obtain ⟨J,hJ⟩: ∃J,j-1=J:=⟨_,rfl⟩
     rw[hJ] at d0 d1 d2 hj;have q10:IntKind.i64.wrap ((j:Int)-1)=(J:Int):=by rw[q9 hj0,hJ]
     have q11:(J:Int)<(n:Int):=by omega
     have q12:((j:Int)==0)=false:=by simp;omega
     have HRes:=η10 hres;clear hres;simp only at g3 g4;have k3:(x0 !=h)=false:=by rw[bne,g3];rfl
     clear g3;clear hJ hxe q9;obtain ⟨bb,off,rfl,c0,c1,c2⟩:=HAt.out j hjn;generalize L.getD j en0=e at*;obtain ⟨e0,e1,e2⟩:=e;simp only at g5;simp only at g6
     cases pe;go_wp2_with fail
     ((try simp only[Exit.inBlock,Exit.then]);refine bodyPost_ret (v:= .tuple #[.agg #[.int .u64 x0,.int .i64 x1,.int .i64 x2],.bool true]) (by rw[results_cell_tmp rfl];go_simp) rfl ?_)
     refine ⟨by first|rfl|(rw[HRes.out];rfl),?_⟩;exact q7d HXw.out
end
section
def q3V (e:En) (L:List En):List En:=if e∈L then L else L.take (lbE L e)++e::L.drop (lbE L e)
theorem q5g : ∀{a b:List En},q0q a→q0q b→(∀x,x∈a↔x∈b)→a=b
 |[],[],_,_,_=>rfl
 |[],y::b,_,_,h=>absurd ((h y).2 (.head _)) (by simp)
 |x::a,[],_,_,h=>absurd ((h x).1 (.head _)) (by simp)
 | x ::a,y::b,ha,hb,h=>by
  obtain ⟨h1,h2⟩:=List.pairwise_cons.1 ha;obtain ⟨h3,h4⟩:=List.pairwise_cons.1 hb;have hxy:x=y:=by
   rcases List.mem_cons.1 ((h x).1 (.head _)) with hx|hx
   ·exact hx
   rcases List.mem_cons.1 ((h y).2 (.head _)) with hy|hy
   ·exact hy.symm
   have:=q1K (h1 y hy) (h3 x hx);rw[q0Z] at this;cases this
  subst hxy;have hn1:x∉a:=fun hm=>by have:=h1 x hm;rw[q0Z] at this;cases this
  have hn2:x∉b:=fun hm=>by have:=h3 x hm;rw[q0Z] at this;cases this
  rw [q5g h2 h4 fun z=>⟨fun hz=>by
   rcases List.mem_cons.1 ((h z).1 (.tail _ hz)) with e|e
   ·exact absurd (e▸hz) hn1
   ·exact e,fun hz=>by
   rcases List.mem_cons.1 ((h z).2 (.tail _ hz)) with e|e
   ·exact absurd (e▸hz) hn2
   ·exact e⟩]
theorem mem_addE {e x:En} {L:List En}:x∈q3V e L↔x=e∨x∈L:=by
 unfold q3V
 split
 ·next h=>
  constructor
  ·exact .inr
  ·rintro (rfl|h1)
   ·exact h
   ·exact h1
 ·rw [List.mem_append,List.mem_cons]
  constructor
  ·rintro (h1|h1|h1)
   ·exact .inr (List.mem_of_mem_take h1)
   ·exact .inl h1
   ·exact .inr (List.mem_of_mem_drop h1)
  ·rintro (h1|h1)
   ·exact .inr (.inl h1)
   ·rw[←List.take_append_drop (lbE L e) L,List.mem_append] at h1
    rcases h1 with h1|h1
    ·exact .inl h1
    ·exact .inr (.inr h1)
theorem z4z {L:List En} (hs:q0q L) (e:En): ∀x∈L.take (lbE L e),q0e x e=true:=fun x hx=>by
 obtain ⟨i,hi,rfl⟩:=List.getElem_of_mem hx;rw[List.length_take] at hi;rw[List.getElem_take,q3Y e hs (List.getElem?_eq_getElem (by omega)),decide_eq_true (by omega)]
theorem z5c {L:List En} (hs:q0q L) (e:En): ∀x∈L.drop (lbE L e),q0e x e=false:=fun x hx=>by
 obtain ⟨i,hi,rfl⟩:=List.getElem_of_mem hx;rw[List.length_drop] at hi;rw[List.getElem_drop,q3Y e hs (List.getElem?_eq_getElem (by omega)),decide_eq_false (by omega)]
theorem z0Q {e:En} {L:List En} (hs:q0q L):q0q (q3V e L):=by
 unfold q3V
 split
 ·exact hs
 ·next hn=>
  refine List.pairwise_append.2 ⟨hs.sublist (List.take_sublist _ _),List.pairwise_cons.2 ⟨fun x hx=>?_,hs.sublist (List.drop_sublist _ _)⟩,fun x hx y hy=>?_⟩
  ·cases h:q0e e x with
   |true=>rfl
   |false=>exact absurd (q4q (z5c hs e x hx) h▸List.mem_of_mem_drop hx) hn
  ·rcases List.mem_cons.1 hy with rfl|hy
   ·exact z4z hs _ x hx
   ·have h1:=z4z hs e x hx
    have h2:=z5c hs e y hy
    cases h:q0e x y with
    |true=>rfl
    | false=>
     cases h3:q0e y x with
     |true=>rw[q1K h3 h1] at h2;cases h2
     |false=>rw[q4q h h3,h2] at h1;cases h1
theorem z8t {e:En} {L:List En} (he:q3J e=true) (ho: ∀x∈L,q3J x=true): ∀x∈q3V e L,q3J x=true:=fun x hx=>by
 rcases mem_addE.1 hx with rfl|h
 ·exact he
 ·exact ho x h
theorem z0p {e:En} {L:List En}:(q3V e L).length=if e∈L then L.length else L.length+1:=by
 unfold q3V;have:=q4M L e
 split
 ·rfl
 ·rw[List.length_append,List.length_cons,List.length_take,List.length_drop];omega
theorem z5R {e:En} {L:List En}:(q3V e L).length≤L.length+1:=by rw[z0p];split<;>omega
theorem y1L {e:En} {L:List En} (hs:q0q L):e∈L↔ ∃h:lbE L e<L.length,L.getD (lbE L e) en0=e:=by
 constructor
 ·intro hm
  obtain ⟨i,hi,h⟩:=List.getElem_of_mem hm;have h1:=q3Y e hs (List.getElem?_eq_getElem hi);rw[h,q0Z] at h1;have h2:lbE L e≤i:=by have:=of_decide_eq_false h1.symm;omega
  refine ⟨by omega,?_⟩;rw[List.getD_eq_getElem?_getD,List.getElem?_eq_getElem (by omega)];show L[lbE L e]=e;rcases Nat.lt_or_ge (lbE L e) i with h3|h3
  ·have h4:=List.pairwise_iff_getElem.1 hs _ _ (by omega) hi h3
   have h5:=q3Y e hs (List.getElem?_eq_getElem (i:=lbE L e) (by omega));rw[h] at h4;rw[h4,decide_eq_false (by omega)] at h5
   cases h5
  ·have h4:lbE L e=i:=by omega
   simp only[h4,h]
 ·rintro ⟨h,h1⟩
  rw[List.getD_eq_getElem?_getD,List.getElem?_eq_getElem h] at h1;rw[←h1];exact List.getElem_mem h
theorem z9U {L:List En} (e:En) (hp:0≤e.2.2):lbE L (e.1,e.2.1,0)≤lbE L e:=by
 unfold lbE;rw[←List.countP_eq_length_filter,←List.countP_eq_length_filter];refine List.countP_mono_left fun x _ hx=>?_
 rw[lessE_iff] at hx⊢;simp only at hx⊢;omega
end
section
def q2S (Ls:List (List En)):List En:=Ls.flatten.foldr q3V []
theorem q4h (Ls:List (List En)):q0q (q2S Ls):=by
 unfold q2S
 induction Ls.flatten with
 |nil=>exact List.Pairwise.nil
 |cons a l ih=>exact z0Q ih
theorem mem_union {Ls:List (List En)} {x:En}:x∈q2S Ls↔ ∃L∈Ls,x∈L:=by
 rw[←List.mem_flatten];unfold q2S
 induction Ls.flatten with
 |nil=>simp
 |cons a l ih=>rw[List.foldr_cons,mem_addE,ih,List.mem_cons]
def q5H :List (List En)→List Nat→Nat
 |L::Ls,p::P=>(L.length-p)+q5H Ls P
 |_,_=>0
def q7g (e:En) (L:List En) (p:Nat):Nat:=if p<L.length∧L.getD p en0=e then p+1 else p
def q4H (e:En):List (List En)→List Nat→List Nat
 |L::Ls,p::P=>q7g e L p::q4H e Ls P
 |_,P=>P
theorem q4I (e:En): ∀(Ls:List (List En)) (P:List Nat),(q4H e Ls P).length=P.length
 |[],P=>by cases P<;>rfl
 |L::Ls,[]=>rfl
 |L::Ls,p::P=>by rw[q4H,List.length_cons,q4I e Ls P,List.length_cons]
theorem q9O (e:En): ∀(Ls:List (List En)) (P:List Nat) (k:Nat),k<Ls.length→k<P.length→(q4H e Ls P).getD k 0=q7g e (Ls.getD k []) (P.getD k 0)
 |[],P,k,h,_=>by simp at h
 |L::Ls,[],k,_,h=>by simp at h
 |L::Ls,p::P,0,_,_=>rfl
 | L::Ls,p::P,k+1,h,h2=>by
  rw[q4H];simp only[List.getD_cons_succ];exact q9O e Ls P k (by simpa using h) (by simpa using h2)
theorem z2R (e:En): ∀(Ls:List (List En)) (P:List Nat),q5H Ls (q4H e Ls P)≤q5H Ls P
 |[],P=>by cases P<;>exact Nat.le_refl _
 |L::Ls,[]=>Nat.le_refl _
 | L::Ls,p::P=>by
  rw[q4H,q5H,q5H];have:=z2R e Ls P;unfold q7g
  split<;>omega
theorem z2F (e:En): ∀(Ls:List (List En)) (P:List Nat) (k:Nat),k<Ls.length→k<P.length→P.getD k 0<(Ls.getD k []).length→(Ls.getD k []).getD (P.getD k 0) en0=e→q5H Ls (q4H e Ls P)+1≤q5H Ls P
 |[],P,k,h,_,_,_=>by simp at h
 |L::Ls,[],k,_,h,_,_=>by simp at h
 | L::Ls,p::P,0,_,_,h,h2=>by
  rw[q4H,q5H,q5H];have:=z2R e Ls P;simp only[List.getD_cons_zero] at h h2;unfold q7g;rw[if_pos ⟨h,h2⟩];omega
 | L::Ls,p::P,k+1,h1,h2,h3,h4=>by
  rw[q4H,q5H,q5H];simp only[List.getD_cons_succ] at h3 h4;have:=z2F e Ls P k (by simpa using h1) (by simpa using h2) h3 h4;unfold q7g
  split<;>omega
theorem q7v : ∀Ls:List (List En),q5H Ls (List.replicate Ls.length 0)=Ls.flatten.length
 |[]=>rfl
 | L::Ls=>by
  rw[List.length_cons,List.replicate_succ,q5H,q7v Ls,List.flatten_cons,List.length_append];omega
structure MrgI (Ls:List (List En)) (P:List Nat) (out:List En):Prop where
 len:P.length=Ls.length
 le: ∀k,k<Ls.length→P.getD k 0≤(Ls.getD k []).length
 sort:q0q out
 mem: ∀x,(∃L∈Ls,x∈L)↔x∈out∨ ∃k,k<Ls.length∧x∈(Ls.getD k []).drop (P.getD k 0)
 lt: ∀o∈out,∀k,k<Ls.length→ ∀x∈(Ls.getD k []).drop (P.getD k 0),q0e o x=true
 cnt:out.length+q5H Ls P≤Ls.flatten.length
def BestI (Ls:List (List En)) (P:List Nat) (k:Nat) (best:Int):Prop:=
 (best= -1∧ ∀j,j<k→(Ls.getD j []).length≤P.getD j 0)∨
 ∃b:Nat,best=(b:Int)∧b<k∧P.getD b 0<(Ls.getD b []).length∧ ∀j,j<k→P.getD j 0<(Ls.getD j []).length→q0e ((Ls.getD j []).getD (P.getD j 0) en0) ((Ls.getD b []).getD (P.getD b 0) en0)=false
theorem BestI.start (Ls:List (List En)) (P:List Nat):BestI Ls P 0 (-1):= .inl ⟨rfl,fun j hj=>by omega⟩
theorem BestI.skip {Ls:List (List En)} {P:List Nat} {k:Nat} {b:Int} (h:BestI Ls P k b) (hd:(Ls.getD k []).length≤P.getD k 0):BestI Ls P (k+1) b:=by
 rcases h with ⟨h1,h2⟩|⟨c,h1,h2,h3,h4⟩
 ·refine .inl ⟨h1,fun j hj=>?_⟩
  rcases Nat.lt_or_ge j k with h|h
  ·exact h2 j h
  ·obtain rfl:j=k:=by omega
   exact hd
 ·refine .inr ⟨c,h1,by omega,h3,fun j hj hl=>?_⟩
  rcases Nat.lt_or_ge j k with h|h
  ·exact h4 j h hl
  ·obtain rfl:j=k:=by omega
   omega
theorem BestI.first {Ls:List (List En)} {P:List Nat} {k:Nat} (h: ∀j,j<k→(Ls.getD j []).length≤P.getD j 0) (hl:P.getD k 0<(Ls.getD k []).length):BestI Ls P (k+1) (k:Int):=by
 refine .inr ⟨k,rfl,by omega,hl,fun j hj hl2=>?_⟩;rcases Nat.lt_or_ge j k with h1|h1
 ·have:=h j h1;omega
 ·obtain rfl:j=k:=by omega
  exact q0Z _
theorem BestI.take {Ls:List (List En)} {P:List Nat} {k b:Nat} (hl:P.getD k 0<(Ls.getD k []).length)
  (hm: ∀j,j<k→P.getD j 0<(Ls.getD j []).length→q0e ((Ls.getD j []).getD (P.getD j 0) en0) ((Ls.getD b []).getD (P.getD b 0) en0)=false)
  (ht:q0e ((Ls.getD k []).getD (P.getD k 0) en0) ((Ls.getD b []).getD (P.getD b 0) en0)=true):BestI Ls P (k+1) (k:Int):=by
 refine .inr ⟨k,rfl,by omega,hl,fun j hj hl2=>?_⟩;rcases Nat.lt_or_ge j k with h1|h1
 ·cases h:q0e ((Ls.getD j []).getD (P.getD j 0) en0) ((Ls.getD k []).getD (P.getD k 0) en0) with
  |false=>rfl
  |true=>exact absurd (hm j h1 hl2) (by rw[q1K h ht];decide)
 ·obtain rfl:j=k:=by omega
  exact q0Z _
theorem BestI.keep {Ls:List (List En)} {P:List Nat} {k b:Nat} (hb:b<k) (hlb:P.getD b 0<(Ls.getD b []).length)
  (hm: ∀j,j<k→P.getD j 0<(Ls.getD j []).length→q0e ((Ls.getD j []).getD (P.getD j 0) en0) ((Ls.getD b []).getD (P.getD b 0) en0)=false)
  (ht:q0e ((Ls.getD k []).getD (P.getD k 0) en0) ((Ls.getD b []).getD (P.getD b 0) en0)=false):BestI Ls P (k+1) (b:Int):=by
 refine .inr ⟨b,rfl,by omega,hlb,fun j hj hl2=>?_⟩;rcases Nat.lt_or_ge j k with h1|h1
 ·exact hm j h1 hl2
 ·obtain rfl:j=k:=by omega
  exact ht
theorem q9n {P Q:List Nat} (hl:P.length=Q.length) (h: ∀j,j<P.length→P.getD j 0=Q.getD j 0):P=Q:=by
 refine List.ext_getElem hl fun j h1 h2=>?_
 have:=h j h1;rw[List.getD_eq_getElem?_getD,List.getD_eq_getElem?_getD,List.getElem?_eq_getElem h1,List.getElem?_eq_getElem h2] at this;exact this
theorem q5M (P:List Nat) (k p j:Nat) (hk:k<P.length):(P.set k p).getD j 0=if j=k then p else P.getD j 0:=by
 rw[List.getD_eq_getElem?_getD,List.getElem?_set,List.getD_eq_getElem?_getD]
 split
 ·next h=>subst h;simp[hk]
 ·next h=>rw[if_neg (fun e=>h e.symm)]
theorem mem_drop_getD {L:List En} {p:Nat} {x:En}:x∈L.drop p↔ ∃i,p≤i∧i<L.length∧L.getD i en0=x:=by
 constructor
 ·intro h
  obtain ⟨i,hi,rfl⟩:=List.getElem_of_mem h;rw[List.length_drop] at hi;refine ⟨p+i,by omega,by omega,?_⟩;rw[List.getElem_drop,List.getD_eq_getElem?_getD,List.getElem?_eq_getElem (by omega)]
  rfl
 ·rintro ⟨i,h1,h2,rfl⟩
  rw[List.getD_eq_getElem?_getD,List.getElem?_eq_getElem h2];refine List.mem_iff_getElem.2 ⟨i-p,by rw[List.length_drop];omega,?_⟩;rw[List.getElem_drop];show L[p+(i-p)]=L[i];simp only[show p+(i-p)=i from by omega]
theorem q5E {L:List En} (h:q0q L) {i j:Nat} (hij:i<j) (hj:j<L.length):q0e (L.getD i en0) (L.getD j en0)=true:=by
 have:=List.pairwise_iff_getElem.1 h i j (by omega) hj hij;rw[List.getD_eq_getElem?_getD,List.getElem?_eq_getElem (by omega),List.getD_eq_getElem?_getD,List.getElem?_eq_getElem hj];exact this
theorem z1N {Ls:List (List En)} {x:En}:(∃L∈Ls,x∈L)↔ ∃k,k<Ls.length∧x∈Ls.getD k []:=by
 constructor
 ·rintro ⟨L,h,hx⟩
  obtain ⟨k,hk,rfl⟩:=List.getElem_of_mem h;exact ⟨k,hk,by rw[List.getD_eq_getElem?_getD,List.getElem?_eq_getElem hk];exact hx⟩
 ·rintro ⟨k,hk,hx⟩
  rw[List.getD_eq_getElem?_getD,List.getElem?_eq_getElem hk] at hx;exact ⟨_,List.getElem_mem hk,hx⟩
theorem z5u {e:En} {L:List En} {p0 p:Nat} (hs:q0q L) (h:p=p0∨(p=p0+1∧p0<L.length∧L.getD p0 en0=e)) (hl:p<L.length) (he:L.getD p en0=e):p=p0:=by
 rcases h with h|⟨h,h1,h2⟩
 ·exact h
 ·have h3:=q5E hs (show p0<p by omega) hl
  rw[h2,he,q0Z] at h3
  cases h3
theorem q9k {e:En} {L:List En} {p0 p:Nat} (h:p=p0∨(p=p0+1∧p0<L.length∧L.getD p0 en0=e)) (hn:¬(p<L.length∧L.getD p en0=e)):q7g e L p0=p:=by
 unfold q7g;rcases h with h|⟨h,h1,h2⟩
 ·subst h;rw[if_neg hn]
 ·rw[if_pos ⟨h1,h2⟩,h]
theorem MrgI.start (Ls:List (List En)):MrgI Ls (List.replicate Ls.length 0) []:=by
 have hz: ∀k,(List.replicate Ls.length 0).getD k 0=0:=fun k=>by
  rw[List.getD_eq_getElem?_getD,List.getElem?_replicate]
  split<;>rfl
 refine ⟨by simp,fun k _=>by rw[hz];omega,List.Pairwise.nil,fun x=>?_,fun o ho=>by simp at ho,by rw[q7v];simp⟩;rw[z1N];simp only[hz,List.drop_zero,List.not_mem_nil,false_or]
theorem MrgI.done {Ls:List (List En)} {P:List Nat} {out:List En} (h:MrgI Ls P out) (hb: ∀j,j<Ls.length→(Ls.getD j []).length≤P.getD j 0):out=q2S Ls:=by
 refine q5g h.sort (q4h Ls) fun x=>?_
 rw[mem_union,h.mem]
 constructor
 ·exact .inl
 ·rintro (h1|⟨k,h1,h2⟩)
  ·exact h1
  ·rw[List.drop_eq_nil_of_le (hb k h1)] at h2;cases h2
theorem MrgI.step {Ls:List (List En)} {P:List Nat} {out:List En} (h:MrgI Ls P out) (hs: ∀L∈Ls,q0q L) {b:Nat} (hb:b<Ls.length) (hlt:P.getD b 0<(Ls.getD b []).length)
  (hmin: ∀j,j<Ls.length→P.getD j 0<(Ls.getD j []).length→q0e ((Ls.getD j []).getD (P.getD j 0) en0) ((Ls.getD b []).getD (P.getD b 0) en0)=false):
  MrgI Ls (q4H ((Ls.getD b []).getD (P.getD b 0) en0) Ls P) (out++[(Ls.getD b []).getD (P.getD b 0) en0]):=by
 obtain ⟨e,he⟩: ∃e,(Ls.getD b []).getD (P.getD b 0) en0=e:=⟨_,rfl⟩
 have hcn:=z2F e Ls P b hb (by rw[h.len];exact hb) hlt he;rw[he] at hmin⊢;have hsk: ∀k,k<Ls.length→q0q (Ls.getD k []):=fun k hk=>by
  rw[List.getD_eq_getElem?_getD,List.getElem?_eq_getElem hk];exact hs _ (List.getElem_mem hk)
 have hge: ∀k,k<Ls.length→ ∀x∈(Ls.getD k []).drop (P.getD k 0),q0e x e=false:=fun k hk x hx=>by
  obtain ⟨i,h1,h2,rfl⟩:=mem_drop_getD.1 hx;rcases Nat.lt_or_ge (P.getD k 0) i with h3|h3
  ·have h4:=q5E (hsk k hk) h3 h2
   cases h5:q0e ((Ls.getD k []).getD i en0) e with
   |false=>rfl
   |true=>exact absurd (hmin k hk (by omega)) (by rw[q1K h4 h5];decide)
  ·have h4:P.getD k 0=i:=by omega
   rw[←h4];exact hmin k hk (by omega)
 have hat: ∀k,k<Ls.length→(q4H e Ls P).getD k 0=q7g e (Ls.getD k []) (P.getD k 0):=fun k hk=>q9O e Ls P k hk (by rw[h.len];exact hk)
 have hrest: ∀k,k<Ls.length→ ∀x,x∈(Ls.getD k []).drop ((q4H e Ls P).getD k 0)↔x∈(Ls.getD k []).drop (P.getD k 0)∧x≠e:=fun k hk x=>by
  rw[hat k hk,mem_drop_getD,mem_drop_getD];unfold q7g
  constructor
  ·rintro ⟨i,h1,h2,rfl⟩
   split at h1
   ·rename_i h3
    refine ⟨⟨i,by omega,h2,rfl⟩,fun e1=>?_⟩;have:=q5E (hsk k hk) (show P.getD k 0<i by omega) h2;rw[h3.2,e1,q0Z] at this
    cases this
   ·rename_i h3
    refine ⟨⟨i,h1,h2,rfl⟩,fun e1=>?_⟩;rcases Nat.lt_or_ge (P.getD k 0) i with h4|h4
    ·have h5:=q5E (hsk k hk) h4 h2
     have h6:=hmin k hk (by omega);rw[e1] at h5;rw[h5] at h6;cases h6
    ·have h5:P.getD k 0=i:=by omega
     exact h3 ⟨by omega,by rw[h5];exact e1⟩
  ·rintro ⟨⟨i,h1,h2,rfl⟩,hne⟩
   refine ⟨i,?_,h2,rfl⟩
   split
   ·rename_i h3
    rcases Nat.lt_or_ge (P.getD k 0) i with h4|h4
    ·omega
    ·have h5:P.getD k 0=i:=by omega
     rw[h5] at h3;exact absurd h3.2 hne
   ·exact h1
 have hemem:e∈(Ls.getD b []).drop (P.getD b 0):=mem_drop_getD.2 ⟨_,Nat.le_refl _,hlt,he⟩;refine ⟨by rw[q4I,h.len],fun k hk=>?_,?_,fun x=>?_,fun o ho k hk x hx=>?_,?_⟩
 ·rw[hat k hk]
  have:=h.le k hk;unfold q7g
  split<;>omega
 ·refine List.pairwise_append.2 ⟨h.sort,List.pairwise_singleton _ _,fun o ho y hy=>?_⟩
  obtain rfl:=List.mem_singleton.1 hy;exact h.lt o ho b hb _ hemem
 ·rw [h.mem,List.mem_append,List.mem_singleton]
  constructor
  ·rintro (h1|⟨k,h1,h2⟩)
   ·exact .inl (.inl h1)
   ·by_cases hx:x=e
    ·exact .inl (.inr hx)
    ·exact .inr ⟨k,h1,(hrest k h1 x).2 ⟨h2,hx⟩⟩
  ·rintro ((h1|rfl)|⟨k,h1,h2⟩)
   ·exact .inl h1
   ·exact .inr ⟨b,hb,hemem⟩
   ·exact .inr ⟨k,h1,((hrest k h1 x).1 h2).1⟩
 ·have h1:=(hrest k hk x).1 hx
  rcases List.mem_append.1 ho with h2|h2
  ·exact h.lt o h2 k hk x h1.1
  ·obtain rfl:=List.mem_singleton.1 h2
   cases h3:q0e o x with
   |true=>rfl
   |false=>exact absurd (q4q (hge k hk x h1.1) h3) h1.2
 ·have:=h.cnt
  rw[List.length_append,List.length_singleton];omega
end
section
open Go.RowKit
structure EGr (w:World) (ao:Option Addr) (n cap:Nat) (Ls:List (List En)):Prop where
 len:Ls.length=n
 fits:n≤cap
 bound:cap≤9223372036854775807
 nil:ao=none→cap=0
 rd: ∀i,i<n→ ∃b off ai ci,ao=some ⟨b,off,none⟩∧w.cell? ⟨b,off+i,none⟩=some (.slice ai (Ls.getD i []).length ci)∧Ens w ai (Ls.getD i []).length ci (Ls.getD i [])
theorem EGr.ext {w w':World} {ao:Option Addr} {n cap:Nat} {Ls:List (List En)} (h:EGr w ao n cap Ls) (k:Ext w w'):EGr w' ao n cap Ls:=
 ⟨h.len,h.fits,h.bound,h.nil,fun i hi=>let ⟨b,off,ai,ci,e,hc,hr⟩:=h.rd i hi;⟨b,off,ai,ci,e,q0A k hc,hr.ext k⟩⟩
structure EGo (w:World) (B:Nat) (v:Value) (vs:List Value) (Ls:List (List En)):Prop where
 own:w.ownsRow B 180 1 v Ls.length vs
 row: ∀i,w.ownsRow B 106 3 (vs.getD i (.slice none 0 0)) (Ls.getD i []).length (ecs (Ls.getD i []))
theorem q7B {α:Type} (L:List α) (x d:α) (i:Nat):(L++[x]).getD i d=if i<L.length then L.getD i d else if i=L.length then x else d:=by
 simp only[List.getD_eq_getElem?_getD]
 split
 ·rw[List.getElem?_append_left (by assumption)]
 ·split
  ·rename_i h1 h2
   subst h2;simp
  ·rename_i h1 h2
   rw[List.getElem?_eq_none (by simp;omega)];rfl
section
variable {w w':World} {B B':Nat} {v v' x:Value} {vs:List Value} {Ls:List (List En)} {M:List En}
theorem EGo.nil (w:World) (B:Nat):EGo w B (.slice none 0 0) [] []:=⟨World.ownsRow_nil _ _ _ _,fun i=>by simpa [ecs] using World.ownsRow_nil w B 106 3⟩
theorem EGo.len (h:EGo w B v vs Ls):vs.length=Ls.length:=by have:=h.own.1;simpa using this
theorem EGo.ext (h:EGo w B v vs Ls) (k:Ext w w'):EGo w' B v vs Ls:=⟨q0N h.own k,fun i=>q0N (h.row i) k⟩
theorem EGo.same (h:EGo w B v vs Ls) (k: ∀i,(v.ownBlock=some i∨ ∃q,(vs.getD q (.slice none 0 0)).ownBlock=some i)→w'.heap[i]? =w.heap[i]?):EGo w' B v vs Ls:=
 ⟨q1O h.own fun i hi=>k i (.inl hi),fun q=>q1O (h.row q) fun i hi=>k i (.inr ⟨q,hi⟩)⟩
theorem EGo.lt (h:EGo w B v vs Ls) {i:Nat} (hi:v.ownBlock=some i∨ ∃q,(vs.getD q (.slice none 0 0)).ownBlock=some i):B≤i∧i<w.heap.size:=by
 rcases hi with hi|⟨q,hi⟩
 ·exact q0c h.own i hi
 ·exact q0c (h.row q) i hi
theorem EGo.push (h:EGo w B v vs Ls) (hv:w.ownsRow B' 106 3 x M.length (ecs M)) (hB:B≤B')
  (own':w'.ownsRow B 180 1 v' (Ls.length+1) (vs++[x])) (hg:w.grownBy w' v.ownBlock):EGo w' B v' (vs++[x]) (Ls++[M]):=by
 have hvl:=h.len;have hk: ∀{y:Value} {K:List En} {C:Nat},w.ownsRow C 106 3 y K.length (ecs K)→w'.ownsRow C 106 3 y K.length (ecs K):=fun {y K C} hy=>
  q1O hy fun g hgy=>hg.block g (q0c hy g hgy).2 fun e=>by
   obtain ⟨c1,h1⟩:=q5a hy hgy;obtain ⟨c2,h2⟩:=q5a h.own e.symm;rw[h1] at h2;injection h2 with h2;injection h2 with _ h2 _;revert h2
   decide
 refine ⟨by simpa using own',fun i=>?_⟩;rw[q7B,q7B,hvl]
 split
 ·exact hk (h.row i)
 ·split
  ·exact hk (q0v hv hB)
  ·simpa [ecs] using World.ownsRow_nil w' B 106 3
theorem EGo.grid (h:EGo w B v vs Ls): ∃ao c,v= .slice ao Ls.length c∧EGr w ao Ls.length c Ls:=by
 obtain ⟨ao,c,e,h1,h2,h3,h4⟩:=(Own.of_row h.own).rd;refine ⟨ao,c,e,rfl,h1,h2,h3,fun i hi=>?_⟩;have hvl:=h.len;obtain ⟨ai,ci,e2,h5⟩:=Ens.of_own (Own.of_row (h.row i));obtain ⟨b,off,e3,hc⟩:=h4.at (j:=i) (by omega);refine ⟨b,off,ai,ci,e3,?_,h5⟩;rw[hc,←e2,List.getD_eq_getElem?_getD,List.getElem?_eq_getElem (by omega)]
 rfl
end
def q4k (P:List Nat):Array Value:=(P.map fun p:Nat=>Value.int .i64 (p:Int)).toArray
theorem q9D (P:List Nat) {k:Nat} (h:k<P.length):(q4k P)[k]? =some (.int .i64 ((P.getD k 0:Nat):Int)):=by
 unfold q4k;rw[List.getElem?_toArray,List.getElem?_map,List.getD_eq_getElem?_getD,List.getElem?_eq_getElem h]
 rfl
theorem z5d (P:List Nat) (k p:Nat):(q4k P).setIfInBounds k (.int .i64 (p:Int))=q4k (P.set k p):=by
 unfold q4k;rw[List.setIfInBounds_toArray,List.map_set]
theorem z3c (n:Nat):Array.replicate n (Value.int .i64 0)=q4k (List.replicate n 0):=by
 unfold q4k;simp
end
end Go.Proofs.YthdekbmdkpcooaaGreatDoor
