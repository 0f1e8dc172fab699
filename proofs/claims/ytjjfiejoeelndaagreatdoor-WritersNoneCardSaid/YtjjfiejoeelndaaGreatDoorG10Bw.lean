/- Walks: the bytes of an entry, and the entry of bytes. Walks: where the first entry stands that is not ahead of a hash and a version (entries.Search). Walks: entries are cloned; the entries of a hash between two versions (entries.Range). -/
import Derived.Test.YtjjfiejoeelndaaGreatDoorG9Bw
import Derived.Test.YtjjfiejoeelndaaGreatDoorG4Bw
import Derived.Deep.RegionLaw
import Derived.Deep.AppendLies
import Derived.BigQuiet
set_option linter.unusedVariables false
set_option linter.unusedSimpArgs false
namespace Go.Proofs.YtjjfiejoeelndaaGreatDoor
open Go.RowKit
set_option maxRecDepth 100000
set_option linter.unusedVariables false
set_option maxHeartbeats 3200000
theorem z7x (e:En) (w:World) (h:q3G e=true):Calls Tryz.prog 88 #[enV e] w fun r w'=>r= .returned (.string ⟨(q3w e).toArray⟩)∧Ext w w':=by
  obtain ⟨a0,a1,b0,b1,c0,c1⟩:=okEn_iff.1 h
  obtain ⟨x,y,z⟩:=e
  simp only at a0 a1 b0 b1 c0 c1
  have hE:q3w (x,y,z)=be 8 x.toNat++(be 8 y.toNat++be 8 z.toNat):=rfl
  have HE:=Lib.hid hE
  have l1:=q0H 8 x.toNat;have l2:=q0H 8 y.toNat;have l3:=q0H 8 z.toNat
  have P1:=Lib.hid (fun W=>q7I x 8 W (by omega) (by omega) a0 a1)
  have P2:=Lib.hid (fun W=>q7I y 8 W (by omega) (by omega) b0 (by omega))
  have P3:=Lib.hid (fun W=>q7I z 8 W (by omega) (by omega) c0 (by omega))
  generalize q3w (x,y,z)=EE at*
  generalize be 8 x.toNat=X at*
  generalize be 8 y.toNat=Y at*
  generalize be 8 z.toNat=Z at*
  have hw2:IntKind.u64.wrap y=y:=by rw[IntKind.wrap_u64];omega
  have hw3:IntKind.u64.wrap z=z:=by rw[IntKind.wrap_u64];omega
  have hbk:=Blk.new w 108 #[.int .u64 x,.int .i64 y,.int .i64 z]
  have e0:(w.alloc (.cells #[.int .u64 x,.int .i64 y,.int .i64 z] 108)).cell? ⟨w.heap.size,0,none⟩=some (.int .u64 x):=hbk.cell 0
  have e1:(w.alloc (.cells #[.int .u64 x,.int .i64 y,.int .i64 z] 108)).cell? ⟨w.heap.size,1,none⟩=some (.int .i64 y):=hbk.cell 1
  have e2:(w.alloc (.cells #[.int .u64 x,.int .i64 y,.int .i64 z] 108)).cell? ⟨w.heap.size,2,none⟩=some (.int .i64 z):=hbk.cell 2
  have u0:=q0D e0;have u1:=q0D e1;have u2:=q0D e2
  have q1:¬(9223372036854775807<X.length+Y.length):=by omega
  have q2:¬(9223372036854775807<(X++Y).length+Z.length):=by rw[List.length_append];omega
  have q3:¬(9223372036854775807<X.length+Y.length+Z.length):=by omega
  have HX:=Lib.hid (q0B w (.cells #[.int .u64 x,.int .i64 y,.int .i64 z] 108))
  clear hbk hE e0 e1 e2 h
  show Calls Tryz.prog 88 #[.agg #[.int .u64 x,.int .i64 y,.int .i64 z]] w _
  go_enter Tryz.func88,Tryz.ntmps88
  go_wp2_with fail
  refine q0E (by kernel_rfl) (by kernel_rfl) ?_
  repeat (go_big_quiet_step (fail))
  go_big_quiet_step (exact Calls.quiet_ext (P1.out _))
  repeat (go_big_quiet_step (fail))
  go_big_quiet_step (exact Calls.quiet_ext (P2.out _))
  repeat (go_big_quiet_step (fail))
  go_big_quiet_step (exact Calls.quiet_ext (P3.out _))
  repeat (go_big_quiet_step (fail))
  refine wpQuiet_nil ?_
  intro w2 hw
  have HB2:=Lib.hid (HX.out.trans hw)
  clear hw
  go_wp2_with fail
  go_ret
  exact ⟨by rw[HE.out,q3I,q3I];simp,HB2.out⟩
end Go.Proofs.YtjjfiejoeelndaaGreatDoor
namespace Go.Proofs.YtjjfiejoeelndaaGreatDoor
open Go.RowKit
set_option maxRecDepth 100000
set_option linter.unusedVariables false
set_option maxHeartbeats 6400000
def q6C (e:En) (h v:Int):Bool:=decide (e.1<h)||(decide (e.1=h)&&decide (e.2.1<v))
theorem z3v {e:En} (h v:Int) (hp:0≤e.2.2):q6C e h v=q0e e (h,v,0):=by
  rw[Bool.eq_iff_iff,lessE_iff]
  unfold q6C
  simp only[Bool.or_eq_true,Bool.and_eq_true,decide_eq_true_eq]
  omega
theorem z9Z (e:En) (h v:Int) (w:World):
    Calls Tryz.prog 195 #[enV e,.int .u64 h,.int .i64 v] w fun r w'=>r= .returned (.bool (q6C e h v))∧Ext w w':=by
  obtain ⟨a,b,c⟩:=e
  show Calls _ _ #[.agg #[.int .u64 a,.int .i64 b,.int .i64 c],_,_] _ _
  have hbk:=Blk.new w 108 #[.int .u64 a,.int .i64 b,.int .i64 c]
  have HX:=Lib.hid (q0B w (.cells #[.int .u64 a,.int .i64 b,.int .i64 c] 108))
  have c0:(w.alloc (.cells #[.int .u64 a,.int .i64 b,.int .i64 c] 108)).cell? ⟨w.heap.size,0,none⟩=some (.int .u64 a):=hbk.cell 0
  have c1:(w.alloc (.cells #[.int .u64 a,.int .i64 b,.int .i64 c] 108)).cell? ⟨w.heap.size,1,none⟩=some (.int .i64 b):=hbk.cell 1
  have h3:(decide (a<h)=true∧q6C (a,b,c) h v=true)∨(decide (a<h)=false∧(a==h)=false∧q6C (a,b,c) h v=false)∨(decide (a<h)=false∧(a==h)=true∧q6C (a,b,c) h v=decide (b<v)):=by
    unfold q6C
    by_cases g1:a<h
    · exact .inl ⟨decide_eq_true g1,by simp[g1]⟩
    · by_cases g2:a=h
      · exact .inr (.inr ⟨decide_eq_false g1,by simpa using g2,by simp[g1,g2]⟩)
      · exact .inr (.inl ⟨decide_eq_false g1,by simpa using g2,by simp[g1,g2]⟩)
  clear hbk
  rcases h3 with ⟨g1,he⟩|⟨g1,g2,he⟩|⟨g1,g2,he⟩
  all_goals
    rw[he]
    clear he
    go_enter Tryz.func195,Tryz.ntmps195
    go_wp2_with fail
    go_ret
    exact ⟨rfl,HX.out⟩
theorem q9F {ao:Option Addr} {n cap:Nat} {L:List En} (h v:Int) (w:World) (hx:Ens w ao n cap L) (hn:n≤1000000) (hs:q0s L) (ho: ∀e∈L,q3G e=true):
    Calls Tryz.prog 147 #[.slice ao n cap,.int .u64 h,.int .i64 v] w fun r w'=>r= .returned (.int .i64 (lbE L (h,v,0):Int))∧Ext w w':=by
  have Hx:=Lib.hid hx
  have HX0:=Lib.hid (Ext.refl w)
  have HA:=Lib.hid (fun e W=>z9Z e h v W)
  have b1:=hx.fits;have b2:=hx.bound
  have HAt:Hid (∀i,i<n→q6C (L.getD i en0) h v=decide (i<lbE L (h,v,0))):=Lib.hid fun i hi=>by
    have hi':i<L.length:=by rw[hx.len];exact hi
    have hg:L.getD i en0=L[i]:=by rw[List.getD_eq_getElem?_getD,List.getElem?_eq_getElem hi'];rfl
    have hok:=ho _ (List.getElem_mem hi')
    rw[hg,z3v h v (by unfold q3G at hok;simp at hok;omega),q3V (h,v,0) hs (List.getElem?_eq_getElem hi')]
  have hlb:=q4C L (h,v,0)
  rw[hx.len] at hlb
  generalize lbE L (h,v,0)=lb at*
  clear hx hs ho
  go_enter Tryz.func147,Tryz.ntmps147
  go_wp2
  go_step3
  go_wp2
  go_step3
  go_wp2
  go_loopw [7,8] (fun i j W=> ∃lo hi:Nat,i= .int .i64 (lo:Int)∧j= .int .i64 (hi:Int)∧lo≤lb∧lb≤hi∧hi≤n∧Ext w W) (fun i j _=>(intOf j).toNat-(intOf i).toNat)
  case atStart=>exact ⟨0,n,rfl,rfl,Nat.zero_le _,hlb,Nat.le_refl _,HX0.out⟩
  case round=>
    obtain ⟨lo,hi,rfl,rfl,h1,h2,h3,hX⟩:=hrel
    have HX:=Lib.hid hX
    clear hX
    have q1:IntKind.i64.wrap ((hi:Int)-(lo:Int))=(hi:Int)-(lo:Int):=by rw[IntKind.wrap_i64];omega
    have q2:Int.tdiv ((hi:Int)-(lo:Int)) 2=((hi:Int)-(lo:Int))/2:=Int.tdiv_eq_ediv_of_nonneg (by omega)
    obtain ⟨m,hm⟩: ∃m,lo+(hi-lo)/2=m:=⟨_,rfl⟩
    have q3:(lo:Int)+((hi:Int)-(lo:Int))/2=(m:Int):=by omega
    have q4:IntKind.i64.wrap (((hi:Int)-(lo:Int))/2)=((hi:Int)-(lo:Int))/2:=by rw[IntKind.wrap_i64];omega
    have q5:IntKind.i64.wrap (m:Int)=(m:Int):=by rw[IntKind.wrap_i64];omega
    by_cases hlt:lo<hi
    · have hd:decide ((hi:Int)≤(lo:Int))=false:=decide_eq_false (by omega)
      have q6:(m:Int)<(n:Int):=by omega
      obtain ⟨b,off,rfl,c0,c1,c2⟩:=(Hx.out.ext HX.out).at (show m<n by omega)
      have hat:=HAt.out m (by omega)
      have HAm:=Lib.hid (HA.out (L.getD m en0))
      generalize L.getD m en0=e at*
      obtain ⟨a,bb,c⟩:=e
      rw[hat] at HAm
      by_cases hml:m<lb
      · rw[decide_eq_true hml] at HAm
        have q7:IntKind.i64.wrap ((m:Int)+1)=(m:Int)+1:=by rw[IntKind.wrap_i64];omega
        clear hat
        go_wp2_with fail
        refine (HAm.out _).mono ?_
        rintro e w1 ⟨rfl,hb⟩
        have HX1:=Lib.hid (HX.out.trans hb);clear hb
        go_wp2_with fail
        go_roundw
        case rel=>exact ⟨m+1,hi,by go_num,rfl,hml,h2,h3,HX1.out⟩
        case measure=>simp[intOf];omega
      · rw[decide_eq_false hml] at HAm
        clear hat
        go_wp2_with fail
        refine (HAm.out _).mono ?_
        rintro e w1 ⟨rfl,hb⟩
        have HX1:=Lib.hid (HX.out.trans hb);clear hb
        go_wp2_with fail
        go_roundw
        case rel=>exact ⟨lo,m,rfl,rfl,h1,by omega,by omega,HX1.out⟩
        case measure=>simp[intOf];omega
    · have hd:decide ((hi:Int)≤(lo:Int))=true:=decide_eq_true (by omega)
      obtain rfl:lo=lb:=by omega
      go_wp2_with fail
      rw[Exit.noGoto_ret]
      go_ret
      exact ⟨rfl,HX.out⟩
end Go.Proofs.YtjjfiejoeelndaaGreatDoor
namespace Go.Proofs.YtjjfiejoeelndaaGreatDoor
open Go.RowKit
set_option maxRecDepth 100000
set_option linter.unusedVariables false
set_option maxHeartbeats 12800000
theorem Tryz.infoEnH :(Tryz.prog.info? 108).map (fun i=>(i.zero,i.size,i.bytes))=some (some (.agg #[.int .u64 0,.int .i64 0,.int .i64 0]),3,24):=by kernel_rfl
theorem q9O {ao:Option Addr} {n cap:Nat} {K:List En} (w:World) (hx:Ens w ao n cap K) (hn:n≤1000000):
    Calls Tryz.prog 164 #[.slice ao n cap] w fun e w'=> ∃v,e= .returned v∧w'.ownsRow w.heap.size 108 3 v K.length (ecs K)∧Ext w w':=by
  have hq:=fun (w:World) (a:Option Addr) (n c n' c':Nat)=>Lib.run_eql_slice_nil (P:=Tryz.prog) w 148 108 a n c n' c' Tryz.underlying148
  have b1:=hx.fits;have b2:=hx.bound
  have hl:=hx.len
  have hnil:=hx.nil
  obtain ⟨i,hi,hz,hsize,hby⟩:=info_parts Tryz.infoEnH
  have HI:=Lib.hid hi;have HZ:=Lib.hid hz;have HSz:=Lib.hid hsize;have HBy:=Lib.hid hby
  have HX0:=Lib.hid (Ext.refl w)
  cases ao with
  | none=>
    obtain rfl:cap=0:=hnil rfl
    obtain rfl:n=0:=by omega
    obtain rfl:K=[]:=List.eq_nil_of_length_eq_zero hl
    clear hx hl hnil hi hz hsize hby
    go_enter Tryz.func164,Tryz.ntmps164
    go_wp2_with fail
    go_ret
    exact ⟨_,rfl,World.ownsRow_nil _ _ _ _,HX0.out⟩
  | some a=>
    have hrow0:(w.alloc (.cells #[] 108)).ownsRow w.heap.size 108 3 (.slice (some ⟨w.heap.size,0,none⟩) 0 0) 0 []:=⟨rfl,.inr ⟨w.heap.size,0,#[],rfl,Nat.le_refl _,Blk.new w _ _,Nat.le_refl _,by unfold maxLen;omega,rfl,rfl⟩⟩
    have HR0:=Lib.hid hrow0
    have HX1:=Lib.hid (q0B w (.cells #[] 108))
    by_cases h0:n=0
    · subst h0
      obtain rfl:K=[]:=List.eq_nil_of_length_eq_zero hl
      clear hx hl hnil hi hz hsize hby hrow0
      go_enter Tryz.func164,Tryz.ntmps164
      go_wp2_with fail
      go_ret
      exact ⟨_,rfl,HR0.out,HX1.out⟩
    · have HNews:Hid (∀j u,(ecs K)[j]? =some u→(w.alloc (.cells #[] 108)).cell? (a.add j)=some u):=Lib.hid fun j u hj=>by
        obtain ⟨b,off,e,h⟩:=(hx.ext HX1.out).rd j u hj
        cases e
        rw[Addr.add_lit];exact h
      have HL:=Lib.hid hl
      have HLe:Hid ((ecs K).length=n*3):=Lib.hid (by rw[q1S,hl])
      clear hx hl hnil hi hz hsize hby hrow0
      go_enter Tryz.func164,Tryz.ntmps164
      go_wp2_with (at_builtin;refine wpList_append_lies _ rfl _ _ 148 rfl w.heap.size 108 i _ 3 24 Tryz.underlying148 HI.out HZ.out HSz.out HBy.out (by decide) (by decide) _ 0 [] (by simp[Act.eval]) HR0.out a n cap (ecs K) (by simp[Act.eval]) HLe.out HNews.out (q3b K) (by omega) (by unfold maxLen;omega) (by omega) HX1.out.size _ rfl ?_;intro g cap1 w1 hown hgrow hat hlt2;have HOw:=Lib.hid hown;have HGr:=Lib.hid hgrow;clear hown hgrow hat)
      go_wp2_with fail
      go_ret
      refine ⟨_,rfl,by have:=HOw.out;rw[HL.out];simpa using this,HX1.out.grown HGr.out HX1.out.size (fun q hq=>by cases hq;exact Nat.le_refl _)⟩
theorem z7D {ao:Option Addr} {n cap:Nat} {L:List En} (h a b:Int) (w:World) (hx:Ens w ao n cap L) (hn:n≤1000000) (hs:q0s L) (ho: ∀e∈L,q3G e=true):
    Calls Tryz.prog 190 #[.slice ao n cap,.int .u64 h,.int .i64 a,.int .i64 b] w fun r w'=> ∃v,r= .returned v∧w'.ownsRow w.heap.size 108 3 v (q0k L h a b).length (ecs (q0k L h a b))∧Ext w w':=by
  have HS:=Lib.hid (q9F h a w hx hn hs ho)
  have Hx:=Lib.hid hx
  have b1:=hx.fits;have b2:=hx.bound
  have hlen:=hx.len
  have hnil:=hx.nil
  have hlb:=q4C L (h,a,0)
  rw[hlen] at hlb
  have HRg:Hid (q0k L h a b=(L.drop (lbE L (h,a,0))).takeWhile (inE h b)):=Lib.hid (q3S hs ho)
  generalize lbE L (h,a,0)=lb at*
  have HLen:=Lib.hid hlen
  clear hx hs ho hlen
  go_enter Tryz.func190,Tryz.ntmps190
  go_wp2_with fail
  refine HS.out.mono ?_
  rintro e w1 ⟨rfl,hb⟩
  have HX1:=Lib.hid hb;clear hb
  go_wp2_with fail
  go_loopw [10] (fun i W=> ∃j:Nat,lb≤j∧j≤n∧i= .int .i64 (j:Int)∧W=w1∧(L.drop lb).takeWhile (inE h b)=(L.drop lb).take (j-lb)++(L.drop j).takeWhile (inE h b)) (fun i _=>n-(intOf i).toNat)
  case atStart=>exact ⟨lb,Nat.le_refl _,hlb,rfl,rfl,by simp⟩
  case round =>
    obtain ⟨j,h1,h2,rfl,rfl,hw⟩:=hrel
    have HW:=Lib.hid hw
    clear hw
    by_cases hlt:j<n
    · have hd:decide ((j:Int)<(n:Int))=true:=decide_eq_true (by omega)
      have q1:IntKind.i64.wrap ((j:Int)+1)=(j:Int)+1:=by rw[IntKind.wrap_i64];omega
      have q5:(j:Int)<(n:Int):=by omega
      obtain ⟨bb,off,rfl,c0,c1,c2⟩:=(Hx.out.ext HX1.out).at hlt
      have hjL:j<L.length:=by rw[HLen.out];exact hlt
      have hg:L.getD j en0=L[j]:=by rw[List.getD_eq_getElem?_getD,List.getElem?_eq_getElem hjL];rfl
      rw[hg] at c0 c1 c2
      have hdr:(L.drop j).takeWhile (inE h b)=if inE h b L[j] then L[j]::(L.drop (j+1)).takeWhile (inE h b) else []:=by
        rw[List.drop_eq_getElem_cons hjL,List.takeWhile_cons]
      have htk:(L.drop lb).take (j+1-lb)=(L.drop lb).take (j-lb)++[L[j]]:=by
        have h3:j-lb<(L.drop lb).length:=by rw[List.length_drop];omega
        rw[show j+1-lb=(j-lb)+1 by omega,List.take_succ_eq_append_getElem h3,List.getElem_drop]
        congr 3;omega
      have HDr:=Lib.hid hdr;have HTk:=Lib.hid htk
      generalize L[j]=e at*
      obtain ⟨e0,e1,e2⟩:=e
      clear hg hdr htk
      by_cases hin:inE h b (e0,e1,e2)=true
      · have hin':=hin
        unfold inE at hin'
        simp only[Bool.and_eq_true,decide_eq_true_eq] at hin'
        obtain ⟨i1,i2⟩:=hin'
        have g1:(e0==h)=true:=by simpa using i1
        have g2:decide (e1≤b)=true:=decide_eq_true i2
        have HW2:Hid ((L.drop lb).takeWhile (inE h b)=(L.drop lb).take (j+1-lb)++(L.drop (j+1)).takeWhile (inE h b)):=Lib.hid (by rw[HW.out,HDr.out,if_pos hin,HTk.out,List.append_assoc];rfl)
        clear i1 i2 hin
        go_wp2_with fail
        go_roundw
        case rel=>exact ⟨j+1,by omega,by omega,by go_num,trivial,HW2.out⟩
        case measure=>simp[intOf];omega
      · have hcase:(e0==h)=false∨((e0==h)=true∧decide (e1≤b)=false):=by
          by_cases g1:e0=h
          · refine .inr ⟨by simpa using g1,decide_eq_false fun g2=>hin ?_⟩
            unfold inE;simp[g1,g2]
          · exact .inl (by simpa using g1)
        have HEnd:Hid ((L.drop lb).takeWhile (inE h b)=(L.drop lb).take (j-lb)):=Lib.hid (by rw[HW.out,HDr.out,if_neg hin,List.append_nil])
        clear hin
        have hsl:Ens wr (some ⟨bb,off+lb*3,none⟩) (j-lb) (cap-lb) ((L.drop lb).take (j-lb)):=by
          have h5:=(Hx.out.ext HX1.out).cut (show j≤n by omega)
          refine ⟨by rw[List.length_take,List.length_drop,HLen.out];omega,by omega,by omega,(fun h=>by cases h),?_⟩
          have h6:=h5.rd.drop (lb*3)
          have e6:(ecs (L.take j)).drop (lb*3)=ecs ((L.drop lb).take (j-lb)):=by
            rw[←List.drop_take]
            conv=>lhs;rw[←List.take_append_drop lb (L.take j),q2o]
            exact List.drop_left' (by rw[q1S,List.length_take,List.length_take,HLen.out];omega)
          rwa [e6] at h6
        have HCl:=Lib.hid (q9O wr hsl (by omega))
        have HRe:Hid (q0k L h a b=(L.drop lb).take (j-lb)):=Lib.hid (by rw[HRg.out,HEnd.out])
        clear hsl
        rcases hcase with g1|⟨g1,g2⟩
        all_goals
          go_wp2_with fail
          refine HCl.out.mono ?_
          rintro e w2 ⟨v,rfl,hrow,hb⟩
          have HRw:=Lib.hid (q0t hrow HX1.out.size);have HX2:=Lib.hid (HX1.out.trans hb)
          clear hrow hb
          go_wp2_with fail
          go_ret
          exact ⟨v,rfl,by rw[HRe.out];exact HRw.out,HX2.out⟩
    · have hd:decide ((j:Int)<(n:Int))=false:=decide_eq_false (by omega)
      obtain rfl:j=n:=by omega
      have HEnd:Hid ((L.drop lb).takeWhile (inE h b)=(L.drop lb).take (j-lb)):=Lib.hid (by rw[HW.out,List.drop_of_length_le (show L.length≤j by rw[HLen.out];exact Nat.le_refl _)];simp)
      by_cases hlj:lb<j
      · obtain ⟨bb,off,rfl,_,_,_⟩:=(Hx.out.ext HX1.out).at hlj
        have hsl:Ens wr (some ⟨bb,off+lb*3,none⟩) (j-lb) (cap-lb) ((L.drop lb).take (j-lb)):=by
          have h5:=(Hx.out.ext HX1.out).cut (show j≤j by omega)
          refine ⟨by rw[List.length_take,List.length_drop,HLen.out];omega,by omega,by omega,(fun h=>by cases h),?_⟩
          have h6:=h5.rd.drop (lb*3)
          have e6:(ecs (L.take j)).drop (lb*3)=ecs ((L.drop lb).take (j-lb)):=by
            rw[←List.drop_take]
            conv=>lhs;rw[←List.take_append_drop lb (L.take j),q2o]
            exact List.drop_left' (by rw[q1S,List.length_take,List.length_take,HLen.out];omega)
          rwa [e6] at h6
        have HCl:=Lib.hid (q9O wr hsl (by omega))
        have HRe:Hid (q0k L h a b=(L.drop lb).take (j-lb)):=Lib.hid (by rw[HRg.out,HEnd.out])
        have hlc:¬(cap=lb):=by omega
        clear hsl
        go_wp2_with fail
        refine HCl.out.mono ?_
        rintro e w2 ⟨v,rfl,hrow,hb⟩
        have HRw:=Lib.hid (q0t hrow HX1.out.size);have HX2:=Lib.hid (HX1.out.trans hb)
        clear hrow hb
        go_wp2_with fail
        go_ret
        exact ⟨v,rfl,by rw[HRe.out];exact HRw.out,HX2.out⟩
      · obtain rfl:lb=j:=by omega
        have HRe:Hid (q0k L h a b=[]):=Lib.hid (by rw[HRg.out,HEnd.out,Nat.sub_self];rfl)
        have HCl:=Lib.hid (fun o c (h1:c≤cap) (h2:o=none→c=0)=>q9O (K:=[]) (n:=0) wr ⟨rfl,by omega,by omega,h2,Rd.nil wr o⟩ (by omega))
        clear hlj HEnd HW HRg
        by_cases hcl:cap=lb
        · go_wp2_with fail
          refine (HCl.out _ _ (by omega) (fun _=>by omega)).mono ?_
          rintro e w2 ⟨v,rfl,hrow,hb⟩
          have HRw:=Lib.hid (q0t hrow HX1.out.size);have HX2:=Lib.hid (HX1.out.trans hb)
          clear hrow hb
          go_wp2_with fail
          go_ret
          exact ⟨v,rfl,by rw[HRe.out];exact HRw.out,HX2.out⟩
        · go_wp2_with fail
          refine (HCl.out _ _ (by omega) (fun h=>by have:=hnil (by cases ao<;>first|rfl|cases h);omega)).mono ?_
          rintro e w2 ⟨v,rfl,hrow,hb⟩
          have HRw:=Lib.hid (q0t hrow HX1.out.size);have HX2:=Lib.hid (HX1.out.trans hb)
          clear hrow hb
          go_wp2_with fail
          go_ret
          exact ⟨v,rfl,by rw[HRe.out];exact HRw.out,HX2.out⟩
end Go.Proofs.YtjjfiejoeelndaaGreatDoor
