/- Walks. -/
import Derived.Test.YthdekbmdkpcooaaGreatDoorG31CT
import Derived.WalkMore
import Derived.Deep.LoopGhost
set_option linter.unusedVariables false
set_option linter.unusedSimpArgs false
set_option maxRecDepth 100000
set_option maxHeartbeats 6400000
namespace Go.Proofs.YthdekbmdkpcooaaGreatDoor
theorem η41 {p:Prop} (h:p):Go.RowKit.Hid p:=Lib.hid h
section
open Go.RowKit
theorem q5q {fn:Func} {t u v x:Tmp} (h:fn.results=#[.tmp t,.tmp u,.tmp v,.tmp x]) (tmps:Array Value) (P:Program) (w:World):
  (results fn tmps).run P w= .ok (.tuple #[tmps.getD t undef,tmps.getD u undef,tmps.getD v undef,tmps.getD x undef]) w:=by
 simp[results,h]
def z1u (r:Option (Nat×List UInt8)):Value:=match r with
 |none=> .tuple #[.string ⟨#[]⟩,.int .i64 0,.int .i64 0,.int .i64 4]
 |some (a,p)=> .tuple #[.string ⟨p.toArray⟩,.int .i64 (a:Int),.int .i64 ((a:Int)+(p.length:Int)+12),.int .i64 0]
theorem z5L (C:Cks) (pos:Int):q3N C (max pos 0)=q3N C pos:=by
 unfold q3N
 congr 1
 funext r
 rw[decide_eq_decide];omega
theorem q8B (n:Nat) (ps:List (List UInt8)):z6c (q0S n ps) (q2R n)=true:=by
 unfold z6c q0S;rw[decide_eq_true (by simp),Bool.true_and,List.take_left];simp
theorem z3Z {pos:Int} {b k:Nat} {ps:List (List UInt8)} {p:List UInt8} (B:List (Nat×List UInt8)) (h:ps[k]? =some p):((q2a (b+12) ps).drop k++B).find? (fun r=>decide (pos≤(r.1:Int)))=if pos≤((b+q0K (ps.take k):Nat):Int) then some (b+q0K (ps.take k),p) else ((q2a (b+12) ps).drop (k+1)++B).find? fun r=>decide (pos≤(r.1:Int)):=by
 have h1:=z2q ps (b+12) k p h;obtain ⟨hk,he⟩:=List.getElem?_eq_some_iff.1 h1;rw[←List.getElem_cons_drop hk,he,List.cons_append,List.find?_cons];have e:b+12+((ps.take k).map fun p=>p.length+12).sum=b+q0K (ps.take k):=by unfold q0K;omega
 simp only[e];by_cases hp:pos≤((b+q0K (ps.take k):Nat):Int)
 ·rw[if_pos hp,decide_eq_true hp]
 ·rw[if_neg hp,decide_eq_false hp]
theorem z6h {C:Cks} {n:Nat} {ps:List (List UInt8)} (h:C[n]? =some ps):q0y (4096*n) (C.drop n)=q2a (4096*n+12) ps++q0y (4096*(n+1)) (C.drop (n+1)):=by
 obtain ⟨hk,he⟩:=List.getElem?_eq_some_iff.1 h;rw[←List.getElem_cons_drop hk,he,q0y]
 congr 2
theorem z1D {W:World} {B:Nat} {ps:List (List UInt8)} {pa:Option Addr} {pc k:Nat} {p:List UInt8} (h:W.ownsRow B 3 1 (.slice pa ps.length pc) ps.length ((q1R 12 ps).map fun x=>Value.int .i64 (x.1:Int))) (hp:ps[k]? =some p):
  ∃b3,pa=some ⟨b3,0,none⟩∧W.cell? ⟨b3,k,none⟩=some (.int .i64 (q0K (ps.take k):Int)):=by
 have hk:k<ps.length:=(List.getElem?_eq_some_iff.1 hp).1;obtain ⟨b3,cap,h1,h2,_⟩:=(Own.of_row h).cell (j:=k) (by rw[List.length_map,q2Q];exact hk);have hval:((q1R 12 ps).map fun x=>Value.int .i64 (x.1:Int))[k]'(by rw[List.length_map,q2Q];exact hk)= .int .i64 (q0K (ps.take k):Int):=by
  rw[List.getElem_map];have h3:=q7n ps 12 k p hp;obtain ⟨_,h4⟩:=List.getElem?_eq_some_iff.1 h3;rw[h4]
  rfl
 rw[hval] at h2
 cases h1;exact ⟨b3,rfl,h2⟩
theorem q7s (ps:List (List UInt8)) (k:Nat):q0K (ps.take k)≤q0K ps:=by
 unfold q0K
 conv=>rhs;rw[←List.take_append_drop k ps,List.map_append,List.sum_append]
 omega
section
variable {E :Oth} {w0 w:World} {g gl:Nat} {F K:Nat→Prop} {v:Value} {σ:DM} {c s sure:Int} {C:Cks} {xs:List Int}
def y0I (E:Oth) (w0 w:World) (g gl:Nat) (c s:Int) (C:Cks) (sure:Int) (K:Nat→Prop) (pos:Int) (e:Ending) (w':World):Prop:=
 e= .returned (z1u (q3N C pos))∧LgK E w0 w' g gl c s C sure K∧Stay K w w'
theorem y0j (h :LgK E w0 w g gl c s C sure K) (pos:Int) (p0: -9223372036854775808≤pos) (p1:pos≤9223372036854775807):
  Calls Tryz.prog 48 #[.pointer (some ⟨gl,0,none⟩),.int .i64 pos] w (y0I E w0 w g gl c s C sure K pos):=by
 have HK:=η41 h;obtain ⟨F,v,σ,h1,h2⟩:=h;have HRd:=η41 (z1t h1 h2.pl.up h2.pl.st);have HOk:=η41 h2.ok;obtain ⟨P,hP⟩: ∃P:Int,max pos 0=P:=⟨_,rfl⟩
 have HNx:Hid (q3N C pos=q3N C P):=η41 (by rw[←hP,z5L]);have q0:0≤P:=by omega
 have q1:P≤9223372036854775807:=by omega
 obtain ⟨m,hm⟩: ∃m:Nat,P/4096=(m:Int):=⟨(P/4096).toNat,by omega⟩
 have hq:P.tdiv 4096=(m:Int):=by rw[Int.tdiv_eq_ediv_of_nonneg q0];exact hm
 have hm1:(m:Int)≤2251799813685248:=by omega
 have HSt:Hid (q3N C P=(q0y (4096*m) (C.drop m)).find? fun r=>decide (P≤(r.1:Int))):=η41 (z1Y C P HOk.out.size m (by omega));have hmax:(if pos<(0:Int) then (0:Int) else pos)=P:=by rw[←hP];split<;>omega
 have HM:=η41 hm;clear h1 h2 hmax hq;go_enter Tryz.func48,Tryz.ntmps48;go_wp2_with fail
 go_step3
 go_wp2_with fail;refine HRd.out.mono ?_;rintro e w1 ⟨rfl,hb⟩;have HB:=η41 hb;clear hb;go_wp2_with fail
 go_step3
 go_wp2_with fail
 go_loopw [9] (fun i W=> ∃n:Nat,i= .int .i64 (n:Int)∧(n:Int)≤2251799813685248∧q3N C P=((q0y (4096*n) (C.drop n)).find? fun r=>decide (P≤(r.1:Int)))∧LgK E w0 W g gl c s C sure K∧Stay K w W) (fun i _=>C.length-(intOf i).toNat)
 case atStart=>exact ⟨m,by rw[HM.out],hm1,HSt.out,HK.out.grow HB.out,HK.out.kExt HB.out⟩
 case round =>
  obtain ⟨n,rfl,hn1,hnx,hk,hst⟩:=hrel;have HNw:=η41 hnx;have HSw:=η41 hst;have HKw:=η41 hk;obtain ⟨F',v',σ',h1,h2⟩:=hk;have hsl:=q0b C;obtain ⟨sa,sk,hv0⟩:=q0J h1.l.row;rw[hsl] at hv0;subst hv0;have c3:=h1.l.c3;have c0:=h1.l.c0;clear hnx hst hsl hm1 hP hm;by_cases hnC:C.length≤n
  ·have HE:Hid (z1u (q3N C pos)= .tuple #[.string ⟨#[]⟩,.int .i64 0,.int .i64 0,.int .i64 4]):=η41 (by
    rw[HNx.out,HNw.out,List.drop_of_length_le hnC];rfl)
   have hd:decide ((n:Int)<(C.length:Int))=false:=by simp;omega
   clear h1 h2;go_wp2_with fail
   try rw[Exit.noGoto_ret]
   refine bodyPost_ret (q5q rfl _ _ _) rfl ?_;exact ⟨by rw[HE.out];rfl,HKw.out,HSw.out⟩
  have hd:decide ((n:Int)<(C.length:Int))=true:=by simp;omega
  have hnC':n<C.length:=by omega
  obtain ⟨ps,hps⟩: ∃ps,C[n]? =some ps:=⟨C[n],List.getElem?_eq_getElem hnC'⟩
  have hn200:n<200:=by have:=h2.ok.few;omega
  obtain ⟨b,sk',hv,hcz,_⟩:=h1.cellAt hps
  cases hv;have hz4:q0K ps≤4096:=h2.ok.size ps (List.mem_of_getElem? hps);have hlen:=q1I n ps;have hpsl:ps.length≤341:=by have:=z8O ps;unfold q0K at hz4;omega
  have hfind:=q3U h2.oth h2.ok.few hps;have hpay:=h2.ok.pay ps (List.mem_of_getElem? hps);have HNy:Hid (q3N C P=((q2a (4096*n+12) ps).drop 0++q0y (4096*(n+1)) (C.drop (n+1))).find? fun r=>decide (P≤(r.1:Int))):=η41 (by rw[HNw.out,z6h hps,List.drop_zero]);obtain ⟨z,hz⟩: ∃z:Int,(q0K ps:Int)=z:=⟨_,rfl⟩
  rw[hz] at hcz;have z0:0≤z:=by omega
  have z1:z≤4096:=by omega
  have hnm:=q2n (n:Int);have HCH:=η41 (fun W=>q4J (n:Int) W);have HR1:=η41 (fun (W:World) (k:Ext wr W)=>q5D (h1.grow k) h2.pl hfind hnm 0 z (by decide) z0 (by rw[hlen];omega) (by rw[hlen];omega));have hzn:z.toNat=q0K ps:=by omega
  have htk:((q0S n ps).drop 0).take (q0K ps)=q0S n ps:=by rw[List.drop_zero,List.take_of_length_le (by rw[hlen];omega)]
  have e0:(0:Int).toNat=0:=rfl;simp only[hzn,e0,htk] at HR1;have HSc:=η41 (fun W=>z8X (q0S n ps) n W hn200 (by rw[hlen];omega) (q8B n ps));rw[q6j n ps hpay] at HSc;generalize hee:(q9M 12 (q1R 12 ps):Int)=ee at HSc
  have HGt:=η41 (fun (k:Nat) (p:List UInt8) (h:ps[k]? =some p) (W:World)=>(show Calls Tryz.prog 94 #[.string ⟨(q0S n ps).toArray⟩,.int .i64 (q0K (ps.take k):Int)] W fun e w'=>e= .returned (.tuple #[.string ⟨p.toArray⟩,.int .i64 ((q0K (ps.take k)+p.length+12:Nat):Int),.bool true])∧Ext W w' by
   have h1:=q8r (q0S n ps) (q0K (ps.take k)) W (by rw[hlen];omega) (by
    have h3:(q0K (ps.take k):Nat)≤4096:=Nat.le_trans (q7s ps k) hz4
    omega)
   have h2:q9U (q0S n ps) (q0K (ps.take k))= .tuple #[.string ⟨p.toArray⟩,.int .i64 ((q0K (ps.take k)+p.length+12:Nat):Int),.bool true]:=by
    unfold q9U;rw[z8P n ps k p h (hpay p (List.mem_of_getElem? h))]
   rw[h2] at h1
   exact h1))
  have HRow:Hid (∀(W:World) (F':Nat→Prop) (τ:DM),LgF w0 W g gl F' (.slice (some ⟨b,0,none⟩) C.length sk) τ s (q0M C) sure K→W.cell? ⟨gl,0,none⟩=some (.pointer (some ⟨g,0,none⟩))∧W.cell? ⟨gl,3,none⟩=some (.slice (some ⟨b,0,none⟩) C.length sk)∧W.cell? ⟨b,n,none⟩=some (.int .i64 z)):=η41 fun W F' τ hW=>by
   obtain ⟨b2,k2,e1,e2,_⟩:=hW.cellAt hps
   cases e1;rw[hz] at e2;exact ⟨hW.l.c0,hW.l.c3,e2⟩
  have hw:Ext wr wr.drew:=(Ext.refl wr).drew;have HW:=η41 hw;obtain ⟨d0,d3,dz⟩:=HRow.out _ _ _ (h1.grow hw);have HPl:=η41 h2;have HOth:=η41 h2.oth;generalize q0S n ps=S at*;generalize q0G 99 (n:Int)=nm at*;have HZ:=η41 hz;have HPs:=η41 hps;have HL4:=η41 hz4;have HPay:=η41 hpay;clear h1 h2 hlen hfind hpay hnm hzn htk hee hw hz hps hz4 hcz hnC;go_wp2_with fail
  go_region_held3 (fun W=>W.cell? ⟨gl,0,none⟩=some (.pointer (some ⟨g,0,none⟩))∧W.cell? ⟨gl,3,none⟩=some (.slice (some ⟨b,0,none⟩) C.length sk)∧W.cell? ⟨b,n,none⟩=some (.int .i64 z))
   (first|exact HS2.out|exact HS1.out|exact ⟨d0,d3,dz⟩)
   (first
    |(go_at_call 91;refine (HCH.out _).mono ?_;rintro e wa ⟨rfl,h1⟩;have H1:=η41 (HW.out.trans h1);have HS1:=η41 (And.intro (q0A h1 d0) (And.intro (q0A h1 d3) (q0A h1 dz)));clear h1)
    |(go_at_call 90;refine (HR1.out _ H1.out).mono ?_;rintro e wb ⟨rfl,⟨F2,σ2,h2,h3⟩,h4⟩;have H2:=η41 h2;have H3:=η41 h3;have H4:=η41 h4;have HS2:=η41 (HRow.out _ _ _ h2);clear h2 h3 h4))
  all_goals
   go_wp2_with fail;refine (HSc.out _).mono ?_;rintro e wc ⟨pv,rfl,hr,hb⟩;have HBc:=η41 hb;obtain ⟨pa,pc,rfl⟩:=q0J hr;have HRw:=η41 hr;have hpl:(q1R 12 ps).length=ps.length:=q2Q ps 12;rw[hpl] at HRw;rw[hpl];have HKc:=η41 (show LgK E w0 wc g gl c s C sure K from ⟨F2,_,σ2,H2.out.grow hb,⟨H3.out,HOk.out,HOth.out⟩⟩);have HStc:=η41 (HSw.out.trans ((HKw.out.kExt H1.out).trans (H4.out.trans (H2.out.kExt hb))));clear hr hb hpl;go_wp2_with fail
   go_loopw [72] (fun i W=> ∃k:Nat,k≤ps.length∧i= .int .i64 (k:Int)∧q3N C P=(((q2a (4096*n+12) ps).drop k++q0y (4096*(n+1)) (C.drop (n+1))).find? fun r=>decide (P≤(r.1:Int)))∧Ext wc W) (fun i _=>ps.length-(intOf i).toNat)
   case atStart=>exact ⟨0,Nat.zero_le _,rfl,HNy.out,Ext.refl _⟩
   case round=>
    obtain ⟨k,hk,rfl,hnx,hb⟩:=hrel;have HNz:=η41 hnx;have HBk:=η41 hb;clear hnx;by_cases hkl:k<ps.length
    ·obtain ⟨p,hp⟩: ∃p,ps[k]? =some p:=⟨ps[k],List.getElem?_eq_getElem hkl⟩
     have hdk:decide ((k:Int)<(ps.length:Int))=true:=by simp;omega
     obtain ⟨b3,rfl,hcp⟩:=z1D (q0N HRw.out hb) hp;have HG:=η41 (HGt.out k p hp wr);have HFs:=η41 (z3Z (pos:=P) (b:=4096*n) (q0y (4096*(n+1)) (C.drop (n+1))) hp);have hy4:q0K (ps.take k)≤4096:=Nat.le_trans (q7s ps k) HL4.out;have hpl:p.length≤2000:=HPay.out p (List.mem_of_getElem? hp);obtain ⟨Y2,hY2⟩: ∃Y2:Int,((q0K (ps.take k)+p.length+12:Nat):Int)=Y2:=⟨_,rfl⟩
     rw[hY2] at HG;obtain ⟨y,hy⟩: ∃y:Int,(q0K (ps.take k):Int)=y:=⟨_,rfl⟩
     rw[hy] at hcp HG;have hY3:Y2=y+(p.length:Int)+12:=by omega
     have y0:0≤y:=by omega
     have y1:y≤4096:=by omega
     have Y0:0≤Y2:=by omega
     have Y1:Y2≤6108:=by omega
     have hn199:(n:Int)≤199:=by omega
     have HY3:=η41 hY3;have HY:=η41 hy;by_cases hlt:(n:Int)*4096+y<P
     ·have hdl:decide ((n:Int)*4096+y<P)=true:=by simpa using hlt
      have HN2:Hid (q3N C P=(((q2a (4096*n+12) ps).drop (k+1)++q0y (4096*(n+1)) (C.drop (n+1))).find? fun r=>decide (P≤(r.1:Int)))):=η41 (by
       rw[HNz.out,HFs.out,if_neg (by omega)])
      clear hy hY3 hY2 hp hb hy4;go_wp2_with fail
      go_roundw
      case rel=>exact ⟨k+1,by omega,by go_num,HN2.out,HBk.out⟩
      case measure=>simp[intOf];omega
     ·have hdl:decide ((n:Int)*4096+y<P)=false:=by simpa using hlt
      have HE:Hid (z1u (q3N C pos)= .tuple #[.string ⟨p.toArray⟩,.int .i64 ((n:Int)*4096+y),.int .i64 ((n:Int)*4096+Y2),.int .i64 0]):=η41 (by
       have e1:q3N C pos=some (4096*n+q0K (ps.take k),p):=by rw[HNx.out,HNz.out,HFs.out,if_pos (by omega)]
       rw[e1];show Value.tuple #[.string ⟨p.toArray⟩,.int .i64 ((4096*n+q0K (ps.take k):Nat):Int),.int .i64 (((4096*n+q0K (ps.take k):Nat):Int)+(p.length:Int)+12),.int .i64 0]=_;have e2:((4096*n+q0K (ps.take k):Nat):Int)=(n:Int)*4096+y:=by omega
       have e3:((4096*n+q0K (ps.take k):Nat):Int)+(p.length:Int)+12=(n:Int)*4096+Y2:=by omega
       rw[e3,e2])
      clear hy hY3 hY2 hp hb hy4;go_wp2_with fail;refine HG.out.mono ?_;rintro e wd ⟨rfl,hb⟩;have HBd:=η41 (HBk.out.trans hb);clear hb;go_wp2_with fail
      try rw[Exit.noGoto_ret]
      refine bodyPost_ret (q5q rfl _ _ _) rfl ?_;exact ⟨by rw[HE.out];rfl,HKc.out.grow HBd.out,HStc.out.trans (HKc.out.kExt HBd.out)⟩
    ·have hdk:decide ((k:Int)<(ps.length:Int))=false:=by simp;omega
     have HN2:Hid (q3N C P=((q0y (4096*(n+1)) (C.drop (n+1))).find? fun r=>decide (P≤(r.1:Int)))):=η41 (by
      rw[HNz.out,List.drop_of_length_le (by rw[q4O];omega),List.nil_append])
     have hn199:(n:Int)≤199:=by omega
     clear hb;go_wp2_with fail
     go_roundw
     case rel=>exact ⟨n+1,by go_num,by omega,HN2.out,HKc.out.grow HBk.out,HStc.out.trans (HKc.out.kExt HBk.out)⟩
     case measure=>simp[intOf];omega
end
end
section
open Go.RowKit Go.Maps Go.Sort
theorem Dk.names {w:World} {g:Nat} {F:Nat→Prop} {σ:DM} (h:Dk w g F σ):Calls Tryz.prog 171 #[.pointer (some ⟨g,0,none⟩)] w (RetN w (q1Z σ)):=by
 obtain ⟨ho,m,kv,L,hi,_⟩:=h;have:=ho.many;have hl:L.length=σ.L.length:=by rw[←hi.files,List.length_map]
 have hn:=z1d w g m L hi.c0 hi.c3 hi.fs (by omega);have e:L.map FE.nm=q1Z σ:=by unfold q1Z;rw[←hi.files,List.map_map];rfl
 rwa [e] at hn
section
variable {E :Oth} {w0 w:World} {g gl:Nat} {F K:Nat→Prop} {v:Value} {σ:DM} {c s sure:Int} {C:Cks} {xs:List Int}
theorem z9D (h:Dk w g F σ) (hl:Lgd E σ c s C):Calls Tryz.prog 110 #[.pointer (some ⟨g,0,none⟩)] w fun e w'=>e= .returned (.tuple #[.int .i64 (C.length:Int),.bool true])∧Ext w w':=by
 have HN:=η41 h.names;have hnm:q1Z σ=(E.X.map Prod.fst++((List.range C.length).map fun k:Nat=>q0G 99 (k:Int))++E.Z.map Prod.fst):=by rw[hl.pl.names,z4I,List.append_assoc]
 have h200:=hl.ok.few;have hfew:=hl.oth.few;rw[hnm] at HN
 have HPs:Hid (∀k (hk:k<(E.X.map Prod.fst++((List.range C.length).map fun k:Nat=>q0G 99 (k:Int))++E.Z.map Prod.fst).length) (W:World),
   ∃ kd v o,Calls Tryz.prog 172 #[.string ⟨((E.X.map Prod.fst++((List.range C.length).map fun k:Nat=>q0G 99 (k:Int))++E.Z.map Prod.fst)[k]).toArray⟩] W (fun e w'=>e= .returned (.tuple #[.int .u8 kd,.int .i64 v,.bool o])∧Ext W w')∧
    ((E.X.length≤k∧k<E.X.length+C.length∧kd=99∧v=((k-E.X.length:Nat):Int)∧o=true)∨((k<E.X.length∨E.X.length+C.length≤k)∧(o=true→(kd==99)=false)))):=η41 fun k hk W=>by
  have hk':k<E.X.length+C.length+E.Z.length:=by simp at hk;omega
  have hoth: ∀nm:List UInt8,(∃y,(y∈E.X∨y∈E.Z)∧y.1=nm)→Calls Tryz.prog 172 #[.string ⟨nm.toArray⟩] W (fun e w'=>e= .returned (.tuple #[.int .u8 (q0w nm).1.toNat,.int .i64 (q0w nm).2.1,.bool (q0w nm).2.2])∧Ext W w')∧((q0w nm).2.2=true→(((q0w nm).1.toNat:Int)==99)=false):=fun nm ⟨y,hy,e⟩=>by
   subst e;refine ⟨z1v y.1 W (by have:=hl.oth.len y hy;omega),fun ho=>?_⟩;have h1:=hl.oth.kind y hy ho;rw[beq_eq_false_iff_ne];intro e;exact h1 (UInt8.toNat_inj.1 (by have:((q0w y.1).1.toNat:Int)=99:=e;show (q0w y.1).1.toNat=99;omega))
  rcases Nat.lt_or_ge k E.X.length with h1|h1
  ·have e:(E.X.map Prod.fst++((List.range C.length).map fun k:Nat=>q0G 99 (k:Int))++E.Z.map Prod.fst)[k]=E.X[k].1:=by
    rw[List.getElem_append_left (by simp;omega),List.getElem_append_left (by simpa using h1),List.getElem_map]
   rw[e];obtain ⟨q1,q2⟩:=hoth E.X[k].1 ⟨_,.inl (List.getElem_mem h1),rfl⟩;exact ⟨_,_,_,q1,.inr ⟨.inl h1,q2⟩⟩
  rcases Nat.lt_or_ge k (E.X.length+C.length) with h2|h2
  ·have e:(E.X.map Prod.fst++((List.range C.length).map fun k:Nat=>q0G 99 (k:Int))++E.Z.map Prod.fst)[k]=q0G 99 ((k-E.X.length:Nat):Int):=by
    rw[List.getElem_append_left (by simpa using h2),List.getElem_append_right (by simpa using h1),List.getElem_map,List.getElem_range];simp
   rw[e];have h3:=z1v (q0G 99 ((k-E.X.length:Nat):Int)) W (q2n _);rw[q1u (by decide) (by omega)] at h3;exact ⟨99,_,true,h3,.inl ⟨h1,h2,rfl,rfl,rfl⟩⟩
  ·have hz:k-(E.X.length+C.length)<E.Z.length:=by omega
   have e:(E.X.map Prod.fst++((List.range C.length).map fun k:Nat=>q0G 99 (k:Int))++E.Z.map Prod.fst)[k]=(E.Z[k-(E.X.length+C.length)]).1:=by
    rw[List.getElem_append_right (by simpa using h2),List.getElem_map];simp
   rw[e];obtain ⟨q1,q2⟩:=hoth _ ⟨_,.inr (List.getElem_mem hz),rfl⟩;exact ⟨_,_,_,q1,.inr ⟨.inr h2,q2⟩⟩
 have hll:(E.X.map Prod.fst++((List.range C.length).map fun k:Nat=>q0G 99 (k:Int))++E.Z.map Prod.fst).length=E.X.length+C.length+E.Z.length:=by simp;omega
 clear h hl hnm;generalize E.X.map Prod.fst++((List.range C.length).map fun k:Nat=>q0G 99 (k:Int))++E.Z.map Prod.fst=NL at*;generalize E.X.length=a at*;generalize C.length=n at*;obtain ⟨t,ht⟩: ∃t,a+n+E.Z.length=t:=⟨_,rfl⟩
 rw[ht] at hll;have HLl:=η41 hll;have hant:a+n≤t∧t≤400:=by omega
 clear ht hll hfew;go_enter Tryz.func110,Tryz.ntmps110;go_wp2_with fail;refine HN.out.mono ?_;intro e w1 hr;obtain ⟨ad,cap,rfl,hown,hb⟩:=hr.out;rw[HLl.out] at hown⊢;have HOw:=η41 hown;have HB:=η41 hb;clear hr hown hb;go_wp2_with fail
 go_loopw [2,3,12] (fun m o i W=> ∃k:Nat,k≤t∧i= .int .i64 (k:Int)∧m= .int .i64 ((min (k-a) n:Nat):Int)∧o= .bool true∧Ext w1 W) (fun _ _ i _=>t-(intOf i).toNat)
 case atStart=>exact ⟨0,Nat.zero_le _,rfl,by simp,rfl,Ext.refl _⟩
 case round=>
  obtain ⟨k,hk,rfl,rfl,rfl,hb⟩:=hrel;have HBk:=η41 hb;by_cases hkn:k<t
  ·have hd:decide ((k:Int)<(t:Int))=true:=by simp;omega
   have hkl:k<NL.length:=by rw[HLl.out];exact hkn
   obtain ⟨b,cap',hv,hc,_⟩:=(HOw.out.ext hb).cell (j:=k) (by simpa using hkl)
   cases hv;have hval:((NL.map encStr)[k]'(by simpa using hkl))= .string ⟨NL[k].toArray⟩:=by simp[encStr]
   rw[hval] at hc;obtain ⟨kd,v,o,hP,hcase⟩:=HPs.out k hkl wr;have HP:=η41 hP;have q0:IntKind.i64.wrap ((k:Int)+1)=(k:Int)+1:=by rw[IntKind.wrap_i64];omega
   obtain ⟨m,hm⟩: ∃m,min (k-a) n=m:=⟨_,rfl⟩
   have q1:IntKind.i64.wrap ((m:Int)+1)=(m:Int)+1:=by rw[IntKind.wrap_i64];omega
   generalize NL[k]=nm at*;clear hval hb hP;rcases hcase with ⟨p1,p2,rfl,rfl,rfl⟩|⟨p1,p2⟩
   ·have hm1:m=k-a:=by omega
    have hm2:min (k+1-a) n=m+1:=by omega
    rw[←hm1] at HP;rw[hm];clear hkl;go_wp2_with fail;refine HP.out.mono ?_;rintro e w2 ⟨rfl,hb⟩;have HB2:=η41 (HBk.out.trans hb);clear hb;go_wp2_with fail
    go_roundw
    case rel=>exact ⟨k+1,by omega,by go_num,by rw[hm2];go_num,rfl,HB2.out⟩
    case measure=>simp[intOf];omega
   ·have hm2:min (k+1-a) n=m:=by omega
    rw[hm];have ho:o=false∨(o=true∧(kd==99)=false):=by
     cases o with
     |false=>exact .inl rfl
     |true=>exact .inr ⟨rfl,p2 rfl⟩
    clear hkl p2;rcases ho with rfl|⟨rfl,hkd⟩
    all_goals
     go_wp2_with fail;refine HP.out.mono ?_;rintro e w2 ⟨rfl,hb⟩;have HB2:=η41 (HBk.out.trans hb);clear hb;go_wp2_with fail
     go_roundw
     case rel=>exact ⟨k+1,by omega,by go_num,by rw[hm2],rfl,HB2.out⟩
     case measure=>simp[intOf];omega
  ·have hd:decide ((k:Int)<(t:Int))=false:=by simp;omega
   have hm2:min (k-a) n=n:=by omega
   have hd2:decide ((n:Int)≤200)=true:=by simp;omega
   rw[hm2];clear hb;go_wp2_with fail;go_ret2;exact ⟨rfl,HB.out.trans HBk.out⟩
theorem y0L (h:LgP E w0 w g gl c s (q3D E C) xs sure K) (hok:okC C) {n:Nat} {ps:List (List UInt8)} (hps:C[n]? =some ps):
  Calls Tryz.prog 174 #[.pointer (some ⟨g,0,none⟩),.int .i64 (n:Int)] w fun e w'=>e= .returned (.tuple #[.string ⟨(q0S n ps).toArray⟩,.int .i64 (q0K ps:Int),.int .i64 0])∧LgP E w0 w' g gl c s (q3D E C) xs sure K∧Stay K w w':=by
 obtain ⟨F,v,σ,h1,hE,h2⟩:=h;have HE:=η41 hE;have hn200:n<200:=by have:=hok.few;have:=(List.getElem?_eq_some_iff.1 hps).1;omega
 have hz4:q0K ps≤4096:=hok.size ps (List.mem_of_getElem? hps);have hpay:=hok.pay ps (List.mem_of_getElem? hps);have hlen:=q1I n ps;have hfind:=q3U hE hok.few hps;have hnm:=q2n (n:Int);have HCH:=η41 (fun W=>q4J (n:Int) W)
 have HSz:=η41 (fun (W:World) (k:Ext w W)=>(show Calls Tryz.prog 108 #[.pointer (some ⟨g,0,none⟩),.string ⟨(q0G 99 (n:Int)).toArray⟩] W fun e w'=>e= .returned (.tuple #[.int .i64 (q0K ps:Int),.int .i64 0])∧W=w' by
  have h3:=q6q (h1.d.ext k) (q0G 99 (n:Int)) hnm;rw[h2.size hfind] at h3;have h4:(((q0G 99 (n:Int),q0S n ps):List UInt8×List UInt8).2.length:Int)=(q0K ps:Int):=by simp[hlen]
  rw[h4] at h3
  exact h3))
 have HR1:=η41 (fun (W:World) (k:Ext w W)=>q5D (h1.grow k) h2 hfind hnm 0 (q0K ps:Int) (by decide) (by omega) (by rw[hlen];omega) (by rw[hlen];omega));have htk:((q0S n ps).drop 0).take (q0K ps)=q0S n ps:=by rw[List.drop_zero,List.take_of_length_le (by rw[hlen];omega)]
 have e0:(0:Int).toNat=0:=rfl;simp only[Int.toNat_natCast,e0,htk] at HR1;have HSc:=η41 (fun W=>z8X (q0S n ps) n W hn200 (by rw[hlen];omega) (q8B n ps));rw[q6j n ps hpay] at HSc;have hend:(q9M 12 (q1R 12 ps):Int)=(q0K ps:Int):=by rw[z1o];rfl
 rw[hend] at HSc;have HH:=η41 h1;generalize q0S n ps=S at*;generalize q0G 99 (n:Int)=nm at*;generalize (q0K ps:Int)=z at*;clear h1 h2 hE hlen hfind hpay hnm htk hend hz4 hps hok;go_enter Tryz.func174,Tryz.ntmps174;go_wp2_with fail;refine (HCH.out _).mono ?_;rintro e w1 ⟨rfl,hb⟩;have HB:=η41 hb;clear hb;go_wp2_with fail;refine (HSz.out _ HB.out).mono ?_;rintro e w2 ⟨rfl,rfl⟩;go_wp2_with fail;refine (HCH.out _).mono ?_;rintro e w3 ⟨rfl,hb⟩;have HB3:=η41 (HB.out.trans hb);clear hb;go_wp2_with fail;refine (HR1.out _ HB3.out).mono ?_;rintro e w4 ⟨rfl,⟨F2,σ2,h2,h3⟩,h4⟩;have H2:=η41 h2;have H3:=η41 h3;have H4:=η41 ((HH.out.kExt HB3.out).trans h4);clear h2 h3 h4;go_wp2_with fail;refine (HSc.out _).mono ?_;rintro e w5 ⟨pv,rfl,hr,hb⟩;have HB5:=η41 hb;obtain ⟨pa,pc,rfl⟩:=q0J hr;clear hr hb;go_wp2_with fail;go_ret3;exact ⟨rfl,⟨_,_,σ2,H2.out.grow HB5.out,HE.out,H3.out⟩,H4.out.trans (H2.out.kExt HB5.out)⟩
end
end
section
open Go.RowKit
section
variable {E :Oth} {w0 w:World} {g gl:Nat} {F K:Nat→Prop} {v:Value} {σ:DM} {c s sure:Int} {C:Cks} {xs:List Int}
theorem y0x {D:Cks} {ps:List (List UInt8)} (h:LgP E w0 w g gl c s (q3D E (D++[ps])) (q0M D) sure K) (hok:okC (D++[ps])):
  Calls Tryz.prog 175 #[.pointer (some ⟨gl,0,none⟩),.int .i64 (D.length:Int),.string ⟨(q0S D.length ps).toArray⟩,.int .i64 (q0K ps:Int)] w fun e w'=>
   e= .returned (.int .i64 0)∧LgP E w0 w' g gl c s (q3D E (D++[ps])) (q0M (D++[ps])) sure K∧Stay K w w':=by
 obtain ⟨F,v,σ,h1,hE,h2⟩:=h;have HE:=η41 hE;have h200:D.length+1≤200:=by have:=hok.few;simpa using this
 have hz4:q0K ps≤4096:=hok.size ps (by simp);have hz12:12≤q0K ps:=by unfold q0K;omega
 have hlen:=q1I D.length ps;have hfind:=q3U hE hok.few (q8k D ps);have hnm:=q2n (D.length:Int);have HCH:=η41 (fun W=>q4J (D.length:Int) W);obtain ⟨σ',hm,hp'⟩:=h2.sync hfind
 have HSY:=η41 (fun (W:World) (F':Nat→Prop) (hW:Dk W g F' σ)=>(show Calls Tryz.prog 185 #[.pointer (some ⟨g,0,none⟩),.string ⟨(q0G 99 (D.length:Int)).toArray⟩] W fun e w'=>e= .returned (.int .i64 0)∧DkS W g F' σ' w' by
  have:=z8U hW (q0G 99 (D.length:Int)) hnm;rw[hm] at this
  exact this))
 have hsl:=q0b D;obtain ⟨sa,sk,hv0⟩:=q0J h1.l.row;rw[hsl] at hv0;subst hv0;have hrow:=h1.l.row;rw[hsl] at hrow;have HRow:=η41 hrow;have HC3:=η41 h1.l.c3;have HH:=η41 h1;have HP:=η41 (And.intro hE hp');have hl':((q0S D.length ps).length:Int)=(q0K ps:Int):=by rw[hlen]
 have HSn:Hid (q0M D++[(q0K ps:Int)]=q0M (D++[ps])):=η41 (q2K D ps).symm;have hSl:(q0S D.length ps).length≤4096:=by omega
 obtain ⟨z,hz⟩: ∃z:Int,(q0K ps:Int)=z:=⟨_,rfl⟩
 have z12:12≤z:=by omega
 have z4:z≤4096:=by omega
 have hznz:(z==0)=false:=by simp;omega
 rw[hz] at hl' HSn⊢;have HSl:=η41 hsl;generalize q0S D.length ps=S at*;generalize q0G 99 (D.length:Int)=nm at*;have hDl:D.length≤199:=by omega
 generalize hn:D.length=n at*;clear h1 h2 hE hp' hm hfind hnm hlen hsl hrow hz hz4 hz12 hok hn h200;go_enter Tryz.func175,Tryz.ntmps175;go_wp2_with fail;refine (HCH.out _).mono ?_;rintro e w1 ⟨rfl,hb⟩;have HB:=η41 hb;have c3:=q0A hb HC3.out;have HL1:=η41 (HH.out.grow hb);have hrow:=q0N HRow.out hb;have HRw:=η41 hrow;have z3:=(HH.out.grow hb).l.blk.free 3;clear hb hrow
 go_wp2_with (at_builtin;refine q0R rfl _ _ 36 rfl 0 3 _ 1 8 Tryz.underlying36 Tryz.infoI (by decide) (by decide) _ n _ rfl (q0N HRw.out (q0B _ _)) _ 1 1 [.int .i64 z] rfl rfl (fun h=>by cases h) (Rd.lit _ _ _) (by simp[Value.oneCell']) (by unfold maxLen;omega) (by omega) (Nat.zero_le _) ?_;intro v' w2 hown hgrow hat;have HOw:=η41 hown;have HGr:=η41 hgrow;have HAt:=η41 hat;obtain ⟨_,q2,q3⟩:=HL1.out.pushed (q0B _ _) hgrow;obtain ⟨a',k',rfl⟩:=q0J hown;have hpu:=HL1.out.push (q0B _ _) (by rw[HSl.out];exact hown) hgrow hat;have HPu:=η41 hpu;have u0:=hpu.1.l.c0;clear hown hgrow hat hpu)
 refine (HSY.out _ _ HPu.out.1.d).mono ?_;rintro e w3 ⟨rfl,h3⟩;have h4:=HPu.out.1.disk h3;have H4:=η41 h4;clear h3 h4;go_wp2_with fail;go_ret;exact ⟨rfl,⟨_,_,σ',by rw[←HSn.out];exact H4.out.1,HP.out⟩,(HH.out.kExt HB.out).trans (HPu.out.2.trans H4.out.2)⟩
theorem z6j {k:Nat} {ps:List (List UInt8)} (h:C[k]? =some ps):C.take (k+1)=C.take k++[ps]:=by
 obtain ⟨hk,he⟩:=List.getElem?_eq_some_iff.1 h;rw[List.take_succ_eq_append_getElem hk,he]
theorem z5H (h:LgP E w0 w g gl c s (q3D E C) [] sure K) (hok:okC C):
  Calls Tryz.prog 112 #[.pointer (some ⟨gl,0,none⟩),.int .i64 (C.length:Int)] w fun e w'=>e= .returned (.int .i64 0)∧LgP E w0 w' g gl c s (q3D E C) (q0M C) sure K∧Stay K w w':=by
 have HK:=η41 h;have HOk:=η41 hok;have h200:=hok.few;clear h hok;go_enter Tryz.func112,Tryz.ntmps112;go_wp2_with fail
 go_loopw [10] (fun i W=> ∃k:Nat,k≤C.length∧i= .int .i64 (k:Int)∧LgP E w0 W g gl c s (q3D E C) (q0M (C.take k)) sure K∧Stay K w W) (fun i _=>C.length-(intOf i).toNat)
 case atStart=>exact ⟨0,Nat.zero_le _,rfl,HK.out,Stay.refl _ _⟩
 case round=>
  obtain ⟨k,hk,rfl,hl,hst⟩:=hrel;have HSt:=η41 hst;by_cases hkn:k<C.length
  ·have hd:decide ((k:Int)<(C.length:Int))=true:=by simp;omega
   obtain ⟨ps,hps⟩: ∃ps,C[k]? =some ps:=⟨C[k],List.getElem?_eq_getElem hkn⟩
   have HLd:=η41 (y0L hl HOk.out hps);have c0:=(by obtain ⟨_,_,_,h1,_,_⟩:=hl;exact h1.l.c0:wr.cell? ⟨gl,0,none⟩=some (.pointer (some ⟨g,0,none⟩)))
   have hz4:q0K ps≤4096:=HOk.out.size ps (List.mem_of_getElem? hps);have hz12:12≤q0K ps:=by unfold q0K;omega
   have hlen:=q1I k ps;have hT:=z6j hps;have hDl:(C.take k).length=k:=by rw[List.length_take];omega
   have hl':((q0S k ps).length:Int)=(q0K ps:Int):=by rw[hlen]
   have HSn:Hid (q0M (C.take k)++[(q0K ps:Int)]=q0M (C.take (k+1))):=η41 (by rw[hT,q2K]);by_cases hlast:k+1=C.length
   ·have hCe:C=C.take k++[ps]:=by rw[←hT,hlast,List.take_length]
    have hd2:((k:Int)==(C.length:Int)-1)=true:=by simp;omega
    have HMd:=η41 (fun (W:World) (hW:LgP E w0 W g gl c s (q3D E C) (q0M (C.take k)) sure K)=>(show Calls Tryz.prog 175 #[.pointer (some ⟨gl,0,none⟩),.int .i64 (k:Int),.string ⟨(q0S k ps).toArray⟩,.int .i64 (q0K ps:Int)] W fun e w'=>e= .returned (.int .i64 0)∧LgP E w0 w' g gl c s (q3D E C) (q0M C) sure K∧Stay K W w' by
     have h2:=y0x (D:=C.take k) (ps:=ps) (by rw[←hCe];exact hW) (by rw[←hCe];exact HOk.out);rw[hDl,←hCe] at h2
     exact h2))
    generalize q0S k ps=S at*;generalize (q0K ps:Int)=z at*;clear hl hst hps hlen hT hDl hCe hz4 hz12;go_wp2_with fail;refine HLd.out.mono ?_;rintro e w2 ⟨rfl,h2,h3⟩;have H2:=η41 h2;have H3:=η41 (HSt.out.trans h3);clear h2 h3;go_wp2_with fail;refine (HMd.out _ H2.out).mono ?_;rintro e w3 ⟨rfl,h2,h3⟩;have H4:=η41 h2;have H5:=η41 (H3.out.trans h3);clear h2 h3;go_wp2_with fail;go_ret;exact ⟨rfl,H4.out,H5.out⟩
   ·have hd2:((k:Int)==(C.length:Int)-1)=false:=by simp;omega
    obtain ⟨z,hz⟩: ∃z:Int,(q0K ps:Int)=z:=⟨_,rfl⟩
    have z12:12≤z:=by omega
    have z4:z≤4096:=by omega
    have hznz:(z==0)=false:=by simp;omega
    have hSl:(q0S k ps).length≤4096:=by omega
    rw[hz] at hl' HSn HLd;have HDl:=η41 hDl;generalize q0S k ps=S at*;clear hl hst hps hlen hT hDl hz hz4 hz12;go_wp2_with fail;refine HLd.out.mono ?_;rintro e w2 ⟨rfl,h2,h3⟩;have H3:=η41 (HSt.out.trans h3);obtain ⟨F2,v2,σ2,h4,hE,h5⟩:=h2;have hsl:=q0b (C.take k);rw[HDl.out] at hsl;obtain ⟨sa,sk,hv0⟩:=q0J h4.l.row;rw[hsl] at hv0;subst hv0;have hrow:=h4.l.row;rw[hsl] at hrow;have HRw:=η41 hrow;have c3:=h4.l.c3;have z3:=h4.l.blk.free 3;have HL1:=η41 h4;have H5:=η41 (And.intro hE h5);have HSl:=η41 hsl;clear hE h3 h4 h5 hsl hrow c0
    go_wp2_with (at_builtin;refine q0R rfl _ _ 36 rfl 0 3 _ 1 8 Tryz.underlying36 Tryz.infoI (by decide) (by decide) _ k _ rfl (q0N HRw.out (q0B _ _)) _ 1 1 [.int .i64 z] rfl rfl (fun h=>by cases h) (Rd.lit _ _ _) (by simp[Value.oneCell']) (by unfold maxLen;omega) (by omega) (Nat.zero_le _) ?_;intro v' w3 hown hgrow hat;have HOw:=η41 hown;have HGr:=η41 hgrow;have HAt:=η41 hat;obtain ⟨_,q2,q3⟩:=HL1.out.pushed (q0B _ _) hgrow;obtain ⟨a',k',rfl⟩:=q0J hown;have hpu:=HL1.out.push (q0B _ _) (by rw[HSl.out];exact hown) hgrow hat;have HPu:=η41 hpu;clear hown hgrow hat hpu)
    go_roundw
    case rel=>exact ⟨k+1,by omega,by go_num,⟨_,_,σ2,by rw[←HSn.out];exact HPu.out.1,H5.out⟩,H3.out.trans HPu.out.2⟩
    case measure=>simp[intOf];omega
  ·have hd:decide ((k:Int)<(C.length:Int))=false:=by simp;omega
   have HL:=η41 (show LgP E w0 wr g gl c s (q3D E C) (q0M C) sure K by
    have e:C.take k=C:=List.take_of_length_le (by omega)
    rwa [e] at hl)
   clear hl hst;go_wp2_with fail;go_ret;exact ⟨rfl,HL.out,HSt.out⟩
end
end
section
open Go.RowKit
section
variable {E :Oth} {w0 w:World} {g gl:Nat} {F K:Nat→Prop} {v:Value} {σ:DM} {c s sure:Int} {C:Cks} {xs:List Int}
theorem y0n (h:DkK E w0 w g c s C K):Calls Tryz.prog 65 #[.pointer (some ⟨g,0,none⟩)] w fun e w'=> ∃gl,e= .returned (.tuple #[.pointer (some ⟨gl,0,none⟩),.int .i64 0])∧w.heap.size≤gl∧LgK E w0 w' g gl c s C (q4r C) K∧Stay K w w':=by
 obtain ⟨F,σ,h1,h2⟩:=h;have hlt: ∀i,F i→i<w.heap.size:=by obtain ⟨_,_,_,_,_,_,h⟩:=h1.d;exact h
 have HU:=η41 (y1q h1.d);rw[h2.pl.up] at HU;have hs:=q6q h1.d [110,101,119] (by decide);rw[h2.pl.sizeN (z7f h2.oth h2.ok.few)] at hs;have HS:=η41 hs;have HC:=η41 (z9D h1.d h2);have HSt:=η41 (fun (W:World) (k:Ext w W)=>z2H (h1.d.ext k));rw[h2.pl.st] at HSt
 have HNew:=η41 (fun (W:World) (k:Ext w W)=>show LgP E w0 (W.alloc (.cells #[.pointer (some ⟨g,0,none⟩),.int .i64 s,.bool false,.slice none 0 0,.int .i64 0] 141)) g W.heap.size c s (q3D E C) [] 0 K∧Stay K w (W.alloc (.cells #[.pointer (some ⟨g,0,none⟩),.int .i64 s,.bool false,.slice none 0 0,.int .i64 0] 141)) from by
  have hk:=k.size;have k2:=k.trans (q0B W (.cells #[.pointer (some ⟨g,0,none⟩),.int .i64 s,.bool false,.slice none 0 0,.int .i64 0] 141));have hin: ∀i,q7t W.heap.size (.slice none 0 0) i→i=W.heap.size:=fun i hi=>by rcases hi with h|h;exact h;cases h
  refine ⟨⟨F,.slice none 0 0,σ,⟨h1.d.ext k2,⟨Blk.new _ _ _,World.ownsRow_nil _ _ _ _⟩,fun i hi hg=>?_,h1.bF,fun i hi=>?_,h1.ext.trans k2,fun i hi=>⟨?_,(h1.k i hi).2,fun hg=>?_⟩⟩,h2.oth,h2.pl⟩,fun i hi=>k2.block i (h1.k i hi).1⟩
  ·have:=hin i hg;have:=hlt i hi;omega
  ·have:=hin i hi;have:=h1.ext.size;omega
  ·have:=(h1.k i hi).1;have:=k2.size;omega
  ·have:=hin i hg;have:=(h1.k i hi).1;omega)
 have HOk:=η41 h2.ok;clear h1 h2 hs hlt;go_enter Tryz.func65,Tryz.ntmps65;go_wp2_with fail;refine HU.out.mono ?_;rintro e w1 ⟨rfl,rfl⟩;go_wp2_with fail;refine HS.out.mono ?_;rintro e w1 ⟨rfl,rfl⟩;go_wp2_with fail;refine HC.out.mono ?_;rintro e w1 ⟨rfl,hb⟩;have HB:=η41 hb;clear hb;go_wp2_with fail;refine (HSt.out _ HB.out).mono ?_;rintro e w2 ⟨rfl,rfl⟩;go_wp2_with fail;obtain ⟨h3,h4⟩:=HNew.out _ HB.out;have H4:=η41 h4;have HRd:=η41 (z5H h3 HOk.out);have HS1:=η41 HB.out.size;clear h3 h4;refine HRd.out.mono ?_;rintro e w3 ⟨rfl,⟨F3,v3,σ3,h5,hE3,h6⟩,h7⟩;have HE:=η41 (z9d h5.l HOk.out);have z4:=h5.l.blk.free 4;have c4:=h5.l.c4;have h8:=h5.setSure (q4r C);have H8:=η41 h8;have H6:=η41 h6;have HE3:=η41 hE3;have H7:=η41 (H4.out.trans (h7.trans h8.2));clear h5 h6 h7 h8 hE3;go_wp2_with fail;refine HE.out.mono ?_;rintro e w4 ⟨rfl,rfl⟩;go_wp2_with fail;go_ret2;exact ⟨_,rfl,HS1.out,⟨F3,v3,σ3,H8.out.1,⟨H6.out,HOk.out,HE3.out⟩⟩,H7.out⟩
end
end
section
open Go.RowKit
theorem z7V {E:Oth} {w0 w:World} {g gl:Nat} {c s sure x r z:Int} {C C':Cks} {K:Nat→Prop} (h:LgK E w0 w g gl c s C sure K) (p:List UInt8) (hp9:p.length≤9223372036854775807) (he:q1A (c-(q0l C:Int)) C p=(x,r,C')) (hs:q4Q (c-(q0l C:Int)) sure C p=z):
  Calls Tryz.prog 37 #[.pointer (some ⟨gl,0,none⟩),.string ⟨p.toArray⟩] w fun e w'=>e= .returned (.tuple #[.int .i64 x,.int .i64 r])∧LgK E w0 w' g gl c s C' z K∧Stay K w w':=by
 have h1:=z7t h p hp9;unfold AppR at h1;rw[he,hs] at h1;exact h1
theorem y0f {E:Oth} {w0 w:World} {g gl:Nat} {c s sure r:Int} {C:Cks} {K:Nat→Prop} (h:LgK E w0 w g gl c s C sure K) (pos:Int) (p0: -9223372036854775808≤pos) (p1:pos≤9223372036854775807) {p:List UInt8} (he:q5I C pos=(p,r)):
  Calls Tryz.prog 167 #[.pointer (some ⟨gl,0,none⟩),.int .i64 pos] w fun e w'=>e= .returned (.tuple #[.string ⟨p.toArray⟩,.int .i64 r])∧LgK E w0 w' g gl c s C sure K∧Stay K w w':=by
 have h1:=y0O h pos p0 p1;unfold ReadR at h1;rw[he] at h1;exact h1
theorem y0b {E:Oth} {w0 w:World} {g gl:Nat} {c s sure:Int} {C:Cks} {K:Nat→Prop} (h:LgK E w0 w g gl c s C sure K) (pos:Int) (p0: -9223372036854775808≤pos) (p1:pos≤9223372036854775807) {r:Option (Nat×List UInt8)} (he:q3N C pos=r):
  Calls Tryz.prog 48 #[.pointer (some ⟨gl,0,none⟩),.int .i64 pos] w fun e w'=>e= .returned (z1u r)∧LgK E w0 w' g gl c s C sure K∧Stay K w w':=by
 have h1:=y0j h pos p0 p1;unfold y0I at h1;rw[he] at h1;exact h1
section
variable {E :Oth} {P:List UInt8}
end
end
end Go.Proofs.YthdekbmdkpcooaaGreatDoor
