/- Walks: the last entry of a hash up to a version (entries.Last). Plain laws: an entry that is put among sorted ones. Plain laws: sorted lists made one. Lists of entries in memory, many of them. -/
import Derived.Test.YtjjfiejoeelndaaGreatDoorG10Bw
import Derived.Laws.ResultCell
import Derived.Test.YtjjfiejoeelndaaGreatDoorG3Bw
import Derived.Test.YtjjfiejoeelndaaGreatDoorG4Bw
set_option linter.unusedVariables false
set_option linter.unusedSimpArgs false
namespace Go.Proofs.YtjjfiejoeelndaaGreatDoor
open Go.RowKit
set_option maxRecDepth 100000
set_option linter.unusedVariables false
set_option maxHeartbeats 12800000
theorem z8X {L:List En} (hs:q0s L) (ho: ∀e∈L,q3G e=true) (h v:Int): ∀i,i<L.length→lbE L (h,v,0)≤i→(inE h v (L.getD i en0)=true↔i<lbE L (h,v+1,0)):=fun i hi hl=>by
  have hg:L.getD i en0=L[i]:=by rw[List.getD_eq_getElem?_getD,List.getElem?_eq_getElem hi];rfl
  have h1:=q3V (h,v+1,0) hs (List.getElem?_eq_getElem hi)
  have h2:=q3V (h,v,0) hs (List.getElem?_eq_getElem hi)
  rw[decide_eq_false (by omega)] at h2
  have hok:=ho _ (List.getElem_mem hi)
  unfold q3G at hok
  simp at hok
  rw[hg]
  constructor
  · intro h3
    unfold inE at h3
    simp only[Bool.and_eq_true,decide_eq_true_eq] at h3
    have h4:q0e L[i] (h,v+1,0)=true:=lessE_iff.2 (.inr ⟨h3.1,.inl (by show L[i].2.1<v+1;omega)⟩)
    rw[h4] at h1
    exact of_decide_eq_true h1.symm
  · intro h3
    rw[decide_eq_true h3] at h1
    have h4:=lessE_iff.1 h1
    have h5:¬(L[i].1<h∨(L[i].1=h∧(L[i].2.1<v∨(L[i].2.1=v∧L[i].2.2<0)))):=fun h6=>by rw[lessE_iff.2 h6] at h2;cases h2
    unfold inE
    simp only[Bool.and_eq_true,decide_eq_true_eq]
    simp only at h4
    omega
theorem q7N {L:List En} {h v:Int} {e:En} (hl:q2k L h v=some e):inE h v e=true:=by
  unfold q2k at hl
  exact (List.mem_filter.1 (List.mem_of_getLast? hl)).2
theorem q7k {w W:World} {a b c:Value} (h:Ext w W):Ext w (((W.setCell ⟨w.heap.size,0,none⟩ a).setCell ⟨w.heap.size,1,none⟩ b).setCell ⟨w.heap.size,2,none⟩ c):=
  Below.setCell (Below.setCell (Below.setCell h (Nat.le_refl _) _) (Nat.le_refl _) _) (Nat.le_refl _) _
theorem z9B {ao:Option Addr} {n cap:Nat} {L:List En} (h v:Int) (w:World) (hx:Ens w ao n cap L) (hn:n≤1000000) (hs:q0s L) (ho: ∀e∈L,q3G e=true):
    Calls Tryz.prog 128 #[.slice ao n cap,.int .u64 h,.int .i64 v] w fun r w'=>r= .returned (.tuple #[enV ((q2k L h v).getD en0),.bool (q2k L h v).isSome])∧Ext w w':=by
  have hx1:=q0B w (.cells #[.int .u64 0,.int .i64 0,.int .i64 0] 108)
  have hbk:=Blk.new w 108 #[.int .u64 0,.int .i64 0,.int .i64 0]
  have HX1:=Lib.hid hx1
  have HBk:=Lib.hid hbk
  have HS:=Lib.hid (q9F h v _ (hx.ext hx1) hn hs ho)
  have Hx:=Lib.hid hx
  have b1:=hx.fits;have b2:=hx.bound
  have hlen:=hx.len
  have hlb:=q4C L (h,v,0)
  have hlb2:=q4C L (h,v+1,0)
  have hmono:lbE L (h,v,0)≤lbE L (h,v+1,0):=by
    unfold lbE
    rw[←List.countP_eq_length_filter,←List.countP_eq_length_filter]
    refine List.countP_mono_left fun e _ he=>?_
    rw[lessE_iff] at he⊢
    simp only at he⊢
    omega
  rw[hlen] at hlb hlb2
  have HNx:=Lib.hid (z8X hs ho h v)
  have HLa:=Lib.hid (z5z (l:=L) (h:=h) (t:=v) hs ho)
  have HLen:=Lib.hid hlen
  generalize lbE L (h,v,0)=lb at*
  generalize lbE L (h,v+1,0)=lb2 at*
  clear hx hs ho hlen hx1 hbk
  go_enter Tryz.func128,Tryz.ntmps128
  go_wp2_with fail
  refine HS.out.mono ?_
  rintro e w1 ⟨rfl,hb⟩
  have HXb:=Lib.hid hb;clear hb
  go_wp2_with fail
  go_loopw [8] (fun i W=> ∃j:Nat,lb≤j∧j≤lb2∧i= .int .i64 (j:Int)∧W=w1) (fun i _=>lb2-(intOf i).toNat)
  case atStart=>exact ⟨lb,Nat.le_refl _,hmono,rfl,rfl⟩
  case round =>
    obtain ⟨j,h1,h2,rfl,rfl⟩:=hrel
    by_cases hlt:j<lb2
    · have hjn:j<n:=by omega
      have hd:decide ((j:Int)<(n:Int))=true:=decide_eq_true (by omega)
      have q1:IntKind.i64.wrap ((j:Int)+1)=(j:Int)+1:=by rw[IntKind.wrap_i64];omega
      have q5:(j:Int)<(n:Int):=by omega
      obtain ⟨bb,off,rfl,c0,c1,c2⟩:=(Hx.out.ext (HX1.out.trans HXb.out)).at hjn
      have hin:=(HNx.out j (by rw[HLen.out];exact hjn) h1).2 hlt
      generalize L.getD j en0=e at*
      obtain ⟨e0,e1,e2⟩:=e
      unfold inE at hin
      simp only[Bool.and_eq_true,decide_eq_true_eq] at hin
      have g1:(e0==h)=true:=by simpa using hin.1
      have g2:decide (e1≤v)=true:=decide_eq_true hin.2
      clear hin
      go_wp2_with fail
      go_roundw
      case rel=>exact ⟨j+1,by omega,by omega,by go_num,trivial⟩
      case measure=>simp[intOf];omega
    · obtain rfl:j=lb2:=by omega
      have HLa2:=Lib.hid HLa.out
      have rb:=HBk.out.ext HXb.out
      have r0:wr.cell? ⟨w.heap.size,0,none⟩=some (.int .u64 0):=rb.cell 0
      have r1:wr.cell? ⟨w.heap.size,1,none⟩=some (.int .i64 0):=rb.cell 1
      have r2:wr.cell? ⟨w.heap.size,2,none⟩=some (.int .i64 0):=rb.cell 2
      have z0:=rb.free 0;have z1:=rb.free 1;have z2:=rb.free 2
      have HXw:=Lib.hid (HX1.out.trans HXb.out)
      clear rb
      have hstop:decide ((j:Int)<(n:Int))=false∨(decide ((j:Int)<(n:Int))=true∧ ∃hjn:j<n,inE h v (L.getD j en0)=false):=by
        by_cases hjn:j<n
        · refine .inr ⟨decide_eq_true (by omega),hjn,?_⟩
          cases hi:inE h v (L.getD j en0) with
          |false=>rfl
          |true=>have:=(HNx.out j (by rw[HLen.out];exact hjn) h1).1 hi;omega
        · exact .inl (decide_eq_false (by omega))
      have hend:(j=0∧q2k L h v=none)∨(0<j∧ ∃hj:j-1<n,((L.getD (j-1) en0).1==h)=false∧q2k L h v=none)∨(0<j∧ ∃hj:j-1<n,((L.getD (j-1) en0).1==h)=true∧decide (v<(L.getD (j-1) en0).2.1)=false∧q2k L h v=some (L.getD (j-1) en0)):=by
        by_cases hj0:j=0
        · exact .inl ⟨hj0,by rw[HLa.out,if_pos hj0]⟩
        · have hjn:j-1<L.length:=by rw[HLen.out];omega
          have hla:=HLa.out
          rw[if_neg hj0,List.getElem?_eq_getElem hjn] at hla
          simp only at hla
          have hg:L.getD (j-1) en0=L[j-1]:=by rw[List.getD_eq_getElem?_getD,List.getElem?_eq_getElem hjn];rfl
          rw[hg]
          by_cases he:L[j-1].1=h
          · rw[if_pos he] at hla
            refine .inr (.inr ⟨by omega,by omega,by simpa using he,?_,hla⟩)
            have hml:=(q7N hla)
            unfold inE at hml
            simp only[Bool.and_eq_true,decide_eq_true_eq] at hml
            exact decide_eq_false (by omega)
          · rw[if_neg he] at hla
            exact .inr (.inl ⟨by omega,by omega,by simpa using he,hla⟩)
      have hst2:decide ((j:Int)<(n:Int))=false∨(decide ((j:Int)<(n:Int))=true∧j<n∧(((L.getD j en0).1==h)=false∨(((L.getD j en0).1==h)=true∧decide ((L.getD j en0).2.1≤v)=false))):=by
        rcases hstop with g|⟨g,hjn,hi⟩
        · exact .inl g
        · refine .inr ⟨g,hjn,?_⟩
          unfold inE at hi
          by_cases he:(L.getD j en0).1=h
          · rw[decide_eq_true he,Bool.true_and] at hi
            exact .inr ⟨by simpa using he,hi⟩
          · exact .inl (by simpa using he)
      have HAt:=Lib.hid (fun i (hi:i<n)=>(Hx.out.ext HXw.out).at hi)
      have q9:0<j→IntKind.i64.wrap ((j:Int)-1)=((j-1:Nat):Int):=fun h=>by rw[IntKind.wrap_i64];omega
      clear hstop HLa HLa2
      rcases hend with ⟨hj0,hres⟩|⟨hj0,hj,g3,hres⟩|⟨hj0,hj,g3,g4,hres⟩
      · rcases hst2 with g|⟨g,hjn,g5|⟨g5,g6⟩⟩
        · have g7:¬((j:Int)<(n:Int)):=of_decide_eq_false g
          have q12:((j:Int)==0)=true:=by simp;omega
          go_wp2_with fail
          ((try simp only[Exit.inBlock,Exit.then]);refine bodyPost_ret (v:= .tuple #[.agg #[.int .u64 0,.int .i64 0,.int .i64 0],.bool false]) (by rw[results_cell_tmp rfl];go_simp) rfl ?_)
          refine ⟨by first|rfl|(rw[HRes.out];rfl),?_⟩
          exact q7k HXw.out
        · obtain ⟨bb,off,rfl,c0,c1,c2⟩:=HAt.out j hjn
          generalize L.getD j en0=e at*
          obtain ⟨e0,e1,e2⟩:=e
          simp only at g5
          subst hj0
          have m0:wr.cell? ⟨bb,off,none⟩=some (.int .u64 e0):=by simpa using c0
          have m1:wr.cell? ⟨bb,off+1,none⟩=some (.int .i64 e1):=by simpa using c1
          have m2:wr.cell? ⟨bb,off+2,none⟩=some (.int .i64 e2):=by simpa using c2
          have m3:(0:Int)<(n:Int):=of_decide_eq_true g
          clear c0 c1 c2 g
          have HRes:=Lib.hid hres
          clear hres
          go_wp2_with fail
          ((try simp only[Exit.inBlock,Exit.then]);refine bodyPost_ret (v:= .tuple #[.agg #[.int .u64 0,.int .i64 0,.int .i64 0],.bool false]) (by rw[results_cell_tmp rfl];go_simp) rfl ?_)
          refine ⟨by first|rfl|(rw[HRes.out];rfl),?_⟩
          exact q7k HXw.out
        · obtain ⟨bb,off,rfl,c0,c1,c2⟩:=HAt.out j hjn
          generalize L.getD j en0=e at*
          obtain ⟨e0,e1,e2⟩:=e
          simp only at g5
          simp only at g6
          subst hj0
          have m0:wr.cell? ⟨bb,off,none⟩=some (.int .u64 e0):=by simpa using c0
          have m1:wr.cell? ⟨bb,off+1,none⟩=some (.int .i64 e1):=by simpa using c1
          have m2:wr.cell? ⟨bb,off+2,none⟩=some (.int .i64 e2):=by simpa using c2
          have m3:(0:Int)<(n:Int):=of_decide_eq_true g
          clear c0 c1 c2 g
          have HRes:=Lib.hid hres
          clear hres
          go_wp2_with fail
          ((try simp only[Exit.inBlock,Exit.then]);refine bodyPost_ret (v:= .tuple #[.agg #[.int .u64 0,.int .i64 0,.int .i64 0],.bool false]) (by rw[results_cell_tmp rfl];go_simp) rfl ?_)
          refine ⟨by first|rfl|(rw[HRes.out];rfl),?_⟩
          exact q7k HXw.out
      · rcases hst2 with g|⟨g,hjn,g5|⟨g5,g6⟩⟩
        · have g7:¬((j:Int)<(n:Int)):=of_decide_eq_false g
          obtain ⟨pb,poff,pe,d0,d1,d2⟩:=HAt.out (j-1) hj
          obtain ⟨x,hxe⟩: ∃x,L.getD (j-1) en0=x:=⟨_,rfl⟩
          rw[hxe] at d0 d1 d2 g3
          obtain ⟨x0,x1,x2⟩:=x
          obtain ⟨J,hJ⟩: ∃J,j-1=J:=⟨_,rfl⟩
          rw[hJ] at d0 d1 d2 hj
          have q10:IntKind.i64.wrap ((j:Int)-1)=(J:Int):=by rw[q9 hj0,hJ]
          have q11:(J:Int)<(n:Int):=by omega
          have q12:((j:Int)==0)=false:=by simp;omega
          have HRes:=Lib.hid hres
          clear hres
          simp only at g3
          have k3:(x0 !=h)=true:=by rw[bne,g3];rfl
          clear g3
          clear hJ hxe q9
          subst pe
          go_wp2_with fail
          ((try simp only[Exit.inBlock,Exit.then]);refine bodyPost_ret (v:= .tuple #[.agg #[.int .u64 0,.int .i64 0,.int .i64 0],.bool false]) (by rw[results_cell_tmp rfl];go_simp) rfl ?_)
          refine ⟨by first|rfl|(rw[HRes.out];rfl),?_⟩
          exact q7k HXw.out
        · obtain ⟨pb,poff,pe,d0,d1,d2⟩:=HAt.out (j-1) hj
          obtain ⟨x,hxe⟩: ∃x,L.getD (j-1) en0=x:=⟨_,rfl⟩
          rw[hxe] at d0 d1 d2 g3
          obtain ⟨x0,x1,x2⟩:=x
          obtain ⟨J,hJ⟩: ∃J,j-1=J:=⟨_,rfl⟩
          rw[hJ] at d0 d1 d2 hj
          have q10:IntKind.i64.wrap ((j:Int)-1)=(J:Int):=by rw[q9 hj0,hJ]
          have q11:(J:Int)<(n:Int):=by omega
          have q12:((j:Int)==0)=false:=by simp;omega
          have HRes:=Lib.hid hres
          clear hres
          simp only at g3
          have k3:(x0 !=h)=true:=by rw[bne,g3];rfl
          clear g3
          clear hJ hxe q9
          obtain ⟨bb,off,rfl,c0,c1,c2⟩:=HAt.out j hjn
          generalize L.getD j en0=e at*
          obtain ⟨e0,e1,e2⟩:=e
          simp only at g5
          cases pe
          go_wp2_with fail
          ((try simp only[Exit.inBlock,Exit.then]);refine bodyPost_ret (v:= .tuple #[.agg #[.int .u64 0,.int .i64 0,.int .i64 0],.bool false]) (by rw[results_cell_tmp rfl];go_simp) rfl ?_)
          refine ⟨by first|rfl|(rw[HRes.out];rfl),?_⟩
          exact q7k HXw.out
        · obtain ⟨pb,poff,pe,d0,d1,d2⟩:=HAt.out (j-1) hj
          obtain ⟨x,hxe⟩: ∃x,L.getD (j-1) en0=x:=⟨_,rfl⟩
          rw[hxe] at d0 d1 d2 g3
          obtain ⟨x0,x1,x2⟩:=x
          obtain ⟨J,hJ⟩: ∃J,j-1=J:=⟨_,rfl⟩
          rw[hJ] at d0 d1 d2 hj
          have q10:IntKind.i64.wrap ((j:Int)-1)=(J:Int):=by rw[q9 hj0,hJ]
          have q11:(J:Int)<(n:Int):=by omega
          have q12:((j:Int)==0)=false:=by simp;omega
          have HRes:=Lib.hid hres
          clear hres
          simp only at g3
          have k3:(x0 !=h)=true:=by rw[bne,g3];rfl
          clear g3
          clear hJ hxe q9
          obtain ⟨bb,off,rfl,c0,c1,c2⟩:=HAt.out j hjn
          generalize L.getD j en0=e at*
          obtain ⟨e0,e1,e2⟩:=e
          simp only at g5
          simp only at g6
          cases pe
          go_wp2_with fail
          ((try simp only[Exit.inBlock,Exit.then]);refine bodyPost_ret (v:= .tuple #[.agg #[.int .u64 0,.int .i64 0,.int .i64 0],.bool false]) (by rw[results_cell_tmp rfl];go_simp) rfl ?_)
          refine ⟨by first|rfl|(rw[HRes.out];rfl),?_⟩
          exact q7k HXw.out
      · rcases hst2 with g|⟨g,hjn,g5|⟨g5,g6⟩⟩
        · have g7:¬((j:Int)<(n:Int)):=of_decide_eq_false g
          obtain ⟨pb,poff,pe,d0,d1,d2⟩:=HAt.out (j-1) hj
          obtain ⟨x,hxe⟩: ∃x,L.getD (j-1) en0=x:=⟨_,rfl⟩
          rw[hxe] at d0 d1 d2 hres g3 g4
          obtain ⟨x0,x1,x2⟩:=x
          obtain ⟨J,hJ⟩: ∃J,j-1=J:=⟨_,rfl⟩
          rw[hJ] at d0 d1 d2 hj
          have q10:IntKind.i64.wrap ((j:Int)-1)=(J:Int):=by rw[q9 hj0,hJ]
          have q11:(J:Int)<(n:Int):=by omega
          have q12:((j:Int)==0)=false:=by simp;omega
          have HRes:=Lib.hid hres
          clear hres
          simp only at g3 g4
          have k3:(x0 !=h)=false:=by rw[bne,g3];rfl
          clear g3
          clear hJ hxe q9
          subst pe
          go_wp2_with fail
          ((try simp only[Exit.inBlock,Exit.then]);refine bodyPost_ret (v:= .tuple #[.agg #[.int .u64 x0,.int .i64 x1,.int .i64 x2],.bool true]) (by rw[results_cell_tmp rfl];go_simp) rfl ?_)
          refine ⟨by first|rfl|(rw[HRes.out];rfl),?_⟩
          exact q7k HXw.out
        · obtain ⟨pb,poff,pe,d0,d1,d2⟩:=HAt.out (j-1) hj
          obtain ⟨x,hxe⟩: ∃x,L.getD (j-1) en0=x:=⟨_,rfl⟩
          rw[hxe] at d0 d1 d2 hres g3 g4
          obtain ⟨x0,x1,x2⟩:=x
          obtain ⟨J,hJ⟩: ∃J,j-1=J:=⟨_,rfl⟩
          rw[hJ] at d0 d1 d2 hj
          have q10:IntKind.i64.wrap ((j:Int)-1)=(J:Int):=by rw[q9 hj0,hJ]
          have q11:(J:Int)<(n:Int):=by omega
          have q12:((j:Int)==0)=false:=by simp;omega
          have HRes:=Lib.hid hres
          clear hres
          simp only at g3 g4
          have k3:(x0 !=h)=false:=by rw[bne,g3];rfl
          clear g3
          clear hJ hxe q9
          obtain ⟨bb,off,rfl,c0,c1,c2⟩:=HAt.out j hjn
          generalize L.getD j en0=e at*
          obtain ⟨e0,e1,e2⟩:=e
          simp only at g5
          cases pe
          go_wp2_with fail
          ((try simp only[Exit.inBlock,Exit.then]);refine bodyPost_ret (v:= .tuple #[.agg #[.int .u64 x0,.int .i64 x1,.int .i64 x2],.bool true]) (by rw[results_cell_tmp rfl];go_simp) rfl ?_)
          refine ⟨by first|rfl|(rw[HRes.out];rfl),?_⟩
          exact q7k HXw.out
        · obtain ⟨pb,poff,pe,d0,d1,d2⟩:=HAt.out (j-1) hj
          obtain ⟨x,hxe⟩: ∃x,L.getD (j-1) en0=x:=⟨_,rfl⟩
          rw[hxe] at d0 d1 d2 hres g3 g4
          obtain ⟨x0,x1,x2⟩:=x
          obtain ⟨J,hJ⟩: ∃J,j-1=J:=⟨_,rfl⟩
          rw[hJ] at d0 d1 d2 hj
          have q10:IntKind.i64.wrap ((j:Int)-1)=(J:Int):=by rw[q9 hj0,hJ]
          have q11:(J:Int)<(n:Int):=by omega
          have q12:((j:Int)==0)=false:=by simp;omega
          have HRes:=Lib.hid hres
          clear hres
          simp only at g3 g4
          have k3:(x0 !=h)=false:=by rw[bne,g3];rfl
          clear g3
          clear hJ hxe q9
          obtain ⟨bb,off,rfl,c0,c1,c2⟩:=HAt.out j hjn
          generalize L.getD j en0=e at*
          obtain ⟨e0,e1,e2⟩:=e
          simp only at g5
          simp only at g6
          cases pe
          go_wp2_with fail
          ((try simp only[Exit.inBlock,Exit.then]);refine bodyPost_ret (v:= .tuple #[.agg #[.int .u64 x0,.int .i64 x1,.int .i64 x2],.bool true]) (by rw[results_cell_tmp rfl];go_simp) rfl ?_)
          refine ⟨by first|rfl|(rw[HRes.out];rfl),?_⟩
          exact q7k HXw.out
end Go.Proofs.YtjjfiejoeelndaaGreatDoor
namespace Go.Proofs.YtjjfiejoeelndaaGreatDoor
def q3T (e:En) (L:List En):List En:=if e∈L then L else L.take (lbE L e)++e::L.drop (lbE L e)
theorem q5j : ∀{a b:List En},q0s a→q0s b→(∀x,x∈a↔x∈b)→a=b
  |[],[],_,_,_=>rfl
  |[],y::b,_,_,h=>absurd ((h y).2 (.head _)) (by simp)
  |x::a,[],_,_,h=>absurd ((h x).1 (.head _)) (by simp)
  | x ::a,y::b,ha,hb,h=>by
    obtain ⟨h1,h2⟩:=List.pairwise_cons.1 ha
    obtain ⟨h3,h4⟩:=List.pairwise_cons.1 hb
    have hxy:x=y:=by
      rcases List.mem_cons.1 ((h x).1 (.head _)) with hx|hx
      · exact hx
      rcases List.mem_cons.1 ((h y).2 (.head _)) with hy|hy
      · exact hy.symm
      have:=q1G (h1 y hy) (h3 x hx)
      rw[q0X] at this;cases this
    subst hxy
    have hn1:x∉a:=fun hm=>by have:=h1 x hm;rw[q0X] at this;cases this
    have hn2:x∉b:=fun hm=>by have:=h3 x hm;rw[q0X] at this;cases this
    rw [q5j h2 h4 fun z=>⟨fun hz=>by
      rcases List.mem_cons.1 ((h z).1 (.tail _ hz)) with e|e
      · exact absurd (e▸hz) hn1
      · exact e,fun hz=>by
      rcases List.mem_cons.1 ((h z).2 (.tail _ hz)) with e|e
      · exact absurd (e▸hz) hn2
      · exact e⟩]
theorem mem_addE {e x:En} {L:List En}:x∈q3T e L↔x=e∨x∈L:=by
  unfold q3T
  split
  · next h=>
    constructor
    · exact .inr
    · rintro (rfl|h1)
      · exact h
      · exact h1
  · rw [List.mem_append,List.mem_cons]
    constructor
    · rintro (h1|h1|h1)
      · exact .inr (List.mem_of_mem_take h1)
      · exact .inl h1
      · exact .inr (List.mem_of_mem_drop h1)
    · rintro (h1|h1)
      · exact .inr (.inl h1)
      · rw[←List.take_append_drop (lbE L e) L,List.mem_append] at h1
        rcases h1 with h1|h1
        · exact .inl h1
        · exact .inr (.inr h1)
theorem z5x {L:List En} (hs:q0s L) (e:En): ∀x∈L.take (lbE L e),q0e x e=true:=fun x hx=>by
  obtain ⟨i,hi,rfl⟩:=List.getElem_of_mem hx
  rw[List.length_take] at hi
  rw[List.getElem_take,q3V e hs (List.getElem?_eq_getElem (by omega)),decide_eq_true (by omega)]
theorem z6E {L:List En} (hs:q0s L) (e:En): ∀x∈L.drop (lbE L e),q0e x e=false:=fun x hx=>by
  obtain ⟨i,hi,rfl⟩:=List.getElem_of_mem hx
  rw[List.length_drop] at hi
  rw[List.getElem_drop,q3V e hs (List.getElem?_eq_getElem (by omega)),decide_eq_false (by omega)]
theorem q9q {e:En} {L:List En} (hs:q0s L):q0s (q3T e L):=by
  unfold q3T
  split
  · exact hs
  · next hn=>
    refine List.pairwise_append.2 ⟨hs.sublist (List.take_sublist _ _),List.pairwise_cons.2 ⟨fun x hx=>?_,hs.sublist (List.drop_sublist _ _)⟩,fun x hx y hy=>?_⟩
    · cases h:q0e e x with
      |true=>rfl
      |false=>exact absurd (q4s (z6E hs e x hx) h▸List.mem_of_mem_drop hx) hn
    · rcases List.mem_cons.1 hy with rfl|hy
      · exact z5x hs _ x hx
      · have h1:=z5x hs e x hx
        have h2:=z6E hs e y hy
        cases h:q0e x y with
        |true=>rfl
        | false=>
          cases h3:q0e y x with
          |true=>rw[q1G h3 h1] at h2;cases h2
          |false=>rw[q4s h h3,h2] at h1;cases h1
theorem z9e {e:En} {L:List En} (he:q3G e=true) (ho: ∀x∈L,q3G x=true): ∀x∈q3T e L,q3G x=true:=fun x hx=>by
  rcases mem_addE.1 hx with rfl|h
  · exact he
  · exact ho x h
theorem z0x {e:En} {L:List En}:(q3T e L).length=if e∈L then L.length else L.length+1:=by
  unfold q3T
  have:=q4C L e
  split
  · rfl
  · rw[List.length_append,List.length_cons,List.length_take,List.length_drop];omega
theorem z5C {e:En} {L:List En}:(q3T e L).length≤L.length+1:=by rw[z0x];split<;>omega
theorem y0O {e:En} {L:List En} (hs:q0s L):e∈L↔ ∃h:lbE L e<L.length,L.getD (lbE L e) en0=e:=by
  constructor
  · intro hm
    obtain ⟨i,hi,h⟩:=List.getElem_of_mem hm
    have h1:=q3V e hs (List.getElem?_eq_getElem hi)
    rw[h,q0X] at h1
    have h2:lbE L e≤i:=by have:=of_decide_eq_false h1.symm;omega
    refine ⟨by omega,?_⟩
    rw[List.getD_eq_getElem?_getD,List.getElem?_eq_getElem (by omega)]
    show L[lbE L e]=e
    rcases Nat.lt_or_ge (lbE L e) i with h3|h3
    · have h4:=List.pairwise_iff_getElem.1 hs _ _ (by omega) hi h3
      have h5:=q3V e hs (List.getElem?_eq_getElem (i:=lbE L e) (by omega))
      rw[h] at h4
      rw[h4,decide_eq_false (by omega)] at h5
      cases h5
    · have h4:lbE L e=i:=by omega
      simp only[h4,h]
  · rintro ⟨h,h1⟩
    rw[List.getD_eq_getElem?_getD,List.getElem?_eq_getElem h] at h1
    rw[←h1]
    exact List.getElem_mem h
theorem z8b {L:List En} (e:En) (hp:0≤e.2.2):lbE L (e.1,e.2.1,0)≤lbE L e:=by
  unfold lbE
  rw[←List.countP_eq_length_filter,←List.countP_eq_length_filter]
  refine List.countP_mono_left fun x _ hx=>?_
  rw[lessE_iff] at hx⊢
  simp only at hx⊢
  omega
end Go.Proofs.YtjjfiejoeelndaaGreatDoor
namespace Go.Proofs.YtjjfiejoeelndaaGreatDoor
def q2V (Ls:List (List En)):List En:=Ls.flatten.foldr q3T []
theorem q4Q (Ls:List (List En)):q0s (q2V Ls):=by
  unfold q2V
  induction Ls.flatten with
  |nil=>exact List.Pairwise.nil
  |cons a l ih=>exact q9q ih
theorem mem_union {Ls:List (List En)} {x:En}:x∈q2V Ls↔ ∃L∈Ls,x∈L:=by
  rw[←List.mem_flatten]
  unfold q2V
  induction Ls.flatten with
  |nil=>simp
  |cons a l ih=>rw[List.foldr_cons,mem_addE,ih,List.mem_cons]
def q5L :List (List En)→List Nat→Nat
  |L::Ls,p::P=>(L.length-p)+q5L Ls P
  |_,_=>0
def q7j (e:En) (L:List En) (p:Nat):Nat:=if p<L.length∧L.getD p en0=e then p+1 else p
def q3z (e:En):List (List En)→List Nat→List Nat
  |L::Ls,p::P=>q7j e L p::q3z e Ls P
  |_,P=>P
theorem q3y (e:En): ∀(Ls:List (List En)) (P:List Nat),(q3z e Ls P).length=P.length
  |[],P=>by cases P<;>rfl
  |L::Ls,[]=>rfl
  |L::Ls,p::P=>by rw[q3z,List.length_cons,q3y e Ls P,List.length_cons]
theorem q8d (e:En): ∀(Ls:List (List En)) (P:List Nat) (k:Nat),k<Ls.length→k<P.length→(q3z e Ls P).getD k 0=q7j e (Ls.getD k []) (P.getD k 0)
  |[],P,k,h,_=>by simp at h
  |L::Ls,[],k,_,h=>by simp at h
  |L::Ls,p::P,0,_,_=>rfl
  | L::Ls,p::P,k+1,h,h2=>by
    rw[q3z]
    simp only[List.getD_cons_succ]
    exact q8d e Ls P k (by simpa using h) (by simpa using h2)
theorem z2E (e:En): ∀(Ls:List (List En)) (P:List Nat),q5L Ls (q3z e Ls P)≤q5L Ls P
  |[],P=>by cases P<;>exact Nat.le_refl _
  |L::Ls,[]=>Nat.le_refl _
  | L::Ls,p::P=>by
    rw[q3z,q5L,q5L]
    have:=z2E e Ls P
    unfold q7j
    split<;>omega
theorem z1y (e:En): ∀(Ls:List (List En)) (P:List Nat) (k:Nat),k<Ls.length→k<P.length→P.getD k 0<(Ls.getD k []).length→(Ls.getD k []).getD (P.getD k 0) en0=e→q5L Ls (q3z e Ls P)+1≤q5L Ls P
  |[],P,k,h,_,_,_=>by simp at h
  |L::Ls,[],k,_,h,_,_=>by simp at h
  | L::Ls,p::P,0,_,_,h,h2=>by
    rw[q3z,q5L,q5L]
    have:=z2E e Ls P
    simp only[List.getD_cons_zero] at h h2
    unfold q7j
    rw[if_pos ⟨h,h2⟩]
    omega
  | L::Ls,p::P,k+1,h1,h2,h3,h4=>by
    rw[q3z,q5L,q5L]
    simp only[List.getD_cons_succ] at h3 h4
    have:=z1y e Ls P k (by simpa using h1) (by simpa using h2) h3 h4
    unfold q7j
    split<;>omega
theorem q7q : ∀Ls:List (List En),q5L Ls (List.replicate Ls.length 0)=Ls.flatten.length
  |[]=>rfl
  | L::Ls=>by
    rw[List.length_cons,List.replicate_succ,q5L,q7q Ls,List.flatten_cons,List.length_append]
    omega
structure MrgI (Ls:List (List En)) (P:List Nat) (out:List En):Prop where
  len:P.length=Ls.length
  le: ∀k,k<Ls.length→P.getD k 0≤(Ls.getD k []).length
  sort:q0s out
  mem: ∀x,(∃L∈Ls,x∈L)↔x∈out∨ ∃k,k<Ls.length∧x∈(Ls.getD k []).drop (P.getD k 0)
  lt: ∀o∈out,∀k,k<Ls.length→ ∀x∈(Ls.getD k []).drop (P.getD k 0),q0e o x=true
  cnt:out.length+q5L Ls P≤Ls.flatten.length
def BestI (Ls:List (List En)) (P:List Nat) (k:Nat) (best:Int):Prop:=
  (best= -1∧ ∀j,j<k→(Ls.getD j []).length≤P.getD j 0)∨
  ∃b:Nat,best=(b:Int)∧b<k∧P.getD b 0<(Ls.getD b []).length∧ ∀j,j<k→P.getD j 0<(Ls.getD j []).length→q0e ((Ls.getD j []).getD (P.getD j 0) en0) ((Ls.getD b []).getD (P.getD b 0) en0)=false
theorem BestI.start (Ls:List (List En)) (P:List Nat):BestI Ls P 0 (-1):= .inl ⟨rfl,fun j hj=>by omega⟩
theorem BestI.skip {Ls:List (List En)} {P:List Nat} {k:Nat} {b:Int} (h:BestI Ls P k b) (hd:(Ls.getD k []).length≤P.getD k 0):BestI Ls P (k+1) b:=by
  rcases h with ⟨h1,h2⟩|⟨c,h1,h2,h3,h4⟩
  · refine .inl ⟨h1,fun j hj=>?_⟩
    rcases Nat.lt_or_ge j k with h|h
    · exact h2 j h
    · obtain rfl:j=k:=by omega
      exact hd
  · refine .inr ⟨c,h1,by omega,h3,fun j hj hl=>?_⟩
    rcases Nat.lt_or_ge j k with h|h
    · exact h4 j h hl
    · obtain rfl:j=k:=by omega
      omega
theorem BestI.first {Ls:List (List En)} {P:List Nat} {k:Nat} (h: ∀j,j<k→(Ls.getD j []).length≤P.getD j 0) (hl:P.getD k 0<(Ls.getD k []).length):BestI Ls P (k+1) (k:Int):=by
  refine .inr ⟨k,rfl,by omega,hl,fun j hj hl2=>?_⟩
  rcases Nat.lt_or_ge j k with h1|h1
  · have:=h j h1;omega
  · obtain rfl:j=k:=by omega
    exact q0X _
theorem BestI.take {Ls:List (List En)} {P:List Nat} {k b:Nat} (hl:P.getD k 0<(Ls.getD k []).length)
    (hm: ∀j,j<k→P.getD j 0<(Ls.getD j []).length→q0e ((Ls.getD j []).getD (P.getD j 0) en0) ((Ls.getD b []).getD (P.getD b 0) en0)=false)
    (ht:q0e ((Ls.getD k []).getD (P.getD k 0) en0) ((Ls.getD b []).getD (P.getD b 0) en0)=true):BestI Ls P (k+1) (k:Int):=by
  refine .inr ⟨k,rfl,by omega,hl,fun j hj hl2=>?_⟩
  rcases Nat.lt_or_ge j k with h1|h1
  · cases h:q0e ((Ls.getD j []).getD (P.getD j 0) en0) ((Ls.getD k []).getD (P.getD k 0) en0) with
    |false=>rfl
    |true=>exact absurd (hm j h1 hl2) (by rw[q1G h ht];decide)
  · obtain rfl:j=k:=by omega
    exact q0X _
theorem BestI.keep {Ls:List (List En)} {P:List Nat} {k b:Nat} (hb:b<k) (hlb:P.getD b 0<(Ls.getD b []).length)
    (hm: ∀j,j<k→P.getD j 0<(Ls.getD j []).length→q0e ((Ls.getD j []).getD (P.getD j 0) en0) ((Ls.getD b []).getD (P.getD b 0) en0)=false)
    (ht:q0e ((Ls.getD k []).getD (P.getD k 0) en0) ((Ls.getD b []).getD (P.getD b 0) en0)=false):BestI Ls P (k+1) (b:Int):=by
  refine .inr ⟨b,rfl,by omega,hlb,fun j hj hl2=>?_⟩
  rcases Nat.lt_or_ge j k with h1|h1
  · exact hm j h1 hl2
  · obtain rfl:j=k:=by omega
    exact ht
theorem z0J {P Q:List Nat} (hl:P.length=Q.length) (h: ∀j,j<P.length→P.getD j 0=Q.getD j 0):P=Q:=by
  refine List.ext_getElem hl fun j h1 h2=>?_
  have:=h j h1
  rw[List.getD_eq_getElem?_getD,List.getD_eq_getElem?_getD,List.getElem?_eq_getElem h1,List.getElem?_eq_getElem h2] at this
  exact this
theorem q5Q (P:List Nat) (k p j:Nat) (hk:k<P.length):(P.set k p).getD j 0=if j=k then p else P.getD j 0:=by
  rw[List.getD_eq_getElem?_getD,List.getElem?_set,List.getD_eq_getElem?_getD]
  split
  · next h=>subst h;simp[hk]
  · next h=>rw[if_neg (fun e=>h e.symm)]
theorem mem_drop_getD {L:List En} {p:Nat} {x:En}:x∈L.drop p↔ ∃i,p≤i∧i<L.length∧L.getD i en0=x:=by
  constructor
  · intro h
    obtain ⟨i,hi,rfl⟩:=List.getElem_of_mem h
    rw[List.length_drop] at hi
    refine ⟨p+i,by omega,by omega,?_⟩
    rw[List.getElem_drop,List.getD_eq_getElem?_getD,List.getElem?_eq_getElem (by omega)]
    rfl
  · rintro ⟨i,h1,h2,rfl⟩
    rw[List.getD_eq_getElem?_getD,List.getElem?_eq_getElem h2]
    refine List.mem_iff_getElem.2 ⟨i-p,by rw[List.length_drop];omega,?_⟩
    rw[List.getElem_drop]
    show L[p+(i-p)]=L[i]
    simp only[show p+(i-p)=i from by omega]
theorem q5D {L:List En} (h:q0s L) {i j:Nat} (hij:i<j) (hj:j<L.length):q0e (L.getD i en0) (L.getD j en0)=true:=by
  have:=List.pairwise_iff_getElem.1 h i j (by omega) hj hij
  rw[List.getD_eq_getElem?_getD,List.getElem?_eq_getElem (by omega),List.getD_eq_getElem?_getD,List.getElem?_eq_getElem hj]
  exact this
theorem z0s {Ls:List (List En)} {x:En}:(∃L∈Ls,x∈L)↔ ∃k,k<Ls.length∧x∈Ls.getD k []:=by
  constructor
  · rintro ⟨L,h,hx⟩
    obtain ⟨k,hk,rfl⟩:=List.getElem_of_mem h
    exact ⟨k,hk,by rw[List.getD_eq_getElem?_getD,List.getElem?_eq_getElem hk];exact hx⟩
  · rintro ⟨k,hk,hx⟩
    rw[List.getD_eq_getElem?_getD,List.getElem?_eq_getElem hk] at hx
    exact ⟨_,List.getElem_mem hk,hx⟩
theorem z4X {e:En} {L:List En} {p0 p:Nat} (hs:q0s L) (h:p=p0∨(p=p0+1∧p0<L.length∧L.getD p0 en0=e)) (hl:p<L.length) (he:L.getD p en0=e):p=p0:=by
  rcases h with h|⟨h,h1,h2⟩
  · exact h
  · have h3:=q5D hs (show p0<p by omega) hl
    rw[h2,he,q0X] at h3
    cases h3
theorem z0E {e:En} {L:List En} {p0 p:Nat} (h:p=p0∨(p=p0+1∧p0<L.length∧L.getD p0 en0=e)) (hn:¬(p<L.length∧L.getD p en0=e)):q7j e L p0=p:=by
  unfold q7j
  rcases h with h|⟨h,h1,h2⟩
  · subst h;rw[if_neg hn]
  · rw[if_pos ⟨h1,h2⟩,h]
theorem MrgI.start (Ls:List (List En)):MrgI Ls (List.replicate Ls.length 0) []:=by
  have hz: ∀k,(List.replicate Ls.length 0).getD k 0=0:=fun k=>by
    rw[List.getD_eq_getElem?_getD,List.getElem?_replicate]
    split<;>rfl
  refine ⟨by simp,fun k _=>by rw[hz];omega,List.Pairwise.nil,fun x=>?_,fun o ho=>by simp at ho,by rw[q7q];simp⟩
  rw[z0s]
  simp only[hz,List.drop_zero,List.not_mem_nil,false_or]
theorem MrgI.done {Ls:List (List En)} {P:List Nat} {out:List En} (h:MrgI Ls P out) (hb: ∀j,j<Ls.length→(Ls.getD j []).length≤P.getD j 0):out=q2V Ls:=by
  refine q5j h.sort (q4Q Ls) fun x=>?_
  rw[mem_union,h.mem]
  constructor
  · exact .inl
  · rintro (h1|⟨k,h1,h2⟩)
    · exact h1
    · rw[List.drop_eq_nil_of_le (hb k h1)] at h2;cases h2
theorem MrgI.step {Ls:List (List En)} {P:List Nat} {out:List En} (h:MrgI Ls P out) (hs: ∀L∈Ls,q0s L) {b:Nat} (hb:b<Ls.length) (hlt:P.getD b 0<(Ls.getD b []).length)
    (hmin: ∀j,j<Ls.length→P.getD j 0<(Ls.getD j []).length→q0e ((Ls.getD j []).getD (P.getD j 0) en0) ((Ls.getD b []).getD (P.getD b 0) en0)=false):
    MrgI Ls (q3z ((Ls.getD b []).getD (P.getD b 0) en0) Ls P) (out++[(Ls.getD b []).getD (P.getD b 0) en0]):=by
  obtain ⟨e,he⟩: ∃e,(Ls.getD b []).getD (P.getD b 0) en0=e:=⟨_,rfl⟩
  have hcn:=z1y e Ls P b hb (by rw[h.len];exact hb) hlt he
  rw[he] at hmin⊢
  have hsk: ∀k,k<Ls.length→q0s (Ls.getD k []):=fun k hk=>by
    rw[List.getD_eq_getElem?_getD,List.getElem?_eq_getElem hk];exact hs _ (List.getElem_mem hk)
  have hge: ∀k,k<Ls.length→ ∀x∈(Ls.getD k []).drop (P.getD k 0),q0e x e=false:=fun k hk x hx=>by
    obtain ⟨i,h1,h2,rfl⟩:=mem_drop_getD.1 hx
    rcases Nat.lt_or_ge (P.getD k 0) i with h3|h3
    · have h4:=q5D (hsk k hk) h3 h2
      cases h5:q0e ((Ls.getD k []).getD i en0) e with
      |false=>rfl
      |true=>exact absurd (hmin k hk (by omega)) (by rw[q1G h4 h5];decide)
    · have h4:P.getD k 0=i:=by omega
      rw[←h4];exact hmin k hk (by omega)
  have hat: ∀k,k<Ls.length→(q3z e Ls P).getD k 0=q7j e (Ls.getD k []) (P.getD k 0):=fun k hk=>q8d e Ls P k hk (by rw[h.len];exact hk)
  have hrest: ∀k,k<Ls.length→ ∀x,x∈(Ls.getD k []).drop ((q3z e Ls P).getD k 0)↔x∈(Ls.getD k []).drop (P.getD k 0)∧x≠e:=fun k hk x=>by
    rw[hat k hk,mem_drop_getD,mem_drop_getD]
    unfold q7j
    constructor
    · rintro ⟨i,h1,h2,rfl⟩
      split at h1
      · rename_i h3
        refine ⟨⟨i,by omega,h2,rfl⟩,fun e1=>?_⟩
        have:=q5D (hsk k hk) (show P.getD k 0<i by omega) h2
        rw[h3.2,e1,q0X] at this
        cases this
      · rename_i h3
        refine ⟨⟨i,h1,h2,rfl⟩,fun e1=>?_⟩
        rcases Nat.lt_or_ge (P.getD k 0) i with h4|h4
        · have h5:=q5D (hsk k hk) h4 h2
          have h6:=hmin k hk (by omega)
          rw[e1] at h5
          rw[h5] at h6;cases h6
        · have h5:P.getD k 0=i:=by omega
          exact h3 ⟨by omega,by rw[h5];exact e1⟩
    · rintro ⟨⟨i,h1,h2,rfl⟩,hne⟩
      refine ⟨i,?_,h2,rfl⟩
      split
      · rename_i h3
        rcases Nat.lt_or_ge (P.getD k 0) i with h4|h4
        · omega
        · have h5:P.getD k 0=i:=by omega
          rw[h5] at h3
          exact absurd h3.2 hne
      · exact h1
  have hemem:e∈(Ls.getD b []).drop (P.getD b 0):=mem_drop_getD.2 ⟨_,Nat.le_refl _,hlt,he⟩
  refine ⟨by rw[q3y,h.len],fun k hk=>?_,?_,fun x=>?_,fun o ho k hk x hx=>?_,?_⟩
  · rw[hat k hk]
    have:=h.le k hk
    unfold q7j
    split<;>omega
  · refine List.pairwise_append.2 ⟨h.sort,List.pairwise_singleton _ _,fun o ho y hy=>?_⟩
    obtain rfl:=List.mem_singleton.1 hy
    exact h.lt o ho b hb _ hemem
  · rw [h.mem,List.mem_append,List.mem_singleton]
    constructor
    · rintro (h1|⟨k,h1,h2⟩)
      · exact .inl (.inl h1)
      · by_cases hx:x=e
        · exact .inl (.inr hx)
        · exact .inr ⟨k,h1,(hrest k h1 x).2 ⟨h2,hx⟩⟩
    · rintro ((h1|rfl)|⟨k,h1,h2⟩)
      · exact .inl h1
      · exact .inr ⟨b,hb,hemem⟩
      · exact .inr ⟨k,h1,((hrest k h1 x).1 h2).1⟩
  · have h1:=(hrest k hk x).1 hx
    rcases List.mem_append.1 ho with h2|h2
    · exact h.lt o h2 k hk x h1.1
    · obtain rfl:=List.mem_singleton.1 h2
      cases h3:q0e o x with
      |true=>rfl
      |false=>exact absurd (q4s (hge k hk x h1.1) h3) h1.2
  · have:=h.cnt
    rw[List.length_append,List.length_singleton]
    omega
end Go.Proofs.YtjjfiejoeelndaaGreatDoor
namespace Go.Proofs.YtjjfiejoeelndaaGreatDoor
open Go.RowKit
structure EGr (w:World) (ao:Option Addr) (n cap:Nat) (Ls:List (List En)):Prop where
  len:Ls.length=n
  fits:n≤cap
  bound:cap≤9223372036854775807
  nil:ao=none→cap=0
  rd: ∀i,i<n→ ∃b off ai ci,ao=some ⟨b,off,none⟩∧w.cell? ⟨b,off+i,none⟩=some (.slice ai (Ls.getD i []).length ci)∧Ens w ai (Ls.getD i []).length ci (Ls.getD i [])
theorem EGr.ext {w w':World} {ao:Option Addr} {n cap:Nat} {Ls:List (List En)} (h:EGr w ao n cap Ls) (k:Ext w w'):EGr w' ao n cap Ls:=
  ⟨h.len,h.fits,h.bound,h.nil,fun i hi=>let ⟨b,off,ai,ci,e,hc,hr⟩:=h.rd i hi;⟨b,off,ai,ci,e,q0A k hc,hr.ext k⟩⟩
structure EGo (w:World) (B:Nat) (v:Value) (vs:List Value) (Ls:List (List En)):Prop where
  own:w.ownsRow B 148 1 v Ls.length vs
  row: ∀i,w.ownsRow B 108 3 (vs.getD i (.slice none 0 0)) (Ls.getD i []).length (ecs (Ls.getD i []))
theorem q6d {α:Type} (L:List α) (x d:α) (i:Nat):(L++[x]).getD i d=if i<L.length then L.getD i d else if i=L.length then x else d:=by
  simp only[List.getD_eq_getElem?_getD]
  split
  · rw[List.getElem?_append_left (by assumption)]
  · split
    · rename_i h1 h2
      subst h2
      simp
    · rename_i h1 h2
      rw[List.getElem?_eq_none (by simp;omega)];rfl
section
variable {w w':World} {B B':Nat} {v v' x:Value} {vs:List Value} {Ls:List (List En)} {M:List En}
theorem EGo.nil (w:World) (B:Nat):EGo w B (.slice none 0 0) [] []:=⟨World.ownsRow_nil _ _ _ _,fun i=>by simpa [ecs] using World.ownsRow_nil w B 108 3⟩
theorem EGo.len (h:EGo w B v vs Ls):vs.length=Ls.length:=by have:=h.own.1;simpa using this
theorem EGo.ext (h:EGo w B v vs Ls) (k:Ext w w'):EGo w' B v vs Ls:=⟨q0L h.own k,fun i=>q0L (h.row i) k⟩
theorem EGo.same (h:EGo w B v vs Ls) (k: ∀i,(v.ownBlock=some i∨ ∃q,(vs.getD q (.slice none 0 0)).ownBlock=some i)→w'.heap[i]? =w.heap[i]?):EGo w' B v vs Ls:=
  ⟨q1J h.own fun i hi=>k i (.inl hi),fun q=>q1J (h.row q) fun i hi=>k i (.inr ⟨q,hi⟩)⟩
theorem EGo.lt (h:EGo w B v vs Ls) {i:Nat} (hi:v.ownBlock=some i∨ ∃q,(vs.getD q (.slice none 0 0)).ownBlock=some i):B≤i∧i<w.heap.size:=by
  rcases hi with hi|⟨q,hi⟩
  · exact q0W h.own i hi
  · exact q0W (h.row q) i hi
theorem EGo.push (h:EGo w B v vs Ls) (hv:w.ownsRow B' 108 3 x M.length (ecs M)) (hB:B≤B')
    (own':w'.ownsRow B 148 1 v' (Ls.length+1) (vs++[x])) (hg:w.grownBy w' v.ownBlock):EGo w' B v' (vs++[x]) (Ls++[M]):=by
  have hvl:=h.len
  have hk: ∀{y:Value} {K:List En} {C:Nat},w.ownsRow C 108 3 y K.length (ecs K)→w'.ownsRow C 108 3 y K.length (ecs K):=fun {y K C} hy=>
    q1J hy fun g hgy=>hg.block g (q0W hy g hgy).2 fun e=>by
      obtain ⟨c1,h1⟩:=q5J hy hgy
      obtain ⟨c2,h2⟩:=q5J h.own e.symm
      rw[h1] at h2
      injection h2 with h2
      injection h2 with _ h2 _
      revert h2
      decide
  refine ⟨by simpa using own',fun i=>?_⟩
  rw[q6d,q6d,hvl]
  split
  · exact hk (h.row i)
  · split
    · exact hk (q0t hv hB)
    · simpa [ecs] using World.ownsRow_nil w' B 108 3
theorem EGo.grid (h:EGo w B v vs Ls): ∃ao c,v= .slice ao Ls.length c∧EGr w ao Ls.length c Ls:=by
  obtain ⟨ao,c,e,h1,h2,h3,h4⟩:=(Own.of_row h.own).rd
  refine ⟨ao,c,e,rfl,h1,h2,h3,fun i hi=>?_⟩
  have hvl:=h.len
  obtain ⟨ai,ci,e2,h5⟩:=Ens.of_own (Own.of_row (h.row i))
  obtain ⟨b,off,e3,hc⟩:=h4.at (j:=i) (by omega)
  refine ⟨b,off,ai,ci,e3,?_,h5⟩
  rw[hc,←e2,List.getD_eq_getElem?_getD,List.getElem?_eq_getElem (by omega)]
  rfl
end
def q4Z (P:List Nat):Array Value:=(P.map fun p:Nat=>Value.int .i64 (p:Int)).toArray
theorem q8z (P:List Nat) {k:Nat} (h:k<P.length):(q4Z P)[k]? =some (.int .i64 ((P.getD k 0:Nat):Int)):=by
  unfold q4Z
  rw[List.getElem?_toArray,List.getElem?_map,List.getD_eq_getElem?_getD,List.getElem?_eq_getElem h]
  rfl
theorem z5R (P:List Nat) (k p:Nat):(q4Z P).setIfInBounds k (.int .i64 (p:Int))=q4Z (P.set k p):=by
  unfold q4Z
  rw[List.setIfInBounds_toArray,List.map_set]
theorem z4H (n:Nat):Array.replicate n (Value.int .i64 0)=q4Z (List.replicate n 0):=by
  unfold q4Z
  simp
end Go.Proofs.YtjjfiejoeelndaaGreatDoor
