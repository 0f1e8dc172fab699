/- Walks: entries. Walks: whether two lists of entries are the same (law18's Same). -/
import Derived.Test.YtjjfiejoeelndaaGreatDoorChecked
import Derived.Test.YtjjfiejoeelndaaGreatDoorG3Bs
import Derived.Test.YtjjfiejoeelndaaGreatDoorG9Bs
import Derived.Laws.BitsLemmas
set_option linter.unusedVariables false
set_option linter.unusedSimpArgs false
namespace Go.Proofs.YtjjfiejoeelndaaGreatDoor
open Go.RowKit
set_option maxRecDepth 100000
set_option linter.unusedVariables false
set_option maxHeartbeats 3200000
theorem q9K (a b:En) (w:World):Calls Tryz.prog 148 #[enV a,enV b] w fun e w'=>e= .returned (.bool (q0c a b))∧Ext w w':=by
  obtain ⟨a1,a2,a3⟩:=a
  obtain ⟨b1,b2,b3⟩:=b
  have HB:=Lib.hid (q5k w (.cells #[.int .u64 a1,.int .i64 a2,.int .i64 a3] 108) (.cells #[.int .u64 b1,.int .i64 b2,.int .i64 b3] 108))
  have HL:Hid (q0c (a1,a2,a3) (b1,b2,b3)=if a1≠b1 then decide (a1<b1) else if a2≠b2 then decide (a2<b2) else decide (a3<b3)):=Lib.hid rfl
  show Calls Tryz.prog 148 #[.agg #[.int .u64 a1,.int .i64 a2,.int .i64 a3],.agg #[.int .u64 b1,.int .i64 b2,.int .i64 b3]] w _
  by_cases h1:a1=b1
  · subst h1
    by_cases h2:a2=b2
    · subst h2
      go_enter Tryz.func148,Tryz.ntmps148
      go_wp2_with fail
      go_ret
      exact ⟨rb (by rw[HL.out];simp),HB.out⟩
    · have hn:(a2 !=b2)=true:=by simpa using h2
      go_enter Tryz.func148,Tryz.ntmps148
      go_wp2_with fail
      go_ret
      exact ⟨rb (by rw[HL.out];simp[h2]),HB.out⟩
  · have hn:(a1 !=b1)=true:=by simpa using h1
    go_enter Tryz.func148,Tryz.ntmps148
    go_wp2_with fail
    go_ret
    exact ⟨rb (by rw[HL.out];simp[h1]),HB.out⟩
theorem q8B {L:List En} {k:Nat} (hk:k+1<L.length):q3n (L.take (k+2))=(q3n (L.take (k+1))&&q0c (L.getD k en0) (L.getD (k+1) en0)):=by
  rw[Bool.eq_iff_iff,Bool.and_eq_true,q2t,q2t]
  have e1:L.take (k+2)=L.take (k+1)++[L.getD (k+1) en0]:=q0S L en0 (k+1) hk
  have e2:L.take (k+1)=L.take k++[L.getD k en0]:=q0S L en0 k (by omega)
  rw[e1]
  unfold q0q
  rw[List.pairwise_append]
  constructor
  · rintro ⟨h1,_,h3⟩
    exact ⟨h1,h3 _ (by rw[e2];simp) _ (by simp)⟩
  · rintro ⟨h1,h2⟩
    refine ⟨h1,by simp,fun x hx y hy=>?_⟩
    obtain rfl:=List.mem_singleton.1 hy
    rw[e2] at hx h1
    rcases List.mem_append.1 hx with hx|hx
    · exact q1E ((List.pairwise_append.1 h1).2.2 x hx _ (by simp)) h2
    · obtain rfl:=List.mem_singleton.1 hx;exact h2
theorem z0p {L:List En} {k:Nat} (hk:k+1<L.length) (h:q0c (L.getD k en0) (L.getD (k+1) en0)=false):q3n L=false:=by
  cases hs:q3n L with
  |false=>rfl
  | true=>
    rw[q2t] at hs
    have h1:q0q (L.take (k+2)):=hs.sublist (List.take_sublist _ _)
    rw[←q2t,q8B hk,h,Bool.and_false] at h1
    cases h1
theorem z7d {ao:Option Addr} {n cap:Nat} {L:List En} (w:World) (hx:Ens w ao n cap L):Calls Tryz.prog 210 #[.slice ao n cap] w fun e w'=>e= .returned (.bool (q3n L))∧Ext w w':=by
  have Hx:=Lib.hid hx
  have b1:=hx.fits;have b2:=hx.bound
  have HLen:=Lib.hid hx.len
  clear hx
  go_enter Tryz.func210,Tryz.ntmps210
  go_wp2_with fail
  go_loopw [3] (fun i W=> ∃k:Nat,k+1≤max n 1∧i= .int .i64 ((k:Int)+1)∧q3n (L.take (k+1))=true∧Ext w W) (fun i _=>n-(intOf i).toNat)
  case atStart=>
    refine ⟨0,by omega,rfl,?_,Ext.refl _⟩
    cases L with
    |nil=>rfl
    |cons a r=>rfl
  case round=>
    obtain ⟨k,hk,rfl,hs,hb⟩:=hrel
    have HS:=Lib.hid hs;have HB:=Lib.hid hb
    by_cases hlt:k+1<n
    · have hd:decide (((k:Int)+1)<(n:Int))=true:=by simp;omega
      obtain ⟨b,off,rfl,c0,c1,c2⟩:=(Hx.out.ext hb).at (i:=k) (by omega)
      obtain ⟨_,_,e1,d0,d1,d2⟩:=(Hx.out.ext hb).at (i:=k+1) hlt
      cases e1
      have HT:=Lib.hid (q8B (L:=L) (k:=k) (by rw[HLen.out];exact hlt))
      have HF:=Lib.hid (z0p (L:=L) (k:=k) (by rw[HLen.out];exact hlt))
      obtain ⟨x,hx⟩: ∃x,L.getD k en0=x:=⟨_,rfl⟩
      obtain ⟨y,hy⟩: ∃y,L.getD (k+1) en0=y:=⟨_,rfl⟩
      rw[hx] at c0 c1 c2
      rw[hy] at d0 d1 d2
      rw[hx,hy] at HT HF
      obtain ⟨q,hq⟩: ∃q,q0c x y=q:=⟨_,rfl⟩
      have HLs:=Lib.hid (fun W=>q9K x y W)
      rw[hq] at HLs HT HF
      obtain ⟨x1,x2,x3⟩:=x
      obtain ⟨y1,y2,y3⟩:=y
      unfold enV ec at HLs
      have u0:=q0D c0;have u1:=q0D c1;have u2:=q0D c2
      have v0:=q0D d0;have v1:=q0D d1;have v2:=q0D d2
      have hw1:IntKind.i64.wrap ((k:Int)+1-1)=(k:Int):=by rw[IntKind.wrap_i64];omega
      have hw2:IntKind.i64.wrap (k:Int)=(k:Int):=by rw[IntKind.wrap_i64];omega
      clear hx hy hs hb hq
      cases q with
      | true=>
        go_wp2_with fail
        refine q0E (by kernel_rfl) (by kernel_rfl) ?_
        repeat (go_big_quiet_step (first|(go_at_call 148;exact Calls.quiet_ext (HLs.out _))))
        refine wpQuiet_nil ?_
        intro w2 hw2
        have HB2:=Lib.hid (HB.out.trans hw2)
        clear hw2
        go_wp2_with fail
        go_roundw
        case rel=>exact ⟨k+1,by omega,by go_num,by rw[HT.out,HS.out];rfl,HB2.out⟩
        case measure=>simp[intOf];omega
      | false=>
        go_wp2_with fail
        refine q0E (by kernel_rfl) (by kernel_rfl) ?_
        repeat (go_big_quiet_step (first|(go_at_call 148;exact Calls.quiet_ext (HLs.out _))))
        refine wpQuiet_nil ?_
        intro w2 hw2
        have HB2:=Lib.hid (HB.out.trans hw2)
        clear hw2
        go_wp2_with fail
        go_ret
        exact ⟨rb (HF.out (by first|rfl|trivial)),HB2.out⟩
    · have hd:decide (((k:Int)+1)<(n:Int))=false:=by simp;omega
      have HF:Hid (q3n L=true):=Lib.hid (by rwa [List.take_of_length_le (by rw[HLen.out];omega)] at hs)
      clear hs hb
      go_wp2_with fail
      go_ret
      exact ⟨rb HF.out,HB.out⟩
end Go.Proofs.YtjjfiejoeelndaaGreatDoor
namespace Go.Proofs.YtjjfiejoeelndaaGreatDoor
open Go.RowKit
set_option maxRecDepth 100000
set_option linter.unusedVariables false
set_option maxHeartbeats 6400000
end Go.Proofs.YtjjfiejoeelndaaGreatDoor
