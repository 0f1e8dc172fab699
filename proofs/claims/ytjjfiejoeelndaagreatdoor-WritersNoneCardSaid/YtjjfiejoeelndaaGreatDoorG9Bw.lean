/- Plain laws: records and chunks of a log, as bytes. Walks: entries. Walks: records, and what a chunk begins with. Walks: the record at a place. Walks: a chunk's head; does a record find room; does a text begin with another one. Plain laws: a log in chunks on a disk that is well. Plain laws: the records of a log, in order. Walks: whether two lists of entries are the same (law18's Same). -/
import Derived.Test.YtjjfiejoeelndaaGreatDoorG3Bw
import Derived.Test.YtjjfiejoeelndaaGreatDoorG7Bw
import Derived.Test.YtjjfiejoeelndaaGreatDoorG8Bw
import Derived.Test.YtjjfiejoeelndaaGreatDoorChecked
import Derived.Laws.BitsLemmas
set_option linter.unusedVariables false
set_option linter.unusedSimpArgs false
namespace Go.Proofs.YtjjfiejoeelndaaGreatDoor
open Go.RowKit
theorem q3I (a b:List UInt8):(⟨a.toArray⟩:ByteArray)++⟨b.toArray⟩=⟨(a++b).toArray⟩:=by rw[ByteArray.mk_append_mk];first|done|simp
def q2F (p:List UInt8):List UInt8:=q1I (be 4 p.length++p)++be 4 p.length
def q3s (s:List UInt8) (a:Nat):Nat:=q1C ((s.drop a).take 4)
def isR (s:List UInt8) (a:Nat):Bool:=
  decide (a+12≤s.length)&&decide (q3s s a≤2000)&&decide (a+q3s s a+12≤s.length)
  &&q1m ((s.drop a).take (q3s s a+8))&&decide ((s.drop (a+q3s s a+8)).take 4=(s.drop a).take 4)
def q4u (s:List UInt8) (a:Nat):Option (List UInt8×Nat):=
  if isR s a then some ((s.drop (a+4)).take (q3s s a),a+q3s s a+12) else none
def q5V :Nat→List UInt8→Nat→List (Nat×Nat)
  |0,_,_=>[]
  | f+1,s,a=>match q4u s a with
    |none=>[]
    |some (_,b)=>(a,b)::q5V f s b
def q0h (s:List UInt8) (a:Nat):List (Nat×Nat):=q5V (s.length+1) s a
def q8o (a:Nat) (l:List (Nat×Nat)):Nat:=(l.getLast?.map Prod.snd).getD a
def q2P (n:Nat):List UInt8:=q1I ([99,104,110,107]++be 4 n)
def q4b (ps:List (List UInt8)):List UInt8:=(ps.map q2F).flatten
def q0R (n:Nat) (ps:List (List UInt8)):List UInt8:=q2P n++q4b ps
def q0J (ps:List (List UInt8)):Nat:=12+(ps.map fun p=>p.length+12).sum
def q1P :Nat→List (List UInt8)→List (Nat×Nat)
  |_,[]=>[]
  |a,p::r=>(a,a+p.length+12)::q1P (a+p.length+12) r
theorem q1B (p:List UInt8):(q2F p).length=p.length+12:=by
  simp only[q2F,List.length_append,q0z,q0H];omega
theorem q2j (n:Nat):(q2P n).length=12:=by simp[q2P,q0z,q0H]
theorem z0D (ps:List (List UInt8)):(q4b ps).length=(ps.map fun p=>p.length+12).sum:=by
  unfold q4b
  induction ps with
  |nil=>rfl
  |cons p r ih=>simp[q1B,ih]
theorem q1E (n:Nat) (ps:List (List UInt8)):(q0R n ps).length=q0J ps:=by
  simp[q0R,q0J,q2j,z0D]
theorem z4F (ps:List (List UInt8)) (p:List UInt8):q4b (ps++[p])=q4b ps++q2F p:=by simp[q4b]
theorem z1d (n:Nat) (ps:List (List UInt8)) (p:List UInt8):q0R n (ps++[p])=q0R n ps++q2F p:=by simp[q0R,z4F]
theorem z3d (n:Nat) (p:List UInt8):q0R n [p]=q2P n++q2F p:=by simp[q0R,q4b]
theorem q2H (ps:List (List UInt8)) (p:List UInt8):q0J (ps++[p])=q0J ps+(p.length+12):=by simp[q0J,List.sum_append];omega
theorem q4G (p:List UInt8):q0J [p]=12+(p.length+12):=by simp[q0J]
theorem q9W {s:List UInt8} {a b:Nat} {p:List UInt8} (h:q4u s a=some (p,b)):
    p.length≤2000∧b=a+p.length+12∧b≤s.length∧p=(s.drop (a+4)).take p.length∧q3s s a=p.length:=by
  unfold q4u at h
  split at h
  case isFalse=>cases h
  case isTrue hi=>
    unfold isR at hi
    simp only[Bool.and_eq_true,decide_eq_true_eq] at hi
    obtain ⟨⟨⟨⟨h1,h2⟩,h3⟩,h4⟩,h5⟩:=hi
    simp only[Option.some.injEq,Prod.mk.injEq] at h
    obtain ⟨rfl,rfl⟩:=h
    have hl:((s.drop (a+4)).take (q3s s a)).length=q3s s a:=by simp;omega
    rw[hl]
    exact ⟨h2,rfl,h3,rfl,rfl⟩
theorem z9u {α:Type} (pre m post:List α) {a:Nat} (h:a=pre.length):(pre++m++post).drop a=m++post:=by
  subst h;rw[List.append_assoc,List.drop_left]
theorem z2v (pre p post:List UInt8) (hp:p.length≤2000) {a:Nat} (ha:a=pre.length):q4u (pre++q2F p++post) a=some (p,a+p.length+12):=by
  have hd:(pre++q2F p++post).drop a=be 4 p.length++(p++(q7h (q1W (be 4 p.length++p))++(be 4 p.length++post))):=by
    rw[z9u _ _ _ ha];simp[q2F,q1I]
  have hb:(be 4 p.length).length=4:=q0H 4 _
  have hlow:=q4h (q1W (be 4 p.length++p))
  have hlong:q3s (pre++q2F p++post) a=p.length:=by
    unfold q3s
    rw[hd,List.take_left' hb,q4j]
    omega
  have hlen:(pre++q2F p++post).length=a+(p.length+12)+post.length:=by simp[q1B,ha];omega
  have hi:isR (pre++q2F p++post) a=true:=by
    unfold isR
    rw[hlong]
    simp only[Bool.and_eq_true,decide_eq_true_eq]
    refine ⟨⟨⟨⟨by omega,hp⟩,by omega⟩,?_⟩,?_⟩
    · have e:((pre++q2F p++post).drop a).take (p.length+8)=q1I (be 4 p.length++p):=by
        rw[hd]
        have:be 4 p.length++(p++(q7h (q1W (be 4 p.length++p))++(be 4 p.length++post)))=q1I (be 4 p.length++p)++(be 4 p.length++post):=by simp[q1I]
        rw[this]
        exact List.take_left' (by simp[q0z,hb];omega)
      rw[e]
      unfold q1m
      simp only[Bool.and_eq_true,decide_eq_true_eq,q0z]
      refine ⟨by omega,?_⟩
      have e2:(q1I (be 4 p.length++p)).take ((be 4 p.length++p).length+4-4)=be 4 p.length++p:=by
        unfold q1I;exact List.take_left' (by omega)
      rw[e2]
    · have e:(pre++q2F p++post).drop (a+p.length+8)=be 4 p.length++post:=by
        have:a+p.length+8=a+(p.length+8):=by omega
        rw[this,←List.drop_drop,hd]
        have:be 4 p.length++(p++(q7h (q1W (be 4 p.length++p))++(be 4 p.length++post)))=(be 4 p.length++(p++q7h (q1W (be 4 p.length++p))))++(be 4 p.length++post):=by simp
        rw[this]
        exact List.drop_left' (by simp[hb,hlow];omega)
      rw[e,hd,List.take_left' hb,List.take_left' hb]
  unfold q4u
  rw[if_pos hi,hlong]
  congr 2
  rw[←List.drop_drop,hd]
  have e3:(be 4 p.length++(p++(q7h (q1W (be 4 p.length++p))++(be 4 p.length++post)))).drop 4=p++(q7h (q1W (be 4 p.length++p))++(be 4 p.length++post)):=List.drop_left' hb
  rw[e3]
  exact List.take_left' rfl
theorem z6L (s:List UInt8) (a:Nat) (h:s.length<a+12):q4u s a=none:=by
  unfold q4u isR
  rw[decide_eq_false (by omega)]
  simp
theorem q7x : ∀(ps:List (List UInt8)) (pre:List UInt8) (f a:Nat),(∀p∈ps,p.length≤2000)→a=pre.length→ps.length<f→q5V f (pre++q4b ps) a=q1P a ps
  |[],pre,0,a,_,_,hf=>by simp at hf
  | [],pre,f+1,a,_,ha,_=>by
    unfold q5V
    rw[z6L _ _ (by simp[q4b,ha])]
    rfl
  |p::r,pre,0,a,_,_,hf=>by simp at hf
  | p::r,pre,f+1,a,hp,ha,hf=>by
    have e:pre++q4b (p::r)=pre++q2F p++q4b r:=by simp[q4b]
    rw[e]
    unfold q5V
    rw[z2v pre p (q4b r) (hp p (List.mem_cons_self)) ha]
    show _::q5V f (pre++q2F p++q4b r) (a+p.length+12)=_
    rw[q7x r (pre++q2F p) f _ (fun q hq=>hp q (List.mem_cons_of_mem _ hq)) (by simp[q1B,ha];omega) (by simp at hf;omega)]
    rfl
theorem z8J (ps:List (List UInt8)):12*ps.length≤(ps.map fun p=>p.length+12).sum:=by
  induction ps with
  |nil=>simp
  |cons p r ih=>simp only[List.map_cons,List.sum_cons,List.length_cons];omega
theorem q7P (n:Nat) (ps:List (List UInt8)) (hp: ∀p∈ps,p.length≤2000):q0h (q0R n ps) 12=q1P 12 ps:=by
  unfold q0h
  refine q7x ps (q2P n) _ 12 hp (q2j n).symm ?_
  have:=z8J ps
  show _<(q0R n ps).length+1
  rw[q1E];unfold q0J;omega
theorem q5z : ∀(ps:List (List UInt8)) (p:List UInt8) (a:Nat),q1P a (ps++[p])=q1P a ps++[(a+(ps.map fun p=>p.length+12).sum,a+(ps.map fun p=>p.length+12).sum+p.length+12)]
  |[],p,a=>by simp[q1P]
  | q::r,p,a=>by
    rw[List.cons_append,q1P,q5z r p,q1P,List.cons_append]
    simp only[List.map_cons,List.sum_cons]
    congr 4<;>omega
theorem z1j : ∀(ps:List (List UInt8)) (a:Nat),q8o a (q1P a ps)=a+(ps.map fun p=>p.length+12).sum:=fun ps a=>by
  rcases List.eq_nil_or_concat ps with rfl|⟨r,p,rfl⟩
  · rfl
  · rw[List.concat_eq_append,q5z]
    unfold q8o
    simp only[List.getLast?_append,List.getLast?_singleton,Option.some_or,Option.map_some,Option.getD_some,List.map_append,List.map_cons,List.map_nil,List.sum_append,List.sum_cons,List.sum_nil]
    omega
theorem q2N : ∀(ps:List (List UInt8)) (a:Nat),(q1P a ps).length=ps.length
  |[],_=>rfl
  |p::r,a=>by simp[q1P,q2N r]
theorem z4w (n:Nat) (l:List (List UInt8)) (p:List UInt8) (r:List (List UInt8)) (hp:p.length≤2000):q4u (q0R n (l++p::r)) (q0J l)=some (p,q0J l+p.length+12):=by
  have e:q0R n (l++p::r)=q0R n l++q2F p++q4b r:=by simp[q0R,q4b]
  rw[e]
  exact z2v _ _ _ hp (q1E n l).symm
end Go.Proofs.YtjjfiejoeelndaaGreatDoor
namespace Go.Proofs.YtjjfiejoeelndaaGreatDoor
open Go.RowKit
set_option maxRecDepth 100000
set_option linter.unusedVariables false
set_option maxHeartbeats 3200000
theorem z0A (a b:En) (w:World):Calls Tryz.prog 148 #[enV a,enV b] w fun e w'=>e= .returned (.bool (q0e a b))∧Ext w w':=by
  obtain ⟨a1,a2,a3⟩:=a
  obtain ⟨b1,b2,b3⟩:=b
  have HB:=Lib.hid (q6B w (.cells #[.int .u64 a1,.int .i64 a2,.int .i64 a3] 108) (.cells #[.int .u64 b1,.int .i64 b2,.int .i64 b3] 108))
  have HL:Hid (q0e (a1,a2,a3) (b1,b2,b3)=if a1≠b1 then decide (a1<b1) else if a2≠b2 then decide (a2<b2) else decide (a3<b3)):=Lib.hid rfl
  show Calls Tryz.prog 148 #[.agg #[.int .u64 a1,.int .i64 a2,.int .i64 a3],.agg #[.int .u64 b1,.int .i64 b2,.int .i64 b3]] w _
  by_cases h1:a1=b1
  · subst h1
    by_cases h2:a2=b2
    · subst h2
      go_enter Tryz.func148,Tryz.ntmps148
      go_wp2_with fail
      go_ret
      exact ⟨rb (by rw[HL.out];simp),HB.out⟩
    · have hn:(a2 !=b2)=true:=by simpa using h2
      go_enter Tryz.func148,Tryz.ntmps148
      go_wp2_with fail
      go_ret
      exact ⟨rb (by rw[HL.out];simp[h2]),HB.out⟩
  · have hn:(a1 !=b1)=true:=by simpa using h1
    go_enter Tryz.func148,Tryz.ntmps148
    go_wp2_with fail
    go_ret
    exact ⟨rb (by rw[HL.out];simp[h1]),HB.out⟩
theorem q8F {L:List En} {k:Nat} (hk:k+1<L.length):q3u (L.take (k+2))=(q3u (L.take (k+1))&&q0e (L.getD k en0) (L.getD (k+1) en0)):=by
  rw[Bool.eq_iff_iff,Bool.and_eq_true,q2x,q2x]
  have e1:L.take (k+2)=L.take (k+1)++[L.getD (k+1) en0]:=q0S L en0 (k+1) hk
  have e2:L.take (k+1)=L.take k++[L.getD k en0]:=q0S L en0 k (by omega)
  rw[e1]
  unfold q0s
  rw[List.pairwise_append]
  constructor
  · rintro ⟨h1,_,h3⟩
    exact ⟨h1,h3 _ (by rw[e2];simp) _ (by simp)⟩
  · rintro ⟨h1,h2⟩
    refine ⟨h1,by simp,fun x hx y hy=>?_⟩
    obtain rfl:=List.mem_singleton.1 hy
    rw[e2] at hx h1
    rcases List.mem_append.1 hx with hx|hx
    · exact q1G ((List.pairwise_append.1 h1).2.2 x hx _ (by simp)) h2
    · obtain rfl:=List.mem_singleton.1 hx;exact h2
theorem z0m {L:List En} {k:Nat} (hk:k+1<L.length) (h:q0e (L.getD k en0) (L.getD (k+1) en0)=false):q3u L=false:=by
  cases hs:q3u L with
  |false=>rfl
  | true=>
    rw[q2x] at hs
    have h1:q0s (L.take (k+2)):=hs.sublist (List.take_sublist _ _)
    rw[←q2x,q8F hk,h,Bool.and_false] at h1
    cases h1
theorem z7h {ao:Option Addr} {n cap:Nat} {L:List En} (w:World) (hx:Ens w ao n cap L):Calls Tryz.prog 210 #[.slice ao n cap] w fun e w'=>e= .returned (.bool (q3u L))∧Ext w w':=by
  have Hx:=Lib.hid hx
  have b1:=hx.fits;have b2:=hx.bound
  have HLen:=Lib.hid hx.len
  clear hx
  go_enter Tryz.func210,Tryz.ntmps210
  go_wp2_with fail
  go_loopw [3] (fun i W=> ∃k:Nat,k+1≤max n 1∧i= .int .i64 ((k:Int)+1)∧q3u (L.take (k+1))=true∧Ext w W) (fun i _=>n-(intOf i).toNat)
  case atStart=>
    refine ⟨0,by omega,rfl,?_,Ext.refl _⟩
    cases L with
    |nil=>rfl
    |cons a r=>rfl
  case round=>
    obtain ⟨k,hk,rfl,hs,hb⟩:=hrel
    have HS:=Lib.hid hs;have HB:=Lib.hid hb
    by_cases hlt:k+1<n
    · have hd:decide (((k:Int)+1)<(n:Int))=true:=by simp;omega
      obtain ⟨b,off,rfl,c0,c1,c2⟩:=(Hx.out.ext hb).at (i:=k) (by omega)
      obtain ⟨_,_,e1,d0,d1,d2⟩:=(Hx.out.ext hb).at (i:=k+1) hlt
      cases e1
      have HT:=Lib.hid (q8F (L:=L) (k:=k) (by rw[HLen.out];exact hlt))
      have HF:=Lib.hid (z0m (L:=L) (k:=k) (by rw[HLen.out];exact hlt))
      obtain ⟨x,hx⟩: ∃x,L.getD k en0=x:=⟨_,rfl⟩
      obtain ⟨y,hy⟩: ∃y,L.getD (k+1) en0=y:=⟨_,rfl⟩
      rw[hx] at c0 c1 c2
      rw[hy] at d0 d1 d2
      rw[hx,hy] at HT HF
      obtain ⟨q,hq⟩: ∃q,q0e x y=q:=⟨_,rfl⟩
      have HLs:=Lib.hid (fun W=>z0A x y W)
      rw[hq] at HLs HT HF
      obtain ⟨x1,x2,x3⟩:=x
      obtain ⟨y1,y2,y3⟩:=y
      unfold enV ec at HLs
      have u0:=q0D c0;have u1:=q0D c1;have u2:=q0D c2
      have v0:=q0D d0;have v1:=q0D d1;have v2:=q0D d2
      have hw1:IntKind.i64.wrap ((k:Int)+1-1)=(k:Int):=by rw[IntKind.wrap_i64];omega
      have hw2:IntKind.i64.wrap (k:Int)=(k:Int):=by rw[IntKind.wrap_i64];omega
      clear hx hy hs hb hq
      cases q with
      | true=>
        go_wp2_with fail
        refine q0E (by kernel_rfl) (by kernel_rfl) ?_
        repeat (go_big_quiet_step (first|(go_at_call 148;exact Calls.quiet_ext (HLs.out _))))
        refine wpQuiet_nil ?_
        intro w2 hw2
        have HB2:=Lib.hid (HB.out.trans hw2)
        clear hw2
        go_wp2_with fail
        go_roundw
        case rel=>exact ⟨k+1,by omega,by go_num,by rw[HT.out,HS.out];rfl,HB2.out⟩
        case measure=>simp[intOf];omega
      | false=>
        go_wp2_with fail
        refine q0E (by kernel_rfl) (by kernel_rfl) ?_
        repeat (go_big_quiet_step (first|(go_at_call 148;exact Calls.quiet_ext (HLs.out _))))
        refine wpQuiet_nil ?_
        intro w2 hw2
        have HB2:=Lib.hid (HB.out.trans hw2)
        clear hw2
        go_wp2_with fail
        go_ret
        exact ⟨rb (HF.out (by first|rfl|trivial)),HB2.out⟩
    · have hd:decide (((k:Int)+1)<(n:Int))=false:=by simp;omega
      have HF:Hid (q3u L=true):=Lib.hid (by rwa [List.take_of_length_le (by rw[HLen.out];omega)] at hs)
      clear hs hb
      go_wp2_with fail
      go_ret
      exact ⟨rb HF.out,HB.out⟩
end Go.Proofs.YtjjfiejoeelndaaGreatDoor
namespace Go.Proofs.YtjjfiejoeelndaaGreatDoor
open Go.RowKit
set_option maxRecDepth 100000
set_option linter.unusedVariables false
set_option maxHeartbeats 1600000
theorem q2y (s:List UInt8) (lo hi:Int) (a b:Nat) (hlo:lo=(a:Int)) (hhi:hi=(b:Int)) (h:a≤b) (h2:b≤s.length) {X:List UInt8} (hX:(s.take b).drop a=X):
    ∀w,(Instr.slice 9 (.string ⟨s.toArray⟩) (some (.int .i64 lo)) (some (.int .i64 hi)) none).run Tryz.prog w= .ok (.string ⟨X.toArray⟩) w:=fun w=>by
  have h3:=run_slice_string (P:=Tryz.prog) w 9 ⟨s.toArray⟩ .i64 .i64 lo hi Tryz.underlying9 (by omega) (by omega) (by simp[ByteArray.size];omega)
  rw[h3,hlo,hhi,←hX]
  show _=Result.ok (Value.string ⟨((s.take b).drop a).toArray⟩) w
  rw[←q2p];rfl
theorem q4P (s:List UInt8) (hi:Int) (b:Nat) (hhi:hi=(b:Int)) (h2:b≤s.length):
    ∀w,(Instr.slice 9 (.string ⟨s.toArray⟩) none (some (.int .i64 hi)) none).run Tryz.prog w= .ok (.string ⟨(s.take b).toArray⟩) w:=fun w=>by
  have h3:=run_slice_string_to_if (P:=Tryz.prog) w 9 ⟨s.toArray⟩ .i64 hi Tryz.underlying9
  have hs:(ByteArray.size ⟨s.toArray⟩)=s.length:=by simp[ByteArray.size]
  rw[h3,hs,if_pos (by omega),hhi]
  show Result.ok (Value.string ((⟨s.toArray⟩:ByteArray).extract 0 b)) w=_
  rw[q2p];rfl
theorem q2n (s:List UInt8) (lo:Int) (a:Nat) (hlo:lo=(a:Int)) (h2:a≤s.length):
    ∀w,(Instr.slice 9 (.string ⟨s.toArray⟩) (some (.int .i64 lo)) none none).run Tryz.prog w= .ok (.string ⟨(s.drop a).toArray⟩) w:=fun w=>by
  have h3:=run_slice_string_from_if (P:=Tryz.prog) w 9 ⟨s.toArray⟩ .i64 lo Tryz.underlying9
  have hs:(ByteArray.size ⟨s.toArray⟩)=s.length:=by simp[ByteArray.size]
  rw[h3,hs,if_pos (by omega),hlo]
  show Result.ok (Value.string ((⟨s.toArray⟩:ByteArray).extract a s.length)) w=_
  rw[q2p,List.take_length]
theorem z4V (k:Nat) (N:Int) (w:World) (hN:N=(k:Int)) (hk:k≤9223372036854775807):
    Calls Tryz.prog 139 #[.int .i64 N] w fun e w'=>e= .returned (.string ⟨(be 4 k).toArray⟩)∧Ext w w':=by
  have h0:0≤N:=by omega
  have h1:N≤9223372036854775807:=by omega
  have hk2:N.toNat=k:=by omega
  have HK:=Lib.hid hk2
  clear hN hk2
  go_enter Tryz.func139,Tryz.ntmps139
  go_wp2_with fail
  refine (q7I N 4 _ (by omega) (by omega) h0 (by omega)).mono ?_
  rintro e w1 ⟨rfl,hb⟩
  have HB:=Lib.hid hb;clear hb
  rw[HK.out]
  go_wp2_with fail
  go_ret
  exact ⟨rfl,HB.out⟩
theorem z4m (p:List UInt8) (w:World) (hp:2000<p.length) (hl:p.length≤9223372036854775807):
    Calls Tryz.prog 84 #[.string ⟨p.toArray⟩] w fun e w'=>e= .returned (.tuple #[.string ⟨#[]⟩,.int .i64 3])∧w=w':=by
  have hd:decide ((2000:Int)<(p.length:Int))=true:=by simp;omega
  go_enter Tryz.func84,Tryz.ntmps84
  go_wp2_with fail
  go_ret2
  exact ⟨rfl,rfl⟩
theorem z7X (p:List UInt8) (w:World) (hp:p.length≤2000):
    Calls Tryz.prog 84 #[.string ⟨p.toArray⟩] w fun e w'=>e= .returned (.tuple #[.string ⟨(q2F p).toArray⟩,.int .i64 0])∧Ext w w':=by
  have hd:decide ((2000:Int)<(p.length:Int))=false:=by simp;omega
  obtain ⟨n,hn⟩: ∃n:Int,n=(p.length:Int):=⟨_,rfl⟩
  have HR:Hid (q2F p=q1I (be 4 p.length++p)++be 4 p.length):=Lib.hid rfl
  have hb4:(be 4 p.length).length=4:=q0H 4 _
  have hs:(q1I (be 4 p.length++p)).length=p.length+8:=by simp[q0z,hb4];omega
  have HC:=Lib.hid (fun W=>z4V p.length (p.length:Int) W rfl (by omega))
  have HS:=Lib.hid (fun W=>z3E (be 4 p.length++p) W (by simp[hb4];omega))
  go_enter Tryz.func84,Tryz.ntmps84
  go_wp2_with fail
  refine (HC.out _).mono ?_
  rintro e w1 ⟨rfl,hb⟩
  have HB:=Lib.hid hb;clear hb
  generalize be 4 p.length=X at*
  go_wp2_with fail
  have hs2:=HS.out w1
  generalize q1I (X++p)=Y at*
  rw[q3I]
  refine hs2.mono ?_
  rintro e w2 ⟨rfl,hb⟩
  have HB2:=Lib.hid (HB.out.trans hb);clear hb
  go_wp2_with fail
  refine (HC.out _).mono ?_
  rintro e w3 ⟨rfl,hb⟩
  have HB3:=Lib.hid (HB2.out.trans hb);clear hb
  go_wp2_with fail
  go_ret2
  exact ⟨by rw[HR.out,q3I];rfl,HB3.out⟩
end Go.Proofs.YtjjfiejoeelndaaGreatDoor
namespace Go.Proofs.YtjjfiejoeelndaaGreatDoor
open Go.RowKit
set_option maxRecDepth 100000
set_option linter.unusedVariables false
set_option maxHeartbeats 1600000
def z0g (s:List UInt8) (a:Nat):Value:=match q4u s a with
  |none=> .tuple #[.string ⟨#[]⟩,.int .i64 0,.bool false]
  |some (p,b)=> .tuple #[.string ⟨p.toArray⟩,.int .i64 b,.bool true]
theorem q7X {s:List UInt8} {a:Nat} (h:isR s a=false):z0g s a= .tuple #[.string ⟨#[]⟩,.int .i64 0,.bool false]:=by unfold z0g q4u;rw[h];rfl
theorem q5X (s:List UInt8) (a k:Nat):(s.take (a+k)).drop a=(s.drop a).take k:=by rw[List.drop_take];congr 1;omega
theorem q8x (s:List UInt8) (a:Nat) (w:World) (hl:s.length≤4611686018427387903) (ha:a≤4611686018427387903):
    Calls Tryz.prog 99 #[.string ⟨s.toArray⟩,.int .i64 (a:Int)] w fun e w'=>e= .returned (z0g s a)∧Ext w w':=by
  by_cases h1:s.length<a+12
  · have HM:Hid (z0g s a= .tuple #[.string ⟨#[]⟩,.int .i64 0,.bool false]):=Lib.hid (q7X (by unfold isR;rw[decide_eq_false (by omega)];rfl))
    have hd:decide (((s.length:Int)-12)<(a:Int))=true:=by simp;omega
    go_enter Tryz.func99,Tryz.ntmps99
    go_wp2_with fail
    go_ret3
    rw[HM.out]
    exact ⟨rfl,Ext.refl _⟩
  have hd1:decide (((s.length:Int)-12)<(a:Int))=false:=by simp;omega
  obtain ⟨X,hX⟩: ∃X,(s.drop a).take 4=X:=⟨_,rfl⟩
  have hXl:X.length=4:=by rw[←hX];simp;omega
  have hsX:=q2y s (a:Int) ((a:Int)+4) a (a+4) rfl (by omega) (by omega) (by omega) (by rw[q5X,hX])
  obtain ⟨n,hn⟩: ∃n,q3s s a=n:=⟨_,rfl⟩
  have hnX:q1C (X.take 8)=n:=by rw[List.take_of_length_le (by omega),←hX,←hn];rfl
  have hn4:n<4294967296:=by rw[←hnX];have:=q1l (X.take 8);rw[List.length_take,hXl] at this;exact this
  have HG:=Lib.hid (fun W=>q8u X W (by omega))
  rw[hnX] at HG
  by_cases h2:2000<n∨s.length<a+n+12
  · have HM:Hid (z0g s a= .tuple #[.string ⟨#[]⟩,.int .i64 0,.bool false]):=Lib.hid (q7X (by
      unfold isR;rw[hn]
      rcases h2 with h|h
      · rw[decide_eq_false (p:=n≤2000) (by omega)];simp
      · rw[decide_eq_false (p:=a+n+12≤s.length) (by omega)];simp))
    clear hX hn hnX hXl
    by_cases h3:2000<n
    · have hd2:decide ((2000:Int)<(n:Int))=true:=by simp;omega
      go_enter Tryz.func99,Tryz.ntmps99
      go_wp2_with fail
      refine (HG.out _).mono ?_
      rintro e w1 ⟨rfl,hb⟩
      have HB:=Lib.hid hb;clear hb
      go_wp2_with fail
      go_ret3
      rw[HM.out]
      exact ⟨rfl,HB.out⟩
    · have h4:s.length<a+n+12:=by omega
      have hd2:decide ((2000:Int)<(n:Int))=false:=by simp;omega
      have hd3:decide ((s.length:Int)-12-(a:Int)<(n:Int))=true:=by simp;omega
      go_enter Tryz.func99,Tryz.ntmps99
      go_wp2_with fail
      refine (HG.out _).mono ?_
      rintro e w1 ⟨rfl,hb⟩
      have HB:=Lib.hid hb;clear hb
      go_wp2_with fail
      go_ret3
      rw[HM.out]
      exact ⟨rfl,HB.out⟩
  have h5:n≤2000:=by omega
  have h6:a+n+12≤s.length:=by omega
  have hd2:decide ((2000:Int)<(n:Int))=false:=by simp;omega
  have hd3:decide ((s.length:Int)-12-(a:Int)<(n:Int))=false:=by simp;omega
  obtain ⟨Y,hY⟩: ∃Y,(s.drop a).take (n+8)=Y:=⟨_,rfl⟩
  have hYl:Y.length=n+8:=by rw[←hY];simp;omega
  have hsY:=q2y s (a:Int) ((a:Int)+(n:Int)+12-4) a (a+(n+8)) rfl (by omega) (by omega) (by omega) (by rw[q5X,hY])
  obtain ⟨Z,hZ⟩: ∃Z,(s.drop (a+n+8)).take 4=Z:=⟨_,rfl⟩
  have hsZ:=q2y s ((a:Int)+(n:Int)+12-4) ((a:Int)+(n:Int)+12) (a+n+8) (a+n+8+4) (by omega) (by omega) (by omega) (by omega) (by rw[q5X,hZ])
  have HO:=Lib.hid (fun W=>z2U Y W (by omega))
  have hi:isR s a=(q1m Y&&decide (Z=X)):=by
    unfold isR;rw[hn,decide_eq_true (p:=a+12≤s.length) (by omega),decide_eq_true h5,decide_eq_true h6,hY,hZ,hX];simp
  have hpay:q1m Y=true→(q1c Y).drop 4=(s.drop (a+4)).take n:=fun h=>by
    unfold q1c;rw[if_pos h,hYl,←hY,List.take_take,List.drop_take,List.drop_drop]
    congr 1;omega
  have hTl:q1m Y=true→(q1c Y).length=n+4:=fun h=>by
    unfold q1c;rw[if_pos h,List.length_take,hYl];omega
  have hS:q4u s a=if isR s a then some ((s.drop (a+4)).take n,a+n+12) else none:=by unfold q4u;rw[hn]
  have HI:=Lib.hid hi;have HP:=Lib.hid hpay;have HTl:=Lib.hid hTl;have HS:=Lib.hid hS
  clear hX hn hnX hZ hY hYl hi hpay hTl hS h2 h1
  generalize q1c Y=T at*
  cases hb:q1m Y with
  | false=>
    have HM:Hid (z0g s a= .tuple #[.string ⟨#[]⟩,.int .i64 0,.bool false]):=Lib.hid (q7X (by rw[HI.out,hb];rfl))
    rw[hb] at HO
    go_enter Tryz.func99,Tryz.ntmps99
    go_wp2_with fail
    refine (HG.out _).mono ?_
    rintro e w1 ⟨rfl,hb1⟩
    have HB:=Lib.hid hb1;clear hb1
    go_wp2_with fail
    refine (HO.out _).mono ?_
    rintro e w2 ⟨rfl,hb2⟩
    have HB2:=Lib.hid (HB.out.trans hb2);clear hb2
    go_wp2_with fail
    refine q0E (by kernel_rfl) (by kernel_rfl) ?_
    repeat (go_big_quiet_step (fail))
    refine wpQuiet_nil ?_
    intro w3 hw3
    have HB3:=Lib.hid (HB2.out.trans hw3);clear hw3
    go_wp2_with fail
    go_ret3
    rw[HM.out]
    exact ⟨rfl,HB3.out⟩
  | true =>
    by_cases hzx:Z=X
    · have HM:Hid (z0g s a= .tuple #[.string ⟨(T.drop 4).toArray⟩,.int .i64 ((a:Int)+(n:Int)+12),.bool true]):=Lib.hid (by
        unfold z0g
        rw[HS.out,HI.out,hb,hzx,HP.out hb]
        simp)
      have hTlen:=HTl.out hb
      have hsT: ∀w,(Instr.slice 9 (.string ⟨T.toArray⟩) (some (.int .i64 4)) none none).run Tryz.prog w= .ok (.string ⟨(T.drop 4).toArray⟩) w:=fun w=>by
        exact q2n T 4 4 rfl (by omega) w
      rw[hb] at HO
      generalize T.drop 4=T4 at*
      subst hzx
      go_enter Tryz.func99,Tryz.ntmps99
      go_wp2_with fail
      refine (HG.out _).mono ?_
      rintro e w1 ⟨rfl,hb1⟩
      have HB:=Lib.hid hb1;clear hb1
      go_wp2_with fail
      refine (HO.out _).mono ?_
      rintro e w2 ⟨rfl,hb2⟩
      have HB2:=Lib.hid (HB.out.trans hb2);clear hb2
      go_wp2_with fail
      refine q0E (by kernel_rfl) (by kernel_rfl) ?_
      repeat (go_big_quiet_step (fail))
      refine wpQuiet_nil ?_
      intro w3 hw3
      have HB3:=Lib.hid (HB2.out.trans hw3);clear hw3
      go_wp2_with fail
      go_ret3
      rw[HM.out]
      exact ⟨rfl,HB3.out⟩
    · have HM:Hid (z0g s a= .tuple #[.string ⟨#[]⟩,.int .i64 0,.bool false]):=Lib.hid (q7X (by rw[HI.out,decide_eq_false hzx,Bool.and_false]))
      have hne:(Z==X)=false:=by simpa using hzx
      have hne':(Z !=X)=true:=by simpa using hzx
      rw[hb] at HO
      go_enter Tryz.func99,Tryz.ntmps99
      go_wp2_with fail
      refine (HG.out _).mono ?_
      rintro e w1 ⟨rfl,hb1⟩
      have HB:=Lib.hid hb1;clear hb1
      go_wp2_with fail
      refine (HO.out _).mono ?_
      rintro e w2 ⟨rfl,hb2⟩
      have HB2:=Lib.hid (HB.out.trans hb2);clear hb2
      go_wp2_with fail
      refine q0E (by kernel_rfl) (by kernel_rfl) ?_
      repeat (go_big_quiet_step (fail))
      refine wpQuiet_nil ?_
      intro w3 hw3
      have HB3:=Lib.hid (HB2.out.trans hw3);clear hw3
      go_wp2_with fail
      go_ret3
      rw[HM.out]
      exact ⟨rfl,HB3.out⟩
end Go.Proofs.YtjjfiejoeelndaaGreatDoor
namespace Go.Proofs.YtjjfiejoeelndaaGreatDoor
open Go.RowKit
set_option maxRecDepth 100000
set_option linter.unusedVariables false
set_option maxHeartbeats 1600000
theorem z1v (n:Nat) (w:World) (hn:n<200):
    Calls Tryz.prog 146 #[.int .i64 (n:Int)] w fun e w'=>e= .returned (.string ⟨(q2P n).toArray⟩)∧Ext w w':=by
  have hd:decide ((200:Int)≤(n:Int))=false:=by simp;omega
  have HR:Hid (q2P n=q1I ([99,104,110,107]++be 4 n)):=Lib.hid rfl
  have HP:=Lib.hid (fun W=>q7I (n:Int) 4 W (by omega) (by omega) (by omega) (by omega))
  have HS:=Lib.hid (fun W=>z3E ([99,104,110,107]++be 4 n) W (by simp[q0H]))
  have hb4:(be 4 n).length=4:=q0H 4 _
  rw[Int.toNat_natCast] at HP
  generalize q1I ([99,104,110,107]++be 4 n)=Y at*
  generalize be 4 n=X at*
  go_enter Tryz.func146,Tryz.ntmps146
  go_wp2_with fail
  refine (HP.out _).mono ?_
  rintro e w1 ⟨rfl,hb⟩
  have HB:=Lib.hid hb;clear hb
  go_wp2_with fail
  have hcat:=q3I [99,104,110,107] X
  have hcat2:({data:=#[99,104,110,107]}:ByteArray)++{data:=X.toArray}=⟨([99,104,110,107]++X).toArray⟩:=hcat
  rw[hcat2]
  refine (HS.out _).mono ?_
  rintro e w2 ⟨rfl,hb⟩
  have HB2:=Lib.hid (HB.out.trans hb);clear hb
  go_wp2_with fail
  go_ret
  exact ⟨by rw[HR.out];rfl,HB2.out⟩
theorem y1J (N:Int) (p:List UInt8) (w:World) (h0:0≤N) (h1:N≤4096) (hp:p.length≤2000):
    Calls Tryz.prog 85 #[.int .i64 N,.string ⟨p.toArray⟩] w fun e w'=>e= .returned (.bool (decide ((p.length:Int)+12≤4096-N)))∧w=w':=by
  have hd1:decide ((0:Int)≤N)=true:=by simpa using h0
  have hd2:decide (N≤(4096:Int))=true:=by simpa using h1
  have hd3:decide ((p.length:Int)≤(2000:Int))=true:=by simp;omega
  go_enter Tryz.func85,Tryz.ntmps85
  go_wp2_with fail
  go_ret
  exact ⟨rfl,rfl⟩
def z6S (s p:List UInt8):Bool:=decide (p.length≤s.length)&&(s.take p.length==p)
theorem q9r (s p:List UInt8) (w:World) (hl:s.length≤9223372036854775807) (hp:p.length≤9223372036854775807):
    Calls Tryz.prog 196 #[.string ⟨s.toArray⟩,.string ⟨p.toArray⟩] w fun e w'=>e= .returned (.bool (z6S s p))∧w=w':=by
  by_cases h:p.length≤s.length
  · have HM:Hid (z6S s p=(s.take p.length==p)):=Lib.hid (by unfold z6S;rw[decide_eq_true h,Bool.true_and])
    have hd1:decide ((p.length:Int)≤(s.length:Int))=true:=by simp;omega
    go_enter Tryz.func196,Tryz.ntmps196
    go_wp2_with fail
    go_ret
    rw[HM.out]
    exact ⟨rfl,rfl⟩
  · have HM:Hid (z6S s p=false):=Lib.hid (by unfold z6S;rw[decide_eq_false h,Bool.false_and])
    have hd1:decide ((p.length:Int)≤(s.length:Int))=false:=by simp;omega
    go_enter Tryz.func196,Tryz.ntmps196
    go_wp2_with fail
    go_ret
    rw[HM.out]
    exact ⟨rfl,rfl⟩
theorem z1U (s p:List UInt8) (w:World) (hl:s.length≤9223372036854775807) (hp:p.length≤9223372036854775807):
    Calls Tryz.prog 152 #[.string ⟨s.toArray⟩,.string ⟨p.toArray⟩] w fun e w'=>e= .returned (.bool (z6S s p))∧w=w':=by
  go_enter Tryz.func152,Tryz.ntmps152
  go_wp2_with fail
  refine (q9r s p _ hl hp).mono ?_
  rintro e w1 ⟨rfl,rfl⟩
  go_wp2_with fail
  go_ret
  exact ⟨rfl,rfl⟩
end Go.Proofs.YtjjfiejoeelndaaGreatDoor
namespace Go.Proofs.YtjjfiejoeelndaaGreatDoor
open Go.RowKit
theorem q3m : ∀a b:List UInt8,Op.bytesLess a b=bytesBefore a b
  |[],[]=>rfl
  |[],_::_=>rfl
  |_::_,[]=>rfl
  |a::x,b::y=>by unfold Op.bytesLess bytesBefore;rw[q3m x y]
abbrev Cks :=List (List (List UInt8))
def q3t :Nat→Cks→List (List UInt8×List UInt8)
  |_,[]=>[]
  |i,ps::r=>(q0F 99 (i:Int),q0R i ps)::q3t (i+1) r
theorem q4m : ∀(C:Cks) (i:Nat),(q3t i C).length=C.length
  |[],_=>rfl
  |ps::r,i=>by simp[q3t,q4m r]
theorem q2t : ∀(C D:Cks) (i:Nat),q3t i (C++D)=q3t i C++q3t (i+C.length) D
  |[],D,i=>rfl
  | ps::r,D,i=>by
    rw[List.cons_append,q3t,q2t r D (i+1),q3t,List.cons_append,List.length_cons]
    congr 3;omega
theorem q3J : ∀{C:Cks} {i:Nat} {x:List UInt8×List UInt8},x∈q3t i C→ ∃k,i≤k∧k<i+C.length∧x.1=q0F 99 (k:Int)
  |[],_,_,h=>by cases h
  | ps ::r,i,x,h=>by
    rcases List.mem_cons.1 h with rfl|h
    · exact ⟨i,Nat.le_refl _,by simp,rfl⟩
    · obtain ⟨k,h1,h2,h3⟩:=q3J h
      exact ⟨k,by omega,by simp;omega,h3⟩
theorem q2i (n:Int):(q0F 99 n).length≤9223372036854775807:=by
  by_cases h:0≤n∧n≤999999
  · rw[q0V h,List.length_cons,q0d];decide
  · rw[q6c h];decide
theorem z6V {i k:Nat} (hi:i≤999999) (hk:k≤999999) (h:i≠k):q0F 99 (i:Int)≠q0F 99 (k:Int):=fun e=>by
  have:=z6s 99 (i:Int) (k:Int) (by omega) (by omega)
  rw[e,beq_self_eq_true] at this
  have:=of_decide_eq_true this.symm
  omega
theorem q6D {i k:Nat} (hi:i≤999999) (hk:k≤999999) (h:i<k):bytesBefore (q0F 99 (i:Int)) (q0F 99 (k:Int))=true:=by
  have h1:=z3K 99 (i:Int) (k:Int) (by omega) (by omega)
  have h2:decide ((i:Int)<(k:Int))=true:=by simp;omega
  rw[h2] at h1
  rw[←q3m];exact h1
theorem q5W {C:Cks} {i k:Nat} (hk:k≤999999) (hC:i+C.length≤999999) (h: ∀j,i≤j→j<i+C.length→j≠k): ∀y∈q3t i C,Prod.fst y≠q0F 99 (k:Int):=fun y hy=>by
  obtain ⟨j,h1,h2,h3⟩:=q3J hy
  rw[h3]
  exact z6V (by omega) hk (h j h1 h2)
theorem z0d {C:Cks} {k:Nat} {ps:List (List UInt8)} (hC:C.length≤200) (hk:C[k]? =some ps):q0G Prod.fst (q0F 99 (k:Int)) (q3t 0 C)=some (q0F 99 (k:Int),q0R k ps):=by
  obtain ⟨hlt,rfl⟩:=List.getElem?_eq_some_iff.1 hk
  have e:C=C.take k++C[k]::C.drop (k+1):=by
    rw[List.getElem_cons_drop];exact (List.take_append_drop _ _).symm
  have hl:(C.take k).length=k:=by simp;omega
  conv=>lhs;rw[e]
  rw[q2t,hl,Nat.zero_add,q0Y]
  · rw[q3t];unfold q0G;rw[List.find?_cons_of_pos (by simp)]
  · exact q5W (by omega) (by rw[hl];omega) fun j _ h2=>by rw[hl] at h2;omega
theorem q9p {C:Cks} {k:Nat} (hC:C.length≤200) (hk:C.length≤k) (hk2:k≤999999):q0G Prod.fst (q0F 99 (k:Int)) (q3t 0 C)=none:=
  q0U (q5W hk2 (by omega) fun j _ h2=>by omega)
theorem z7U {C:Cks} (hC:C.length≤200):q0G Prod.fst [110,101,119] (q3t 0 C)=none:=q0U fun y hy e=>by
  obtain ⟨j,h1,h2,h3⟩:=q3J hy
  rw[e] at h3
  have h4:j<200:=by omega
  rw[q0V (by omega)] at h3
  have h5:=congrArg List.length h3
  have h6:(99::q4g 6 ((j:Int)).toNat).length=7:=by simp[q0d]
  rw[h6] at h5
  cases h5
theorem q8G : ∀(C:Cks) (i:Nat),(q3t i C).map Prod.fst=(List.range' i C.length).map fun k:Nat=>q0F 99 (k:Int)
  |[],_=>rfl
  |ps::r,i=>by rw[q3t,List.map_cons,q8G r,List.length_cons,List.range'_succ,List.map_cons]
theorem q1D (a b:List (List UInt8×List UInt8)):q2G (a++b)=q2G a+q2G b:=by simp[q2G,q5c,List.sum_append]
theorem z0h (x:List UInt8×List UInt8):q2G [x]=x.2.length:=by simp[q2G,q5c]
theorem z5B {D:Cks} {ps:List (List UInt8)} (p:List UInt8) (hD:D.length≤200):q1K Prod.fst (q0F 99 (D.length:Int)) (fun x=>(x.1,x.2++q2F p)) (q3t 0 (D++[ps]))=q3t 0 (D++[ps++[p]]):=by
  rw[q2t,q2t,q4N,q2m,Nat.zero_add]
  · congr 1
    show q1K Prod.fst (q0F 99 (D.length:Int)) _ [(q0F 99 (D.length:Int),q0R D.length ps)]=[(q0F 99 (D.length:Int),q0R D.length (ps++[p]))]
    rw[z1d]
    unfold q1K
    simp
  · exact q5W (by omega) (by omega) fun j _ h2=>by omega
theorem z3w {C:Cks} (p:List UInt8) (hC:C.length≤200):q1K Prod.fst (q0F 99 (C.length:Int)) (fun x=>(x.1,x.2++(q2P C.length++q2F p))) (q3t 0 C++[(q0F 99 (C.length:Int),[])])=q3t 0 (C++[[p]]):=by
  rw[q2t,q4N,q2m,Nat.zero_add]
  · congr 1
    show q1K Prod.fst (q0F 99 (C.length:Int)) _ [(q0F 99 (C.length:Int),[])]=[(q0F 99 (C.length:Int),q0R C.length [p])]
    rw[z3d]
    unfold q1K
    simp
  · exact q5W (by omega) (by omega) fun j _ h2=>by omega
def q0j (C:Cks):Nat:=(C.map q0J).sum
theorem q5G : ∀(C:Cks) (i:Nat),q2G (q3t i C)=q0j C
  |[],_=>rfl
  | ps::r,i=>by
    have e:q3t i (ps::r)=[(q0F 99 (i:Int),q0R i ps)]++q3t (i+1) r:=rfl
    rw[e,q1D,z0h,q5G r]
    simp[q0j,q1E]
structure okC (C:Cks):Prop where
  few:C.length≤200
  size: ∀ps∈C,q0J ps≤4096
  pay: ∀ps∈C,∀p∈ps,p.length≤2000
  full: ∀ps∈C,ps≠[]
structure Oth where
  X:List (List UInt8×List UInt8)
  Z:List (List UInt8×List UInt8)
def noO :Oth:=⟨[],[]⟩
structure okOth (E:Oth):Prop where
  before: ∀y∈E.X,∀k:Nat,k≤999999→bytesBefore y.1 (q0F 99 (k:Int))=true
  behind: ∀y∈E.Z,∀k:Nat,k≤999999→bytesBefore (q0F 99 (k:Int)) y.1=true
  new: ∀y,y∈E.X∨y∈E.Z→y.1≠[110,101,119]
  kind: ∀y,y∈E.X∨y∈E.Z→(q0u y.1).2.2=true→(q0u y.1).1≠99
  len: ∀y,y∈E.X∨y∈E.Z→y.1.length≤1000
  few:E.X.length+E.Z.length≤190
theorem okOth.no :okOth noO:=⟨(fun _ h=>by cases h),(fun _ h=>by cases h),(fun _ h=>by rcases h with h|h<;>cases h),(fun _ h=>by rcases h with h|h<;>cases h),(fun _ h=>by rcases h with h|h<;>cases h),Nat.zero_le _⟩
def q2E (E:Oth):Nat:=q2G E.X+q2G E.Z
def q3C (E:Oth) (C:Cks):List (List UInt8×List UInt8):=E.X++(q3t 0 C++E.Z)
def z3N (E:Oth) (C:Cks):List (List UInt8×List UInt8):=E.X++(q3t 0 C++((q0F 99 (C.length:Int),[])::E.Z))
theorem q7L (E:Oth) (C:Cks):(q3C E C).length=E.X.length+C.length+E.Z.length:=by simp[q3C,q4m];omega
theorem z2Y {a b:List UInt8} (h:bytesBefore a b=true):a≠b:=fun e=>by rw[e,WideAt.bytes_irrefl] at h;cases h
theorem okOth.neX {E:Oth} (h:okOth E) {k:Nat} (hk:k≤999999): ∀y∈E.X,Prod.fst y≠q0F 99 (k:Int):=fun y hy=>z2Y (h.before y hy k hk)
theorem okOth.neZ {E:Oth} (h:okOth E) {k:Nat} (hk:k≤999999): ∀y∈E.Z,Prod.fst y≠q0F 99 (k:Int):=fun y hy e=>z2Y (h.behind y hy k hk) e.symm
theorem q1N {α:Type} {k:α→List UInt8} {nm:List UInt8} {a b:List α} (h: ∀y∈b,k y≠nm):q0G k nm (a++b)=q0G k nm a:=by
  unfold q0G
  rw[List.find?_append]
  have:List.find? (fun y=>k y==nm) b=none:=q0U h
  rw[this];simp
theorem q3U {E:Oth} (hE:okOth E) {C:Cks} {k:Nat} {ps:List (List UInt8)} (hC:C.length≤200) (hk:C[k]? =some ps):q0G Prod.fst (q0F 99 (k:Int)) (q3C E C)=some (q0F 99 (k:Int),q0R k ps):=by
  have hlt:=(List.getElem?_eq_some_iff.1 hk).1
  unfold q3C
  rw[q0Y (hE.neX (by omega)),q1N (hE.neZ (by omega))]
  exact z0d hC hk
theorem z5U {E:Oth} (hE:okOth E) {C:Cks} {k:Nat} (hC:C.length≤200) (hk:C.length≤k) (hk2:k≤999999):q0G Prod.fst (q0F 99 (k:Int)) (q3C E C)=none:=by
  unfold q3C
  rw[q0Y (hE.neX hk2),q1N (hE.neZ hk2)]
  exact q9p hC hk hk2
theorem z6m {E:Oth} (hE:okOth E) {C:Cks} (hC:C.length≤200):q0G Prod.fst [110,101,119] (q3C E C)=none:=by
  unfold q3C
  rw[q0Y fun y hy=>hE.new y (.inl hy),q1N fun y hy=>hE.new y (.inr hy)]
  exact z7U hC
theorem q7Z (E:Oth) (C:Cks):q2G (q3C E C)=q2E E+q0j C:=by
  unfold q3C q2E
  rw[q1D,q1D,q5G];omega
theorem z6C (E:Oth) (C:Cks):q2G (z3N E C)=q2E E+q0j C:=by
  have e:z3N E C=E.X++(q3t 0 C++([(q0F 99 (C.length:Int),[])]++E.Z)):=rfl
  rw[e,q1D,q1D,q1D,q5G,z0h]
  unfold q2E
  simp;omega
theorem z5F {E:Oth} (hE:okOth E) {D:Cks} {ps:List (List UInt8)} (p:List UInt8) (hD:D.length≤200):q1K Prod.fst (q0F 99 (D.length:Int)) (fun x=>(x.1,x.2++q2F p)) (q3C E (D++[ps]))=q3C E (D++[ps++[p]]):=by
  unfold q3C
  rw[q4N,q4N,q2m (hE.neX (by omega)),q2m (hE.neZ (by omega)),z5B p hD]
theorem q7D {α:Type} {k:α→List UInt8} {x:α} {b:List α}: ∀{a:List α},(∀y∈a,bytesBefore (k y) (k x)=true)→q3d k x (a++b)=a++q3d k x b
  |[],_=>rfl
  | y ::r,h=>by
    have h1:=h y (List.mem_cons_self)
    have h2:¬bytesBefore (k x) (k y)=true:=fun h3=>by
      have:=WideShapes.bytes_trans _ _ _ h1 h3
      rw[WideAt.bytes_irrefl] at this
      cases this
    rw[List.cons_append,q3d,if_neg h2,q7D fun z hz=>h z (List.mem_cons_of_mem _ hz)]
    rfl
theorem z3x {α:Type} {k:α→List UInt8} {x:α}: ∀{b:List α},(∀y∈b,bytesBefore (k x) (k y)=true)→q3d k x b=x::b
  |[],_=>rfl
  |y::r,h=>by rw[q3d,if_pos (h y (List.mem_cons_self))]
theorem z7k {E:Oth} (hE:okOth E) {C:Cks} (hC:C.length≤200):q3d Prod.fst (q0F 99 (C.length:Int),[]) (q3C E C)=z3N E C:=by
  unfold q3C z3N
  rw[q7D fun y hy=>hE.before y hy _ (by omega),q7D fun y hy=>?_,z3x fun y hy=>hE.behind y hy _ (by omega)]
  obtain ⟨j,h1,h2,h3⟩:=q3J hy
  rw[h3]
  exact q6D (by omega) (by omega) (by omega)
theorem z6M {E:Oth} (hE:okOth E) {C:Cks} (hC:C.length≤200):q0G Prod.fst (q0F 99 (C.length:Int)) (z3N E C)=some (q0F 99 (C.length:Int),[]):=by
  unfold z3N
  rw[q0Y (hE.neX (by omega)),q0Y (q5W (by omega) (by omega) fun j _ h2=>by omega)]
  unfold q0G;rw[List.find?_cons_of_pos (by simp)]
theorem z3W {E:Oth} (hE:okOth E) {C:Cks} (p:List UInt8) (hC:C.length≤200):q1K Prod.fst (q0F 99 (C.length:Int)) (fun x=>(x.1,x.2++(q2P C.length++q2F p))) (z3N E C)=q3C E (C++[[p]]):=by
  have e:z3N E C=E.X++((q3t 0 C++[(q0F 99 (C.length:Int),[])])++E.Z):=by simp[z3N]
  rw[e]
  unfold q3C
  rw[q4N,q4N,q2m (hE.neX (by omega)),q2m (hE.neZ (by omega)),z3w p hC]
theorem z3Y (E:Oth) (C:Cks):(q3C E C).map Prod.fst=E.X.map Prod.fst++((List.range C.length).map (fun k:Nat=>q0F 99 (k:Int))++E.Z.map Prod.fst):=by
  unfold q3C
  rw[List.map_append,List.map_append,q8G,List.range_eq_range']
structure Lgd (E:Oth) (σ:DM) (c s:Int) (C:Cks):Prop where
  pl:Pl σ (c+(q2E E:Int)) s (q3C E C)
  ok:okC C
  oth:okOth E
theorem okC.nil :okC []:=⟨Nat.zero_le _,(fun _ h=>by cases h),(fun _ h=>by cases h),(fun _ h=>by cases h)⟩
theorem okC.grow {D:Cks} {ps:List (List UInt8)} {p:List UInt8} (h:okC (D++[ps])) (hp:p.length≤2000) (hs:q0J ps+(p.length+12)≤4096):okC (D++[ps++[p]]):=by
  have m:ps∈D++[ps]:=by simp
  refine ⟨by simpa using h.few,fun q hq=>?_,fun q hq=>?_,fun q hq=>?_⟩
  all_goals rcases List.mem_append.1 hq with h1|h1
  · exact h.size q (List.mem_append_left _ h1)
  · obtain rfl:=List.mem_singleton.1 h1;rw[q2H];exact hs
  · exact h.pay q (List.mem_append_left _ h1)
  · obtain rfl:=List.mem_singleton.1 h1
    intro x hx
    rcases List.mem_append.1 hx with h2|h2
    · exact h.pay ps m x h2
    · obtain rfl:=List.mem_singleton.1 h2;exact hp
  · exact h.full q (List.mem_append_left _ h1)
  · obtain rfl:=List.mem_singleton.1 h1;simp
theorem okC.more {C:Cks} {p:List UInt8} (h:okC C) (hp:p.length≤2000) (hn:C.length<200):okC (C++[[p]]):=by
  refine ⟨by simp;omega,fun q hq=>?_,fun q hq=>?_,fun q hq=>?_⟩
  all_goals rcases List.mem_append.1 hq with h1|h1
  · exact h.size q h1
  · obtain rfl:=List.mem_singleton.1 h1;rw[q4G];omega
  · exact h.pay q h1
  · obtain rfl:=List.mem_singleton.1 h1
    intro x hx
    obtain rfl:=List.mem_singleton.1 hx;exact hp
  · exact h.full q h1
  · obtain rfl:=List.mem_singleton.1 h1;simp
def q4k (C:Cks):Int:=match C.getLast? with|none=>0|some ps=>((C.length:Int)-1)*4096+(q0J ps:Int)
theorem z2D :q4k []=0:=rfl
theorem q2S (D:Cks) (ps:List (List UInt8)):q4k (D++[ps])=(D.length:Int)*4096+(q0J ps:Int):=by
  unfold q4k
  simp
def q0M (C:Cks):List Int:=C.map fun ps=>(q0J ps:Int)
theorem q2J (D:Cks) (ps:List (List UInt8)):q0M (D++[ps])=q0M D++[(q0J ps:Int)]:=by simp[q0M]
theorem q0b (C:Cks):(q0M C).length=C.length:=by simp[q0M]
theorem q7G (D:Cks) (ps:List (List UInt8)):(q0M (D++[ps])).getD D.length 0=(q0J ps:Int):=by
  rw[q2J]
  have:D.length=(q0M D).length:=(q0b D).symm
  rw[List.getD_eq_getElem?_getD,this,List.getElem?_append_right (Nat.le_refl _)]
  simp
theorem z4J (D:Cks) (ps qs:List (List UInt8)):(q0M (D++[ps])).set D.length (q0J qs:Int)=q0M (D++[qs]):=by
  rw[q2J,q2J]
  have:D.length=(q0M D).length:=(q0b D).symm
  rw[this]
  simp
theorem z1k (C:Cks) (i:Nat) {ps:List (List UInt8)} (h:C[i]? =some ps):(q0M C).getD i 0=(q0J ps:Int):=by
  unfold q0M;rw[List.getD_eq_getElem?_getD,List.getElem?_map,h];rfl
def q3q (C:Cks) (p:List UInt8):Bool:=match C.getLast? with|none=>false|some ps=>decide (q0J ps+(p.length+12)≤4096)
def q0w (free:Int) (C:Cks) (p:List UInt8):Int×Int×Cks:=
  if 2000<p.length then (0,3,C)
  else if q3q C p then (if free-((p.length:Int)+12)<6000 then (0,60,C) else (q4k C,0,C.dropLast++[C.getLast?.getD []++[p]]))
  else if 200≤C.length∨free-((p.length:Int)+24)<6000 then (0,60,C) else ((C.length:Int)*4096+12,0,C++[[p]])
def q4J (free sure:Int) (C:Cks) (p:List UInt8):Int:=
  if (q0w free C p).2.1=0∧q3q C p=false∧C≠[] then q4k C else sure
def q2T :Nat→List (List UInt8)→List (Nat×List UInt8)
  |_,[]=>[]
  |a,p::r=>(a,p)::q2T (a+p.length+12) r
def q0v :Nat→Cks→List (Nat×List UInt8)
  |_,[]=>[]
  |b,ps::r=>q2T (b+12) ps++q0v (b+4096) r
def q3P (C:Cks) (pos:Int):Option (Nat×List UInt8):=(q0v 0 C).find? fun r=>decide (pos≤(r.1:Int))
def q5T (C:Cks) (pos:Int):List UInt8×Int:=
  if pos<0 then ([],4) else match C[(pos/4096).toNat]? with
  |none=>([],4)
  | some ps=>match (if 12≤pos % 4096 then q4u (q0R (pos/4096).toNat ps) (pos % 4096).toNat else none) with
    |none=>([],4)
    |some (p,_)=>(p,0)
end Go.Proofs.YtjjfiejoeelndaaGreatDoor
namespace Go.Proofs.YtjjfiejoeelndaaGreatDoor
open Go.RowKit
theorem q6U : ∀(ps:List (List UInt8)) (a:Nat),∀r∈q2T a ps,a≤r.1∧r.1+r.2.length+12≤a+(ps.map fun p=>p.length+12).sum
  |[],_,r,h=>by cases h
  | p ::t,a,r,h=>by
    rw[q2T] at h
    rcases List.mem_cons.1 h with rfl|h
    · simp only[List.map_cons,List.sum_cons];omega
    · have:=q6U t _ r h
      simp only[List.map_cons,List.sum_cons];omega
theorem q5O : ∀(C:Cks) (b:Nat),(∀ps∈C,q0J ps≤4096)→ ∀r∈q0v b C,b+12≤r.1∧r.1<b+4096*C.length
  |[],_,_,r,h=>by cases h
  | ps ::t,b,hs,r,h=>by
    rw[q0v] at h
    have h1:=hs ps (List.mem_cons_self)
    unfold q0J at h1
    rcases List.mem_append.1 h with h|h
    · have:=q6U ps _ r h
      simp only[List.length_cons];omega
    · have:=q5O t _ (fun q hq=>hs q (List.mem_cons_of_mem _ hq)) r h
      simp only[List.length_cons];omega
theorem q4p : ∀(C:Cks) (b n:Nat),q0v b C=q0v b (C.take n)++q0v (b+4096*n) (C.drop n)
  |C,b,0=>by simp[q0v]
  |[],b,n+1=>by simp[q0v]
  | ps::t,b,n+1=>by
    rw[List.take_succ_cons,List.drop_succ_cons,q0v,q0v,q4p t (b+4096) n,List.append_assoc]
    congr 3;omega
theorem z0H (C D:Cks) (b:Nat):q0v b (C++D)=q0v b C++q0v (b+4096*C.length) D:=by
  have:=q4p (C++D) b C.length
  rwa [List.take_left,List.drop_left] at this
theorem z5k {pos:Int} {l m:List (Nat×List UInt8)} (h: ∀r∈l,(r.1:Int)<pos):(l++m).find? (fun r=>decide (pos≤(r.1:Int)))=m.find? fun r=>decide (pos≤(r.1:Int)):=by
  rw[List.find?_append]
  have:l.find? (fun r=>decide (pos≤(r.1:Int)))=none:=List.find?_eq_none.2 fun r hr=>by have:=h r hr;simp;omega
  rw[this];rfl
theorem z1L (C:Cks) (pos:Int) (hs: ∀ps∈C,q0J ps≤4096) (n:Nat) (hn:(n:Int)*4096≤pos):q3P C pos=(q0v (4096*n) (C.drop n)).find? fun r=>decide (pos≤(r.1:Int)):=by
  unfold q3P
  rw[q4p C 0 n,Nat.zero_add]
  refine z5k fun r hr=>?_
  have:=q5O (C.take n) 0 (fun ps h=>hs ps (List.mem_of_mem_take h)) r hr
  have h2:(C.take n).length≤n:=List.length_take_le _ _
  omega
theorem q4F : ∀(ps:List (List UInt8)) (a:Nat),(q2T a ps).length=ps.length
  |[],_=>rfl
  |p::t,a=>by simp[q2T,q4F t]
theorem z2W : ∀(ps:List (List UInt8)) (a k:Nat) (p:List UInt8),ps[k]? =some p→(q2T a ps)[k]? =some (a+((ps.take k).map fun p=>p.length+12).sum,p)
  |[],_,k,p,h=>by simp at h
  | q::t,a,0,p,h=>by
    simp only[List.getElem?_cons_zero,Option.some.injEq] at h
    subst h;simp[q2T]
  | q::t,a,k+1,p,h=>by
    rw[List.getElem?_cons_succ] at h
    rw[q2T,List.getElem?_cons_succ,z2W t _ k p h,List.take_succ_cons,List.map_cons,List.sum_cons]
    congr 2;omega
theorem q8A : ∀(ps:List (List UInt8)) (a k:Nat) (p:List UInt8),ps[k]? =some p→(q1P a ps)[k]? =some (a+((ps.take k).map fun p=>p.length+12).sum,a+((ps.take k).map fun p=>p.length+12).sum+p.length+12)
  |[],_,k,p,h=>by simp at h
  | q::t,a,0,p,h=>by
    simp only[List.getElem?_cons_zero,Option.some.injEq] at h
    subst h;simp[q1P]
  | q::t,a,k+1,p,h=>by
    rw[List.getElem?_cons_succ] at h
    rw[q1P,List.getElem?_cons_succ,q8A t _ k p h,List.take_succ_cons,List.map_cons,List.sum_cons]
    congr 2<;>omega
theorem z8B (n:Nat) (ps:List (List UInt8)) (k:Nat) (p:List UInt8) (h:ps[k]? =some p) (hp:p.length≤2000):q4u (q0R n ps) (q0J (ps.take k))=some (p,q0J (ps.take k)+p.length+12):=by
  obtain ⟨hk,rfl⟩:=List.getElem?_eq_some_iff.1 h
  have e:ps=ps.take k++ps[k]::ps.drop (k+1):=by rw[List.getElem_cons_drop];exact (List.take_append_drop _ _).symm
  have:=z4w n (ps.take k) ps[k] (ps.drop (k+1)) hp
  rwa [←e] at this
end Go.Proofs.YtjjfiejoeelndaaGreatDoor
namespace Go.Proofs.YtjjfiejoeelndaaGreatDoor
open Go.RowKit
set_option maxRecDepth 100000
set_option linter.unusedVariables false
set_option maxHeartbeats 6400000
end Go.Proofs.YtjjfiejoeelndaaGreatDoor
