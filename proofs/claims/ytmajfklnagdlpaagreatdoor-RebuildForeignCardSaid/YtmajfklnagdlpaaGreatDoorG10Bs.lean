/- Plain laws: records and chunks of a log, as bytes. Walks: entries. Walks: records, and what a chunk begins with. Walks: the record at a place. Walks: a chunk's head; does a record find room; does a text begin with another one. Plain laws: a log in chunks on a disk that is well. Plain laws: the records of a log, in order. Walks: whether two lists of entries are the same (law18's Same). -/
import Derived.Test.YtmajfklnagdlpaaGreatDoorG4Bs
import Derived.Test.YtmajfklnagdlpaaGreatDoorG8Bs
import Derived.Test.YtmajfklnagdlpaaGreatDoorG9Bs
import Derived.Test.YtmajfklnagdlpaaGreatDoorChecked
import Derived.Laws.BitsLemmas
set_option linter.unusedVariables false
set_option linter.unusedSimpArgs false
namespace Go.Proofs.YtmajfklnagdlpaaGreatDoor
open Go.RowKit
theorem q2g (a b:List UInt8):(⟨a.toArray⟩:ByteArray)++⟨b.toArray⟩=⟨(a++b).toArray⟩:=by rw[ByteArray.mk_append_mk];first|done|simp
def q1t (p:List UInt8):List UInt8:=q0w (be 4 p.length++p)++be 4 p.length
def q5n (s:List UInt8) (a:Nat):Nat:=q0x ((s.drop a).take 4)
def isR (s:List UInt8) (a:Nat):Bool:=
  decide (a+12≤s.length)&&decide (q5n s a≤2000)&&decide (a+q5n s a+12≤s.length)
  &&q1f ((s.drop a).take (q5n s a+8))&&decide ((s.drop (a+q5n s a+8)).take 4=(s.drop a).take 4)
def q8n (s:List UInt8) (a:Nat):Option (List UInt8×Nat):=
  if isR s a then some ((s.drop (a+4)).take (q5n s a),a+q5n s a+12) else none
def q4j :Nat→List UInt8→Nat→List (Nat×Nat)
  |0,_,_=>[]
  | f+1,s,a=>match q8n s a with
    |none=>[]
    |some (_,b)=>(a,b)::q4j f s b
def q0e (s:List UInt8) (a:Nat):List (Nat×Nat):=q4j (s.length+1) s a
def q8i (a:Nat) (l:List (Nat×Nat)):Nat:=(l.getLast?.map Prod.snd).getD a
def q2J (n:Nat):List UInt8:=q0w ([99,104,110,107]++be 4 n)
def q4B (ps:List (List UInt8)):List UInt8:=(ps.map q1t).flatten
def q0V (n:Nat) (ps:List (List UInt8)):List UInt8:=q2J n++q4B ps
def q0M (ps:List (List UInt8)):Nat:=12+(ps.map fun p=>p.length+12).sum
def q1G :Nat→List (List UInt8)→List (Nat×Nat)
  |_,[]=>[]
  |a,p::r=>(a,a+p.length+12)::q1G (a+p.length+12) r
theorem q0v (p:List UInt8):(q1t p).length=p.length+12:=by
  simp only[q1t,List.length_append,q0b,q0G];omega
theorem q2X (n:Nat):(q2J n).length=12:=by simp[q2J,q0b,q0G]
theorem q9k (ps:List (List UInt8)):(q4B ps).length=(ps.map fun p=>p.length+12).sum:=by
  unfold q4B
  induction ps with
  |nil=>rfl
  |cons p r ih=>simp[q0v,ih]
theorem q1E (n:Nat) (ps:List (List UInt8)):(q0V n ps).length=q0M ps:=by
  simp[q0V,q0M,q2X,q9k]
theorem z2Y (ps:List (List UInt8)) (p:List UInt8):q4B (ps++[p])=q4B ps++q1t p:=by simp[q4B]
theorem z0y (n:Nat) (ps:List (List UInt8)) (p:List UInt8):q0V n (ps++[p])=q0V n ps++q1t p:=by simp[q0V,z2Y]
theorem z2b (n:Nat) (p:List UInt8):q0V n [p]=q2J n++q1t p:=by simp[q0V,q4B]
theorem q5E (ps:List (List UInt8)) (p:List UInt8):q0M (ps++[p])=q0M ps+(p.length+12):=by simp[q0M,List.sum_append];omega
theorem q4q (p:List UInt8):q0M [p]=12+(p.length+12):=by simp[q0M]
theorem q9I {s:List UInt8} {a b:Nat} {p:List UInt8} (h:q8n s a=some (p,b)):
    p.length≤2000∧b=a+p.length+12∧b≤s.length∧p=(s.drop (a+4)).take p.length∧q5n s a=p.length:=by
  unfold q8n at h
  split at h
  case isFalse=>cases h
  case isTrue hi=>
    unfold isR at hi
    simp only[Bool.and_eq_true,decide_eq_true_eq] at hi
    obtain ⟨⟨⟨⟨h1,h2⟩,h3⟩,h4⟩,h5⟩:=hi
    simp only[Option.some.injEq,Prod.mk.injEq] at h
    obtain ⟨rfl,rfl⟩:=h
    have hl:((s.drop (a+4)).take (q5n s a)).length=q5n s a:=by simp;omega
    rw[hl]
    exact ⟨h2,rfl,h3,rfl,rfl⟩
theorem z7j {α:Type} (pre m post:List α) {a:Nat} (h:a=pre.length):(pre++m++post).drop a=m++post:=by
  subst h;rw[List.append_assoc,List.drop_left]
theorem z1o (pre p post:List UInt8) (hp:p.length≤2000) {a:Nat} (ha:a=pre.length):q8n (pre++q1t p++post) a=some (p,a+p.length+12):=by
  have hd:(pre++q1t p++post).drop a=be 4 p.length++(p++(q7t (q1Y (be 4 p.length++p))++(be 4 p.length++post))):=by
    rw[z7j _ _ _ ha];simp[q1t,q0w]
  have hb:(be 4 p.length).length=4:=q0G 4 _
  have hlow:=q4P (q1Y (be 4 p.length++p))
  have hlong:q5n (pre++q1t p++post) a=p.length:=by
    unfold q5n
    rw[hd,List.take_left' hb,q4Q]
    omega
  have hlen:(pre++q1t p++post).length=a+(p.length+12)+post.length:=by simp[q0v,ha];omega
  have hi:isR (pre++q1t p++post) a=true:=by
    unfold isR
    rw[hlong]
    simp only[Bool.and_eq_true,decide_eq_true_eq]
    refine ⟨⟨⟨⟨by omega,hp⟩,by omega⟩,?_⟩,?_⟩
    · have e:((pre++q1t p++post).drop a).take (p.length+8)=q0w (be 4 p.length++p):=by
        rw[hd]
        have:be 4 p.length++(p++(q7t (q1Y (be 4 p.length++p))++(be 4 p.length++post)))=q0w (be 4 p.length++p)++(be 4 p.length++post):=by simp[q0w]
        rw[this]
        exact List.take_left' (by simp[q0b,hb];omega)
      rw[e]
      unfold q1f
      simp only[Bool.and_eq_true,decide_eq_true_eq,q0b]
      refine ⟨by omega,?_⟩
      have e2:(q0w (be 4 p.length++p)).take ((be 4 p.length++p).length+4-4)=be 4 p.length++p:=by
        unfold q0w;exact List.take_left' (by omega)
      rw[e2]
    · have e:(pre++q1t p++post).drop (a+p.length+8)=be 4 p.length++post:=by
        have:a+p.length+8=a+(p.length+8):=by omega
        rw[this,←List.drop_drop,hd]
        have:be 4 p.length++(p++(q7t (q1Y (be 4 p.length++p))++(be 4 p.length++post)))=(be 4 p.length++(p++q7t (q1Y (be 4 p.length++p))))++(be 4 p.length++post):=by simp
        rw[this]
        exact List.drop_left' (by simp[hb,hlow];omega)
      rw[e,hd,List.take_left' hb,List.take_left' hb]
  unfold q8n
  rw[if_pos hi,hlong]
  congr 2
  rw[←List.drop_drop,hd]
  have e3:(be 4 p.length++(p++(q7t (q1Y (be 4 p.length++p))++(be 4 p.length++post)))).drop 4=p++(q7t (q1Y (be 4 p.length++p))++(be 4 p.length++post)):=List.drop_left' hb
  rw[e3]
  exact List.take_left' rfl
theorem z7B (s:List UInt8) (a:Nat) (h:s.length<a+12):q8n s a=none:=by
  unfold q8n isR
  rw[decide_eq_false (by omega)]
  simp
theorem q7N : ∀(ps:List (List UInt8)) (pre:List UInt8) (f a:Nat),(∀p∈ps,p.length≤2000)→a=pre.length→ps.length<f→q4j f (pre++q4B ps) a=q1G a ps
  |[],pre,0,a,_,_,hf=>by simp at hf
  | [],pre,f+1,a,_,ha,_=>by
    unfold q4j
    rw[z7B _ _ (by simp[q4B,ha])]
    rfl
  |p::r,pre,0,a,_,_,hf=>by simp at hf
  | p::r,pre,f+1,a,hp,ha,hf=>by
    have e:pre++q4B (p::r)=pre++q1t p++q4B r:=by simp[q4B]
    rw[e]
    unfold q4j
    rw[z1o pre p (q4B r) (hp p (List.mem_cons_self)) ha]
    show _::q4j f (pre++q1t p++q4B r) (a+p.length+12)=_
    rw[q7N r (pre++q1t p) f _ (fun q hq=>hp q (List.mem_cons_of_mem _ hq)) (by simp[q0v,ha];omega) (by simp at hf;omega)]
    rfl
theorem z6e (ps:List (List UInt8)):12*ps.length≤(ps.map fun p=>p.length+12).sum:=by
  induction ps with
  |nil=>simp
  |cons p r ih=>simp only[List.map_cons,List.sum_cons,List.length_cons];omega
theorem q6Q (n:Nat) (ps:List (List UInt8)) (hp: ∀p∈ps,p.length≤2000):q0e (q0V n ps) 12=q1G 12 ps:=by
  unfold q0e
  refine q7N ps (q2J n) _ 12 hp (q2X n).symm ?_
  have:=z6e ps
  show _<(q0V n ps).length+1
  rw[q1E];unfold q0M;omega
theorem q5Z : ∀(ps:List (List UInt8)) (p:List UInt8) (a:Nat),q1G a (ps++[p])=q1G a ps++[(a+(ps.map fun p=>p.length+12).sum,a+(ps.map fun p=>p.length+12).sum+p.length+12)]
  |[],p,a=>by simp[q1G]
  | q::r,p,a=>by
    rw[List.cons_append,q1G,q5Z r p,q1G,List.cons_append]
    simp only[List.map_cons,List.sum_cons]
    congr 4<;>omega
theorem z1A : ∀(ps:List (List UInt8)) (a:Nat),q8i a (q1G a ps)=a+(ps.map fun p=>p.length+12).sum:=fun ps a=>by
  rcases List.eq_nil_or_concat ps with rfl|⟨r,p,rfl⟩
  · rfl
  · rw[List.concat_eq_append,q5Z]
    unfold q8i
    simp only[List.getLast?_append,List.getLast?_singleton,Option.some_or,Option.map_some,Option.getD_some,List.map_append,List.map_cons,List.map_nil,List.sum_append,List.sum_cons,List.sum_nil]
    omega
theorem q2D : ∀(ps:List (List UInt8)) (a:Nat),(q1G a ps).length=ps.length
  |[],_=>rfl
  |p::r,a=>by simp[q1G,q2D r]
theorem z4L (n:Nat) (l:List (List UInt8)) (p:List UInt8) (r:List (List UInt8)) (hp:p.length≤2000):q8n (q0V n (l++p::r)) (q0M l)=some (p,q0M l+p.length+12):=by
  have e:q0V n (l++p::r)=q0V n l++q1t p++q4B r:=by simp[q0V,q4B]
  rw[e]
  exact z1o _ _ _ hp (q1E n l).symm
end Go.Proofs.YtmajfklnagdlpaaGreatDoor
namespace Go.Proofs.YtmajfklnagdlpaaGreatDoor
open Go.RowKit
set_option maxRecDepth 100000
set_option linter.unusedVariables false
set_option maxHeartbeats 3200000
theorem z6m (a b:En) (w:World):Calls Tryz.prog 147 #[enV a,enV b] w fun e w'=>e= .returned (.bool (q1b a b))∧Ext w w':=by
  obtain ⟨a1,a2,a3⟩:=a
  obtain ⟨b1,b2,b3⟩:=b
  have HB:=Lib.hid (q2E w (.cells #[.int .u64 a1,.int .i64 a2,.int .i64 a3] 66) (.cells #[.int .u64 b1,.int .i64 b2,.int .i64 b3] 66))
  have HL:Hid (q1b (a1,a2,a3) (b1,b2,b3)=if a1≠b1 then decide (a1<b1) else if a2≠b2 then decide (a2<b2) else decide (a3<b3)):=Lib.hid rfl
  show Calls Tryz.prog 147 #[.agg #[.int .u64 a1,.int .i64 a2,.int .i64 a3],.agg #[.int .u64 b1,.int .i64 b2,.int .i64 b3]] w _
  by_cases h1:a1=b1
  · subst h1
    by_cases h2:a2=b2
    · subst h2
      go_enter Tryz.func147,Tryz.ntmps147
      go_wp2_with fail
      go_ret
      exact ⟨rb (by rw[HL.out];simp),HB.out⟩
    · have hn:(a2 !=b2)=true:=by simpa using h2
      go_enter Tryz.func147,Tryz.ntmps147
      go_wp2_with fail
      go_ret
      exact ⟨rb (by rw[HL.out];simp[h2]),HB.out⟩
  · have hn:(a1 !=b1)=true:=by simpa using h1
    go_enter Tryz.func147,Tryz.ntmps147
    go_wp2_with fail
    go_ret
    exact ⟨rb (by rw[HL.out];simp[h1]),HB.out⟩
theorem q7Q {L:List En} {k:Nat} (hk:k+1<L.length):q1r (L.take (k+2))=(q1r (L.take (k+1))&&q1b (L.getD k en0) (L.getD (k+1) en0)):=by
  rw[Bool.eq_iff_iff,Bool.and_eq_true,q2F,q2F]
  have e1:L.take (k+2)=L.take (k+1)++[L.getD (k+1) en0]:=q0J L en0 (k+1) hk
  have e2:L.take (k+1)=L.take k++[L.getD k en0]:=q0J L en0 k (by omega)
  rw[e1]
  unfold q2R
  rw[List.pairwise_append]
  constructor
  · rintro ⟨h1,_,h3⟩
    exact ⟨h1,h3 _ (by rw[e2];simp) _ (by simp)⟩
  · rintro ⟨h1,h2⟩
    refine ⟨h1,by simp,fun x hx y hy=>?_⟩
    obtain rfl:=List.mem_singleton.1 hy
    rw[e2] at hx h1
    rcases List.mem_append.1 hx with hx|hx
    · exact q2i ((List.pairwise_append.1 h1).2.2 x hx _ (by simp)) h2
    · obtain rfl:=List.mem_singleton.1 hx;exact h2
theorem z0L {L:List En} {k:Nat} (hk:k+1<L.length) (h:q1b (L.getD k en0) (L.getD (k+1) en0)=false):q1r L=false:=by
  cases hs:q1r L with
  |false=>rfl
  | true=>
    rw[q2F] at hs
    have h1:q2R (L.take (k+2)):=hs.sublist (List.take_sublist _ _)
    rw[←q2F,q7Q hk,h,Bool.and_false] at h1
    cases h1
theorem z1z {ao:Option Addr} {n cap:Nat} {L:List En} (w:World) (hx:Ens w ao n cap L):Calls Tryz.prog 201 #[.slice ao n cap] w fun e w'=>e= .returned (.bool (q1r L))∧Ext w w':=by
  have Hx:=Lib.hid hx
  have b1:=hx.fits;have b2:=hx.bound
  have HLen:=Lib.hid hx.len
  clear hx
  go_enter Tryz.func201,Tryz.ntmps201
  go_wp2_with fail
  go_loopw [3] (fun i W=> ∃k:Nat,k+1≤max n 1∧i= .int .i64 ((k:Int)+1)∧q1r (L.take (k+1))=true∧Ext w W) (fun i _=>n-(intOf i).toNat)
  case atStart=>
    refine ⟨0,by omega,rfl,?_,Ext.refl _⟩
    cases L with
    |nil=>rfl
    |cons a r=>rfl
  case round=>
    obtain ⟨k,hk,rfl,hs,hb⟩:=hrel
    have HS:=Lib.hid hs;have HB:=Lib.hid hb
    by_cases hlt:k+1<n
    · have hd:decide (((k:Int)+1)<(n:Int))=true:=by simp;omega
      obtain ⟨b,off,rfl,c0,c1,c2⟩:=(Hx.out.ext hb).at (i:=k) (by omega)
      obtain ⟨_,_,e1,d0,d1,d2⟩:=(Hx.out.ext hb).at (i:=k+1) hlt
      cases e1
      have HT:=Lib.hid (q7Q (L:=L) (k:=k) (by rw[HLen.out];exact hlt))
      have HF:=Lib.hid (z0L (L:=L) (k:=k) (by rw[HLen.out];exact hlt))
      obtain ⟨x,hx⟩: ∃x,L.getD k en0=x:=⟨_,rfl⟩
      obtain ⟨y,hy⟩: ∃y,L.getD (k+1) en0=y:=⟨_,rfl⟩
      rw[hx] at c0 c1 c2
      rw[hy] at d0 d1 d2
      rw[hx,hy] at HT HF
      obtain ⟨q,hq⟩: ∃q,q1b x y=q:=⟨_,rfl⟩
      have HLs:=Lib.hid (fun W=>z6m x y W)
      rw[hq] at HLs HT HF
      obtain ⟨x1,x2,x3⟩:=x
      obtain ⟨y1,y2,y3⟩:=y
      unfold enV ec at HLs
      have u0:=q0F c0;have u1:=q0F c1;have u2:=q0F c2
      have v0:=q0F d0;have v1:=q0F d1;have v2:=q0F d2
      have hw1:IntKind.i64.wrap ((k:Int)+1-1)=(k:Int):=by rw[IntKind.wrap_i64];omega
      have hw2:IntKind.i64.wrap (k:Int)=(k:Int):=by rw[IntKind.wrap_i64];omega
      clear hx hy hs hb hq
      cases q with
      | true=>
        go_wp2_with fail
        refine q0D (by kernel_rfl) (by kernel_rfl) ?_
        repeat (go_big_quiet_step (first|(go_at_call 147;exact Calls.quiet_ext (HLs.out _))))
        refine wpQuiet_nil ?_
        intro w2 hw2
        have HB2:=Lib.hid (HB.out.trans hw2)
        clear hw2
        go_wp2_with fail
        go_roundw
        case rel=>exact ⟨k+1,by omega,by go_num,by rw[HT.out,HS.out];rfl,HB2.out⟩
        case measure=>simp[intOf];omega
      | false=>
        go_wp2_with fail
        refine q0D (by kernel_rfl) (by kernel_rfl) ?_
        repeat (go_big_quiet_step (first|(go_at_call 147;exact Calls.quiet_ext (HLs.out _))))
        refine wpQuiet_nil ?_
        intro w2 hw2
        have HB2:=Lib.hid (HB.out.trans hw2)
        clear hw2
        go_wp2_with fail
        go_ret
        exact ⟨rb (HF.out (by first|rfl|trivial)),HB2.out⟩
    · have hd:decide (((k:Int)+1)<(n:Int))=false:=by simp;omega
      have HF:Hid (q1r L=true):=Lib.hid (by rwa [List.take_of_length_le (by rw[HLen.out];omega)] at hs)
      clear hs hb
      go_wp2_with fail
      go_ret
      exact ⟨rb HF.out,HB.out⟩
end Go.Proofs.YtmajfklnagdlpaaGreatDoor
namespace Go.Proofs.YtmajfklnagdlpaaGreatDoor
open Go.RowKit
set_option maxRecDepth 100000
set_option linter.unusedVariables false
set_option maxHeartbeats 1600000
theorem q2I (s:List UInt8) (lo hi:Int) (a b:Nat) (hlo:lo=(a:Int)) (hhi:hi=(b:Int)) (h:a≤b) (h2:b≤s.length) {X:List UInt8} (hX:(s.take b).drop a=X):
    ∀w,(Instr.slice 9 (.string ⟨s.toArray⟩) (some (.int .i64 lo)) (some (.int .i64 hi)) none).run Tryz.prog w= .ok (.string ⟨X.toArray⟩) w:=fun w=>by
  have h3:=run_slice_string (P:=Tryz.prog) w 9 ⟨s.toArray⟩ .i64 .i64 lo hi Tryz.underlying9 (by omega) (by omega) (by simp[ByteArray.size];omega)
  rw[h3,hlo,hhi,←hX]
  show _=Result.ok (Value.string ⟨((s.take b).drop a).toArray⟩) w
  rw[←q2a];rfl
theorem q3v (s:List UInt8) (hi:Int) (b:Nat) (hhi:hi=(b:Int)) (h2:b≤s.length):
    ∀w,(Instr.slice 9 (.string ⟨s.toArray⟩) none (some (.int .i64 hi)) none).run Tryz.prog w= .ok (.string ⟨(s.take b).toArray⟩) w:=fun w=>by
  have h3:=run_slice_string_to_if (P:=Tryz.prog) w 9 ⟨s.toArray⟩ .i64 hi Tryz.underlying9
  have hs:(ByteArray.size ⟨s.toArray⟩)=s.length:=by simp[ByteArray.size]
  rw[h3,hs,if_pos (by omega),hhi]
  show Result.ok (Value.string ((⟨s.toArray⟩:ByteArray).extract 0 b)) w=_
  rw[q2a];rfl
theorem q2b (s:List UInt8) (lo:Int) (a:Nat) (hlo:lo=(a:Int)) (h2:a≤s.length):
    ∀w,(Instr.slice 9 (.string ⟨s.toArray⟩) (some (.int .i64 lo)) none none).run Tryz.prog w= .ok (.string ⟨(s.drop a).toArray⟩) w:=fun w=>by
  have h3:=run_slice_string_from_if (P:=Tryz.prog) w 9 ⟨s.toArray⟩ .i64 lo Tryz.underlying9
  have hs:(ByteArray.size ⟨s.toArray⟩)=s.length:=by simp[ByteArray.size]
  rw[h3,hs,if_pos (by omega),hlo]
  show Result.ok (Value.string ((⟨s.toArray⟩:ByteArray).extract a s.length)) w=_
  rw[q2a,List.take_length]
theorem z3n (k:Nat) (N:Int) (w:World) (hN:N=(k:Int)) (hk:k≤9223372036854775807):
    Calls Tryz.prog 116 #[.int .i64 N] w fun e w'=>e= .returned (.string ⟨(be 4 k).toArray⟩)∧Ext w w':=by
  have h0:0≤N:=by omega
  have h1:N≤9223372036854775807:=by omega
  have hk2:N.toNat=k:=by omega
  have HK:=Lib.hid hk2
  clear hN hk2
  go_enter Tryz.func116,Tryz.ntmps116
  go_wp2_with fail
  refine (q5l N 4 _ (by omega) (by omega) h0 (by omega)).mono ?_
  rintro e w1 ⟨rfl,hb⟩
  have HB:=Lib.hid hb;clear hb
  rw[HK.out]
  go_wp2_with fail
  go_ret
  exact ⟨rfl,HB.out⟩
theorem z3T (p:List UInt8) (w:World) (hp:2000<p.length) (hl:p.length≤9223372036854775807):
    Calls Tryz.prog 52 #[.string ⟨p.toArray⟩] w fun e w'=>e= .returned (.tuple #[.string ⟨#[]⟩,.int .i64 3])∧w=w':=by
  have hd:decide ((2000:Int)<(p.length:Int))=true:=by simp;omega
  go_enter Tryz.func52,Tryz.ntmps52
  go_wp2_with fail
  go_ret2
  exact ⟨rfl,rfl⟩
theorem z5r (p:List UInt8) (w:World) (hp:p.length≤2000):
    Calls Tryz.prog 52 #[.string ⟨p.toArray⟩] w fun e w'=>e= .returned (.tuple #[.string ⟨(q1t p).toArray⟩,.int .i64 0])∧Ext w w':=by
  have hd:decide ((2000:Int)<(p.length:Int))=false:=by simp;omega
  obtain ⟨n,hn⟩: ∃n:Int,n=(p.length:Int):=⟨_,rfl⟩
  have HR:Hid (q1t p=q0w (be 4 p.length++p)++be 4 p.length):=Lib.hid rfl
  have hb4:(be 4 p.length).length=4:=q0G 4 _
  have hs:(q0w (be 4 p.length++p)).length=p.length+8:=by simp[q0b,hb4];omega
  have HC:=Lib.hid (fun W=>z3n p.length (p.length:Int) W rfl (by omega))
  have HS:=Lib.hid (fun W=>q7u (be 4 p.length++p) W (by simp[hb4];omega))
  go_enter Tryz.func52,Tryz.ntmps52
  go_wp2_with fail
  refine (HC.out _).mono ?_
  rintro e w1 ⟨rfl,hb⟩
  have HB:=Lib.hid hb;clear hb
  generalize be 4 p.length=X at*
  go_wp2_with fail
  have hs2:=HS.out w1
  generalize q0w (X++p)=Y at*
  rw[q2g]
  refine hs2.mono ?_
  rintro e w2 ⟨rfl,hb⟩
  have HB2:=Lib.hid (HB.out.trans hb);clear hb
  go_wp2_with fail
  refine (HC.out _).mono ?_
  rintro e w3 ⟨rfl,hb⟩
  have HB3:=Lib.hid (HB2.out.trans hb);clear hb
  go_wp2_with fail
  go_ret2
  exact ⟨by rw[HR.out,q2g];rfl,HB3.out⟩
end Go.Proofs.YtmajfklnagdlpaaGreatDoor
namespace Go.Proofs.YtmajfklnagdlpaaGreatDoor
open Go.RowKit
set_option maxRecDepth 100000
set_option linter.unusedVariables false
set_option maxHeartbeats 1600000
def z3H (s:List UInt8) (a:Nat):Value:=match q8n s a with
  |none=> .tuple #[.string ⟨#[]⟩,.int .i64 0,.bool false]
  |some (p,b)=> .tuple #[.string ⟨p.toArray⟩,.int .i64 b,.bool true]
theorem q6M {s:List UInt8} {a:Nat} (h:isR s a=false):z3H s a= .tuple #[.string ⟨#[]⟩,.int .i64 0,.bool false]:=by unfold z3H q8n;rw[h];rfl
theorem q4z (s:List UInt8) (a k:Nat):(s.take (a+k)).drop a=(s.drop a).take k:=by rw[List.drop_take];congr 1;omega
theorem z2D (s:List UInt8) (a:Nat) (w:World) (hl:s.length≤4611686018427387903) (ha:a≤4611686018427387903):
    Calls Tryz.prog 167 #[.string ⟨s.toArray⟩,.int .i64 (a:Int)] w fun e w'=>e= .returned (z3H s a)∧Ext w w':=by
  by_cases h1:s.length<a+12
  · have HM:Hid (z3H s a= .tuple #[.string ⟨#[]⟩,.int .i64 0,.bool false]):=Lib.hid (q6M (by unfold isR;rw[decide_eq_false (by omega)];rfl))
    have hd:decide (((s.length:Int)-12)<(a:Int))=true:=by simp;omega
    go_enter Tryz.func167,Tryz.ntmps167
    go_wp2_with fail
    go_ret3
    rw[HM.out]
    exact ⟨rfl,Ext.refl _⟩
  have hd1:decide (((s.length:Int)-12)<(a:Int))=false:=by simp;omega
  obtain ⟨X,hX⟩: ∃X,(s.drop a).take 4=X:=⟨_,rfl⟩
  have hXl:X.length=4:=by rw[←hX];simp;omega
  have hsX:=q2I s (a:Int) ((a:Int)+4) a (a+4) rfl (by omega) (by omega) (by omega) (by rw[q4z,hX])
  obtain ⟨n,hn⟩: ∃n,q5n s a=n:=⟨_,rfl⟩
  have hnX:q0x (X.take 8)=n:=by rw[List.take_of_length_le (by omega),←hX,←hn];rfl
  have hn4:n<4294967296:=by rw[←hnX];have:=q1q (X.take 8);rw[List.length_take,hXl] at this;exact this
  have HG:=Lib.hid (fun W=>q8x X W (by omega))
  rw[hnX] at HG
  by_cases h2:2000<n∨s.length<a+n+12
  · have HM:Hid (z3H s a= .tuple #[.string ⟨#[]⟩,.int .i64 0,.bool false]):=Lib.hid (q6M (by
      unfold isR;rw[hn]
      rcases h2 with h|h
      · rw[decide_eq_false (p:=n≤2000) (by omega)];simp
      · rw[decide_eq_false (p:=a+n+12≤s.length) (by omega)];simp))
    clear hX hn hnX hXl
    by_cases h3:2000<n
    · have hd2:decide ((2000:Int)<(n:Int))=true:=by simp;omega
      go_enter Tryz.func167,Tryz.ntmps167
      go_wp2_with fail
      refine (HG.out _).mono ?_
      rintro e w1 ⟨rfl,hb⟩
      have HB:=Lib.hid hb;clear hb
      go_wp2_with fail
      go_ret3
      rw[HM.out]
      exact ⟨rfl,HB.out⟩
    · have h4:s.length<a+n+12:=by omega
      have hd2:decide ((2000:Int)<(n:Int))=false:=by simp;omega
      have hd3:decide ((s.length:Int)-12-(a:Int)<(n:Int))=true:=by simp;omega
      go_enter Tryz.func167,Tryz.ntmps167
      go_wp2_with fail
      refine (HG.out _).mono ?_
      rintro e w1 ⟨rfl,hb⟩
      have HB:=Lib.hid hb;clear hb
      go_wp2_with fail
      go_ret3
      rw[HM.out]
      exact ⟨rfl,HB.out⟩
  have h5:n≤2000:=by omega
  have h6:a+n+12≤s.length:=by omega
  have hd2:decide ((2000:Int)<(n:Int))=false:=by simp;omega
  have hd3:decide ((s.length:Int)-12-(a:Int)<(n:Int))=false:=by simp;omega
  obtain ⟨Y,hY⟩: ∃Y,(s.drop a).take (n+8)=Y:=⟨_,rfl⟩
  have hYl:Y.length=n+8:=by rw[←hY];simp;omega
  have hsY:=q2I s (a:Int) ((a:Int)+(n:Int)+12-4) a (a+(n+8)) rfl (by omega) (by omega) (by omega) (by rw[q4z,hY])
  obtain ⟨Z,hZ⟩: ∃Z,(s.drop (a+n+8)).take 4=Z:=⟨_,rfl⟩
  have hsZ:=q2I s ((a:Int)+(n:Int)+12-4) ((a:Int)+(n:Int)+12) (a+n+8) (a+n+8+4) (by omega) (by omega) (by omega) (by omega) (by rw[q4z,hZ])
  have HO:=Lib.hid (fun W=>z1N Y W (by omega))
  have hi:isR s a=(q1f Y&&decide (Z=X)):=by
    unfold isR;rw[hn,decide_eq_true (p:=a+12≤s.length) (by omega),decide_eq_true h5,decide_eq_true h6,hY,hZ,hX];simp
  have hpay:q1f Y=true→(q1W Y).drop 4=(s.drop (a+4)).take n:=fun h=>by
    unfold q1W;rw[if_pos h,hYl,←hY,List.take_take,List.drop_take,List.drop_drop]
    congr 1;omega
  have hTl:q1f Y=true→(q1W Y).length=n+4:=fun h=>by
    unfold q1W;rw[if_pos h,List.length_take,hYl];omega
  have hS:q8n s a=if isR s a then some ((s.drop (a+4)).take n,a+n+12) else none:=by unfold q8n;rw[hn]
  have HI:=Lib.hid hi;have HP:=Lib.hid hpay;have HTl:=Lib.hid hTl;have HS:=Lib.hid hS
  clear hX hn hnX hZ hY hYl hi hpay hTl hS h2 h1
  generalize q1W Y=T at*
  cases hb:q1f Y with
  | false=>
    have HM:Hid (z3H s a= .tuple #[.string ⟨#[]⟩,.int .i64 0,.bool false]):=Lib.hid (q6M (by rw[HI.out,hb];rfl))
    rw[hb] at HO
    go_enter Tryz.func167,Tryz.ntmps167
    go_wp2_with fail
    refine (HG.out _).mono ?_
    rintro e w1 ⟨rfl,hb1⟩
    have HB:=Lib.hid hb1;clear hb1
    go_wp2_with fail
    refine (HO.out _).mono ?_
    rintro e w2 ⟨rfl,hb2⟩
    have HB2:=Lib.hid (HB.out.trans hb2);clear hb2
    go_wp2_with fail
    refine q0D (by kernel_rfl) (by kernel_rfl) ?_
    repeat (go_big_quiet_step (fail))
    refine wpQuiet_nil ?_
    intro w3 hw3
    have HB3:=Lib.hid (HB2.out.trans hw3);clear hw3
    go_wp2_with fail
    go_ret3
    rw[HM.out]
    exact ⟨rfl,HB3.out⟩
  | true =>
    by_cases hzx:Z=X
    · have HM:Hid (z3H s a= .tuple #[.string ⟨(T.drop 4).toArray⟩,.int .i64 ((a:Int)+(n:Int)+12),.bool true]):=Lib.hid (by
        unfold z3H
        rw[HS.out,HI.out,hb,hzx,HP.out hb]
        simp)
      have hTlen:=HTl.out hb
      have hsT: ∀w,(Instr.slice 9 (.string ⟨T.toArray⟩) (some (.int .i64 4)) none none).run Tryz.prog w= .ok (.string ⟨(T.drop 4).toArray⟩) w:=fun w=>by
        exact q2b T 4 4 rfl (by omega) w
      rw[hb] at HO
      generalize T.drop 4=T4 at*
      subst hzx
      go_enter Tryz.func167,Tryz.ntmps167
      go_wp2_with fail
      refine (HG.out _).mono ?_
      rintro e w1 ⟨rfl,hb1⟩
      have HB:=Lib.hid hb1;clear hb1
      go_wp2_with fail
      refine (HO.out _).mono ?_
      rintro e w2 ⟨rfl,hb2⟩
      have HB2:=Lib.hid (HB.out.trans hb2);clear hb2
      go_wp2_with fail
      refine q0D (by kernel_rfl) (by kernel_rfl) ?_
      repeat (go_big_quiet_step (fail))
      refine wpQuiet_nil ?_
      intro w3 hw3
      have HB3:=Lib.hid (HB2.out.trans hw3);clear hw3
      go_wp2_with fail
      go_ret3
      rw[HM.out]
      exact ⟨rfl,HB3.out⟩
    · have HM:Hid (z3H s a= .tuple #[.string ⟨#[]⟩,.int .i64 0,.bool false]):=Lib.hid (q6M (by rw[HI.out,decide_eq_false hzx,Bool.and_false]))
      have hne:(Z==X)=false:=by simpa using hzx
      have hne':(Z !=X)=true:=by simpa using hzx
      rw[hb] at HO
      go_enter Tryz.func167,Tryz.ntmps167
      go_wp2_with fail
      refine (HG.out _).mono ?_
      rintro e w1 ⟨rfl,hb1⟩
      have HB:=Lib.hid hb1;clear hb1
      go_wp2_with fail
      refine (HO.out _).mono ?_
      rintro e w2 ⟨rfl,hb2⟩
      have HB2:=Lib.hid (HB.out.trans hb2);clear hb2
      go_wp2_with fail
      refine q0D (by kernel_rfl) (by kernel_rfl) ?_
      repeat (go_big_quiet_step (fail))
      refine wpQuiet_nil ?_
      intro w3 hw3
      have HB3:=Lib.hid (HB2.out.trans hw3);clear hw3
      go_wp2_with fail
      go_ret3
      rw[HM.out]
      exact ⟨rfl,HB3.out⟩
end Go.Proofs.YtmajfklnagdlpaaGreatDoor
namespace Go.Proofs.YtmajfklnagdlpaaGreatDoor
open Go.RowKit
set_option maxRecDepth 100000
set_option linter.unusedVariables false
set_option maxHeartbeats 1600000
theorem z1I (n:Nat) (w:World) (hn:n<200):
    Calls Tryz.prog 126 #[.int .i64 (n:Int)] w fun e w'=>e= .returned (.string ⟨(q2J n).toArray⟩)∧Ext w w':=by
  have hd:decide ((200:Int)≤(n:Int))=false:=by simp;omega
  have HR:Hid (q2J n=q0w ([99,104,110,107]++be 4 n)):=Lib.hid rfl
  have HP:=Lib.hid (fun W=>q5l (n:Int) 4 W (by omega) (by omega) (by omega) (by omega))
  have HS:=Lib.hid (fun W=>q7u ([99,104,110,107]++be 4 n) W (by simp[q0G]))
  have hb4:(be 4 n).length=4:=q0G 4 _
  rw[Int.toNat_natCast] at HP
  generalize q0w ([99,104,110,107]++be 4 n)=Y at*
  generalize be 4 n=X at*
  go_enter Tryz.func126,Tryz.ntmps126
  go_wp2_with fail
  refine (HP.out _).mono ?_
  rintro e w1 ⟨rfl,hb⟩
  have HB:=Lib.hid hb;clear hb
  go_wp2_with fail
  have hcat:=q2g [99,104,110,107] X
  have hcat2:({data:=#[99,104,110,107]}:ByteArray)++{data:=X.toArray}=⟨([99,104,110,107]++X).toArray⟩:=hcat
  rw[hcat2]
  refine (HS.out _).mono ?_
  rintro e w2 ⟨rfl,hb⟩
  have HB2:=Lib.hid (HB.out.trans hb);clear hb
  go_wp2_with fail
  go_ret
  exact ⟨by rw[HR.out];rfl,HB2.out⟩
theorem z8I (N:Int) (p:List UInt8) (w:World) (h0:0≤N) (h1:N≤4096) (hp:p.length≤2000):
    Calls Tryz.prog 53 #[.int .i64 N,.string ⟨p.toArray⟩] w fun e w'=>e= .returned (.bool (decide ((p.length:Int)+12≤4096-N)))∧w=w':=by
  have hd1:decide ((0:Int)≤N)=true:=by simpa using h0
  have hd2:decide (N≤(4096:Int))=true:=by simpa using h1
  have hd3:decide ((p.length:Int)≤(2000:Int))=true:=by simp;omega
  go_enter Tryz.func53,Tryz.ntmps53
  go_wp2_with fail
  go_ret
  exact ⟨rfl,rfl⟩
def z5H (s p:List UInt8):Bool:=decide (p.length≤s.length)&&(s.take p.length==p)
theorem q9p (s p:List UInt8) (w:World) (hl:s.length≤9223372036854775807) (hp:p.length≤9223372036854775807):
    Calls Tryz.prog 256 #[.string ⟨s.toArray⟩,.string ⟨p.toArray⟩] w fun e w'=>e= .returned (.bool (z5H s p))∧w=w':=by
  by_cases h:p.length≤s.length
  · have HM:Hid (z5H s p=(s.take p.length==p)):=Lib.hid (by unfold z5H;rw[decide_eq_true h,Bool.true_and])
    have hd1:decide ((p.length:Int)≤(s.length:Int))=true:=by simp;omega
    go_enter Tryz.func256,Tryz.ntmps256
    go_wp2_with fail
    go_ret
    rw[HM.out]
    exact ⟨rfl,rfl⟩
  · have HM:Hid (z5H s p=false):=Lib.hid (by unfold z5H;rw[decide_eq_false h,Bool.false_and])
    have hd1:decide ((p.length:Int)≤(s.length:Int))=false:=by simp;omega
    go_enter Tryz.func256,Tryz.ntmps256
    go_wp2_with fail
    go_ret
    rw[HM.out]
    exact ⟨rfl,rfl⟩
theorem z0J (s p:List UInt8) (w:World) (hl:s.length≤9223372036854775807) (hp:p.length≤9223372036854775807):
    Calls Tryz.prog 218 #[.string ⟨s.toArray⟩,.string ⟨p.toArray⟩] w fun e w'=>e= .returned (.bool (z5H s p))∧w=w':=by
  go_enter Tryz.func218,Tryz.ntmps218
  go_wp2_with fail
  refine (q9p s p _ hl hp).mono ?_
  rintro e w1 ⟨rfl,rfl⟩
  go_wp2_with fail
  go_ret
  exact ⟨rfl,rfl⟩
end Go.Proofs.YtmajfklnagdlpaaGreatDoor
namespace Go.Proofs.YtmajfklnagdlpaaGreatDoor
open Go.RowKit
theorem q3a : ∀a b:List UInt8,Op.bytesLess a b=bytesBefore a b
  |[],[]=>rfl
  |[],_::_=>rfl
  |_::_,[]=>rfl
  |a::x,b::y=>by unfold Op.bytesLess bytesBefore;rw[q3a x y]
abbrev Cks :=List (List (List UInt8))
def q2z :Nat→Cks→List (List UInt8×List UInt8)
  |_,[]=>[]
  |i,ps::r=>(q0B 99 (i:Int),q0V i ps)::q2z (i+1) r
theorem q3T : ∀(C:Cks) (i:Nat),(q2z i C).length=C.length
  |[],_=>rfl
  |ps::r,i=>by simp[q2z,q3T r]
theorem q2e : ∀(C D:Cks) (i:Nat),q2z i (C++D)=q2z i C++q2z (i+C.length) D
  |[],D,i=>rfl
  | ps::r,D,i=>by
    rw[List.cons_append,q2z,q2e r D (i+1),q2z,List.cons_append,List.length_cons]
    congr 3;omega
theorem q2C : ∀{C:Cks} {i:Nat} {x:List UInt8×List UInt8},x∈q2z i C→ ∃k,i≤k∧k<i+C.length∧x.1=q0B 99 (k:Int)
  |[],_,_,h=>by cases h
  | ps ::r,i,x,h=>by
    rcases List.mem_cons.1 h with rfl|h
    · exact ⟨i,Nat.le_refl _,by simp,rfl⟩
    · obtain ⟨k,h1,h2,h3⟩:=q2C h
      exact ⟨k,by omega,by simp;omega,h3⟩
theorem q2y (n:Int):(q0B 99 n).length≤9223372036854775807:=by
  by_cases h:0≤n∧n≤999999
  · rw[q0P h,List.length_cons,q0X];decide
  · rw[q4w h];decide
theorem z6c {i k:Nat} (hi:i≤999999) (hk:k≤999999) (h:i≠k):q0B 99 (i:Int)≠q0B 99 (k:Int):=fun e=>by
  have:=z6B 99 (i:Int) (k:Int) (by omega) (by omega)
  rw[e,beq_self_eq_true] at this
  have:=of_decide_eq_true this.symm
  omega
theorem q5e {i k:Nat} (hi:i≤999999) (hk:k≤999999) (h:i<k):bytesBefore (q0B 99 (i:Int)) (q0B 99 (k:Int))=true:=by
  have h1:=z2G 99 (i:Int) (k:Int) (by omega) (by omega)
  have h2:decide ((i:Int)<(k:Int))=true:=by simp;omega
  rw[h2] at h1
  rw[←q3a];exact h1
theorem q4g {C:Cks} {i k:Nat} (hk:k≤999999) (hC:i+C.length≤999999) (h: ∀j,i≤j→j<i+C.length→j≠k): ∀y∈q2z i C,Prod.fst y≠q0B 99 (k:Int):=fun y hy=>by
  obtain ⟨j,h1,h2,h3⟩:=q2C hy
  rw[h3]
  exact z6c (by omega) hk (h j h1 h2)
theorem q9m {C:Cks} {k:Nat} {ps:List (List UInt8)} (hC:C.length≤200) (hk:C[k]?=some ps):q0E Prod.fst (q0B 99 (k:Int)) (q2z 0 C)=some (q0B 99 (k:Int),q0V k ps):=by
  obtain ⟨hlt,rfl⟩:=List.getElem?_eq_some_iff.1 hk
  have e:C=C.take k++C[k]::C.drop (k+1):=by
    rw[List.getElem_cons_drop];exact (List.take_append_drop _ _).symm
  have hl:(C.take k).length=k:=by simp;omega
  conv=>lhs;rw[e]
  rw[q2e,hl,Nat.zero_add,q0Z]
  · rw[q2z];unfold q0E;rw[List.find?_cons_of_pos (by simp)]
  · exact q4g (by omega) (by rw[hl];omega) fun j _ h2=>by rw[hl] at h2;omega
theorem q9h {C:Cks} {k:Nat} (hC:C.length≤200) (hk:C.length≤k) (hk2:k≤999999):q0E Prod.fst (q0B 99 (k:Int)) (q2z 0 C)=none:=
  q0S (q4g hk2 (by omega) fun j _ h2=>by omega)
theorem z5y {C:Cks} (hC:C.length≤200):q0E Prod.fst [110,101,119] (q2z 0 C)=none:=q0S fun y hy e=>by
  obtain ⟨j,h1,h2,h3⟩:=q2C hy
  rw[e] at h3
  have h4:j<200:=by omega
  rw[q0P (by omega)] at h3
  have h5:=congrArg List.length h3
  have h6:(99::q4F 6 ((j:Int)).toNat).length=7:=by simp[q0X]
  rw[h6] at h5
  cases h5
theorem q7U : ∀(C:Cks) (i:Nat),(q2z i C).map Prod.fst=(List.range' i C.length).map fun k:Nat=>q0B 99 (k:Int)
  |[],_=>rfl
  |ps::r,i=>by rw[q2z,List.map_cons,q7U r,List.length_cons,List.range'_succ,List.map_cons]
theorem q0z (a b:List (List UInt8×List UInt8)):q1K (a++b)=q1K a+q1K b:=by simp[q1K,q4I,List.sum_append]
theorem q8p (x:List UInt8×List UInt8):q1K [x]=x.2.length:=by simp[q1K,q4I]
theorem z3P {D:Cks} {ps:List (List UInt8)} (p:List UInt8) (hD:D.length≤200):q0y Prod.fst (q0B 99 (D.length:Int)) (fun x=>(x.1,x.2++q1t p)) (q2z 0 (D++[ps]))=q2z 0 (D++[ps++[p]]):=by
  rw[q2e,q2e,q3x,q1y,Nat.zero_add]
  · congr 1
    show q0y Prod.fst (q0B 99 (D.length:Int)) _ [(q0B 99 (D.length:Int),q0V D.length ps)]=[(q0B 99 (D.length:Int),q0V D.length (ps++[p]))]
    rw[z0y]
    unfold q0y
    simp
  · exact q4g (by omega) (by omega) fun j _ h2=>by omega
theorem z2t {C:Cks} (p:List UInt8) (hC:C.length≤200):q0y Prod.fst (q0B 99 (C.length:Int)) (fun x=>(x.1,x.2++(q2J C.length++q1t p))) (q2z 0 C++[(q0B 99 (C.length:Int),[])])=q2z 0 (C++[[p]]):=by
  rw[q2e,q3x,q1y,Nat.zero_add]
  · congr 1
    show q0y Prod.fst (q0B 99 (C.length:Int)) _ [(q0B 99 (C.length:Int),[])]=[(q0B 99 (C.length:Int),q0V C.length [p])]
    rw[z2b]
    unfold q0y
    simp
  · exact q4g (by omega) (by omega) fun j _ h2=>by omega
def q0q (C:Cks):Nat:=(C.map q0M).sum
theorem q3o : ∀(C:Cks) (i:Nat),q1K (q2z i C)=q0q C
  |[],_=>rfl
  | ps::r,i=>by
    have e:q2z i (ps::r)=[(q0B 99 (i:Int),q0V i ps)]++q2z (i+1) r:=rfl
    rw[e,q0z,q8p,q3o r]
    simp[q0q,q1E]
structure okC (C:Cks):Prop where
  few:C.length≤200
  size: ∀ps∈C,q0M ps≤4096
  pay: ∀ps∈C,∀p∈ps,p.length≤2000
  full: ∀ps∈C,ps≠[]
structure Oth where
  X:List (List UInt8×List UInt8)
  Z:List (List UInt8×List UInt8)
def noO :Oth:=⟨[],[]⟩
structure okOth (E:Oth):Prop where
  before: ∀y∈E.X,∀k:Nat,k≤999999→bytesBefore y.1 (q0B 99 (k:Int))=true
  behind: ∀y∈E.Z,∀k:Nat,k≤999999→bytesBefore (q0B 99 (k:Int)) y.1=true
  new: ∀y,y∈E.X∨y∈E.Z→y.1≠[110,101,119]
  kind: ∀y,y∈E.X∨y∈E.Z→(q0p y.1).2.2=true→(q0p y.1).1≠99
  len: ∀y,y∈E.X∨y∈E.Z→y.1.length≤1000
  few:E.X.length+E.Z.length≤190
theorem okOth.no :okOth noO:=⟨(fun _ h=>by cases h),(fun _ h=>by cases h),(fun _ h=>by rcases h with h|h<;>cases h),(fun _ h=>by rcases h with h|h<;>cases h),(fun _ h=>by rcases h with h|h<;>cases h),Nat.zero_le _⟩
def q2G (E:Oth):Nat:=q1K E.X+q1K E.Z
def q2o (E:Oth) (C:Cks):List (List UInt8×List UInt8):=E.X++(q2z 0 C++E.Z)
def z2O (E:Oth) (C:Cks):List (List UInt8×List UInt8):=E.X++(q2z 0 C++((q0B 99 (C.length:Int),[])::E.Z))
theorem q6W (E:Oth) (C:Cks):(q2o E C).length=E.X.length+C.length+E.Z.length:=by simp[q2o,q3T];omega
theorem z1Z {a b:List UInt8} (h:bytesBefore a b=true):a≠b:=fun e=>by rw[e,WideAt.bytes_irrefl] at h;cases h
theorem okOth.neX {E:Oth} (h:okOth E) {k:Nat} (hk:k≤999999): ∀y∈E.X,Prod.fst y≠q0B 99 (k:Int):=fun y hy=>z1Z (h.before y hy k hk)
theorem okOth.neZ {E:Oth} (h:okOth E) {k:Nat} (hk:k≤999999): ∀y∈E.Z,Prod.fst y≠q0B 99 (k:Int):=fun y hy e=>z1Z (h.behind y hy k hk) e.symm
theorem q1D {α:Type} {k:α→List UInt8} {nm:List UInt8} {a b:List α} (h: ∀y∈b,k y≠nm):q0E k nm (a++b)=q0E k nm a:=by
  unfold q0E
  rw[List.find?_append]
  have:List.find? (fun y=>k y==nm) b=none:=q0S h
  rw[this];simp
theorem q3t {E:Oth} (hE:okOth E) {C:Cks} {k:Nat} {ps:List (List UInt8)} (hC:C.length≤200) (hk:C[k]?=some ps):q0E Prod.fst (q0B 99 (k:Int)) (q2o E C)=some (q0B 99 (k:Int),q0V k ps):=by
  have hlt:=(List.getElem?_eq_some_iff.1 hk).1
  unfold q2o
  rw[q0Z (hE.neX (by omega)),q1D (hE.neZ (by omega))]
  exact q9m hC hk
theorem z3o {E:Oth} (hE:okOth E) {C:Cks} {k:Nat} (hC:C.length≤200) (hk:C.length≤k) (hk2:k≤999999):q0E Prod.fst (q0B 99 (k:Int)) (q2o E C)=none:=by
  unfold q2o
  rw[q0Z (hE.neX hk2),q1D (hE.neZ hk2)]
  exact q9h hC hk hk2
theorem z5j {E:Oth} (hE:okOth E) {C:Cks} (hC:C.length≤200):q0E Prod.fst [110,101,119] (q2o E C)=none:=by
  unfold q2o
  rw[q0Z fun y hy=>hE.new y (.inl hy),q1D fun y hy=>hE.new y (.inr hy)]
  exact z5y hC
theorem q6D (E:Oth) (C:Cks):q1K (q2o E C)=q2G E+q0q C:=by
  unfold q2o q2G
  rw[q0z,q0z,q3o];omega
theorem z4d (E:Oth) (C:Cks):q1K (z2O E C)=q2G E+q0q C:=by
  have e:z2O E C=E.X++(q2z 0 C++([(q0B 99 (C.length:Int),[])]++E.Z)):=rfl
  rw[e,q0z,q0z,q0z,q3o,q8p]
  unfold q2G
  simp;omega
theorem z4X {E:Oth} (hE:okOth E) {D:Cks} {ps:List (List UInt8)} (p:List UInt8) (hD:D.length≤200):q0y Prod.fst (q0B 99 (D.length:Int)) (fun x=>(x.1,x.2++q1t p)) (q2o E (D++[ps]))=q2o E (D++[ps++[p]]):=by
  unfold q2o
  rw[q3x,q3x,q1y (hE.neX (by omega)),q1y (hE.neZ (by omega)),z3P p hD]
theorem q6E {α:Type} {k:α→List UInt8} {x:α} {b:List α}: ∀{a:List α},(∀y∈a,bytesBefore (k y) (k x)=true)→q1T k x (a++b)=a++q1T k x b
  |[],_=>rfl
  | y ::r,h=>by
    have h1:=h y (List.mem_cons_self)
    have h2:¬bytesBefore (k x) (k y)=true:=fun h3=>by
      have:=WideShapes.bytes_trans _ _ _ h1 h3
      rw[WideAt.bytes_irrefl] at this
      cases this
    rw[List.cons_append,q1T,if_neg h2,q6E fun z hz=>h z (List.mem_cons_of_mem _ hz)]
    rfl
theorem z2V {α:Type} {k:α→List UInt8} {x:α}: ∀{b:List α},(∀y∈b,bytesBefore (k x) (k y)=true)→q1T k x b=x::b
  |[],_=>rfl
  |y::r,h=>by rw[q1T,if_pos (h y (List.mem_cons_self))]
theorem z5x {E:Oth} (hE:okOth E) {C:Cks} (hC:C.length≤200):q1T Prod.fst (q0B 99 (C.length:Int),[]) (q2o E C)=z2O E C:=by
  unfold q2o z2O
  rw[q6E fun y hy=>hE.before y hy _ (by omega),q6E fun y hy=>?_,z2V fun y hy=>hE.behind y hy _ (by omega)]
  obtain ⟨j,h1,h2,h3⟩:=q2C hy
  rw[h3]
  exact q5e (by omega) (by omega) (by omega)
theorem z4w {E:Oth} (hE:okOth E) {C:Cks} (hC:C.length≤200):q0E Prod.fst (q0B 99 (C.length:Int)) (z2O E C)=some (q0B 99 (C.length:Int),[]):=by
  unfold z2O
  rw[q0Z (hE.neX (by omega)),q0Z (q4g (by omega) (by omega) fun j _ h2=>by omega)]
  unfold q0E;rw[List.find?_cons_of_pos (by simp)]
theorem z2a {E:Oth} (hE:okOth E) {C:Cks} (p:List UInt8) (hC:C.length≤200):q0y Prod.fst (q0B 99 (C.length:Int)) (fun x=>(x.1,x.2++(q2J C.length++q1t p))) (z2O E C)=q2o E (C++[[p]]):=by
  have e:z2O E C=E.X++((q2z 0 C++[(q0B 99 (C.length:Int),[])])++E.Z):=by simp[z2O]
  rw[e]
  unfold q2o
  rw[q3x,q3x,q1y (hE.neX (by omega)),q1y (hE.neZ (by omega)),z2t p hC]
theorem z2Q (E:Oth) (C:Cks):(q2o E C).map Prod.fst=E.X.map Prod.fst++((List.range C.length).map (fun k:Nat=>q0B 99 (k:Int))++E.Z.map Prod.fst):=by
  unfold q2o
  rw[List.map_append,List.map_append,q7U,List.range_eq_range']
structure Lgd (E:Oth) (σ:DM) (c s:Int) (C:Cks):Prop where
  pl:Pl σ (c+(q2G E:Int)) s (q2o E C)
  ok:okC C
  oth:okOth E
theorem okC.nil :okC []:=⟨Nat.zero_le _,(fun _ h=>by cases h),(fun _ h=>by cases h),(fun _ h=>by cases h)⟩
theorem okC.grow {D:Cks} {ps:List (List UInt8)} {p:List UInt8} (h:okC (D++[ps])) (hp:p.length≤2000) (hs:q0M ps+(p.length+12)≤4096):okC (D++[ps++[p]]):=by
  have m:ps∈D++[ps]:=by simp
  refine ⟨by simpa using h.few,fun q hq=>?_,fun q hq=>?_,fun q hq=>?_⟩
  all_goals rcases List.mem_append.1 hq with h1|h1
  · exact h.size q (List.mem_append_left _ h1)
  · obtain rfl:=List.mem_singleton.1 h1;rw[q5E];exact hs
  · exact h.pay q (List.mem_append_left _ h1)
  · obtain rfl:=List.mem_singleton.1 h1
    intro x hx
    rcases List.mem_append.1 hx with h2|h2
    · exact h.pay ps m x h2
    · obtain rfl:=List.mem_singleton.1 h2;exact hp
  · exact h.full q (List.mem_append_left _ h1)
  · obtain rfl:=List.mem_singleton.1 h1;simp
theorem okC.more {C:Cks} {p:List UInt8} (h:okC C) (hp:p.length≤2000) (hn:C.length<200):okC (C++[[p]]):=by
  refine ⟨by simp;omega,fun q hq=>?_,fun q hq=>?_,fun q hq=>?_⟩
  all_goals rcases List.mem_append.1 hq with h1|h1
  · exact h.size q h1
  · obtain rfl:=List.mem_singleton.1 h1;rw[q4q];omega
  · exact h.pay q h1
  · obtain rfl:=List.mem_singleton.1 h1
    intro x hx
    obtain rfl:=List.mem_singleton.1 hx;exact hp
  · exact h.full q h1
  · obtain rfl:=List.mem_singleton.1 h1;simp
def q3J (C:Cks):Int:=match C.getLast? with|none=>0|some ps=>((C.length:Int)-1)*4096+(q0M ps:Int)
theorem z5s :q3J []=0:=rfl
theorem q6K (D:Cks) (ps:List (List UInt8)):q3J (D++[ps])=(D.length:Int)*4096+(q0M ps:Int):=by
  unfold q3J
  simp
def q0K (C:Cks):List Int:=C.map fun ps=>(q0M ps:Int)
theorem q1x (D:Cks) (ps:List (List UInt8)):q0K (D++[ps])=q0K D++[(q0M ps:Int)]:=by simp[q0K]
theorem q0d (C:Cks):(q0K C).length=C.length:=by simp[q0K]
theorem q6F (D:Cks) (ps:List (List UInt8)):(q0K (D++[ps])).getD D.length 0=(q0M ps:Int):=by
  rw[q1x]
  have:D.length=(q0K D).length:=(q0d D).symm
  rw[List.getD_eq_getElem?_getD,this,List.getElem?_append_right (Nat.le_refl _)]
  simp
theorem z3C (D:Cks) (ps qs:List (List UInt8)):(q0K (D++[ps])).set D.length (q0M qs:Int)=q0K (D++[qs]):=by
  rw[q1x,q1x]
  have:D.length=(q0K D).length:=(q0d D).symm
  rw[this]
  simp
theorem q9w (C:Cks) (i:Nat) {ps:List (List UInt8)} (h:C[i]?=some ps):(q0K C).getD i 0=(q0M ps:Int):=by
  unfold q0K;rw[List.getD_eq_getElem?_getD,List.getElem?_map,h];rfl
def q3g (C:Cks) (p:List UInt8):Bool:=match C.getLast? with|none=>false|some ps=>decide (q0M ps+(p.length+12)≤4096)
def q0n (free:Int) (C:Cks) (p:List UInt8):Int×Int×Cks:=
  if 2000<p.length then (0,3,C)
  else if q3g C p then (if free-((p.length:Int)+12)<6000 then (0,60,C) else (q3J C,0,C.dropLast++[C.getLast?.getD []++[p]]))
  else if 200≤C.length∨free-((p.length:Int)+24)<6000 then (0,60,C) else ((C.length:Int)*4096+12,0,C++[[p]])
def q3B (free sure:Int) (C:Cks) (p:List UInt8):Int:=
  if (q0n free C p).2.1=0∧q3g C p=false∧C≠[] then q3J C else sure
def q3d :Nat→List (List UInt8)→List (Nat×List UInt8)
  |_,[]=>[]
  |a,p::r=>(a,p)::q3d (a+p.length+12) r
def q1k :Nat→Cks→List (Nat×List UInt8)
  |_,[]=>[]
  |b,ps::r=>q3d (b+12) ps++q1k (b+4096) r
def q3D (C:Cks) (pos:Int):Option (Nat×List UInt8):=(q1k 0 C).find? fun r=>decide (pos≤(r.1:Int))
end Go.Proofs.YtmajfklnagdlpaaGreatDoor
namespace Go.Proofs.YtmajfklnagdlpaaGreatDoor
open Go.RowKit
theorem q5v : ∀(ps:List (List UInt8)) (a:Nat),∀r∈q3d a ps,a≤r.1∧r.1+r.2.length+12≤a+(ps.map fun p=>p.length+12).sum
  |[],_,r,h=>by cases h
  | p ::t,a,r,h=>by
    rw[q3d] at h
    rcases List.mem_cons.1 h with rfl|h
    · simp only[List.map_cons,List.sum_cons];omega
    · have:=q5v t _ r h
      simp only[List.map_cons,List.sum_cons];omega
theorem q5r : ∀(C:Cks) (b:Nat),(∀ps∈C,q0M ps≤4096)→ ∀r∈q1k b C,b+12≤r.1∧r.1<b+4096*C.length
  |[],_,_,r,h=>by cases h
  | ps ::t,b,hs,r,h=>by
    rw[q1k] at h
    have h1:=hs ps (List.mem_cons_self)
    unfold q0M at h1
    rcases List.mem_append.1 h with h|h
    · have:=q5v ps _ r h
      simp only[List.length_cons];omega
    · have:=q5r t _ (fun q hq=>hs q (List.mem_cons_of_mem _ hq)) r h
      simp only[List.length_cons];omega
theorem q6o : ∀(C:Cks) (b n:Nat),q1k b C=q1k b (C.take n)++q1k (b+4096*n) (C.drop n)
  |C,b,0=>by simp[q1k]
  |[],b,n+1=>by simp[q1k]
  | ps::t,b,n+1=>by
    rw[List.take_succ_cons,List.drop_succ_cons,q1k,q1k,q6o t (b+4096) n,List.append_assoc]
    congr 3;omega
theorem z3u {pos:Int} {l m:List (Nat×List UInt8)} (h: ∀r∈l,(r.1:Int)<pos):(l++m).find? (fun r=>decide (pos≤(r.1:Int)))=m.find? fun r=>decide (pos≤(r.1:Int)):=by
  rw[List.find?_append]
  have:l.find? (fun r=>decide (pos≤(r.1:Int)))=none:=List.find?_eq_none.2 fun r hr=>by have:=h r hr;simp;omega
  rw[this];rfl
theorem z0U (C:Cks) (pos:Int) (hs: ∀ps∈C,q0M ps≤4096) (n:Nat) (hn:(n:Int)*4096≤pos):q3D C pos=(q1k (4096*n) (C.drop n)).find? fun r=>decide (pos≤(r.1:Int)):=by
  unfold q3D
  rw[q6o C 0 n,Nat.zero_add]
  refine z3u fun r hr=>?_
  have:=q5r (C.take n) 0 (fun ps h=>hs ps (List.mem_of_mem_take h)) r hr
  have h2:(C.take n).length≤n:=List.length_take_le _ _
  omega
theorem q5U : ∀(ps:List (List UInt8)) (a:Nat),(q3d a ps).length=ps.length
  |[],_=>rfl
  |p::t,a=>by simp[q3d,q5U t]
theorem z1w : ∀(ps:List (List UInt8)) (a k:Nat) (p:List UInt8),ps[k]?=some p→(q3d a ps)[k]?=some (a+((ps.take k).map fun p=>p.length+12).sum,p)
  |[],_,k,p,h=>by simp at h
  | q::t,a,0,p,h=>by
    simp only[List.getElem?_cons_zero,Option.some.injEq] at h
    subst h;simp[q3d]
  | q::t,a,k+1,p,h=>by
    rw[List.getElem?_cons_succ] at h
    rw[q3d,List.getElem?_cons_succ,z1w t _ k p h,List.take_succ_cons,List.map_cons,List.sum_cons]
    congr 2;omega
theorem q7v : ∀(ps:List (List UInt8)) (a k:Nat) (p:List UInt8),ps[k]?=some p→(q1G a ps)[k]?=some (a+((ps.take k).map fun p=>p.length+12).sum,a+((ps.take k).map fun p=>p.length+12).sum+p.length+12)
  |[],_,k,p,h=>by simp at h
  | q::t,a,0,p,h=>by
    simp only[List.getElem?_cons_zero,Option.some.injEq] at h
    subst h;simp[q1G]
  | q::t,a,k+1,p,h=>by
    rw[List.getElem?_cons_succ] at h
    rw[q1G,List.getElem?_cons_succ,q7v t _ k p h,List.take_succ_cons,List.map_cons,List.sum_cons]
    congr 2<;>omega
theorem z9L (n:Nat) (ps:List (List UInt8)) (k:Nat) (p:List UInt8) (h:ps[k]?=some p) (hp:p.length≤2000):q8n (q0V n ps) (q0M (ps.take k))=some (p,q0M (ps.take k)+p.length+12):=by
  obtain ⟨hk,rfl⟩:=List.getElem?_eq_some_iff.1 h
  have e:ps=ps.take k++ps[k]::ps.drop (k+1):=by rw[List.getElem_cons_drop];exact (List.take_append_drop _ _).symm
  have:=z4L n (ps.take k) ps[k] (ps.drop (k+1)) hp
  rwa [←e] at this
end Go.Proofs.YtmajfklnagdlpaaGreatDoor
namespace Go.Proofs.YtmajfklnagdlpaaGreatDoor
open Go.RowKit
set_option maxRecDepth 100000
set_option linter.unusedVariables false
set_option maxHeartbeats 6400000
end Go.Proofs.YtmajfklnagdlpaaGreatDoor
