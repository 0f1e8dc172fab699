/- Plain laws. -/
import Derived.Test.YthdekbmdkpcooaaGreatDoorG3WP
import Derived.Test.YthdekbmdkpcooaaGreatDoorG8WP
import Derived.Test.YthdekbmdkpcooaaGreatDoorG9WP
import Derived.Laws.BitsLemmas
set_option linter.unusedVariables false
set_option linter.unusedSimpArgs false
set_option maxRecDepth 100000
set_option maxHeartbeats 6400000
namespace Go.Proofs.YthdekbmdkpcooaaGreatDoor
theorem η10 {p:Prop} (h:p):Go.RowKit.Hid p:=Lib.hid h
section
open Go.RowKit
theorem q2K (a b:List UInt8):(⟨a.toArray⟩:ByteArray)++⟨b.toArray⟩=⟨(a++b).toArray⟩:=by rw[ByteArray.mk_append_mk];first|done|simp
def q2M (p:List UInt8):List UInt8:=q1N (be 4 p.length++p)++be 4 p.length
def q4D (s:List UInt8) (a:Nat):Nat:=q1H ((s.drop a).take 4)
def isR (s:List UInt8) (a:Nat):Bool:=
 decide (a+12≤s.length)&&decide (q4D s a≤2000)&&decide (a+q4D s a+12≤s.length)
 &&q1v ((s.drop a).take (q4D s a+8))&&decide ((s.drop (a+q4D s a+8)).take 4=(s.drop a).take 4)
def q5D (s:List UInt8) (a:Nat):Option (List UInt8×Nat):=
 if isR s a then some ((s.drop (a+4)).take (q4D s a),a+q4D s a+12) else none
def q5j :Nat→List UInt8→Nat→List (Nat×Nat)
 |0,_,_=>[]
 | f+1,s,a=>match q5D s a with
  |none=>[]
  |some (_,b)=>(a,b)::q5j f s b
def q0m (s:List UInt8) (a:Nat):List (Nat×Nat):=q5j (s.length+1) s a
def q9D (a:Nat) (l:List (Nat×Nat)):Nat:=(l.getLast?.map Prod.snd).getD a
def q2W (n:Nat):List UInt8:=q1N ([99,104,110,107]++be 4 n)
def q4i (ps:List (List UInt8)):List UInt8:=(ps.map q2M).flatten
def q0S (n:Nat) (ps:List (List UInt8)):List UInt8:=q2W n++q4i ps
def q0K (ps:List (List UInt8)):Nat:=12+(ps.map fun p=>p.length+12).sum
def q1S :Nat→List (List UInt8)→List (Nat×Nat)
 |_,[]=>[]
 |a,p::r=>(a,a+p.length+12)::q1S (a+p.length+12) r
theorem q1F (p:List UInt8):(q2M p).length=p.length+12:=by
 simp only[q2M,List.length_append,q1E,q0H];omega
theorem q2p (n:Nat):(q2W n).length=12:=by simp[q2W,q1E,q0H]
theorem z0K (ps:List (List UInt8)):(q4i ps).length=(ps.map fun p=>p.length+12).sum:=by
 unfold q4i
 induction ps with
 |nil=>rfl
 |cons p r ih=>simp[q1F,ih]
theorem q1I (n:Nat) (ps:List (List UInt8)):(q0S n ps).length=q0K ps:=by
 simp[q0S,q0K,q2p,z0K]
theorem z3x (ps:List (List UInt8)) (p:List UInt8):q4i (ps++[p])=q4i ps++q2M p:=by simp[q4i]
theorem z1K (n:Nat) (ps:List (List UInt8)) (p:List UInt8):q0S n (ps++[p])=q0S n ps++q2M p:=by simp[q0S,z3x]
theorem z4T (n:Nat) (p:List UInt8):q0S n [p]=q2W n++q2M p:=by simp[q0S,q4i]
theorem q2T (ps:List (List UInt8)) (p:List UInt8):q0K (ps++[p])=q0K ps+(p.length+12):=by simp[q0K,List.sum_append];omega
theorem q4P (p:List UInt8):q0K [p]=12+(p.length+12):=by simp[q0K]
theorem z0U {s:List UInt8} {a b:Nat} {p:List UInt8} (h:q5D s a=some (p,b)):
  p.length≤2000∧b=a+p.length+12∧b≤s.length∧p=(s.drop (a+4)).take p.length∧q4D s a=p.length:=by
 unfold q5D at h
 split at h
 case isFalse=>cases h
 case isTrue hi=>
  unfold isR at hi;simp only[Bool.and_eq_true,decide_eq_true_eq] at hi;obtain ⟨⟨⟨⟨h1,h2⟩,h3⟩,h4⟩,h5⟩:=hi;simp only[Option.some.injEq,Prod.mk.injEq] at h;obtain ⟨rfl,rfl⟩:=h;have hl:((s.drop (a+4)).take (q4D s a)).length=q4D s a:=by simp;omega
  rw[hl];exact ⟨h2,rfl,h3,rfl,rfl⟩
theorem z9A {α:Type} (pre m post:List α) {a:Nat} (h:a=pre.length):(pre++m++post).drop a=m++post:=by
 subst h;rw[List.append_assoc,List.drop_left]
theorem z2Q (pre p post:List UInt8) (hp:p.length≤2000) {a:Nat} (ha:a=pre.length):q5D (pre++q2M p++post) a=some (p,a+p.length+12):=by
 have hd:(pre++q2M p++post).drop a=be 4 p.length++(p++(q7v (q1c (be 4 p.length++p))++(be 4 p.length++post))):=by
  rw[z9A _ _ _ ha];simp[q2M,q1N]
 have hb:(be 4 p.length).length=4:=q0H 4 _;have hlow:=q4t (q1c (be 4 p.length++p));have hlong:q4D (pre++q2M p++post) a=p.length:=by
  unfold q4D;rw[hd,List.take_left' hb,q4w];omega
 have hlen:(pre++q2M p++post).length=a+(p.length+12)+post.length:=by simp[q1F,ha];omega
 have hi:isR (pre++q2M p++post) a=true:=by
  unfold isR;rw[hlong];simp only[Bool.and_eq_true,decide_eq_true_eq];refine ⟨⟨⟨⟨by omega,hp⟩,by omega⟩,?_⟩,?_⟩
  ·have e:((pre++q2M p++post).drop a).take (p.length+8)=q1N (be 4 p.length++p):=by
    rw[hd];have:be 4 p.length++(p++(q7v (q1c (be 4 p.length++p))++(be 4 p.length++post)))=q1N (be 4 p.length++p)++(be 4 p.length++post):=by simp[q1N]
    rw[this];exact List.take_left' (by simp[q1E,hb];omega)
   rw[e];unfold q1v;simp only[Bool.and_eq_true,decide_eq_true_eq,q1E];refine ⟨by omega,?_⟩;have e2:(q1N (be 4 p.length++p)).take ((be 4 p.length++p).length+4-4)=be 4 p.length++p:=by
    unfold q1N;exact List.take_left' (by omega)
   rw[e2]
  ·have e:(pre++q2M p++post).drop (a+p.length+8)=be 4 p.length++post:=by
    have:a+p.length+8=a+(p.length+8):=by omega
    rw[this,←List.drop_drop,hd];have:be 4 p.length++(p++(q7v (q1c (be 4 p.length++p))++(be 4 p.length++post)))=(be 4 p.length++(p++q7v (q1c (be 4 p.length++p))))++(be 4 p.length++post):=by simp
    rw[this];exact List.drop_left' (by simp[hb,hlow];omega)
   rw[e,hd,List.take_left' hb,List.take_left' hb]
 unfold q5D;rw[if_pos hi,hlong]
 congr 2
 rw[←List.drop_drop,hd];have e3:(be 4 p.length++(p++(q7v (q1c (be 4 p.length++p))++(be 4 p.length++post)))).drop 4=p++(q7v (q1c (be 4 p.length++p))++(be 4 p.length++post)):=List.drop_left' hb;rw[e3];exact List.take_left' rfl
theorem z5X (s:List UInt8) (a:Nat) (h:s.length<a+12):q5D s a=none:=by
 unfold q5D isR;rw[decide_eq_false (by omega)];simp
theorem q8G : ∀(ps:List (List UInt8)) (pre:List UInt8) (f a:Nat),(∀p∈ps,p.length≤2000)→a=pre.length→ps.length<f→q5j f (pre++q4i ps) a=q1S a ps
 |[],pre,0,a,_,_,hf=>by simp at hf
 | [],pre,f+1,a,_,ha,_=>by
  unfold q5j;rw[z5X _ _ (by simp[q4i,ha])]
  rfl
 |p::r,pre,0,a,_,_,hf=>by simp at hf
 | p::r,pre,f+1,a,hp,ha,hf=>by
  have e:pre++q4i (p::r)=pre++q2M p++q4i r:=by simp[q4i]
  rw[e];unfold q5j;rw[z2Q pre p (q4i r) (hp p (List.mem_cons_self)) ha];show _::q5j f (pre++q2M p++q4i r) (a+p.length+12)=_;rw[q8G r (pre++q2M p) f _ (fun q hq=>hp q (List.mem_cons_of_mem _ hq)) (by simp[q1F,ha];omega) (by simp at hf;omega)]
  rfl
theorem z8m (ps:List (List UInt8)):12*ps.length≤(ps.map fun p=>p.length+12).sum:=by
 induction ps with
 |nil=>simp
 |cons p r ih=>simp only[List.map_cons,List.sum_cons,List.length_cons];omega
theorem q6q (n:Nat) (ps:List (List UInt8)) (hp: ∀p∈ps,p.length≤2000):q0m (q0S n ps) 12=q1S 12 ps:=by
 unfold q0m;refine q8G ps (q2W n) _ 12 hp (q2p n).symm ?_;have:=z8m ps;show _<(q0S n ps).length+1;rw[q1I];unfold q0K;omega
theorem q6E : ∀(ps:List (List UInt8)) (p:List UInt8) (a:Nat),q1S a (ps++[p])=q1S a ps++[(a+(ps.map fun p=>p.length+12).sum,a+(ps.map fun p=>p.length+12).sum+p.length+12)]
 |[],p,a=>by simp[q1S]
 | q::r,p,a=>by
  rw[List.cons_append,q1S,q6E r p,q1S,List.cons_append];simp only[List.map_cons,List.sum_cons]
  congr 4<;>omega
theorem z1q : ∀(ps:List (List UInt8)) (a:Nat),q9D a (q1S a ps)=a+(ps.map fun p=>p.length+12).sum:=fun ps a=>by
 rcases List.eq_nil_or_concat ps with rfl|⟨r,p,rfl⟩
 ·rfl
 ·rw[List.concat_eq_append,q6E]
  unfold q9D;simp only[List.getLast?_append,List.getLast?_singleton,Option.some_or,Option.map_some,Option.getD_some,List.map_append,List.map_cons,List.map_nil,List.sum_append,List.sum_cons,List.sum_nil];omega
theorem q2V : ∀(ps:List (List UInt8)) (a:Nat),(q1S a ps).length=ps.length
 |[],_=>rfl
 |p::r,a=>by simp[q1S,q2V r]
theorem z5i (n:Nat) (l:List (List UInt8)) (p:List UInt8) (r:List (List UInt8)) (hp:p.length≤2000):q5D (q0S n (l++p::r)) (q0K l)=some (p,q0K l+p.length+12):=by
 have e:q0S n (l++p::r)=q0S n l++q2M p++q4i r:=by simp[q0S,q4i]
 rw[e];exact z2Q _ _ _ hp (q1I n l).symm
end
section
open Go.RowKit
theorem q9t (a b:En) (w:World):Calls Tryz.prog 132 #[enV a,enV b] w fun e w'=>e= .returned (.bool (q0h a b))∧Ext w w':=by
 obtain ⟨a1,a2,a3⟩:=a;obtain ⟨b1,b2,b3⟩:=b;have HB:=η10 (q5T w (.cells #[.int .u64 a1,.int .i64 a2,.int .i64 a3] 106) (.cells #[.int .u64 b1,.int .i64 b2,.int .i64 b3] 106));have HL:Hid (q0h (a1,a2,a3) (b1,b2,b3)=if a1≠b1 then decide (a1<b1) else if a2≠b2 then decide (a2<b2) else decide (a3<b3)):=η10 rfl;show Calls Tryz.prog 132 #[.agg #[.int .u64 a1,.int .i64 a2,.int .i64 a3],.agg #[.int .u64 b1,.int .i64 b2,.int .i64 b3]] w _;by_cases h1:a1=b1
 ·subst h1
  by_cases h2:a2=b2
  ·subst h2
   go_enter Tryz.func132,Tryz.ntmps132;go_wp2_with fail;go_ret;exact ⟨rb (by rw[HL.out];simp),HB.out⟩
  ·have hn:(a2 !=b2)=true:=by simpa using h2
   go_enter Tryz.func132,Tryz.ntmps132;go_wp2_with fail;go_ret;exact ⟨rb (by rw[HL.out];simp[h2]),HB.out⟩
 ·have hn:(a1 !=b1)=true:=by simpa using h1
  go_enter Tryz.func132,Tryz.ntmps132;go_wp2_with fail;go_ret;exact ⟨rb (by rw[HL.out];simp[h1]),HB.out⟩
theorem q8X {L:List En} {k:Nat} (hk:k+1<L.length):q4C (L.take (k+2))=(q4C (L.take (k+1))&&q0h (L.getD k en0) (L.getD (k+1) en0)):=by
 rw[Bool.eq_iff_iff,Bool.and_eq_true,q3A,q3A];have e1:L.take (k+2)=L.take (k+1)++[L.getD (k+1) en0]:=q0U L en0 (k+1) hk;have e2:L.take (k+1)=L.take k++[L.getD k en0]:=q0U L en0 k (by omega);rw[e1];unfold q0u;rw[List.pairwise_append]
 constructor
 ·rintro ⟨h1,_,h3⟩
  exact ⟨h1,h3 _ (by rw[e2];simp) _ (by simp)⟩
 ·rintro ⟨h1,h2⟩
  refine ⟨h1,by simp,fun x hx y hy=>?_⟩;obtain rfl:=List.mem_singleton.1 hy;rw[e2] at hx h1;rcases List.mem_append.1 hx with hx|hx
  ·exact q1L ((List.pairwise_append.1 h1).2.2 x hx _ (by simp)) h2
  ·obtain rfl:=List.mem_singleton.1 hx;exact h2
theorem z2G {L:List En} {k:Nat} (hk:k+1<L.length) (h:q0h (L.getD k en0) (L.getD (k+1) en0)=false):q4C L=false:=by
 cases hs:q4C L with
 |false=>rfl
 | true=>
  rw[q3A] at hs;have h1:q0u (L.take (k+2)):=hs.sublist (List.take_sublist _ _);rw[←q3A,q8X hk,h,Bool.and_false] at h1
  cases h1
theorem z8E {ao:Option Addr} {n cap:Nat} {L:List En} (w:World) (hx:Ens w ao n cap L):Calls Tryz.prog 246 #[.slice ao n cap] w fun e w'=>e= .returned (.bool (q4C L))∧Ext w w':=by
 have Hx:=η10 hx;have b1:=hx.fits;have b2:=hx.bound;have HLen:=η10 hx.len;clear hx;go_enter Tryz.func246,Tryz.ntmps246;go_wp2_with fail
 go_loopw [3] (fun i W=> ∃k:Nat,k+1≤max n 1∧i= .int .i64 ((k:Int)+1)∧q4C (L.take (k+1))=true∧Ext w W) (fun i _=>n-(intOf i).toNat)
 case atStart=>
  refine ⟨0,by omega,rfl,?_,Ext.refl _⟩
  cases L with
  |nil=>rfl
  |cons a r=>rfl
 case round=>
  obtain ⟨k,hk,rfl,hs,hb⟩:=hrel;have HS:=η10 hs;have HB:=η10 hb;by_cases hlt:k+1<n
  ·have hd:decide (((k:Int)+1)<(n:Int))=true:=by simp;omega
   obtain ⟨b,off,rfl,c0,c1,c2⟩:=(Hx.out.ext hb).at (i:=k) (by omega);obtain ⟨_,_,e1,d0,d1,d2⟩:=(Hx.out.ext hb).at (i:=k+1) hlt
   cases e1;have HT:=η10 (q8X (L:=L) (k:=k) (by rw[HLen.out];exact hlt));have HF:=η10 (z2G (L:=L) (k:=k) (by rw[HLen.out];exact hlt));obtain ⟨x,hx⟩: ∃x,L.getD k en0=x:=⟨_,rfl⟩
   obtain ⟨y,hy⟩: ∃y,L.getD (k+1) en0=y:=⟨_,rfl⟩
   rw[hx] at c0 c1 c2;rw[hy] at d0 d1 d2;rw[hx,hy] at HT HF;obtain ⟨q,hq⟩: ∃q,q0h x y=q:=⟨_,rfl⟩
   have HLs:=η10 (fun W=>q9t x y W);rw[hq] at HLs HT HF;obtain ⟨x1,x2,x3⟩:=x;obtain ⟨y1,y2,y3⟩:=y;unfold enV ec at HLs;have u0:=q0D c0;have u1:=q0D c1;have u2:=q0D c2;have v0:=q0D d0;have v1:=q0D d1;have v2:=q0D d2;have hw1:IntKind.i64.wrap ((k:Int)+1-1)=(k:Int):=by rw[IntKind.wrap_i64];omega
   have hw2:IntKind.i64.wrap (k:Int)=(k:Int):=by rw[IntKind.wrap_i64];omega
   clear hx hy hs hb hq
   cases q with
   | true=>
    go_wp2_with fail;refine q0E (by kernel_rfl) (by kernel_rfl) ?_
    repeat (go_big_quiet_step (first|(go_at_call 132;exact Calls.quiet_ext (HLs.out _))))
    refine wpQuiet_nil ?_;intro w2 hw2;have HB2:=η10 (HB.out.trans hw2);clear hw2;go_wp2_with fail
    go_roundw
    case rel=>exact ⟨k+1,by omega,by go_num,by rw[HT.out,HS.out];rfl,HB2.out⟩
    case measure=>simp[intOf];omega
   | false=>
    go_wp2_with fail;refine q0E (by kernel_rfl) (by kernel_rfl) ?_
    repeat (go_big_quiet_step (first|(go_at_call 132;exact Calls.quiet_ext (HLs.out _))))
    refine wpQuiet_nil ?_;intro w2 hw2;have HB2:=η10 (HB.out.trans hw2);clear hw2;go_wp2_with fail;go_ret;exact ⟨rb (HF.out (by first|rfl|trivial)),HB2.out⟩
  ·have hd:decide (((k:Int)+1)<(n:Int))=false:=by simp;omega
   have HF:Hid (q4C L=true):=η10 (by rwa [List.take_of_length_le (by rw[HLen.out];omega)] at hs);clear hs hb;go_wp2_with fail;go_ret;exact ⟨rb HF.out,HB.out⟩
end
section
open Go.RowKit
theorem q2z (s:List UInt8) (lo hi:Int) (a b:Nat) (hlo:lo=(a:Int)) (hhi:hi=(b:Int)) (h:a≤b) (h2:b≤s.length) {X:List UInt8} (hX:(s.take b).drop a=X):
  ∀w,(Instr.slice 9 (.string ⟨s.toArray⟩) (some (.int .i64 lo)) (some (.int .i64 hi)) none).run Tryz.prog w= .ok (.string ⟨X.toArray⟩) w:=fun w=>by
 have h3:=run_slice_string (P:=Tryz.prog) w 9 ⟨s.toArray⟩ .i64 .i64 lo hi Tryz.underlying9 (by omega) (by omega) (by simp[ByteArray.size];omega);rw[h3,hlo,hhi,←hX];show _=Result.ok (Value.string ⟨((s.take b).drop a).toArray⟩) w;rw[←q2v];rfl
theorem q4W (s:List UInt8) (hi:Int) (b:Nat) (hhi:hi=(b:Int)) (h2:b≤s.length):
  ∀w,(Instr.slice 9 (.string ⟨s.toArray⟩) none (some (.int .i64 hi)) none).run Tryz.prog w= .ok (.string ⟨(s.take b).toArray⟩) w:=fun w=>by
 have h3:=run_slice_string_to_if (P:=Tryz.prog) w 9 ⟨s.toArray⟩ .i64 hi Tryz.underlying9;have hs:(ByteArray.size ⟨s.toArray⟩)=s.length:=by simp[ByteArray.size]
 rw[h3,hs,if_pos (by omega),hhi];show Result.ok (Value.string ((⟨s.toArray⟩:ByteArray).extract 0 b)) w=_;rw[q2v];rfl
theorem q2r (s:List UInt8) (lo:Int) (a:Nat) (hlo:lo=(a:Int)) (h2:a≤s.length):
  ∀w,(Instr.slice 9 (.string ⟨s.toArray⟩) (some (.int .i64 lo)) none none).run Tryz.prog w= .ok (.string ⟨(s.drop a).toArray⟩) w:=fun w=>by
 have h3:=run_slice_string_from_if (P:=Tryz.prog) w 9 ⟨s.toArray⟩ .i64 lo Tryz.underlying9;have hs:(ByteArray.size ⟨s.toArray⟩)=s.length:=by simp[ByteArray.size]
 rw[h3,hs,if_pos (by omega),hlo];show Result.ok (Value.string ((⟨s.toArray⟩:ByteArray).extract a s.length)) w=_;rw[q2v,List.take_length]
theorem z6J (k:Nat) (N:Int) (w:World) (hN:N=(k:Int)) (hk:k≤9223372036854775807):
  Calls Tryz.prog 121 #[.int .i64 N] w fun e w'=>e= .returned (.string ⟨(be 4 k).toArray⟩)∧Ext w w':=by
 have h0:0≤N:=by omega
 have h1:N≤9223372036854775807:=by omega
 have hk2:N.toNat=k:=by omega
 have HK:=η10 hk2;clear hN hk2;go_enter Tryz.func121,Tryz.ntmps121;go_wp2_with fail;refine (q6j N 4 _ (by omega) (by omega) h0 (by omega)).mono ?_;rintro e w1 ⟨rfl,hb⟩;have HB:=η10 hb;clear hb;rw[HK.out];go_wp2_with fail;go_ret;exact ⟨rfl,HB.out⟩
theorem z6C (p:List UInt8) (w:World) (hp:2000<p.length) (hl:p.length≤9223372036854775807):
  Calls Tryz.prog 73 #[.string ⟨p.toArray⟩] w fun e w'=>e= .returned (.tuple #[.string ⟨#[]⟩,.int .i64 3])∧w=w':=by
 have hd:decide ((2000:Int)<(p.length:Int))=true:=by simp;omega
 go_enter Tryz.func73,Tryz.ntmps73;go_wp2_with fail;go_ret2;exact ⟨rfl,rfl⟩
theorem z8D (p:List UInt8) (w:World) (hp:p.length≤2000):
  Calls Tryz.prog 73 #[.string ⟨p.toArray⟩] w fun e w'=>e= .returned (.tuple #[.string ⟨(q2M p).toArray⟩,.int .i64 0])∧Ext w w':=by
 have hd:decide ((2000:Int)<(p.length:Int))=false:=by simp;omega
 obtain ⟨n,hn⟩: ∃n:Int,n=(p.length:Int):=⟨_,rfl⟩
 have HR:Hid (q2M p=q1N (be 4 p.length++p)++be 4 p.length):=η10 rfl;have hb4:(be 4 p.length).length=4:=q0H 4 _;have hs:(q1N (be 4 p.length++p)).length=p.length+8:=by simp[q1E,hb4];omega
 have HC:=η10 (fun W=>z6J p.length (p.length:Int) W rfl (by omega));have HS:=η10 (fun W=>z2K (be 4 p.length++p) W (by simp[hb4];omega));go_enter Tryz.func73,Tryz.ntmps73;go_wp2_with fail;refine (HC.out _).mono ?_;rintro e w1 ⟨rfl,hb⟩;have HB:=η10 hb;clear hb;generalize be 4 p.length=X at*;go_wp2_with fail;have hs2:=HS.out w1;generalize q1N (X++p)=Y at*;rw[q2K];refine hs2.mono ?_;rintro e w2 ⟨rfl,hb⟩;have HB2:=η10 (HB.out.trans hb);clear hb;go_wp2_with fail;refine (HC.out _).mono ?_;rintro e w3 ⟨rfl,hb⟩;have HB3:=η10 (HB2.out.trans hb);clear hb;go_wp2_with fail;go_ret2;exact ⟨by rw[HR.out,q2K];rfl,HB3.out⟩
end
section
open Go.RowKit
def z0A (s:List UInt8) (a:Nat):Value:=match q5D s a with
 |none=> .tuple #[.string ⟨#[]⟩,.int .i64 0,.bool false]
 |some (p,b)=> .tuple #[.string ⟨p.toArray⟩,.int .i64 b,.bool true]
theorem q7j {s:List UInt8} {a:Nat} (h:isR s a=false):z0A s a= .tuple #[.string ⟨#[]⟩,.int .i64 0,.bool false]:=by unfold z0A q5D;rw[h];rfl
theorem q5O (s:List UInt8) (a k:Nat):(s.take (a+k)).drop a=(s.drop a).take k:=by rw[List.drop_take];congr 1;omega
theorem q9g (s:List UInt8) (a:Nat) (w:World) (hl:s.length≤4611686018427387903) (ha:a≤4611686018427387903):
  Calls Tryz.prog 94 #[.string ⟨s.toArray⟩,.int .i64 (a:Int)] w fun e w'=>e= .returned (z0A s a)∧Ext w w':=by
 by_cases h1:s.length<a+12
 ·have HM:Hid (z0A s a= .tuple #[.string ⟨#[]⟩,.int .i64 0,.bool false]):=η10 (q7j (by unfold isR;rw[decide_eq_false (by omega)];rfl))
  have hd:decide (((s.length:Int)-12)<(a:Int))=true:=by simp;omega
  go_enter Tryz.func94,Tryz.ntmps94;go_wp2_with fail;go_ret3;rw[HM.out];exact ⟨rfl,Ext.refl _⟩
 have hd1:decide (((s.length:Int)-12)<(a:Int))=false:=by simp;omega
 obtain ⟨X,hX⟩: ∃X,(s.drop a).take 4=X:=⟨_,rfl⟩
 have hXl:X.length=4:=by rw[←hX];simp;omega
 have hsX:=q2z s (a:Int) ((a:Int)+4) a (a+4) rfl (by omega) (by omega) (by omega) (by rw[q5O,hX]);obtain ⟨n,hn⟩: ∃n,q4D s a=n:=⟨_,rfl⟩
 have hnX:q1H (X.take 8)=n:=by rw[List.take_of_length_le (by omega),←hX,←hn];rfl
 have hn4:n<4294967296:=by rw[←hnX];have:=q1t (X.take 8);rw[List.length_take,hXl] at this;exact this
 have HG:=η10 (fun W=>q9Z X W (by omega));rw[hnX] at HG;by_cases h2:2000<n∨s.length<a+n+12
 ·have HM:Hid (z0A s a= .tuple #[.string ⟨#[]⟩,.int .i64 0,.bool false]):=η10 (q7j (by
   unfold isR;rw[hn];rcases h2 with h|h
   ·rw[decide_eq_false (p:=n≤2000) (by omega)];simp
   ·rw[decide_eq_false (p:=a+n+12≤s.length) (by omega)];simp))
  clear hX hn hnX hXl;by_cases h3:2000<n
  ·have hd2:decide ((2000:Int)<(n:Int))=true:=by simp;omega
   go_enter Tryz.func94,Tryz.ntmps94;go_wp2_with fail;refine (HG.out _).mono ?_;rintro e w1 ⟨rfl,hb⟩;have HB:=η10 hb;clear hb;go_wp2_with fail;go_ret3;rw[HM.out];exact ⟨rfl,HB.out⟩
  ·have h4:s.length<a+n+12:=by omega
   have hd2:decide ((2000:Int)<(n:Int))=false:=by simp;omega
   have hd3:decide ((s.length:Int)-12-(a:Int)<(n:Int))=true:=by simp;omega
   go_enter Tryz.func94,Tryz.ntmps94;go_wp2_with fail;refine (HG.out _).mono ?_;rintro e w1 ⟨rfl,hb⟩;have HB:=η10 hb;clear hb;go_wp2_with fail;go_ret3;rw[HM.out];exact ⟨rfl,HB.out⟩
 have h5:n≤2000:=by omega
 have h6:a+n+12≤s.length:=by omega
 have hd2:decide ((2000:Int)<(n:Int))=false:=by simp;omega
 have hd3:decide ((s.length:Int)-12-(a:Int)<(n:Int))=false:=by simp;omega
 obtain ⟨Y,hY⟩: ∃Y,(s.drop a).take (n+8)=Y:=⟨_,rfl⟩
 have hYl:Y.length=n+8:=by rw[←hY];simp;omega
 have hsY:=q2z s (a:Int) ((a:Int)+(n:Int)+12-4) a (a+(n+8)) rfl (by omega) (by omega) (by omega) (by rw[q5O,hY]);obtain ⟨Z,hZ⟩: ∃Z,(s.drop (a+n+8)).take 4=Z:=⟨_,rfl⟩
 have hsZ:=q2z s ((a:Int)+(n:Int)+12-4) ((a:Int)+(n:Int)+12) (a+n+8) (a+n+8+4) (by omega) (by omega) (by omega) (by omega) (by rw[q5O,hZ]);have HO:=η10 (fun W=>z2R Y W (by omega));have hi:isR s a=(q1v Y&&decide (Z=X)):=by
  unfold isR;rw[hn,decide_eq_true (p:=a+12≤s.length) (by omega),decide_eq_true h5,decide_eq_true h6,hY,hZ,hX];simp
 have hpay:q1v Y=true→(q1j Y).drop 4=(s.drop (a+4)).take n:=fun h=>by
  unfold q1j;rw[if_pos h,hYl,←hY,List.take_take,List.drop_take,List.drop_drop]
  congr 1;omega
 have hTl:q1v Y=true→(q1j Y).length=n+4:=fun h=>by
  unfold q1j;rw[if_pos h,List.length_take,hYl];omega
 have hS:q5D s a=if isR s a then some ((s.drop (a+4)).take n,a+n+12) else none:=by unfold q5D;rw[hn]
 have HI:=η10 hi;have HP:=η10 hpay;have HTl:=η10 hTl;have HS:=η10 hS;clear hX hn hnX hZ hY hYl hi hpay hTl hS h2 h1;generalize q1j Y=T at*
 cases hb:q1v Y with
 | false=>
  have HM:Hid (z0A s a= .tuple #[.string ⟨#[]⟩,.int .i64 0,.bool false]):=η10 (q7j (by rw[HI.out,hb];rfl));rw[hb] at HO;go_enter Tryz.func94,Tryz.ntmps94;go_wp2_with fail;refine (HG.out _).mono ?_;rintro e w1 ⟨rfl,hb1⟩;have HB:=η10 hb1;clear hb1;go_wp2_with fail;refine (HO.out _).mono ?_;rintro e w2 ⟨rfl,hb2⟩;have HB2:=η10 (HB.out.trans hb2);clear hb2;go_wp2_with fail;refine q0E (by kernel_rfl) (by kernel_rfl) ?_
  repeat (go_big_quiet_step (fail))
  refine wpQuiet_nil ?_;intro w3 hw3;have HB3:=η10 (HB2.out.trans hw3);clear hw3;go_wp2_with fail;go_ret3;rw[HM.out];exact ⟨rfl,HB3.out⟩
 | true =>
  by_cases hzx:Z=X
  ·have HM:Hid (z0A s a= .tuple #[.string ⟨(T.drop 4).toArray⟩,.int .i64 ((a:Int)+(n:Int)+12),.bool true]):=η10 (by
    unfold z0A;rw[HS.out,HI.out,hb,hzx,HP.out hb]
    simp)
   have hTlen:=HTl.out hb;have hsT: ∀w,(Instr.slice 9 (.string ⟨T.toArray⟩) (some (.int .i64 4)) none none).run Tryz.prog w= .ok (.string ⟨(T.drop 4).toArray⟩) w:=fun w=>by
    exact q2r T 4 4 rfl (by omega) w
   rw[hb] at HO;generalize T.drop 4=T4 at*;subst hzx;go_enter Tryz.func94,Tryz.ntmps94;go_wp2_with fail;refine (HG.out _).mono ?_;rintro e w1 ⟨rfl,hb1⟩;have HB:=η10 hb1;clear hb1;go_wp2_with fail;refine (HO.out _).mono ?_;rintro e w2 ⟨rfl,hb2⟩;have HB2:=η10 (HB.out.trans hb2);clear hb2;go_wp2_with fail;refine q0E (by kernel_rfl) (by kernel_rfl) ?_
   repeat (go_big_quiet_step (fail))
   refine wpQuiet_nil ?_;intro w3 hw3;have HB3:=η10 (HB2.out.trans hw3);clear hw3;go_wp2_with fail;go_ret3;rw[HM.out];exact ⟨rfl,HB3.out⟩
  ·have HM:Hid (z0A s a= .tuple #[.string ⟨#[]⟩,.int .i64 0,.bool false]):=η10 (q7j (by rw[HI.out,decide_eq_false hzx,Bool.and_false]))
   have hne:(Z==X)=false:=by simpa using hzx
   have hne':(Z !=X)=true:=by simpa using hzx
   rw[hb] at HO;go_enter Tryz.func94,Tryz.ntmps94;go_wp2_with fail;refine (HG.out _).mono ?_;rintro e w1 ⟨rfl,hb1⟩;have HB:=η10 hb1;clear hb1;go_wp2_with fail;refine (HO.out _).mono ?_;rintro e w2 ⟨rfl,hb2⟩;have HB2:=η10 (HB.out.trans hb2);clear hb2;go_wp2_with fail;refine q0E (by kernel_rfl) (by kernel_rfl) ?_
   repeat (go_big_quiet_step (fail))
   refine wpQuiet_nil ?_;intro w3 hw3;have HB3:=η10 (HB2.out.trans hw3);clear hw3;go_wp2_with fail;go_ret3;rw[HM.out];exact ⟨rfl,HB3.out⟩
end
section
open Go.RowKit
theorem z3O (n:Nat) (w:World) (hn:n<200):
  Calls Tryz.prog 129 #[.int .i64 (n:Int)] w fun e w'=>e= .returned (.string ⟨(q2W n).toArray⟩)∧Ext w w':=by
 have hd:decide ((200:Int)≤(n:Int))=false:=by simp;omega
 have HR:Hid (q2W n=q1N ([99,104,110,107]++be 4 n)):=η10 rfl;have HP:=η10 (fun W=>q6j (n:Int) 4 W (by omega) (by omega) (by omega) (by omega));have HS:=η10 (fun W=>z2K ([99,104,110,107]++be 4 n) W (by simp[q0H]));have hb4:(be 4 n).length=4:=q0H 4 _;rw[Int.toNat_natCast] at HP;generalize q1N ([99,104,110,107]++be 4 n)=Y at*;generalize be 4 n=X at*;go_enter Tryz.func129,Tryz.ntmps129;go_wp2_with fail;refine (HP.out _).mono ?_;rintro e w1 ⟨rfl,hb⟩;have HB:=η10 hb;clear hb;go_wp2_with fail;have hcat:=q2K [99,104,110,107] X;have hcat2:({data:=#[99,104,110,107]}:ByteArray)++{data:=X.toArray}=⟨([99,104,110,107]++X).toArray⟩:=hcat;rw[hcat2];refine (HS.out _).mono ?_;rintro e w2 ⟨rfl,hb⟩;have HB2:=η10 (HB.out.trans hb);clear hb;go_wp2_with fail;go_ret;exact ⟨by rw[HR.out];rfl,HB2.out⟩
theorem y0v (N:Int) (p:List UInt8) (w:World) (h0:0≤N) (h1:N≤4096) (hp:p.length≤2000):
  Calls Tryz.prog 74 #[.int .i64 N,.string ⟨p.toArray⟩] w fun e w'=>e= .returned (.bool (decide ((p.length:Int)+12≤4096-N)))∧w=w':=by
 have hd1:decide ((0:Int)≤N)=true:=by simpa using h0
 have hd2:decide (N≤(4096:Int))=true:=by simpa using h1
 have hd3:decide ((p.length:Int)≤(2000:Int))=true:=by simp;omega
 go_enter Tryz.func74,Tryz.ntmps74;go_wp2_with fail;go_ret;exact ⟨rfl,rfl⟩
def z6l (s p:List UInt8):Bool:=decide (p.length≤s.length)&&(s.take p.length==p)
theorem q9y (s p:List UInt8) (w:World) (hl:s.length≤9223372036854775807) (hp:p.length≤9223372036854775807):
  Calls Tryz.prog 190 #[.string ⟨s.toArray⟩,.string ⟨p.toArray⟩] w fun e w'=>e= .returned (.bool (z6l s p))∧w=w':=by
 by_cases h:p.length≤s.length
 ·have HM:Hid (z6l s p=(s.take p.length==p)):=η10 (by unfold z6l;rw[decide_eq_true h,Bool.true_and])
  have hd1:decide ((p.length:Int)≤(s.length:Int))=true:=by simp;omega
  go_enter Tryz.func190,Tryz.ntmps190;go_wp2_with fail;go_ret;rw[HM.out];exact ⟨rfl,rfl⟩
 ·have HM:Hid (z6l s p=false):=η10 (by unfold z6l;rw[decide_eq_false h,Bool.false_and])
  have hd1:decide ((p.length:Int)≤(s.length:Int))=false:=by simp;omega
  go_enter Tryz.func190,Tryz.ntmps190;go_wp2_with fail;go_ret;rw[HM.out];exact ⟨rfl,rfl⟩
theorem z1J (s p:List UInt8) (w:World) (hl:s.length≤9223372036854775807) (hp:p.length≤9223372036854775807):
  Calls Tryz.prog 139 #[.string ⟨s.toArray⟩,.string ⟨p.toArray⟩] w fun e w'=>e= .returned (.bool (z6l s p))∧w=w':=by
 go_enter Tryz.func139,Tryz.ntmps139;go_wp2_with fail;refine (q9y s p _ hl hp).mono ?_;rintro e w1 ⟨rfl,rfl⟩;go_wp2_with fail;go_ret;exact ⟨rfl,rfl⟩
end
section
open Go.RowKit
theorem q3v : ∀a b:List UInt8,Op.bytesLess a b=bytesBefore a b
 |[],[]=>rfl
 |[],_::_=>rfl
 |_::_,[]=>rfl
 |a::x,b::y=>by unfold Op.bytesLess bytesBefore;rw[q3v x y]
abbrev Cks :=List (List (List UInt8))
def q3y :Nat→Cks→List (List UInt8×List UInt8)
 |_,[]=>[]
 |i,ps::r=>(q0F 99 (i:Int),q0S i ps)::q3y (i+1) r
theorem q5C : ∀(C:Cks) (i:Nat),(q3y i C).length=C.length
 |[],_=>rfl
 |ps::r,i=>by simp[q3y,q5C r]
theorem q3B : ∀(C D:Cks) (i:Nat),q3y i (C++D)=q3y i C++q3y (i+C.length) D
 |[],D,i=>rfl
 | ps::r,D,i=>by
  rw[List.cons_append,q3y,q3B r D (i+1),q3y,List.cons_append,List.length_cons]
  congr 3;omega
theorem q3P : ∀{C:Cks} {i:Nat} {x:List UInt8×List UInt8},x∈q3y i C→ ∃k,i≤k∧k<i+C.length∧x.1=q0F 99 (k:Int)
 |[],_,_,h=>by cases h
 | ps ::r,i,x,h=>by
  rcases List.mem_cons.1 h with rfl|h
  ·exact ⟨i,Nat.le_refl _,by simp,rfl⟩
  ·obtain ⟨k,h1,h2,h3⟩:=q3P h
   exact ⟨k,by omega,by simp;omega,h3⟩
theorem q2m (n:Int):(q0F 99 n).length≤9223372036854775807:=by
 by_cases h:0≤n∧n≤999999
 ·rw[q0Z h,List.length_cons,q0i];decide
 ·rw[q6f h];decide
theorem z7Q {i k:Nat} (hi:i≤999999) (hk:k≤999999) (h:i≠k):q0F 99 (i:Int)≠q0F 99 (k:Int):=fun e=>by
 have:=z7P 99 (i:Int) (k:Int) (by omega) (by omega);rw[e,beq_self_eq_true] at this;have:=of_decide_eq_true this.symm;omega
theorem q6Q {i k:Nat} (hi:i≤999999) (hk:k≤999999) (h:i<k):bytesBefore (q0F 99 (i:Int)) (q0F 99 (k:Int))=true:=by
 have h1:=z3z 99 (i:Int) (k:Int) (by omega) (by omega);have h2:decide ((i:Int)<(k:Int))=true:=by simp;omega
 rw[h2] at h1;rw[←q3v];exact h1
theorem q5l {C:Cks} {i k:Nat} (hk:k≤999999) (hC:i+C.length≤999999) (h: ∀j,i≤j→j<i+C.length→j≠k): ∀y∈q3y i C,Prod.fst y≠q0F 99 (k:Int):=fun y hy=>by
 obtain ⟨j,h1,h2,h3⟩:=q3P hy;rw[h3];exact z7Q (by omega) hk (h j h1 h2)
theorem z0I {C:Cks} {k:Nat} {ps:List (List UInt8)} (hC:C.length≤200) (hk:C[k]? =some ps):q0I Prod.fst (q0F 99 (k:Int)) (q3y 0 C)=some (q0F 99 (k:Int),q0S k ps):=by
 obtain ⟨hlt,rfl⟩:=List.getElem?_eq_some_iff.1 hk;have e:C=C.take k++C[k]::C.drop (k+1):=by
  rw[List.getElem_cons_drop];exact (List.take_append_drop _ _).symm
 have hl:(C.take k).length=k:=by simp;omega
 conv=>lhs;rw[e]
 rw[q3B,hl,Nat.zero_add,q0c]
 ·rw[q3y];unfold q0I;rw[List.find?_cons_of_pos (by simp)]
 ·exact q5l (by omega) (by rw[hl];omega) fun j _ h2=>by rw[hl] at h2;omega
theorem z0G {C:Cks} {k:Nat} (hC:C.length≤200) (hk:C.length≤k) (hk2:k≤999999):q0I Prod.fst (q0F 99 (k:Int)) (q3y 0 C)=none:=
 q0Y (q5l hk2 (by omega) fun j _ h2=>by omega)
theorem z7p {C:Cks} (hC:C.length≤200):q0I Prod.fst [110,101,119] (q3y 0 C)=none:=q0Y fun y hy e=>by
 obtain ⟨j,h1,h2,h3⟩:=q3P hy;rw[e] at h3;have h4:j<200:=by omega
 rw[q0Z (by omega)] at h3;have h5:=congrArg List.length h3;have h6:(99::q4n 6 ((j:Int)).toNat).length=7:=by simp[q0i]
 rw[h6] at h5
 cases h5
theorem q8d : ∀(C:Cks) (i:Nat),(q3y i C).map Prod.fst=(List.range' i C.length).map fun k:Nat=>q0F 99 (k:Int)
 |[],_=>rfl
 |ps::r,i=>by rw[q3y,List.map_cons,q8d r,List.length_cons,List.range'_succ,List.map_cons]
theorem q1K (a b:List (List UInt8×List UInt8)):q2N (a++b)=q2N a+q2N b:=by simp[q2N,q5n,List.sum_append]
theorem z0k (x:List UInt8×List UInt8):q2N [x]=x.2.length:=by simp[q2N,q5n]
theorem z5M {D:Cks} {ps:List (List UInt8)} (p:List UInt8) (hD:D.length≤200):q1O Prod.fst (q0F 99 (D.length:Int)) (fun x=>(x.1,x.2++q2M p)) (q3y 0 (D++[ps]))=q3y 0 (D++[ps++[p]]):=by
 rw[q3B,q3B,q4b,q2u,Nat.zero_add]
 ·congr 1
  show q1O Prod.fst (q0F 99 (D.length:Int)) _ [(q0F 99 (D.length:Int),q0S D.length ps)]=[(q0F 99 (D.length:Int),q0S D.length (ps++[p]))];rw[z1K];unfold q1O;simp
 ·exact q5l (by omega) (by omega) fun j _ h2=>by omega
theorem z4Q {C:Cks} (p:List UInt8) (hC:C.length≤200):q1O Prod.fst (q0F 99 (C.length:Int)) (fun x=>(x.1,x.2++(q2W C.length++q2M p))) (q3y 0 C++[(q0F 99 (C.length:Int),[])])=q3y 0 (C++[[p]]):=by
 rw[q3B,q4b,q2u,Nat.zero_add]
 ·congr 1
  show q1O Prod.fst (q0F 99 (C.length:Int)) _ [(q0F 99 (C.length:Int),[])]=[(q0F 99 (C.length:Int),q0S C.length [p])];rw[z4T];unfold q1O;simp
 ·exact q5l (by omega) (by omega) fun j _ h2=>by omega
def q0n (C:Cks):Nat:=(C.map q0K).sum
theorem q5K : ∀(C:Cks) (i:Nat),q2N (q3y i C)=q0n C
 |[],_=>rfl
 | ps::r,i=>by
  have e:q3y i (ps::r)=[(q0F 99 (i:Int),q0S i ps)]++q3y (i+1) r:=rfl;rw[e,q1K,z0k,q5K r];simp[q0n,q1I]
structure okC (C:Cks):Prop where
 few:C.length≤200
 size: ∀ps∈C,q0K ps≤4096
 pay: ∀ps∈C,∀p∈ps,p.length≤2000
 full: ∀ps∈C,ps≠[]
structure Oth where
 X:List (List UInt8×List UInt8)
 Z:List (List UInt8×List UInt8)
def noO :Oth:=⟨[],[]⟩
structure okOth (E:Oth):Prop where
 before: ∀y∈E.X,∀k:Nat,k≤999999→bytesBefore y.1 (q0F 99 (k:Int))=true
 behind: ∀y∈E.Z,∀k:Nat,k≤999999→bytesBefore (q0F 99 (k:Int)) y.1=true
 new: ∀y,y∈E.X∨y∈E.Z→y.1≠[110,101,119]
 kind: ∀y,y∈E.X∨y∈E.Z→(q0x y.1).2.2=true→(q0x y.1).1≠99
 len: ∀y,y∈E.X∨y∈E.Z→y.1.length≤1000
 few:E.X.length+E.Z.length≤190
theorem okOth.no :okOth noO:=⟨(fun _ h=>by cases h),(fun _ h=>by cases h),(fun _ h=>by rcases h with h|h<;>cases h),(fun _ h=>by rcases h with h|h<;>cases h),(fun _ h=>by rcases h with h|h<;>cases h),Nat.zero_le _⟩
def q2L (E:Oth):Nat:=q2N E.X+q2N E.Z
def q3H (E:Oth) (C:Cks):List (List UInt8×List UInt8):=E.X++(q3y 0 C++E.Z)
def z4U (E:Oth) (C:Cks):List (List UInt8×List UInt8):=E.X++(q3y 0 C++((q0F 99 (C.length:Int),[])::E.Z))
theorem q7L (E:Oth) (C:Cks):(q3H E C).length=E.X.length+C.length+E.Z.length:=by simp[q3H,q5C];omega
theorem z2z {a b:List UInt8} (h:bytesBefore a b=true):a≠b:=fun e=>by rw[e,WideAt.bytes_irrefl] at h;cases h
theorem okOth.neX {E:Oth} (h:okOth E) {k:Nat} (hk:k≤999999): ∀y∈E.X,Prod.fst y≠q0F 99 (k:Int):=fun y hy=>z2z (h.before y hy k hk)
theorem okOth.neZ {E:Oth} (h:okOth E) {k:Nat} (hk:k≤999999): ∀y∈E.Z,Prod.fst y≠q0F 99 (k:Int):=fun y hy e=>z2z (h.behind y hy k hk) e.symm
theorem q1P {α:Type} {k:α→List UInt8} {nm:List UInt8} {a b:List α} (h: ∀y∈b,k y≠nm):q0I k nm (a++b)=q0I k nm a:=by
 unfold q0I;rw[List.find?_append];have:List.find? (fun y=>k y==nm) b=none:=q0Y h;rw[this];simp
theorem q3b {E:Oth} (hE:okOth E) {C:Cks} {k:Nat} {ps:List (List UInt8)} (hC:C.length≤200) (hk:C[k]? =some ps):q0I Prod.fst (q0F 99 (k:Int)) (q3H E C)=some (q0F 99 (k:Int),q0S k ps):=by
 have hlt:=(List.getElem?_eq_some_iff.1 hk).1;unfold q3H;rw[q0c (hE.neX (by omega)),q1P (hE.neZ (by omega))];exact z0I hC hk
theorem z5O {E:Oth} (hE:okOth E) {C:Cks} {k:Nat} (hC:C.length≤200) (hk:C.length≤k) (hk2:k≤999999):q0I Prod.fst (q0F 99 (k:Int)) (q3H E C)=none:=by
 unfold q3H;rw[q0c (hE.neX hk2),q1P (hE.neZ hk2)];exact z0G hC hk hk2
theorem z7T {E:Oth} (hE:okOth E) {C:Cks} (hC:C.length≤200):q0I Prod.fst [110,101,119] (q3H E C)=none:=by
 unfold q3H;rw[q0c fun y hy=>hE.new y (.inl hy),q1P fun y hy=>hE.new y (.inr hy)];exact z7p hC
theorem q7B (E:Oth) (C:Cks):q2N (q3H E C)=q2L E+q0n C:=by
 unfold q3H q2L;rw[q1K,q1K,q5K];omega
theorem z4w (E:Oth) (C:Cks):q2N (z4U E C)=q2L E+q0n C:=by
 have e:z4U E C=E.X++(q3y 0 C++([(q0F 99 (C.length:Int),[])]++E.Z)):=rfl;rw[e,q1K,q1K,q1K,q5K,z0k];unfold q2L;simp;omega
theorem z5m {E:Oth} (hE:okOth E) {D:Cks} {ps:List (List UInt8)} (p:List UInt8) (hD:D.length≤200):q1O Prod.fst (q0F 99 (D.length:Int)) (fun x=>(x.1,x.2++q2M p)) (q3H E (D++[ps]))=q3H E (D++[ps++[p]]):=by
 unfold q3H;rw[q4b,q4b,q2u (hE.neX (by omega)),q2u (hE.neZ (by omega)),z5M p hD]
theorem q7O {α:Type} {k:α→List UInt8} {x:α} {b:List α}: ∀{a:List α},(∀y∈a,bytesBefore (k y) (k x)=true)→q3p k x (a++b)=a++q3p k x b
 |[],_=>rfl
 | y ::r,h=>by
  have h1:=h y (List.mem_cons_self);have h2:¬bytesBefore (k x) (k y)=true:=fun h3=>by
   have:=WideShapes.bytes_trans _ _ _ h1 h3;rw[WideAt.bytes_irrefl] at this
   cases this
  rw[List.cons_append,q3p,if_neg h2,q7O fun z hz=>h z (List.mem_cons_of_mem _ hz)]
  rfl
theorem z3c {α:Type} {k:α→List UInt8} {x:α}: ∀{b:List α},(∀y∈b,bytesBefore (k x) (k y)=true)→q3p k x b=x::b
 |[],_=>rfl
 |y::r,h=>by rw[q3p,if_pos (h y (List.mem_cons_self))]
theorem z7N {E:Oth} (hE:okOth E) {C:Cks} (hC:C.length≤200):q3p Prod.fst (q0F 99 (C.length:Int),[]) (q3H E C)=z4U E C:=by
 unfold q3H z4U;rw[q7O fun y hy=>hE.before y hy _ (by omega),q7O fun y hy=>?_,z3c fun y hy=>hE.behind y hy _ (by omega)];obtain ⟨j,h1,h2,h3⟩:=q3P hy;rw[h3];exact q6Q (by omega) (by omega) (by omega)
theorem z5A {E:Oth} (hE:okOth E) {C:Cks} (hC:C.length≤200):q0I Prod.fst (q0F 99 (C.length:Int)) (z4U E C)=some (q0F 99 (C.length:Int),[]):=by
 unfold z4U;rw[q0c (hE.neX (by omega)),q0c (q5l (by omega) (by omega) fun j _ h2=>by omega)];unfold q0I;rw[List.find?_cons_of_pos (by simp)]
theorem z4Y {E:Oth} (hE:okOth E) {C:Cks} (p:List UInt8) (hC:C.length≤200):q1O Prod.fst (q0F 99 (C.length:Int)) (fun x=>(x.1,x.2++(q2W C.length++q2M p))) (z4U E C)=q3H E (C++[[p]]):=by
 have e:z4U E C=E.X++((q3y 0 C++[(q0F 99 (C.length:Int),[])])++E.Z):=by simp[z4U]
 rw[e];unfold q3H;rw[q4b,q4b,q2u (hE.neX (by omega)),q2u (hE.neZ (by omega)),z4Q p hC]
theorem z4f (E:Oth) (C:Cks):(q3H E C).map Prod.fst=E.X.map Prod.fst++((List.range C.length).map (fun k:Nat=>q0F 99 (k:Int))++E.Z.map Prod.fst):=by
 unfold q3H;rw[List.map_append,List.map_append,q8d,List.range_eq_range']
structure Lgd (E:Oth) (σ:DM) (c s:Int) (C:Cks):Prop where
 pl:Pl σ (c+(q2L E:Int)) s (q3H E C)
 ok:okC C
 oth:okOth E
theorem okC.nil :okC []:=⟨Nat.zero_le _,(fun _ h=>by cases h),(fun _ h=>by cases h),(fun _ h=>by cases h)⟩
theorem okC.grow {D:Cks} {ps:List (List UInt8)} {p:List UInt8} (h:okC (D++[ps])) (hp:p.length≤2000) (hs:q0K ps+(p.length+12)≤4096):okC (D++[ps++[p]]):=by
 have m:ps∈D++[ps]:=by simp
 refine ⟨by simpa using h.few,fun q hq=>?_,fun q hq=>?_,fun q hq=>?_⟩
 all_goals rcases List.mem_append.1 hq with h1|h1
 ·exact h.size q (List.mem_append_left _ h1)
 ·obtain rfl:=List.mem_singleton.1 h1;rw[q2T];exact hs
 ·exact h.pay q (List.mem_append_left _ h1)
 ·obtain rfl:=List.mem_singleton.1 h1
  intro x hx;rcases List.mem_append.1 hx with h2|h2
  ·exact h.pay ps m x h2
  ·obtain rfl:=List.mem_singleton.1 h2;exact hp
 ·exact h.full q (List.mem_append_left _ h1)
 ·obtain rfl:=List.mem_singleton.1 h1;simp
theorem okC.more {C:Cks} {p:List UInt8} (h:okC C) (hp:p.length≤2000) (hn:C.length<200):okC (C++[[p]]):=by
 refine ⟨by simp;omega,fun q hq=>?_,fun q hq=>?_,fun q hq=>?_⟩
 all_goals rcases List.mem_append.1 hq with h1|h1
 ·exact h.size q h1
 ·obtain rfl:=List.mem_singleton.1 h1;rw[q4P];omega
 ·exact h.pay q h1
 ·obtain rfl:=List.mem_singleton.1 h1
  intro x hx;obtain rfl:=List.mem_singleton.1 hx;exact hp
 ·exact h.full q h1
 ·obtain rfl:=List.mem_singleton.1 h1;simp
def q4v (C:Cks):Int:=match C.getLast? with|none=>0|some ps=>((C.length:Int)-1)*4096+(q0K ps:Int)
theorem z2l :q4v []=0:=rfl
theorem q2X (D:Cks) (ps:List (List UInt8)):q4v (D++[ps])=(D.length:Int)*4096+(q0K ps:Int):=by
 unfold q4v;simp
def q0O (C:Cks):List Int:=C.map fun ps=>(q0K ps:Int)
theorem q2R (D:Cks) (ps:List (List UInt8)):q0O (D++[ps])=q0O D++[(q0K ps:Int)]:=by simp[q0O]
theorem q0f (C:Cks):(q0O C).length=C.length:=by simp[q0O]
theorem q7U (D:Cks) (ps:List (List UInt8)):(q0O (D++[ps])).getD D.length 0=(q0K ps:Int):=by
 rw[q2R];have:D.length=(q0O D).length:=(q0f D).symm;rw[List.getD_eq_getElem?_getD,this,List.getElem?_append_right (Nat.le_refl _)];simp
theorem z4K (D:Cks) (ps qs:List (List UInt8)):(q0O (D++[ps])).set D.length (q0K qs:Int)=q0O (D++[qs]):=by
 rw[q2R,q2R];have:D.length=(q0O D).length:=(q0f D).symm;rw[this];simp
theorem z1l (C:Cks) (i:Nat) {ps:List (List UInt8)} (h:C[i]? =some ps):(q0O C).getD i 0=(q0K ps:Int):=by
 unfold q0O;rw[List.getD_eq_getElem?_getD,List.getElem?_map,h];rfl
def q4F (C:Cks) (p:List UInt8):Bool:=match C.getLast? with|none=>false|some ps=>decide (q0K ps+(p.length+12)≤4096)
def q1B (free:Int) (C:Cks) (p:List UInt8):Int×Int×Cks:=
 if 2000<p.length then (0,3,C)
 else if q4F C p then (if free-((p.length:Int)+12)<6000 then (0,60,C) else (q4v C,0,C.dropLast++[C.getLast?.getD []++[p]]))
 else if 200≤C.length∨free-((p.length:Int)+24)<6000 then (0,60,C) else ((C.length:Int)*4096+12,0,C++[[p]])
def q4H (free sure:Int) (C:Cks) (p:List UInt8):Int:=
 if (q1B free C p).2.1=0∧q4F C p=false∧C≠[] then q4v C else sure
def q2e :Nat→List (List UInt8)→List (Nat×List UInt8)
 |_,[]=>[]
 |a,p::r=>(a,p)::q2e (a+p.length+12) r
def q0w :Nat→Cks→List (Nat×List UInt8)
 |_,[]=>[]
 |b,ps::r=>q2e (b+12) ps++q0w (b+4096) r
def q3U (C:Cks) (pos:Int):Option (Nat×List UInt8):=(q0w 0 C).find? fun r=>decide (pos≤(r.1:Int))
def q5R (C:Cks) (pos:Int):List UInt8×Int:=
 if pos<0 then ([],4) else match C[(pos/4096).toNat]? with
 |none=>([],4)
 | some ps=>match (if 12≤pos % 4096 then q5D (q0S (pos/4096).toNat ps) (pos % 4096).toNat else none) with
  |none=>([],4)
  |some (p,_)=>(p,0)
end
section
open Go.RowKit
theorem q6c : ∀(ps:List (List UInt8)) (a:Nat),∀r∈q2e a ps,a≤r.1∧r.1+r.2.length+12≤a+(ps.map fun p=>p.length+12).sum
 |[],_,r,h=>by cases h
 | p ::t,a,r,h=>by
  rw[q2e] at h;rcases List.mem_cons.1 h with rfl|h
  ·simp only[List.map_cons,List.sum_cons];omega
  ·have:=q6c t _ r h
   simp only[List.map_cons,List.sum_cons];omega
theorem q5Y : ∀(C:Cks) (b:Nat),(∀ps∈C,q0K ps≤4096)→ ∀r∈q0w b C,b+12≤r.1∧r.1<b+4096*C.length
 |[],_,_,r,h=>by cases h
 | ps ::t,b,hs,r,h=>by
  rw[q0w] at h;have h1:=hs ps (List.mem_cons_self);unfold q0K at h1;rcases List.mem_append.1 h with h|h
  ·have:=q6c ps _ r h
   simp only[List.length_cons];omega
  ·have:=q5Y t _ (fun q hq=>hs q (List.mem_cons_of_mem _ hq)) r h
   simp only[List.length_cons];omega
theorem q4r : ∀(C:Cks) (b n:Nat),q0w b C=q0w b (C.take n)++q0w (b+4096*n) (C.drop n)
 |C,b,0=>by simp[q0w]
 |[],b,n+1=>by simp[q0w]
 | ps::t,b,n+1=>by
  rw[List.take_succ_cons,List.drop_succ_cons,q0w,q0w,q4r t (b+4096) n,List.append_assoc]
  congr 3;omega
theorem z0l (C D:Cks) (b:Nat):q0w b (C++D)=q0w b C++q0w (b+4096*C.length) D:=by
 have:=q4r (C++D) b C.length
 rwa [List.take_left,List.drop_left] at this
theorem z6Y {pos:Int} {l m:List (Nat×List UInt8)} (h: ∀r∈l,(r.1:Int)<pos):(l++m).find? (fun r=>decide (pos≤(r.1:Int)))=m.find? fun r=>decide (pos≤(r.1:Int)):=by
 rw[List.find?_append];have:l.find? (fun r=>decide (pos≤(r.1:Int)))=none:=List.find?_eq_none.2 fun r hr=>by have:=h r hr;simp;omega
 rw[this];rfl
theorem z1g (C:Cks) (pos:Int) (hs: ∀ps∈C,q0K ps≤4096) (n:Nat) (hn:(n:Int)*4096≤pos):q3U C pos=(q0w (4096*n) (C.drop n)).find? fun r=>decide (pos≤(r.1:Int)):=by
 unfold q3U;rw[q4r C 0 n,Nat.zero_add];refine z6Y fun r hr=>?_
 have:=q5Y (C.take n) 0 (fun ps h=>hs ps (List.mem_of_mem_take h)) r hr;have h2:(C.take n).length≤n:=List.length_take_le _ _;omega
theorem q4N : ∀(ps:List (List UInt8)) (a:Nat),(q2e a ps).length=ps.length
 |[],_=>rfl
 |p::t,a=>by simp[q2e,q4N t]
theorem z2W : ∀(ps:List (List UInt8)) (a k:Nat) (p:List UInt8),ps[k]? =some p→(q2e a ps)[k]? =some (a+((ps.take k).map fun p=>p.length+12).sum,p)
 |[],_,k,p,h=>by simp at h
 | q::t,a,0,p,h=>by
  simp only[List.getElem?_cons_zero,Option.some.injEq] at h;subst h;simp[q2e]
 | q::t,a,k+1,p,h=>by
  rw[List.getElem?_cons_succ] at h;rw[q2e,List.getElem?_cons_succ,z2W t _ k p h,List.take_succ_cons,List.map_cons,List.sum_cons]
  congr 2;omega
theorem q8K : ∀(ps:List (List UInt8)) (a k:Nat) (p:List UInt8),ps[k]? =some p→(q1S a ps)[k]? =some (a+((ps.take k).map fun p=>p.length+12).sum,a+((ps.take k).map fun p=>p.length+12).sum+p.length+12)
 |[],_,k,p,h=>by simp at h
 | q::t,a,0,p,h=>by
  simp only[List.getElem?_cons_zero,Option.some.injEq] at h;subst h;simp[q1S]
 | q::t,a,k+1,p,h=>by
  rw[List.getElem?_cons_succ] at h;rw[q1S,List.getElem?_cons_succ,q8K t _ k p h,List.take_succ_cons,List.map_cons,List.sum_cons]
  congr 2<;>omega
theorem z8j (n:Nat) (ps:List (List UInt8)) (k:Nat) (p:List UInt8) (h:ps[k]? =some p) (hp:p.length≤2000):q5D (q0S n ps) (q0K (ps.take k))=some (p,q0K (ps.take k)+p.length+12):=by
 obtain ⟨hk,rfl⟩:=List.getElem?_eq_some_iff.1 h;have e:ps=ps.take k++ps[k]::ps.drop (k+1):=by rw[List.getElem_cons_drop];exact (List.take_append_drop _ _).symm
 have:=z5i n (ps.take k) ps[k] (ps.drop (k+1)) hp
 rwa [←e] at this
end
section
open Go.RowKit
end
end Go.Proofs.YthdekbmdkpcooaaGreatDoor
