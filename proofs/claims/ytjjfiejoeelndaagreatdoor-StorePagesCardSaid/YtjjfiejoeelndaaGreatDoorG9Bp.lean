/- Plain laws. -/
import Derived.Test.YtjjfiejoeelndaaGreatDoorG3Bp
import Derived.Test.YtjjfiejoeelndaaGreatDoorG7Bp
import Derived.Test.YtjjfiejoeelndaaGreatDoorG8Bp
import Derived.Laws.BitsLemmas
set_option linter.unusedVariables false
set_option linter.unusedSimpArgs false
set_option maxRecDepth 100000
set_option maxHeartbeats 6400000
namespace Go.Proofs.YtjjfiejoeelndaaGreatDoor
theorem η9 {p:Prop} (h:p):Go.RowKit.Hid p:=Lib.hid h
section
open Go.RowKit
theorem q3k (a b:List UInt8):(⟨a.toArray⟩:ByteArray)++⟨b.toArray⟩=⟨(a++b).toArray⟩:=by rw[ByteArray.mk_append_mk];first|done|simp
def q2f (p:List UInt8):List UInt8:=q1O (be 4 p.length++p)++be 4 p.length
def q4i (s:List UInt8) (a:Nat):Nat:=q1Q ((s.drop a).take 4)
def isR (s:List UInt8) (a:Nat):Bool:=
 decide (a+12≤s.length)&&decide (q4i s a≤2000)&&decide (a+q4i s a+12≤s.length)
 &&q2K ((s.drop a).take (q4i s a+8))&&decide ((s.drop (a+q4i s a+8)).take 4=(s.drop a).take 4)
def q5z (s:List UInt8) (a:Nat):Option (List UInt8×Nat):=
 if isR s a then some ((s.drop (a+4)).take (q4i s a),a+q4i s a+12) else none
def q6J :Nat→List UInt8→Nat→List (Nat×Nat)
 |0,_,_=>[]
 | f+1,s,a=>match q5z s a with
  |none=>[]
  |some (_,b)=>(a,b)::q6J f s b
def q0r (s:List UInt8) (a:Nat):List (Nat×Nat):=q6J (s.length+1) s a
def z0a (a:Nat) (l:List (Nat×Nat)):Nat:=(l.getLast?.map Prod.snd).getD a
def q2x (n:Nat):List UInt8:=q1O ([99,104,110,107]++be 4 n)
def q5W (ps:List (List UInt8)):List UInt8:=(ps.map q2f).flatten
def q0Y (n:Nat) (ps:List (List UInt8)):List UInt8:=q2x n++q5W ps
def q0M (ps:List (List UInt8)):Nat:=12+(ps.map fun p=>p.length+12).sum
def q1f :Nat→List (List UInt8)→List (Nat×Nat)
 |_,[]=>[]
 |a,p::r=>(a,a+p.length+12)::q1f (a+p.length+12) r
theorem q1N (p:List UInt8):(q2f p).length=p.length+12:=by
 simp only[q2f,List.length_append,q0m,q0I];omega
theorem q3Q (n:Nat):(q2x n).length=12:=by simp[q2x,q0m,q0I]
theorem z2o (ps:List (List UInt8)):(q5W ps).length=(ps.map fun p=>p.length+12).sum:=by
 unfold q5W
 induction ps with
 |nil=>rfl
 |cons p r ih=>simp[q1N,ih]
theorem q1T (n:Nat) (ps:List (List UInt8)):(q0Y n ps).length=q0M ps:=by
 simp[q0Y,q0M,q3Q,z2o]
theorem z6J (ps:List (List UInt8)) (p:List UInt8):q5W (ps++[p])=q5W ps++q2f p:=by simp[q5W]
theorem z4B (n:Nat) (ps:List (List UInt8)) (p:List UInt8):q0Y n (ps++[p])=q0Y n ps++q2f p:=by simp[q0Y,z6J]
theorem z5n (n:Nat) (p:List UInt8):q0Y n [p]=q2x n++q2f p:=by simp[q0Y,q5W]
theorem q2p (ps:List (List UInt8)) (p:List UInt8):q0M (ps++[p])=q0M ps+(p.length+12):=by simp[q0M,List.sum_append];omega
theorem q4w (p:List UInt8):q0M [p]=12+(p.length+12):=by simp[q0M]
theorem z2I {s:List UInt8} {a b:Nat} {p:List UInt8} (h:q5z s a=some (p,b)):
  p.length≤2000∧b=a+p.length+12∧b≤s.length∧p=(s.drop (a+4)).take p.length∧q4i s a=p.length:=by
 unfold q5z at h
 split at h
 case isFalse=>cases h
 case isTrue hi=>
  unfold isR at hi;simp only[Bool.and_eq_true,decide_eq_true_eq] at hi;obtain ⟨⟨⟨⟨h1,h2⟩,h3⟩,h4⟩,h5⟩:=hi;simp only[Option.some.injEq,Prod.mk.injEq] at h;obtain ⟨rfl,rfl⟩:=h;have hl:((s.drop (a+4)).take (q4i s a)).length=q4i s a:=by simp;omega
  rw[hl];exact ⟨h2,rfl,h3,rfl,rfl⟩
theorem y1J {α:Type} (pre m post:List α) {a:Nat} (h:a=pre.length):(pre++m++post).drop a=m++post:=by
 subst h;rw[List.append_assoc,List.drop_left]
theorem z4H (pre p post:List UInt8) (hp:p.length≤2000) {a:Nat} (ha:a=pre.length):q5z (pre++q2f p++post) a=some (p,a+p.length+12):=by
 have hd:(pre++q2f p++post).drop a=be 4 p.length++(p++(q9X (q1l (be 4 p.length++p))++(be 4 p.length++post))):=by
  rw[y1J _ _ _ ha];simp[q2f,q1O]
 have hb:(be 4 p.length).length=4:=q0I 4 _;have hlow:=q5x (q1l (be 4 p.length++p));have hlong:q4i (pre++q2f p++post) a=p.length:=by
  unfold q4i;rw[hd,List.take_left' hb,q5q];omega
 have hlen:(pre++q2f p++post).length=a+(p.length+12)+post.length:=by simp[q1N,ha];omega
 have hi:isR (pre++q2f p++post) a=true:=by
  unfold isR;rw[hlong];simp only[Bool.and_eq_true,decide_eq_true_eq];refine ⟨⟨⟨⟨by omega,hp⟩,by omega⟩,?_⟩,?_⟩
  ·have e:((pre++q2f p++post).drop a).take (p.length+8)=q1O (be 4 p.length++p):=by
    rw[hd];have:be 4 p.length++(p++(q9X (q1l (be 4 p.length++p))++(be 4 p.length++post)))=q1O (be 4 p.length++p)++(be 4 p.length++post):=by simp[q1O]
    rw[this];exact List.take_left' (by simp[q0m,hb];omega)
   rw[e];unfold q2K;simp only[Bool.and_eq_true,decide_eq_true_eq,q0m];refine ⟨by omega,?_⟩;have e2:(q1O (be 4 p.length++p)).take ((be 4 p.length++p).length+4-4)=be 4 p.length++p:=by
    unfold q1O;exact List.take_left' (by omega)
   rw[e2]
  ·have e:(pre++q2f p++post).drop (a+p.length+8)=be 4 p.length++post:=by
    have:a+p.length+8=a+(p.length+8):=by omega
    rw[this,←List.drop_drop,hd];have:be 4 p.length++(p++(q9X (q1l (be 4 p.length++p))++(be 4 p.length++post)))=(be 4 p.length++(p++q9X (q1l (be 4 p.length++p))))++(be 4 p.length++post):=by simp
    rw[this];exact List.drop_left' (by simp[hb,hlow];omega)
   rw[e,hd,List.take_left' hb,List.take_left' hb]
 unfold q5z;rw[if_pos hi,hlong]
 congr 2
 rw[←List.drop_drop,hd];have e3:(be 4 p.length++(p++(q9X (q1l (be 4 p.length++p))++(be 4 p.length++post)))).drop 4=p++(q9X (q1l (be 4 p.length++p))++(be 4 p.length++post)):=List.drop_left' hb;rw[e3];exact List.take_left' rfl
theorem z7j (s:List UInt8) (a:Nat) (h:s.length<a+12):q5z s a=none:=by
 unfold q5z isR;rw[decide_eq_false (by omega)];simp
theorem q9x : ∀(ps:List (List UInt8)) (pre:List UInt8) (f a:Nat),(∀p∈ps,p.length≤2000)→a=pre.length→ps.length<f→q6J f (pre++q5W ps) a=q1f a ps
 |[],pre,0,a,_,_,hf=>by simp at hf
 | [],pre,f+1,a,_,ha,_=>by
  unfold q6J;rw[z7j _ _ (by simp[q5W,ha])]
  rfl
 |p::r,pre,0,a,_,_,hf=>by simp at hf
 | p::r,pre,f+1,a,hp,ha,hf=>by
  have e:pre++q5W (p::r)=pre++q2f p++q5W r:=by simp[q5W]
  rw[e];unfold q6J;rw[z4H pre p (q5W r) (hp p (List.mem_cons_self)) ha];show _::q6J f (pre++q2f p++q5W r) (a+p.length+12)=_;rw[q9x r (pre++q2f p) f _ (fun q hq=>hp q (List.mem_cons_of_mem _ hq)) (by simp[q1N,ha];omega) (by simp at hf;omega)]
  rfl
theorem y0v (ps:List (List UInt8)):12*ps.length≤(ps.map fun p=>p.length+12).sum:=by
 induction ps with
 |nil=>simp
 |cons p r ih=>simp only[List.map_cons,List.sum_cons,List.length_cons];omega
theorem q8w (n:Nat) (ps:List (List UInt8)) (hp: ∀p∈ps,p.length≤2000):q0r (q0Y n ps) 12=q1f 12 ps:=by
 unfold q0r;refine q9x ps (q2x n) _ 12 hp (q3Q n).symm ?_;have:=y0v ps;show _<(q0Y n ps).length+1;rw[q1T];unfold q0M;omega
theorem q7X : ∀(ps:List (List UInt8)) (p:List UInt8) (a:Nat),q1f a (ps++[p])=q1f a ps++[(a+(ps.map fun p=>p.length+12).sum,a+(ps.map fun p=>p.length+12).sum+p.length+12)]
 |[],p,a=>by simp[q1f]
 | q::r,p,a=>by
  rw[List.cons_append,q1f,q7X r p,q1f,List.cons_append];simp only[List.map_cons,List.sum_cons]
  congr 4<;>omega
theorem z3K : ∀(ps:List (List UInt8)) (a:Nat),z0a a (q1f a ps)=a+(ps.map fun p=>p.length+12).sum:=fun ps a=>by
 rcases List.eq_nil_or_concat ps with rfl|⟨r,p,rfl⟩
 ·rfl
 ·rw[List.concat_eq_append,q7X]
  unfold z0a;simp only[List.getLast?_append,List.getLast?_singleton,Option.some_or,Option.map_some,Option.getD_some,List.map_append,List.map_cons,List.map_nil,List.sum_append,List.sum_cons,List.sum_nil];omega
theorem q2r : ∀(ps:List (List UInt8)) (a:Nat),(q1f a ps).length=ps.length
 |[],_=>rfl
 |p::r,a=>by simp[q1f,q2r r]
theorem z8R (n:Nat) (l:List (List UInt8)) (p:List UInt8) (r:List (List UInt8)) (hp:p.length≤2000):q5z (q0Y n (l++p::r)) (q0M l)=some (p,q0M l+p.length+12):=by
 have e:q0Y n (l++p::r)=q0Y n l++q2f p++q5W r:=by simp[q0Y,q5W]
 rw[e];exact z4H _ _ _ hp (q1T n l).symm
end
section
open Go.RowKit
theorem z2Z (a b:En) (w:World):Calls Tryz.prog 148 #[enV a,enV b] w fun e w'=>e= .returned (.bool (q0l a b))∧Ext w w':=by
 obtain ⟨a1,a2,a3⟩:=a;obtain ⟨b1,b2,b3⟩:=b;have HB:=η9 (q7K w (.cells #[.int .u64 a1,.int .i64 a2,.int .i64 a3] 108) (.cells #[.int .u64 b1,.int .i64 b2,.int .i64 b3] 108));have HL:Hid (q0l (a1,a2,a3) (b1,b2,b3)=if a1≠b1 then decide (a1<b1) else if a2≠b2 then decide (a2<b2) else decide (a3<b3)):=η9 rfl;show Calls Tryz.prog 148 #[.agg #[.int .u64 a1,.int .i64 a2,.int .i64 a3],.agg #[.int .u64 b1,.int .i64 b2,.int .i64 b3]] w _;by_cases h1:a1=b1
 ·subst h1
  by_cases h2:a2=b2
  ·subst h2
   go_enter Tryz.func148,Tryz.ntmps148;go_wp2_with fail;go_ret;exact ⟨rb (by rw[HL.out];simp),HB.out⟩
  ·have hn:(a2 !=b2)=true:=by simpa using h2
   go_enter Tryz.func148,Tryz.ntmps148;go_wp2_with fail;go_ret;exact ⟨rb (by rw[HL.out];simp[h2]),HB.out⟩
 ·have hn:(a1 !=b1)=true:=by simpa using h1
  go_enter Tryz.func148,Tryz.ntmps148;go_wp2_with fail;go_ret;exact ⟨rb (by rw[HL.out];simp[h1]),HB.out⟩
theorem q9i {L:List En} {k:Nat} (hk:k+1<L.length):q2V (L.take (k+2))=(q2V (L.take (k+1))&&q0l (L.getD k en0) (L.getD (k+1) en0)):=by
 rw[Bool.eq_iff_iff,Bool.and_eq_true,q2Z,q2Z];have e1:L.take (k+2)=L.take (k+1)++[L.getD (k+1) en0]:=q0U L en0 (k+1) hk;have e2:L.take (k+1)=L.take k++[L.getD k en0]:=q0U L en0 k (by omega);rw[e1];unfold q0u;rw[List.pairwise_append]
 constructor
 ·rintro ⟨h1,_,h3⟩
  exact ⟨h1,h3 _ (by rw[e2];simp) _ (by simp)⟩
 ·rintro ⟨h1,h2⟩
  refine ⟨h1,by simp,fun x hx y hy=>?_⟩;obtain rfl:=List.mem_singleton.1 hy;rw[e2] at hx h1;rcases List.mem_append.1 hx with hx|hx
  ·exact q1X ((List.pairwise_append.1 h1).2.2 x hx _ (by simp)) h2
  ·obtain rfl:=List.mem_singleton.1 hx;exact h2
theorem z3z {L:List En} {k:Nat} (hk:k+1<L.length) (h:q0l (L.getD k en0) (L.getD (k+1) en0)=false):q2V L=false:=by
 cases hs:q2V L with
 |false=>rfl
 | true=>
  rw[q2Z] at hs;have h1:q0u (L.take (k+2)):=hs.sublist (List.take_sublist _ _);rw[←q2Z,q9i hk,h,Bool.and_false] at h1
  cases h1
theorem z5F {ao:Option Addr} {n cap:Nat} {L:List En} (w:World) (hx:Ens w ao n cap L):Calls Tryz.prog 210 #[.slice ao n cap] w fun e w'=>e= .returned (.bool (q2V L))∧Ext w w':=by
 have Hx:=η9 hx;have b1:=hx.fits;have b2:=hx.bound;have HLen:=η9 hx.len;clear hx;go_enter Tryz.func210,Tryz.ntmps210;go_wp2_with fail
 go_loopw [3] (fun i W=> ∃k:Nat,k+1≤max n 1∧i= .int .i64 ((k:Int)+1)∧q2V (L.take (k+1))=true∧Ext w W) (fun i _=>n-(intOf i).toNat)
 case atStart=>
  refine ⟨0,by omega,rfl,?_,Ext.refl _⟩
  cases L with
  |nil=>rfl
  |cons a r=>rfl
 case round=>
  obtain ⟨k,hk,rfl,hs,hb⟩:=hrel;have HS:=η9 hs;have HB:=η9 hb;by_cases hlt:k+1<n
  ·have hd:decide (((k:Int)+1)<(n:Int))=true:=by simp;omega
   obtain ⟨b,off,rfl,c0,c1,c2⟩:=(Hx.out.ext hb).at (i:=k) (by omega);obtain ⟨_,_,e1,d0,d1,d2⟩:=(Hx.out.ext hb).at (i:=k+1) hlt
   cases e1;have HT:=η9 (q9i (L:=L) (k:=k) (by rw[HLen.out];exact hlt));have HF:=η9 (z3z (L:=L) (k:=k) (by rw[HLen.out];exact hlt));obtain ⟨x,hx⟩: ∃x,L.getD k en0=x:=⟨_,rfl⟩
   obtain ⟨y,hy⟩: ∃y,L.getD (k+1) en0=y:=⟨_,rfl⟩
   rw[hx] at c0 c1 c2;rw[hy] at d0 d1 d2;rw[hx,hy] at HT HF;obtain ⟨q,hq⟩: ∃q,q0l x y=q:=⟨_,rfl⟩
   have HLs:=η9 (fun W=>z2Z x y W);rw[hq] at HLs HT HF;obtain ⟨x1,x2,x3⟩:=x;obtain ⟨y1,y2,y3⟩:=y;unfold enV ec at HLs;have u0:=q0E c0;have u1:=q0E c1;have u2:=q0E c2;have v0:=q0E d0;have v1:=q0E d1;have v2:=q0E d2;have hw1:IntKind.i64.wrap ((k:Int)+1-1)=(k:Int):=by rw[IntKind.wrap_i64];omega
   have hw2:IntKind.i64.wrap (k:Int)=(k:Int):=by rw[IntKind.wrap_i64];omega
   clear hx hy hs hb hq
   cases q with
   | true=>
    go_wp2_with fail;refine q0F (by kernel_rfl) (by kernel_rfl) ?_
    repeat (go_big_quiet_step (first|(go_at_call 148;exact Calls.quiet_ext (HLs.out _))))
    refine wpQuiet_nil ?_;intro w2 hw2;have HB2:=η9 (HB.out.trans hw2);clear hw2;go_wp2_with fail
    go_roundw
    case rel=>exact ⟨k+1,by omega,by go_num,by rw[HT.out,HS.out];rfl,HB2.out⟩
    case measure=>simp[intOf];omega
   | false=>
    go_wp2_with fail;refine q0F (by kernel_rfl) (by kernel_rfl) ?_
    repeat (go_big_quiet_step (first|(go_at_call 148;exact Calls.quiet_ext (HLs.out _))))
    refine wpQuiet_nil ?_;intro w2 hw2;have HB2:=η9 (HB.out.trans hw2);clear hw2;go_wp2_with fail;go_ret;exact ⟨rb (HF.out (by first|rfl|trivial)),HB2.out⟩
  ·have hd:decide (((k:Int)+1)<(n:Int))=false:=by simp;omega
   have HF:Hid (q2V L=true):=η9 (by rwa [List.take_of_length_le (by rw[HLen.out];omega)] at hs);clear hs hb;go_wp2_with fail;go_ret;exact ⟨rb HF.out,HB.out⟩
end
section
open Go.RowKit
theorem q2w (s:List UInt8) (lo hi:Int) (a b:Nat) (hlo:lo=(a:Int)) (hhi:hi=(b:Int)) (h:a≤b) (h2:b≤s.length) {X:List UInt8} (hX:(s.take b).drop a=X):
  ∀w,(Instr.slice 9 (.string ⟨s.toArray⟩) (some (.int .i64 lo)) (some (.int .i64 hi)) none).run Tryz.prog w= .ok (.string ⟨X.toArray⟩) w:=fun w=>by
 have h3:=run_slice_string (P:=Tryz.prog) w 9 ⟨s.toArray⟩ .i64 .i64 lo hi Tryz.underlying9 (by omega) (by omega) (by simp[ByteArray.size];omega);rw[h3,hlo,hhi,←hX];show _=Result.ok (Value.string ⟨((s.take b).drop a).toArray⟩) w;rw[←q3V];rfl
theorem q5L (s:List UInt8) (hi:Int) (b:Nat) (hhi:hi=(b:Int)) (h2:b≤s.length):
  ∀w,(Instr.slice 9 (.string ⟨s.toArray⟩) none (some (.int .i64 hi)) none).run Tryz.prog w= .ok (.string ⟨(s.take b).toArray⟩) w:=fun w=>by
 have h3:=run_slice_string_to_if (P:=Tryz.prog) w 9 ⟨s.toArray⟩ .i64 hi Tryz.underlying9;have hs:(ByteArray.size ⟨s.toArray⟩)=s.length:=by simp[ByteArray.size]
 rw[h3,hs,if_pos (by omega),hhi];show Result.ok (Value.string ((⟨s.toArray⟩:ByteArray).extract 0 b)) w=_;rw[q3V];rfl
theorem q3Z (s:List UInt8) (lo:Int) (a:Nat) (hlo:lo=(a:Int)) (h2:a≤s.length):
  ∀w,(Instr.slice 9 (.string ⟨s.toArray⟩) (some (.int .i64 lo)) none none).run Tryz.prog w= .ok (.string ⟨(s.drop a).toArray⟩) w:=fun w=>by
 have h3:=run_slice_string_from_if (P:=Tryz.prog) w 9 ⟨s.toArray⟩ .i64 lo Tryz.underlying9;have hs:(ByteArray.size ⟨s.toArray⟩)=s.length:=by simp[ByteArray.size]
 rw[h3,hs,if_pos (by omega),hlo];show Result.ok (Value.string ((⟨s.toArray⟩:ByteArray).extract a s.length)) w=_;rw[q3V,List.take_length]
theorem z8S (k:Nat) (N:Int) (w:World) (hN:N=(k:Int)) (hk:k≤9223372036854775807):
  Calls Tryz.prog 139 #[.int .i64 N] w fun e w'=>e= .returned (.string ⟨(be 4 k).toArray⟩)∧Ext w w':=by
 have h0:0≤N:=by omega
 have h1:N≤9223372036854775807:=by omega
 have hk2:N.toNat=k:=by omega
 have HK:=η9 hk2;clear hN hk2;go_enter Tryz.func139,Tryz.ntmps139;go_wp2_with fail;refine (q7e N 4 _ (by omega) (by omega) h0 (by omega)).mono ?_;rintro e w1 ⟨rfl,hb⟩;have HB:=η9 hb;clear hb;rw[HK.out];go_wp2_with fail;go_ret;exact ⟨rfl,HB.out⟩
theorem z7v (p:List UInt8) (w:World) (hp:2000<p.length) (hl:p.length≤9223372036854775807):
  Calls Tryz.prog 84 #[.string ⟨p.toArray⟩] w fun e w'=>e= .returned (.tuple #[.string ⟨#[]⟩,.int .i64 3])∧w=w':=by
 have hd:decide ((2000:Int)<(p.length:Int))=true:=by simp;omega
 go_enter Tryz.func84,Tryz.ntmps84;go_wp2_with fail;go_ret2;exact ⟨rfl,rfl⟩
theorem y0X (p:List UInt8) (w:World) (hp:p.length≤2000):
  Calls Tryz.prog 84 #[.string ⟨p.toArray⟩] w fun e w'=>e= .returned (.tuple #[.string ⟨(q2f p).toArray⟩,.int .i64 0])∧Ext w w':=by
 have hd:decide ((2000:Int)<(p.length:Int))=false:=by simp;omega
 obtain ⟨n,hn⟩: ∃n:Int,n=(p.length:Int):=⟨_,rfl⟩
 have HR:Hid (q2f p=q1O (be 4 p.length++p)++be 4 p.length):=η9 rfl;have hb4:(be 4 p.length).length=4:=q0I 4 _;have hs:(q1O (be 4 p.length++p)).length=p.length+8:=by simp[q0m,hb4];omega
 have HC:=η9 (fun W=>z8S p.length (p.length:Int) W rfl (by omega));have HS:=η9 (fun W=>q9t (be 4 p.length++p) W (by simp[hb4];omega));go_enter Tryz.func84,Tryz.ntmps84;go_wp2_with fail;refine (HC.out _).mono ?_;rintro e w1 ⟨rfl,hb⟩;have HB:=η9 hb;clear hb;generalize be 4 p.length=X at*;go_wp2_with fail;have hs2:=HS.out w1;generalize q1O (X++p)=Y at*;rw[q3k];refine hs2.mono ?_;rintro e w2 ⟨rfl,hb⟩;have HB2:=η9 (HB.out.trans hb);clear hb;go_wp2_with fail;refine (HC.out _).mono ?_;rintro e w3 ⟨rfl,hb⟩;have HB3:=η9 (HB2.out.trans hb);clear hb;go_wp2_with fail;go_ret2;exact ⟨by rw[HR.out,q3k];rfl,HB3.out⟩
end
section
open Go.RowKit
def z2E (s:List UInt8) (a:Nat):Value:=match q5z s a with
 |none=> .tuple #[.string ⟨#[]⟩,.int .i64 0,.bool false]
 |some (p,b)=> .tuple #[.string ⟨p.toArray⟩,.int .i64 b,.bool true]
theorem q7x {s:List UInt8} {a:Nat} (h:isR s a=false):z2E s a= .tuple #[.string ⟨#[]⟩,.int .i64 0,.bool false]:=by unfold z2E q5z;rw[h];rfl
theorem q6Y (s:List UInt8) (a k:Nat):(s.take (a+k)).drop a=(s.drop a).take k:=by rw[List.drop_take];congr 1;omega
theorem z0z (s:List UInt8) (a:Nat) (w:World) (hl:s.length≤4611686018427387903) (ha:a≤4611686018427387903):
  Calls Tryz.prog 99 #[.string ⟨s.toArray⟩,.int .i64 (a:Int)] w fun e w'=>e= .returned (z2E s a)∧Ext w w':=by
 by_cases h1:s.length<a+12
 ·have HM:Hid (z2E s a= .tuple #[.string ⟨#[]⟩,.int .i64 0,.bool false]):=η9 (q7x (by unfold isR;rw[decide_eq_false (by omega)];rfl))
  have hd:decide (((s.length:Int)-12)<(a:Int))=true:=by simp;omega
  go_enter Tryz.func99,Tryz.ntmps99;go_wp2_with fail;go_ret3;rw[HM.out];exact ⟨rfl,Ext.refl _⟩
 have hd1:decide (((s.length:Int)-12)<(a:Int))=false:=by simp;omega
 obtain ⟨X,hX⟩: ∃X,(s.drop a).take 4=X:=⟨_,rfl⟩
 have hXl:X.length=4:=by rw[←hX];simp;omega
 have hsX:=q2w s (a:Int) ((a:Int)+4) a (a+4) rfl (by omega) (by omega) (by omega) (by rw[q6Y,hX]);obtain ⟨n,hn⟩: ∃n,q4i s a=n:=⟨_,rfl⟩
 have hnX:q1Q (X.take 8)=n:=by rw[List.take_of_length_le (by omega),←hX,←hn];rfl
 have hn4:n<4294967296:=by rw[←hnX];have:=q2J (X.take 8);rw[List.length_take,hXl] at this;exact this
 have HG:=η9 (fun W=>z1E X W (by omega));rw[hnX] at HG;by_cases h2:2000<n∨s.length<a+n+12
 ·have HM:Hid (z2E s a= .tuple #[.string ⟨#[]⟩,.int .i64 0,.bool false]):=η9 (q7x (by
   unfold isR;rw[hn];rcases h2 with h|h
   ·rw[decide_eq_false (p:=n≤2000) (by omega)];simp
   ·rw[decide_eq_false (p:=a+n+12≤s.length) (by omega)];simp))
  clear hX hn hnX hXl;by_cases h3:2000<n
  ·have hd2:decide ((2000:Int)<(n:Int))=true:=by simp;omega
   go_enter Tryz.func99,Tryz.ntmps99;go_wp2_with fail;refine (HG.out _).mono ?_;rintro e w1 ⟨rfl,hb⟩;have HB:=η9 hb;clear hb;go_wp2_with fail;go_ret3;rw[HM.out];exact ⟨rfl,HB.out⟩
  ·have h4:s.length<a+n+12:=by omega
   have hd2:decide ((2000:Int)<(n:Int))=false:=by simp;omega
   have hd3:decide ((s.length:Int)-12-(a:Int)<(n:Int))=true:=by simp;omega
   go_enter Tryz.func99,Tryz.ntmps99;go_wp2_with fail;refine (HG.out _).mono ?_;rintro e w1 ⟨rfl,hb⟩;have HB:=η9 hb;clear hb;go_wp2_with fail;go_ret3;rw[HM.out];exact ⟨rfl,HB.out⟩
 have h5:n≤2000:=by omega
 have h6:a+n+12≤s.length:=by omega
 have hd2:decide ((2000:Int)<(n:Int))=false:=by simp;omega
 have hd3:decide ((s.length:Int)-12-(a:Int)<(n:Int))=false:=by simp;omega
 obtain ⟨Y,hY⟩: ∃Y,(s.drop a).take (n+8)=Y:=⟨_,rfl⟩
 have hYl:Y.length=n+8:=by rw[←hY];simp;omega
 have hsY:=q2w s (a:Int) ((a:Int)+(n:Int)+12-4) a (a+(n+8)) rfl (by omega) (by omega) (by omega) (by rw[q6Y,hY]);obtain ⟨Z,hZ⟩: ∃Z,(s.drop (a+n+8)).take 4=Z:=⟨_,rfl⟩
 have hsZ:=q2w s ((a:Int)+(n:Int)+12-4) ((a:Int)+(n:Int)+12) (a+n+8) (a+n+8+4) (by omega) (by omega) (by omega) (by omega) (by rw[q6Y,hZ]);have HO:=η9 (fun W=>z5W Y W (by omega));have hi:isR s a=(q2K Y&&decide (Z=X)):=by
  unfold isR;rw[hn,decide_eq_true (p:=a+12≤s.length) (by omega),decide_eq_true h5,decide_eq_true h6,hY,hZ,hX];simp
 have hpay:q2K Y=true→(q2B Y).drop 4=(s.drop (a+4)).take n:=fun h=>by
  unfold q2B;rw[if_pos h,hYl,←hY,List.take_take,List.drop_take,List.drop_drop]
  congr 1;omega
 have hTl:q2K Y=true→(q2B Y).length=n+4:=fun h=>by
  unfold q2B;rw[if_pos h,List.length_take,hYl];omega
 have hS:q5z s a=if isR s a then some ((s.drop (a+4)).take n,a+n+12) else none:=by unfold q5z;rw[hn]
 have HI:=η9 hi;have HP:=η9 hpay;have HTl:=η9 hTl;have HS:=η9 hS;clear hX hn hnX hZ hY hYl hi hpay hTl hS h2 h1;generalize q2B Y=T at*
 cases hb:q2K Y with
 | false=>
  have HM:Hid (z2E s a= .tuple #[.string ⟨#[]⟩,.int .i64 0,.bool false]):=η9 (q7x (by rw[HI.out,hb];rfl));rw[hb] at HO;go_enter Tryz.func99,Tryz.ntmps99;go_wp2_with fail;refine (HG.out _).mono ?_;rintro e w1 ⟨rfl,hb1⟩;have HB:=η9 hb1;clear hb1;go_wp2_with fail;refine (HO.out _).mono ?_;rintro e w2 ⟨rfl,hb2⟩;have HB2:=η9 (HB.out.trans hb2);clear hb2;go_wp2_with fail;refine q0F (by kernel_rfl) (by kernel_rfl) ?_
  repeat (go_big_quiet_step (fail))
  refine wpQuiet_nil ?_;intro w3 hw3;have HB3:=η9 (HB2.out.trans hw3);clear hw3;go_wp2_with fail;go_ret3;rw[HM.out];exact ⟨rfl,HB3.out⟩
 | true =>
  by_cases hzx:Z=X
  ·have HM:Hid (z2E s a= .tuple #[.string ⟨(T.drop 4).toArray⟩,.int .i64 ((a:Int)+(n:Int)+12),.bool true]):=η9 (by
    unfold z2E;rw[HS.out,HI.out,hb,hzx,HP.out hb];simp)
   have hTlen:=HTl.out hb;have hsT: ∀w,(Instr.slice 9 (.string ⟨T.toArray⟩) (some (.int .i64 4)) none none).run Tryz.prog w= .ok (.string ⟨(T.drop 4).toArray⟩) w:=fun w=>by
    exact q3Z T 4 4 rfl (by omega) w
   rw[hb] at HO;generalize T.drop 4=T4 at*;subst hzx;go_enter Tryz.func99,Tryz.ntmps99;go_wp2_with fail;refine (HG.out _).mono ?_;rintro e w1 ⟨rfl,hb1⟩;have HB:=η9 hb1;clear hb1;go_wp2_with fail;refine (HO.out _).mono ?_;rintro e w2 ⟨rfl,hb2⟩;have HB2:=η9 (HB.out.trans hb2);clear hb2;go_wp2_with fail;refine q0F (by kernel_rfl) (by kernel_rfl) ?_
   repeat (go_big_quiet_step (fail))
   refine wpQuiet_nil ?_;intro w3 hw3;have HB3:=η9 (HB2.out.trans hw3);clear hw3;go_wp2_with fail;go_ret3;rw[HM.out];exact ⟨rfl,HB3.out⟩
  ·have HM:Hid (z2E s a= .tuple #[.string ⟨#[]⟩,.int .i64 0,.bool false]):=η9 (q7x (by rw[HI.out,decide_eq_false hzx,Bool.and_false]))
   have hne:(Z==X)=false:=by simpa using hzx
   have hne':(Z !=X)=true:=by simpa using hzx
   rw[hb] at HO;go_enter Tryz.func99,Tryz.ntmps99;go_wp2_with fail;refine (HG.out _).mono ?_;rintro e w1 ⟨rfl,hb1⟩;have HB:=η9 hb1;clear hb1;go_wp2_with fail;refine (HO.out _).mono ?_;rintro e w2 ⟨rfl,hb2⟩;have HB2:=η9 (HB.out.trans hb2);clear hb2;go_wp2_with fail;refine q0F (by kernel_rfl) (by kernel_rfl) ?_
   repeat (go_big_quiet_step (fail))
   refine wpQuiet_nil ?_;intro w3 hw3;have HB3:=η9 (HB2.out.trans hw3);clear hw3;go_wp2_with fail;go_ret3;rw[HM.out];exact ⟨rfl,HB3.out⟩
end
section
open Go.RowKit
theorem z4l (n:Nat) (w:World) (hn:n<200):
  Calls Tryz.prog 146 #[.int .i64 (n:Int)] w fun e w'=>e= .returned (.string ⟨(q2x n).toArray⟩)∧Ext w w':=by
 have hd:decide ((200:Int)≤(n:Int))=false:=by simp;omega
 have HR:Hid (q2x n=q1O ([99,104,110,107]++be 4 n)):=η9 rfl;have HP:=η9 (fun W=>q7e (n:Int) 4 W (by omega) (by omega) (by omega) (by omega));have HS:=η9 (fun W=>q9t ([99,104,110,107]++be 4 n) W (by simp[q0I]));have hb4:(be 4 n).length=4:=q0I 4 _;rw[Int.toNat_natCast] at HP;generalize q1O ([99,104,110,107]++be 4 n)=Y at*;generalize be 4 n=X at*;go_enter Tryz.func146,Tryz.ntmps146;go_wp2_with fail;refine (HP.out _).mono ?_;rintro e w1 ⟨rfl,hb⟩;have HB:=η9 hb;clear hb;go_wp2_with fail;have hcat:=q3k [99,104,110,107] X;have hcat2:({data:=#[99,104,110,107]}:ByteArray)++{data:=X.toArray}=⟨([99,104,110,107]++X).toArray⟩:=hcat;rw[hcat2];refine (HS.out _).mono ?_;rintro e w2 ⟨rfl,hb⟩;have HB2:=η9 (HB.out.trans hb);clear hb;go_wp2_with fail;go_ret;exact ⟨by rw[HR.out];rfl,HB2.out⟩
theorem y3Z (N:Int) (p:List UInt8) (w:World) (h0:0≤N) (h1:N≤4096) (hp:p.length≤2000):
  Calls Tryz.prog 85 #[.int .i64 N,.string ⟨p.toArray⟩] w fun e w'=>e= .returned (.bool (decide ((p.length:Int)+12≤4096-N)))∧w=w':=by
 have hd1:decide ((0:Int)≤N)=true:=by simpa using h0
 have hd2:decide (N≤(4096:Int))=true:=by simpa using h1
 have hd3:decide ((p.length:Int)≤(2000:Int))=true:=by simp;omega
 go_enter Tryz.func85,Tryz.ntmps85;go_wp2_with fail;go_ret;exact ⟨rfl,rfl⟩
def z8v (s p:List UInt8):Bool:=decide (p.length≤s.length)&&(s.take p.length==p)
theorem z1a (s p:List UInt8) (w:World) (hl:s.length≤9223372036854775807) (hp:p.length≤9223372036854775807):
  Calls Tryz.prog 196 #[.string ⟨s.toArray⟩,.string ⟨p.toArray⟩] w fun e w'=>e= .returned (.bool (z8v s p))∧w=w':=by
 by_cases h:p.length≤s.length
 ·have HM:Hid (z8v s p=(s.take p.length==p)):=η9 (by unfold z8v;rw[decide_eq_true h,Bool.true_and])
  have hd1:decide ((p.length:Int)≤(s.length:Int))=true:=by simp;omega
  go_enter Tryz.func196,Tryz.ntmps196;go_wp2_with fail;go_ret;rw[HM.out];exact ⟨rfl,rfl⟩
 ·have HM:Hid (z8v s p=false):=η9 (by unfold z8v;rw[decide_eq_false h,Bool.false_and])
  have hd1:decide ((p.length:Int)≤(s.length:Int))=false:=by simp;omega
  go_enter Tryz.func196,Tryz.ntmps196;go_wp2_with fail;go_ret;rw[HM.out];exact ⟨rfl,rfl⟩
theorem z3Q (s p:List UInt8) (w:World) (hl:s.length≤9223372036854775807) (hp:p.length≤9223372036854775807):
  Calls Tryz.prog 152 #[.string ⟨s.toArray⟩,.string ⟨p.toArray⟩] w fun e w'=>e= .returned (.bool (z8v s p))∧w=w':=by
 go_enter Tryz.func152,Tryz.ntmps152;go_wp2_with fail;refine (z1a s p _ hl hp).mono ?_;rintro e w1 ⟨rfl,rfl⟩;go_wp2_with fail;go_ret;exact ⟨rfl,rfl⟩
end
section
open Go.RowKit
theorem q4g : ∀a b:List UInt8,Op.bytesLess a b=bytesBefore a b
 |[],[]=>rfl
 |[],_::_=>rfl
 |_::_,[]=>rfl
 |a::x,b::y=>by unfold Op.bytesLess bytesBefore;rw[q4g x y]
abbrev Cks :=List (List (List UInt8))
def q4j :Nat→Cks→List (List UInt8×List UInt8)
 |_,[]=>[]
 |i,ps::r=>(q0B 99 (i:Int),q0Y i ps)::q4j (i+1) r
theorem q5k : ∀(C:Cks) (i:Nat),(q4j i C).length=C.length
 |[],_=>rfl
 |ps::r,i=>by simp[q4j,q5k r]
theorem q3f : ∀(C D:Cks) (i:Nat),q4j i (C++D)=q4j i C++q4j (i+C.length) D
 |[],D,i=>rfl
 | ps::r,D,i=>by
  rw[List.cons_append,q4j,q3f r D (i+1),q4j,List.cons_append,List.length_cons]
  congr 3;omega
theorem q3x : ∀{C:Cks} {i:Nat} {x:List UInt8×List UInt8},x∈q4j i C→ ∃k,i≤k∧k<i+C.length∧x.1=q0B 99 (k:Int)
 |[],_,_,h=>by cases h
 | ps ::r,i,x,h=>by
  rcases List.mem_cons.1 h with rfl|h
  ·exact ⟨i,Nat.le_refl _,by simp,rfl⟩
  ·obtain ⟨k,h1,h2,h3⟩:=q3x h
   exact ⟨k,by omega,by simp;omega,h3⟩
theorem q3P (n:Int):(q0B 99 n).length≤9223372036854775807:=by
 by_cases h:0≤n∧n≤999999
 ·rw[q0W h,List.length_cons,q0h];decide
 ·rw[q6g h];decide
theorem z8x {i k:Nat} (hi:i≤999999) (hk:k≤999999) (h:i≠k):q0B 99 (i:Int)≠q0B 99 (k:Int):=fun e=>by
 have:=z9a 99 (i:Int) (k:Int) (by omega) (by omega);rw[e,beq_self_eq_true] at this;have:=of_decide_eq_true this.symm;omega
theorem q7M {i k:Nat} (hi:i≤999999) (hk:k≤999999) (h:i<k):bytesBefore (q0B 99 (i:Int)) (q0B 99 (k:Int))=true:=by
 have h1:=z6T 99 (i:Int) (k:Int) (by omega) (by omega);have h2:decide ((i:Int)<(k:Int))=true:=by simp;omega
 rw[h2] at h1;rw[←q4g];exact h1
theorem q6P {C:Cks} {i k:Nat} (hk:k≤999999) (hC:i+C.length≤999999) (h: ∀j,i≤j→j<i+C.length→j≠k): ∀y∈q4j i C,Prod.fst y≠q0B 99 (k:Int):=fun y hy=>by
 obtain ⟨j,h1,h2,h3⟩:=q3x hy;rw[h3];exact z8x (by omega) hk (h j h1 h2)
theorem z1W {C:Cks} {k:Nat} {ps:List (List UInt8)} (hC:C.length≤200) (hk:C[k]? =some ps):q0H Prod.fst (q0B 99 (k:Int)) (q4j 0 C)=some (q0B 99 (k:Int),q0Y k ps):=by
 obtain ⟨hlt,rfl⟩:=List.getElem?_eq_some_iff.1 hk;have e:C=C.take k++C[k]::C.drop (k+1):=by
  rw[List.getElem_cons_drop];exact (List.take_append_drop _ _).symm
 have hl:(C.take k).length=k:=by simp;omega
 conv=>lhs;rw[e]
 rw[q3f,hl,Nat.zero_add,q0i]
 ·rw[q4j];unfold q0H;rw[List.find?_cons_of_pos (by simp)]
 ·exact q6P (by omega) (by rw[hl];omega) fun j _ h2=>by rw[hl] at h2;omega
theorem z2s {C:Cks} {k:Nat} (hC:C.length≤200) (hk:C.length≤k) (hk2:k≤999999):q0H Prod.fst (q0B 99 (k:Int)) (q4j 0 C)=none:=
 q0c (q6P hk2 (by omega) fun j _ h2=>by omega)
theorem z9C {C:Cks} (hC:C.length≤200):q0H Prod.fst [110,101,119] (q4j 0 C)=none:=q0c fun y hy e=>by
 obtain ⟨j,h1,h2,h3⟩:=q3x hy;rw[e] at h3;have h4:j<200:=by omega
 rw[q0W (by omega)] at h3;have h5:=congrArg List.length h3;have h6:(99::q5g 6 ((j:Int)).toNat).length=7:=by simp[q0h]
 rw[h6] at h5
 cases h5
theorem q9z : ∀(C:Cks) (i:Nat),(q4j i C).map Prod.fst=(List.range' i C.length).map fun k:Nat=>q0B 99 (k:Int)
 |[],_=>rfl
 |ps::r,i=>by rw[q4j,List.map_cons,q9z r,List.length_cons,List.range'_succ,List.map_cons]
theorem q1U (a b:List (List UInt8×List UInt8)):q1i (a++b)=q1i a+q1i b:=by simp[q1i,q5d,List.sum_append]
theorem z1X (x:List UInt8×List UInt8):q1i [x]=x.2.length:=by simp[q1i,q5d]
theorem z7z {D:Cks} {ps:List (List UInt8)} (p:List UInt8) (hD:D.length≤200):q1S Prod.fst (q0B 99 (D.length:Int)) (fun x=>(x.1,x.2++q2f p)) (q4j 0 (D++[ps]))=q4j 0 (D++[ps++[p]]):=by
 rw[q3f,q3f,q5U,q2q,Nat.zero_add]
 ·congr 1
  show q1S Prod.fst (q0B 99 (D.length:Int)) _ [(q0B 99 (D.length:Int),q0Y D.length ps)]=[(q0B 99 (D.length:Int),q0Y D.length (ps++[p]))];rw[z4B];unfold q1S;simp
 ·exact q6P (by omega) (by omega) fun j _ h2=>by omega
theorem z6M {C:Cks} (p:List UInt8) (hC:C.length≤200):q1S Prod.fst (q0B 99 (C.length:Int)) (fun x=>(x.1,x.2++(q2x C.length++q2f p))) (q4j 0 C++[(q0B 99 (C.length:Int),[])])=q4j 0 (C++[[p]]):=by
 rw[q3f,q5U,q2q,Nat.zero_add]
 ·congr 1
  show q1S Prod.fst (q0B 99 (C.length:Int)) _ [(q0B 99 (C.length:Int),[])]=[(q0B 99 (C.length:Int),q0Y C.length [p])];rw[z5n];unfold q1S;simp
 ·exact q6P (by omega) (by omega) fun j _ h2=>by omega
def q0t (C:Cks):Nat:=(C.map q0M).sum
theorem q6B : ∀(C:Cks) (i:Nat),q1i (q4j i C)=q0t C
 |[],_=>rfl
 | ps::r,i=>by
  have e:q4j i (ps::r)=[(q0B 99 (i:Int),q0Y i ps)]++q4j (i+1) r:=rfl;rw[e,q1U,z1X,q6B r];simp[q0t,q1T]
structure okC (C:Cks):Prop where
 few:C.length≤200
 size: ∀ps∈C,q0M ps≤4096
 pay: ∀ps∈C,∀p∈ps,p.length≤2000
 full: ∀ps∈C,ps≠[]
structure Oth where
 X:List (List UInt8×List UInt8)
 Z:List (List UInt8×List UInt8)
def noO :Oth:=⟨[],[]⟩
structure okOth (E:Oth):Prop where
 before: ∀y∈E.X,∀k:Nat,k≤999999→bytesBefore y.1 (q0B 99 (k:Int))=true
 behind: ∀y∈E.Z,∀k:Nat,k≤999999→bytesBefore (q0B 99 (k:Int)) y.1=true
 new: ∀y,y∈E.X∨y∈E.Z→y.1≠[110,101,119]
 kind: ∀y,y∈E.X∨y∈E.Z→(q1F y.1).2.2=true→(q1F y.1).1≠99
 len: ∀y,y∈E.X∨y∈E.Z→y.1.length≤1000
 few:E.X.length+E.Z.length≤190
theorem okOth.no :okOth noO:=⟨(fun _ h=>by cases h),(fun _ h=>by cases h),(fun _ h=>by rcases h with h|h<;>cases h),(fun _ h=>by rcases h with h|h<;>cases h),(fun _ h=>by rcases h with h|h<;>cases h),Nat.zero_le _⟩
def q2d (E:Oth):Nat:=q1i E.X+q1i E.Z
def q3r (E:Oth) (C:Cks):List (List UInt8×List UInt8):=E.X++(q4j 0 C++E.Z)
def z6S (E:Oth) (C:Cks):List (List UInt8×List UInt8):=E.X++(q4j 0 C++((q0B 99 (C.length:Int),[])::E.Z))
theorem q9F (E:Oth) (C:Cks):(q3r E C).length=E.X.length+C.length+E.Z.length:=by simp[q3r,q5k];omega
theorem z5J {a b:List UInt8} (h:bytesBefore a b=true):a≠b:=fun e=>by rw[e,WideAt.bytes_irrefl] at h;cases h
theorem okOth.neX {E:Oth} (h:okOth E) {k:Nat} (hk:k≤999999): ∀y∈E.X,Prod.fst y≠q0B 99 (k:Int):=fun y hy=>z5J (h.before y hy k hk)
theorem okOth.neZ {E:Oth} (h:okOth E) {k:Nat} (hk:k≤999999): ∀y∈E.Z,Prod.fst y≠q0B 99 (k:Int):=fun y hy e=>z5J (h.behind y hy k hk) e.symm
theorem q1a {α:Type} {k:α→List UInt8} {nm:List UInt8} {a b:List α} (h: ∀y∈b,k y≠nm):q0H k nm (a++b)=q0H k nm a:=by
 unfold q0H;rw[List.find?_append];have:List.find? (fun y=>k y==nm) b=none:=q0c h;rw[this];simp
theorem q4J {E:Oth} (hE:okOth E) {C:Cks} {k:Nat} {ps:List (List UInt8)} (hC:C.length≤200) (hk:C[k]? =some ps):q0H Prod.fst (q0B 99 (k:Int)) (q3r E C)=some (q0B 99 (k:Int),q0Y k ps):=by
 have hlt:=(List.getElem?_eq_some_iff.1 hk).1;unfold q3r;rw[q0i (hE.neX (by omega)),q1a (hE.neZ (by omega))];exact z1W hC hk
theorem z7l {E:Oth} (hE:okOth E) {C:Cks} {k:Nat} (hC:C.length≤200) (hk:C.length≤k) (hk2:k≤999999):q0H Prod.fst (q0B 99 (k:Int)) (q3r E C)=none:=by
 unfold q3r;rw[q0i (hE.neX hk2),q1a (hE.neZ hk2)];exact z2s hC hk hk2
theorem y0Z {E:Oth} (hE:okOth E) {C:Cks} (hC:C.length≤200):q0H Prod.fst [110,101,119] (q3r E C)=none:=by
 unfold q3r;rw[q0i fun y hy=>hE.new y (.inl hy),q1a fun y hy=>hE.new y (.inr hy)];exact z9C hC
theorem q9P (E:Oth) (C:Cks):q1i (q3r E C)=q2d E+q0t C:=by
 unfold q3r q2d;rw[q1U,q1U,q6B];omega
theorem z6c (E:Oth) (C:Cks):q1i (z6S E C)=q2d E+q0t C:=by
 have e:z6S E C=E.X++(q4j 0 C++([(q0B 99 (C.length:Int),[])]++E.Z)):=rfl;rw[e,q1U,q1U,q1U,q6B,z1X];unfold q2d;simp;omega
theorem z7J {E:Oth} (hE:okOth E) {D:Cks} {ps:List (List UInt8)} (p:List UInt8) (hD:D.length≤200):q1S Prod.fst (q0B 99 (D.length:Int)) (fun x=>(x.1,x.2++q2f p)) (q3r E (D++[ps]))=q3r E (D++[ps++[p]]):=by
 unfold q3r;rw[q5U,q5U,q2q (hE.neX (by omega)),q2q (hE.neZ (by omega)),z7z p hD]
theorem q9S {α:Type} {k:α→List UInt8} {x:α} {b:List α}: ∀{a:List α},(∀y∈a,bytesBefore (k y) (k x)=true)→q2A k x (a++b)=a++q2A k x b
 |[],_=>rfl
 | y ::r,h=>by
  have h1:=h y (List.mem_cons_self);have h2:¬bytesBefore (k x) (k y)=true:=fun h3=>by
   have:=WideShapes.bytes_trans _ _ _ h1 h3;rw[WideAt.bytes_irrefl] at this
   cases this
  rw[List.cons_append,q2A,if_neg h2,q9S fun z hz=>h z (List.mem_cons_of_mem _ hz)]
  rfl
theorem z5k {α:Type} {k:α→List UInt8} {x:α}: ∀{b:List α},(∀y∈b,bytesBefore (k x) (k y)=true)→q2A k x b=x::b
 |[],_=>rfl
 |y::r,h=>by rw[q2A,if_pos (h y (List.mem_cons_self))]
theorem z9B {E:Oth} (hE:okOth E) {C:Cks} (hC:C.length≤200):q2A Prod.fst (q0B 99 (C.length:Int),[]) (q3r E C)=z6S E C:=by
 unfold q3r z6S;rw[q9S fun y hy=>hE.before y hy _ (by omega),q9S fun y hy=>?_,z5k fun y hy=>hE.behind y hy _ (by omega)];obtain ⟨j,h1,h2,h3⟩:=q3x hy;rw[h3];exact q7M (by omega) (by omega) (by omega)
theorem z8U {E:Oth} (hE:okOth E) {C:Cks} (hC:C.length≤200):q0H Prod.fst (q0B 99 (C.length:Int)) (z6S E C)=some (q0B 99 (C.length:Int),[]):=by
 unfold z6S;rw[q0i (hE.neX (by omega)),q0i (q6P (by omega) (by omega) fun j _ h2=>by omega)];unfold q0H;rw[List.find?_cons_of_pos (by simp)]
theorem z6Z {E:Oth} (hE:okOth E) {C:Cks} (p:List UInt8) (hC:C.length≤200):q1S Prod.fst (q0B 99 (C.length:Int)) (fun x=>(x.1,x.2++(q2x C.length++q2f p))) (z6S E C)=q3r E (C++[[p]]):=by
 have e:z6S E C=E.X++((q4j 0 C++[(q0B 99 (C.length:Int),[])])++E.Z):=by simp[z6S]
 rw[e];unfold q3r;rw[q5U,q5U,q2q (hE.neX (by omega)),q2q (hE.neZ (by omega)),z6M p hC]
theorem z5s (E:Oth) (C:Cks):(q3r E C).map Prod.fst=E.X.map Prod.fst++((List.range C.length).map (fun k:Nat=>q0B 99 (k:Int))++E.Z.map Prod.fst):=by
 unfold q3r;rw[List.map_append,List.map_append,q9z,List.range_eq_range']
structure Lgd (E:Oth) (σ:DM) (c s:Int) (C:Cks):Prop where
 pl:Pl σ (c+(q2d E:Int)) s (q3r E C)
 ok:okC C
 oth:okOth E
theorem okC.nil :okC []:=⟨Nat.zero_le _,(fun _ h=>by cases h),(fun _ h=>by cases h),(fun _ h=>by cases h)⟩
theorem okC.grow {D:Cks} {ps:List (List UInt8)} {p:List UInt8} (h:okC (D++[ps])) (hp:p.length≤2000) (hs:q0M ps+(p.length+12)≤4096):okC (D++[ps++[p]]):=by
 have m:ps∈D++[ps]:=by simp
 refine ⟨by simpa using h.few,fun q hq=>?_,fun q hq=>?_,fun q hq=>?_⟩
 all_goals rcases List.mem_append.1 hq with h1|h1
 ·exact h.size q (List.mem_append_left _ h1)
 ·obtain rfl:=List.mem_singleton.1 h1;rw[q2p];exact hs
 ·exact h.pay q (List.mem_append_left _ h1)
 ·obtain rfl:=List.mem_singleton.1 h1
  intro x hx;rcases List.mem_append.1 hx with h2|h2
  ·exact h.pay ps m x h2
  ·obtain rfl:=List.mem_singleton.1 h2;exact hp
 ·exact h.full q (List.mem_append_left _ h1)
 ·obtain rfl:=List.mem_singleton.1 h1;simp
theorem okC.more {C:Cks} {p:List UInt8} (h:okC C) (hp:p.length≤2000) (hn:C.length<200):okC (C++[[p]]):=by
 refine ⟨by simp;omega,fun q hq=>?_,fun q hq=>?_,fun q hq=>?_⟩
 all_goals rcases List.mem_append.1 hq with h1|h1
 ·exact h.size q h1
 ·obtain rfl:=List.mem_singleton.1 h1;rw[q4w];omega
 ·exact h.pay q h1
 ·obtain rfl:=List.mem_singleton.1 h1
  intro x hx;obtain rfl:=List.mem_singleton.1 hx;exact hp
 ·exact h.full q h1
 ·obtain rfl:=List.mem_singleton.1 h1;simp
def q4P (C:Cks):Int:=match C.getLast? with|none=>0|some ps=>((C.length:Int)-1)*4096+(q0M ps:Int)
theorem z4k :q4P []=0:=rfl
theorem q2y (D:Cks) (ps:List (List UInt8)):q4P (D++[ps])=(D.length:Int)*4096+(q0M ps:Int):=by
 unfold q4P;simp
def q0P (C:Cks):List Int:=C.map fun ps=>(q0M ps:Int)
theorem q2j (D:Cks) (ps:List (List UInt8)):q0P (D++[ps])=q0P D++[(q0M ps:Int)]:=by simp[q0P]
theorem q0k (C:Cks):(q0P C).length=C.length:=by simp[q0P]
theorem q9K (D:Cks) (ps:List (List UInt8)):(q0P (D++[ps])).getD D.length 0=(q0M ps:Int):=by
 rw[q2j];have:D.length=(q0P D).length:=(q0k D).symm;rw[List.getD_eq_getElem?_getD,this,List.getElem?_append_right (Nat.le_refl _)];simp
theorem z6R (D:Cks) (ps qs:List (List UInt8)):(q0P (D++[ps])).set D.length (q0M qs:Int)=q0P (D++[qs]):=by
 rw[q2j,q2j];have:D.length=(q0P D).length:=(q0k D).symm;rw[this];simp
theorem z3n (C:Cks) (i:Nat) {ps:List (List UInt8)} (h:C[i]? =some ps):(q0P C).getD i 0=(q0M ps:Int):=by
 unfold q0P;rw[List.getD_eq_getElem?_getD,List.getElem?_map,h];rfl
def q4m (C:Cks) (p:List UInt8):Bool:=match C.getLast? with|none=>false|some ps=>decide (q0M ps+(p.length+12)≤4096)
def q1K (free:Int) (C:Cks) (p:List UInt8):Int×Int×Cks:=
 if 2000<p.length then (0,3,C)
 else if q4m C p then (if free-((p.length:Int)+12)<6000 then (0,60,C) else (q4P C,0,C.dropLast++[C.getLast?.getD []++[p]]))
 else if 200≤C.length∨free-((p.length:Int)+24)<6000 then (0,60,C) else ((C.length:Int)*4096+12,0,C++[[p]])
def q4z (free sure:Int) (C:Cks) (p:List UInt8):Int:=
 if (q1K free C p).2.1=0∧q4m C p=false∧C≠[] then q4P C else sure
def q2v :Nat→List (List UInt8)→List (Nat×List UInt8)
 |_,[]=>[]
 |a,p::r=>(a,p)::q2v (a+p.length+12) r
def q1E :Nat→Cks→List (Nat×List UInt8)
 |_,[]=>[]
 |b,ps::r=>q2v (b+12) ps++q1E (b+4096) r
def q4D (C:Cks) (pos:Int):Option (Nat×List UInt8):=(q1E 0 C).find? fun r=>decide (pos≤(r.1:Int))
def q6G (C:Cks) (pos:Int):List UInt8×Int:=
 if pos<0 then ([],4) else match C[(pos/4096).toNat]? with
 |none=>([],4)
 | some ps=>match (if 12≤pos % 4096 then q5z (q0Y (pos/4096).toNat ps) (pos % 4096).toNat else none) with
  |none=>([],4)
  |some (p,_)=>(p,0)
end
section
open Go.RowKit
theorem q7j : ∀(ps:List (List UInt8)) (a:Nat),∀r∈q2v a ps,a≤r.1∧r.1+r.2.length+12≤a+(ps.map fun p=>p.length+12).sum
 |[],_,r,h=>by cases h
 | p ::t,a,r,h=>by
  rw[q2v] at h;rcases List.mem_cons.1 h with rfl|h
  ·simp only[List.map_cons,List.sum_cons];omega
  ·have:=q7j t _ r h
   simp only[List.map_cons,List.sum_cons];omega
theorem q6o : ∀(C:Cks) (b:Nat),(∀ps∈C,q0M ps≤4096)→ ∀r∈q1E b C,b+12≤r.1∧r.1<b+4096*C.length
 |[],_,_,r,h=>by cases h
 | ps ::t,b,hs,r,h=>by
  rw[q1E] at h;have h1:=hs ps (List.mem_cons_self);unfold q0M at h1;rcases List.mem_append.1 h with h|h
  ·have:=q7j ps _ r h
   simp only[List.length_cons];omega
  ·have:=q6o t _ (fun q hq=>hs q (List.mem_cons_of_mem _ hq)) r h
   simp only[List.length_cons];omega
theorem q5p : ∀(C:Cks) (b n:Nat),q1E b C=q1E b (C.take n)++q1E (b+4096*n) (C.drop n)
 |C,b,0=>by simp[q1E]
 |[],b,n+1=>by simp[q1E]
 | ps::t,b,n+1=>by
  rw[List.take_succ_cons,List.drop_succ_cons,q1E,q1E,q5p t (b+4096) n,List.append_assoc]
  congr 3;omega
theorem z2B (C D:Cks) (b:Nat):q1E b (C++D)=q1E b C++q1E (b+4096*C.length) D:=by
 have:=q5p (C++D) b C.length
 rwa [List.take_left,List.drop_left] at this
theorem z8J {pos:Int} {l m:List (Nat×List UInt8)} (h: ∀r∈l,(r.1:Int)<pos):(l++m).find? (fun r=>decide (pos≤(r.1:Int)))=m.find? fun r=>decide (pos≤(r.1:Int)):=by
 rw[List.find?_append];have:l.find? (fun r=>decide (pos≤(r.1:Int)))=none:=List.find?_eq_none.2 fun r hr=>by have:=h r hr;simp;omega
 rw[this];rfl
theorem z3r (C:Cks) (pos:Int) (hs: ∀ps∈C,q0M ps≤4096) (n:Nat) (hn:(n:Int)*4096≤pos):q4D C pos=(q1E (4096*n) (C.drop n)).find? fun r=>decide (pos≤(r.1:Int)):=by
 unfold q4D;rw[q5p C 0 n,Nat.zero_add];refine z8J fun r hr=>?_
 have:=q6o (C.take n) 0 (fun ps h=>hs ps (List.mem_of_mem_take h)) r hr;have h2:(C.take n).length≤n:=List.length_take_le _ _;omega
theorem q4n : ∀(ps:List (List UInt8)) (a:Nat),(q2v a ps).length=ps.length
 |[],_=>rfl
 |p::t,a=>by simp[q2v,q4n t]
theorem z4X : ∀(ps:List (List UInt8)) (a k:Nat) (p:List UInt8),ps[k]? =some p→(q2v a ps)[k]? =some (a+((ps.take k).map fun p=>p.length+12).sum,p)
 |[],_,k,p,h=>by simp at h
 | q::t,a,0,p,h=>by
  simp only[List.getElem?_cons_zero,Option.some.injEq] at h;subst h;simp[q2v]
 | q::t,a,k+1,p,h=>by
  rw[List.getElem?_cons_succ] at h;rw[q2v,List.getElem?_cons_succ,z4X t _ k p h,List.take_succ_cons,List.map_cons,List.sum_cons]
  congr 2;omega
theorem q9j : ∀(ps:List (List UInt8)) (a k:Nat) (p:List UInt8),ps[k]? =some p→(q1f a ps)[k]? =some (a+((ps.take k).map fun p=>p.length+12).sum,a+((ps.take k).map fun p=>p.length+12).sum+p.length+12)
 |[],_,k,p,h=>by simp at h
 | q::t,a,0,p,h=>by
  simp only[List.getElem?_cons_zero,Option.some.injEq] at h;subst h;simp[q1f]
 | q::t,a,k+1,p,h=>by
  rw[List.getElem?_cons_succ] at h;rw[q1f,List.getElem?_cons_succ,q9j t _ k p h,List.take_succ_cons,List.map_cons,List.sum_cons]
  congr 2<;>omega
theorem y0p (n:Nat) (ps:List (List UInt8)) (k:Nat) (p:List UInt8) (h:ps[k]? =some p) (hp:p.length≤2000):q5z (q0Y n ps) (q0M (ps.take k))=some (p,q0M (ps.take k)+p.length+12):=by
 obtain ⟨hk,rfl⟩:=List.getElem?_eq_some_iff.1 h;have e:ps=ps.take k++ps[k]::ps.drop (k+1):=by rw[List.getElem_cons_drop];exact (List.take_append_drop _ _).symm
 have:=z8R n (ps.take k) ps[k] (ps.drop (k+1)) hp
 rwa [←e] at this
end
section
open Go.RowKit
end
end Go.Proofs.YtjjfiejoeelndaaGreatDoor
