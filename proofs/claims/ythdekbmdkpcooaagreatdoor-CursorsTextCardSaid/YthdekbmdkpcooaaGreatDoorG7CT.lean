/- Plain laws. -/
import Derived.Test.YthdekbmdkpcooaaGreatDoorG5CT
import Derived.Test.YthdekbmdkpcooaaGreatDoorG3CT
import Derived.Test.YthdekbmdkpcooaaGreatDoorG6CT
import Derived.Laws.BitsLemmas
set_option linter.unusedVariables false
set_option linter.unusedSimpArgs false
set_option maxRecDepth 100000
set_option maxHeartbeats 6400000
namespace Go.Proofs.YthdekbmdkpcooaaGreatDoor
theorem η7 {p:Prop} (h:p):Go.RowKit.Hid p:=Lib.hid h
section
open Go.RowKit
theorem q2i (a b:List UInt8):(⟨a.toArray⟩:ByteArray)++⟨b.toArray⟩=⟨(a++b).toArray⟩:=by rw[ByteArray.mk_append_mk];first|done|simp
def q2H (p:List UInt8):List UInt8:=q1M (be 4 p.length++p)++be 4 p.length
def q3x (s:List UInt8) (a:Nat):Nat:=q1F ((s.drop a).take 4)
def isR (s:List UInt8) (a:Nat):Bool:=
 decide (a+12≤s.length)&&decide (q3x s a≤2000)&&decide (a+q3x s a+12≤s.length)
 &&q1q ((s.drop a).take (q3x s a+8))&&decide ((s.drop (a+q3x s a+8)).take 4=(s.drop a).take 4)
def q4z (s:List UInt8) (a:Nat):Option (List UInt8×Nat):=
 if isR s a then some ((s.drop (a+4)).take (q3x s a),a+q3x s a+12) else none
def q5P :Nat→List UInt8→Nat→List (Nat×Nat)
 |0,_,_=>[]
 | f+1,s,a=>match q4z s a with
  |none=>[]
  |some (_,b)=>(a,b)::q5P f s b
def q0k (s:List UInt8) (a:Nat):List (Nat×Nat):=q5P (s.length+1) s a
def q9M (a:Nat) (l:List (Nat×Nat)):Nat:=(l.getLast?.map Prod.snd).getD a
def q2R (n:Nat):List UInt8:=q1M ([99,104,110,107]++be 4 n)
def q4l (ps:List (List UInt8)):List UInt8:=(ps.map q2H).flatten
def q0S (n:Nat) (ps:List (List UInt8)):List UInt8:=q2R n++q4l ps
def q0K (ps:List (List UInt8)):Nat:=12+(ps.map fun p=>p.length+12).sum
def q1R :Nat→List (List UInt8)→List (Nat×Nat)
 |_,[]=>[]
 |a,p::r=>(a,a+p.length+12)::q1R (a+p.length+12) r
theorem q1E (p:List UInt8):(q2H p).length=p.length+12:=by
 simp only[q2H,List.length_append,q1D,q0I];omega
theorem q2m (n:Nat):(q2R n).length=12:=by simp[q2R,q1D,q0I]
theorem q9c (ps:List (List UInt8)):(q4l ps).length=(ps.map fun p=>p.length+12).sum:=by
 unfold q4l
 induction ps with
 |nil=>rfl
 |cons p r ih=>simp[q1E,ih]
theorem q1I (n:Nat) (ps:List (List UInt8)):(q0S n ps).length=q0K ps:=by
 simp[q0S,q0K,q2m,q9c]
theorem z3m (ps:List (List UInt8)) (p:List UInt8):q4l (ps++[p])=q4l ps++q2H p:=by simp[q4l]
theorem z0x (n:Nat) (ps:List (List UInt8)) (p:List UInt8):q0S n (ps++[p])=q0S n ps++q2H p:=by simp[q0S,z3m]
theorem z3y (n:Nat) (p:List UInt8):q0S n [p]=q2R n++q2H p:=by simp[q0S,q4l]
theorem q2O (ps:List (List UInt8)) (p:List UInt8):q0K (ps++[p])=q0K ps+(p.length+12):=by simp[q0K,List.sum_append];omega
theorem q4F (p:List UInt8):q0K [p]=12+(p.length+12):=by simp[q0K]
theorem q9f {s:List UInt8} {a b:Nat} {p:List UInt8} (h:q4z s a=some (p,b)):
  p.length≤2000∧b=a+p.length+12∧b≤s.length∧p=(s.drop (a+4)).take p.length∧q3x s a=p.length:=by
 unfold q4z at h
 split at h
 case isFalse=>cases h
 case isTrue hi=>
  unfold isR at hi;simp only[Bool.and_eq_true,decide_eq_true_eq] at hi;obtain ⟨⟨⟨⟨h1,h2⟩,h3⟩,h4⟩,h5⟩:=hi;simp only[Option.some.injEq,Prod.mk.injEq] at h;obtain ⟨rfl,rfl⟩:=h;have hl:((s.drop (a+4)).take (q3x s a)).length=q3x s a:=by simp;omega
  rw[hl];exact ⟨h2,rfl,h3,rfl,rfl⟩
theorem z9e {α:Type} (pre m post:List α) {a:Nat} (h:a=pre.length):(pre++m++post).drop a=m++post:=by
 subst h;rw[List.append_assoc,List.drop_left]
theorem z2V (pre p post:List UInt8) (hp:p.length≤2000) {a:Nat} (ha:a=pre.length):q4z (pre++q2H p++post) a=some (p,a+p.length+12):=by
 have hd:(pre++q2H p++post).drop a=be 4 p.length++(p++(q7a (q1Y (be 4 p.length++p))++(be 4 p.length++post))):=by
  rw[z9e _ _ _ ha];simp[q2H,q1M]
 have hb:(be 4 p.length).length=4:=q0I 4 _;have hlow:=q4s (q1Y (be 4 p.length++p));have hlong:q3x (pre++q2H p++post) a=p.length:=by
  unfold q3x;rw[hd,List.take_left' hb,q4x];omega
 have hlen:(pre++q2H p++post).length=a+(p.length+12)+post.length:=by simp[q1E,ha];omega
 have hi:isR (pre++q2H p++post) a=true:=by
  unfold isR;rw[hlong];simp only[Bool.and_eq_true,decide_eq_true_eq];refine ⟨⟨⟨⟨by omega,hp⟩,by omega⟩,?_⟩,?_⟩
  ·have e:((pre++q2H p++post).drop a).take (p.length+8)=q1M (be 4 p.length++p):=by
    rw[hd];have:be 4 p.length++(p++(q7a (q1Y (be 4 p.length++p))++(be 4 p.length++post)))=q1M (be 4 p.length++p)++(be 4 p.length++post):=by simp[q1M]
    rw[this];exact List.take_left' (by simp[q1D,hb];omega)
   rw[e];unfold q1q;simp only[Bool.and_eq_true,decide_eq_true_eq,q1D];refine ⟨by omega,?_⟩;have e2:(q1M (be 4 p.length++p)).take ((be 4 p.length++p).length+4-4)=be 4 p.length++p:=by
    unfold q1M;exact List.take_left' (by omega)
   rw[e2]
  ·have e:(pre++q2H p++post).drop (a+p.length+8)=be 4 p.length++post:=by
    have:a+p.length+8=a+(p.length+8):=by omega
    rw[this,←List.drop_drop,hd];have:be 4 p.length++(p++(q7a (q1Y (be 4 p.length++p))++(be 4 p.length++post)))=(be 4 p.length++(p++q7a (q1Y (be 4 p.length++p))))++(be 4 p.length++post):=by simp
    rw[this];exact List.drop_left' (by simp[hb,hlow];omega)
   rw[e,hd,List.take_left' hb,List.take_left' hb]
 unfold q4z;rw[if_pos hi,hlong]
 congr 2
 rw[←List.drop_drop,hd];have e3:(be 4 p.length++(p++(q7a (q1Y (be 4 p.length++p))++(be 4 p.length++post)))).drop 4=p++(q7a (q1Y (be 4 p.length++p))++(be 4 p.length++post)):=List.drop_left' hb;rw[e3];exact List.take_left' rfl
theorem z6B (s:List UInt8) (a:Nat) (h:s.length<a+12):q4z s a=none:=by
 unfold q4z isR;rw[decide_eq_false (by omega)];simp
theorem q8O : ∀(ps:List (List UInt8)) (pre:List UInt8) (f a:Nat),(∀p∈ps,p.length≤2000)→a=pre.length→ps.length<f→q5P f (pre++q4l ps) a=q1R a ps
 |[],pre,0,a,_,_,hf=>by simp at hf
 | [],pre,f+1,a,_,ha,_=>by
  unfold q5P;rw[z6B _ _ (by simp[q4l,ha])]
  rfl
 |p::r,pre,0,a,_,_,hf=>by simp at hf
 | p::r,pre,f+1,a,hp,ha,hf=>by
  have e:pre++q4l (p::r)=pre++q2H p++q4l r:=by simp[q4l]
  rw[e];unfold q5P;rw[z2V pre p (q4l r) (hp p (List.mem_cons_self)) ha];show _::q5P f (pre++q2H p++q4l r) (a+p.length+12)=_;rw[q8O r (pre++q2H p) f _ (fun q hq=>hp q (List.mem_cons_of_mem _ hq)) (by simp[q1E,ha];omega) (by simp at hf;omega)]
  rfl
theorem z8O (ps:List (List UInt8)):12*ps.length≤(ps.map fun p=>p.length+12).sum:=by
 induction ps with
 |nil=>simp
 |cons p r ih=>simp only[List.map_cons,List.sum_cons,List.length_cons];omega
theorem q6j (n:Nat) (ps:List (List UInt8)) (hp: ∀p∈ps,p.length≤2000):q0k (q0S n ps) 12=q1R 12 ps:=by
 unfold q0k;refine q8O ps (q2R n) _ 12 hp (q2m n).symm ?_;have:=z8O ps;show _<(q0S n ps).length+1;rw[q1I];unfold q0K;omega
theorem q5z : ∀(ps:List (List UInt8)) (p:List UInt8) (a:Nat),q1R a (ps++[p])=q1R a ps++[(a+(ps.map fun p=>p.length+12).sum,a+(ps.map fun p=>p.length+12).sum+p.length+12)]
 |[],p,a=>by simp[q1R]
 | q::r,p,a=>by
  rw[List.cons_append,q1R,q5z r p,q1R,List.cons_append];simp only[List.map_cons,List.sum_cons]
  congr 4<;>omega
theorem z1o : ∀(ps:List (List UInt8)) (a:Nat),q9M a (q1R a ps)=a+(ps.map fun p=>p.length+12).sum:=fun ps a=>by
 rcases List.eq_nil_or_concat ps with rfl|⟨r,p,rfl⟩
 ·rfl
 ·rw[List.concat_eq_append,q5z]
  unfold q9M;simp only[List.getLast?_append,List.getLast?_singleton,Option.some_or,Option.map_some,Option.getD_some,List.map_append,List.map_cons,List.map_nil,List.sum_append,List.sum_cons,List.sum_nil];omega
theorem q2Q : ∀(ps:List (List UInt8)) (a:Nat),(q1R a ps).length=ps.length
 |[],_=>rfl
 |p::r,a=>by simp[q1R,q2Q r]
theorem z6I (n:Nat) (l:List (List UInt8)) (p:List UInt8) (r:List (List UInt8)) (hp:p.length≤2000):q4z (q0S n (l++p::r)) (q0K l)=some (p,q0K l+p.length+12):=by
 have e:q0S n (l++p::r)=q0S n l++q2H p++q4l r:=by simp[q0S,q4l]
 rw[e];exact z2V _ _ _ hp (q1I n l).symm
end
section
open Go.RowKit
theorem q2X (s:List UInt8) (lo hi:Int) (a b:Nat) (hlo:lo=(a:Int)) (hhi:hi=(b:Int)) (h:a≤b) (h2:b≤s.length) {X:List UInt8} (hX:(s.take b).drop a=X):
  ∀w,(Instr.slice 9 (.string ⟨s.toArray⟩) (some (.int .i64 lo)) (some (.int .i64 hi)) none).run Tryz.prog w= .ok (.string ⟨X.toArray⟩) w:=fun w=>by
 have h3:=run_slice_string (P:=Tryz.prog) w 9 ⟨s.toArray⟩ .i64 .i64 lo hi Tryz.underlying9 (by omega) (by omega) (by simp[ByteArray.size];omega);rw[h3,hlo,hhi,←hX];show _=Result.ok (Value.string ⟨((s.take b).drop a).toArray⟩) w;rw[←q2u];rfl
theorem q4a (s:List UInt8) (hi:Int) (b:Nat) (hhi:hi=(b:Int)) (h2:b≤s.length):
  ∀w,(Instr.slice 9 (.string ⟨s.toArray⟩) none (some (.int .i64 hi)) none).run Tryz.prog w= .ok (.string ⟨(s.take b).toArray⟩) w:=fun w=>by
 have h3:=run_slice_string_to_if (P:=Tryz.prog) w 9 ⟨s.toArray⟩ .i64 hi Tryz.underlying9;have hs:(ByteArray.size ⟨s.toArray⟩)=s.length:=by simp[ByteArray.size]
 rw[h3,hs,if_pos (by omega),hhi];show Result.ok (Value.string ((⟨s.toArray⟩:ByteArray).extract 0 b)) w=_;rw[q2u];rfl
theorem q2q (s:List UInt8) (lo:Int) (a:Nat) (hlo:lo=(a:Int)) (h2:a≤s.length):
  ∀w,(Instr.slice 9 (.string ⟨s.toArray⟩) (some (.int .i64 lo)) none none).run Tryz.prog w= .ok (.string ⟨(s.drop a).toArray⟩) w:=fun w=>by
 have h3:=run_slice_string_from_if (P:=Tryz.prog) w 9 ⟨s.toArray⟩ .i64 lo Tryz.underlying9;have hs:(ByteArray.size ⟨s.toArray⟩)=s.length:=by simp[ByteArray.size]
 rw[h3,hs,if_pos (by omega),hlo];show Result.ok (Value.string ((⟨s.toArray⟩:ByteArray).extract a s.length)) w=_;rw[q2u,List.take_length]
theorem z6G (k:Nat) (N:Int) (w:World) (hN:N=(k:Int)) (hk:k≤9223372036854775807):
  Calls Tryz.prog 121 #[.int .i64 N] w fun e w'=>e= .returned (.string ⟨(be 4 k).toArray⟩)∧Ext w w':=by
 have h0:0≤N:=by omega
 have h1:N≤9223372036854775807:=by omega
 have hk2:N.toNat=k:=by omega
 have HK:=η7 hk2;clear hN hk2;go_enter Tryz.func121,Tryz.ntmps121;go_wp2_with fail;refine (q6v N 4 _ (by omega) (by omega) h0 (by omega)).mono ?_;rintro e w1 ⟨rfl,hb⟩;have HB:=η7 hb;clear hb;rw[HK.out];go_wp2_with fail;go_ret;exact ⟨rfl,HB.out⟩
theorem z4u (p:List UInt8) (w:World) (hp:2000<p.length) (hl:p.length≤9223372036854775807):
  Calls Tryz.prog 73 #[.string ⟨p.toArray⟩] w fun e w'=>e= .returned (.tuple #[.string ⟨#[]⟩,.int .i64 3])∧w=w':=by
 have hd:decide ((2000:Int)<(p.length:Int))=true:=by simp;omega
 go_enter Tryz.func73,Tryz.ntmps73;go_wp2_with fail;go_ret2;exact ⟨rfl,rfl⟩
theorem z6l (p:List UInt8) (w:World) (hp:p.length≤2000):
  Calls Tryz.prog 73 #[.string ⟨p.toArray⟩] w fun e w'=>e= .returned (.tuple #[.string ⟨(q2H p).toArray⟩,.int .i64 0])∧Ext w w':=by
 have hd:decide ((2000:Int)<(p.length:Int))=false:=by simp;omega
 obtain ⟨n,hn⟩: ∃n:Int,n=(p.length:Int):=⟨_,rfl⟩
 have HR:Hid (q2H p=q1M (be 4 p.length++p)++be 4 p.length):=η7 rfl;have hb4:(be 4 p.length).length=4:=q0I 4 _;have hs:(q1M (be 4 p.length++p)).length=p.length+8:=by simp[q1D,hb4];omega
 have HC:=η7 (fun W=>z6G p.length (p.length:Int) W rfl (by omega));have HS:=η7 (fun W=>z1z (be 4 p.length++p) W (by simp[hb4];omega));go_enter Tryz.func73,Tryz.ntmps73;go_wp2_with fail;refine (HC.out _).mono ?_;rintro e w1 ⟨rfl,hb⟩;have HB:=η7 hb;clear hb;generalize be 4 p.length=X at*;go_wp2_with fail;have hs2:=HS.out w1;generalize q1M (X++p)=Y at*;rw[q2i];refine hs2.mono ?_;rintro e w2 ⟨rfl,hb⟩;have HB2:=η7 (HB.out.trans hb);clear hb;go_wp2_with fail;refine (HC.out _).mono ?_;rintro e w3 ⟨rfl,hb⟩;have HB3:=η7 (HB2.out.trans hb);clear hb;go_wp2_with fail;go_ret2;exact ⟨by rw[HR.out,q2i];rfl,HB3.out⟩
end
section
open Go.RowKit
theorem q9m (a b:En) (w:World):Calls Tryz.prog 132 #[enV a,enV b] w fun e w'=>e= .returned (.bool (q0e a b))∧Ext w w':=by
 obtain ⟨a1,a2,a3⟩:=a;obtain ⟨b1,b2,b3⟩:=b;have HB:=η7 (q2I w (.cells #[.int .u64 a1,.int .i64 a2,.int .i64 a3] 106) (.cells #[.int .u64 b1,.int .i64 b2,.int .i64 b3] 106));have HL:Hid (q0e (a1,a2,a3) (b1,b2,b3)=if a1≠b1 then decide (a1<b1) else if a2≠b2 then decide (a2<b2) else decide (a3<b3)):=η7 rfl;show Calls Tryz.prog 132 #[.agg #[.int .u64 a1,.int .i64 a2,.int .i64 a3],.agg #[.int .u64 b1,.int .i64 b2,.int .i64 b3]] w _;by_cases h1:a1=b1
 ·subst h1
  by_cases h2:a2=b2
  ·subst h2
   go_enter Tryz.func132,Tryz.ntmps132;go_wp2_with fail;go_ret;exact ⟨rb (by rw[HL.out];simp),HB.out⟩
  ·have hn:(a2 !=b2)=true:=by simpa using h2
   go_enter Tryz.func132,Tryz.ntmps132;go_wp2_with fail;go_ret;exact ⟨rb (by rw[HL.out];simp[h2]),HB.out⟩
 ·have hn:(a1 !=b1)=true:=by simpa using h1
  go_enter Tryz.func132,Tryz.ntmps132;go_wp2_with fail;go_ret;exact ⟨rb (by rw[HL.out];simp[h1]),HB.out⟩
theorem q7o {L:List En} {k:Nat} (hk:k+1<L.length):q3w (L.take (k+2))=(q3w (L.take (k+1))&&q0e (L.getD k en0) (L.getD (k+1) en0)):=by
 rw[Bool.eq_iff_iff,Bool.and_eq_true,q2x,q2x];have e1:L.take (k+2)=L.take (k+1)++[L.getD (k+1) en0]:=q0T L en0 (k+1) hk;have e2:L.take (k+1)=L.take k++[L.getD k en0]:=q0T L en0 k (by omega);rw[e1];unfold q0q;rw[List.pairwise_append]
 constructor
 ·rintro ⟨h1,_,h3⟩
  exact ⟨h1,h3 _ (by rw[e2];simp) _ (by simp)⟩
 ·rintro ⟨h1,h2⟩
  refine ⟨h1,by simp,fun x hx y hy=>?_⟩;obtain rfl:=List.mem_singleton.1 hy;rw[e2] at hx h1;rcases List.mem_append.1 hx with hx|hx
  ·exact q1K ((List.pairwise_append.1 h1).2.2 x hx _ (by simp)) h2
  ·obtain rfl:=List.mem_singleton.1 hx;exact h2
theorem z1J {L:List En} {k:Nat} (hk:k+1<L.length) (h:q0e (L.getD k en0) (L.getD (k+1) en0)=false):q3w L=false:=by
 cases hs:q3w L with
 |false=>rfl
 | true=>
  rw[q2x] at hs;have h1:q0q (L.take (k+2)):=hs.sublist (List.take_sublist _ _);rw[←q2x,q7o hk,h,Bool.and_false] at h1
  cases h1
theorem z6r {ao:Option Addr} {n cap:Nat} {L:List En} (w:World) (hx:Ens w ao n cap L):Calls Tryz.prog 246 #[.slice ao n cap] w fun e w'=>e= .returned (.bool (q3w L))∧Ext w w':=by
 have Hx:=η7 hx;have b1:=hx.fits;have b2:=hx.bound;have HLen:=η7 hx.len;clear hx;go_enter Tryz.func246,Tryz.ntmps246;go_wp2_with fail
 go_loopw [3] (fun i W=> ∃k:Nat,k+1≤max n 1∧i= .int .i64 ((k:Int)+1)∧q3w (L.take (k+1))=true∧Ext w W) (fun i _=>n-(intOf i).toNat)
 case atStart=>
  refine ⟨0,by omega,rfl,?_,Ext.refl _⟩
  cases L with
  |nil=>rfl
  |cons a r=>rfl
 case round=>
  obtain ⟨k,hk,rfl,hs,hb⟩:=hrel;have HS:=η7 hs;have HB:=η7 hb;by_cases hlt:k+1<n
  ·have hd:decide (((k:Int)+1)<(n:Int))=true:=by simp;omega
   obtain ⟨b,off,rfl,c0,c1,c2⟩:=(Hx.out.ext hb).at (i:=k) (by omega);obtain ⟨_,_,e1,d0,d1,d2⟩:=(Hx.out.ext hb).at (i:=k+1) hlt
   cases e1;have HT:=η7 (q7o (L:=L) (k:=k) (by rw[HLen.out];exact hlt));have HF:=η7 (z1J (L:=L) (k:=k) (by rw[HLen.out];exact hlt));obtain ⟨x,hx⟩: ∃x,L.getD k en0=x:=⟨_,rfl⟩
   obtain ⟨y,hy⟩: ∃y,L.getD (k+1) en0=y:=⟨_,rfl⟩
   rw[hx] at c0 c1 c2;rw[hy] at d0 d1 d2;rw[hx,hy] at HT HF;obtain ⟨q,hq⟩: ∃q,q0e x y=q:=⟨_,rfl⟩
   have HLs:=η7 (fun W=>q9m x y W);rw[hq] at HLs HT HF;obtain ⟨x1,x2,x3⟩:=x;obtain ⟨y1,y2,y3⟩:=y;unfold enV ec at HLs;have u0:=q0F c0;have u1:=q0F c1;have u2:=q0F c2;have v0:=q0F d0;have v1:=q0F d1;have v2:=q0F d2;have hw1:IntKind.i64.wrap ((k:Int)+1-1)=(k:Int):=by rw[IntKind.wrap_i64];omega
   have hw2:IntKind.i64.wrap (k:Int)=(k:Int):=by rw[IntKind.wrap_i64];omega
   clear hx hy hs hb hq
   cases q with
   | true=>
    go_wp2_with fail;refine q0E (by kernel_rfl) (by kernel_rfl) ?_
    repeat (go_big_quiet_step (first|(go_at_call 132;exact Calls.quiet_ext (HLs.out _))))
    refine wpQuiet_nil ?_;intro w2 hw2;have HB2:=η7 (HB.out.trans hw2);clear hw2;go_wp2_with fail
    go_roundw
    case rel=>exact ⟨k+1,by omega,by go_num,by rw[HT.out,HS.out];rfl,HB2.out⟩
    case measure=>simp[intOf];omega
   | false=>
    go_wp2_with fail;refine q0E (by kernel_rfl) (by kernel_rfl) ?_
    repeat (go_big_quiet_step (first|(go_at_call 132;exact Calls.quiet_ext (HLs.out _))))
    refine wpQuiet_nil ?_;intro w2 hw2;have HB2:=η7 (HB.out.trans hw2);clear hw2;go_wp2_with fail;go_ret;exact ⟨rb (HF.out (by first|rfl|trivial)),HB2.out⟩
  ·have hd:decide (((k:Int)+1)<(n:Int))=false:=by simp;omega
   have HF:Hid (q3w L=true):=η7 (by rwa [List.take_of_length_le (by rw[HLen.out];omega)] at hs);clear hs hb;go_wp2_with fail;go_ret;exact ⟨rb HF.out,HB.out⟩
end
section
open Go.RowKit
def q9U (s:List UInt8) (a:Nat):Value:=match q4z s a with
 |none=> .tuple #[.string ⟨#[]⟩,.int .i64 0,.bool false]
 |some (p,b)=> .tuple #[.string ⟨p.toArray⟩,.int .i64 b,.bool true]
theorem q7H {s:List UInt8} {a:Nat} (h:isR s a=false):q9U s a= .tuple #[.string ⟨#[]⟩,.int .i64 0,.bool false]:=by unfold q9U q4z;rw[h];rfl
theorem q5A (s:List UInt8) (a k:Nat):(s.take (a+k)).drop a=(s.drop a).take k:=by rw[List.drop_take];congr 1;omega
theorem q8r (s:List UInt8) (a:Nat) (w:World) (hl:s.length≤4611686018427387903) (ha:a≤4611686018427387903):
  Calls Tryz.prog 94 #[.string ⟨s.toArray⟩,.int .i64 (a:Int)] w fun e w'=>e= .returned (q9U s a)∧Ext w w':=by
 by_cases h1:s.length<a+12
 ·have HM:Hid (q9U s a= .tuple #[.string ⟨#[]⟩,.int .i64 0,.bool false]):=η7 (q7H (by unfold isR;rw[decide_eq_false (by omega)];rfl))
  have hd:decide (((s.length:Int)-12)<(a:Int))=true:=by simp;omega
  go_enter Tryz.func94,Tryz.ntmps94;go_wp2_with fail;go_ret3;rw[HM.out];exact ⟨rfl,Ext.refl _⟩
 have hd1:decide (((s.length:Int)-12)<(a:Int))=false:=by simp;omega
 obtain ⟨X,hX⟩: ∃X,(s.drop a).take 4=X:=⟨_,rfl⟩
 have hXl:X.length=4:=by rw[←hX];simp;omega
 have hsX:=q2X s (a:Int) ((a:Int)+4) a (a+4) rfl (by omega) (by omega) (by omega) (by rw[q5A,hX]);obtain ⟨n,hn⟩: ∃n,q3x s a=n:=⟨_,rfl⟩
 have hnX:q1F (X.take 8)=n:=by rw[List.take_of_length_le (by omega),←hX,←hn];rfl
 have hn4:n<4294967296:=by rw[←hnX];have:=q1p (X.take 8);rw[List.length_take,hXl] at this;exact this
 have HG:=η7 (fun W=>q8S X W (by omega));rw[hnX] at HG;by_cases h2:2000<n∨s.length<a+n+12
 ·have HM:Hid (q9U s a= .tuple #[.string ⟨#[]⟩,.int .i64 0,.bool false]):=η7 (q7H (by
   unfold isR;rw[hn];rcases h2 with h|h
   ·rw[decide_eq_false (p:=n≤2000) (by omega)];simp
   ·rw[decide_eq_false (p:=a+n+12≤s.length) (by omega)];simp))
  clear hX hn hnX hXl;by_cases h3:2000<n
  ·have hd2:decide ((2000:Int)<(n:Int))=true:=by simp;omega
   go_enter Tryz.func94,Tryz.ntmps94;go_wp2_with fail;refine (HG.out _).mono ?_;rintro e w1 ⟨rfl,hb⟩;have HB:=η7 hb;clear hb;go_wp2_with fail;go_ret3;rw[HM.out];exact ⟨rfl,HB.out⟩
  ·have h4:s.length<a+n+12:=by omega
   have hd2:decide ((2000:Int)<(n:Int))=false:=by simp;omega
   have hd3:decide ((s.length:Int)-12-(a:Int)<(n:Int))=true:=by simp;omega
   go_enter Tryz.func94,Tryz.ntmps94;go_wp2_with fail;refine (HG.out _).mono ?_;rintro e w1 ⟨rfl,hb⟩;have HB:=η7 hb;clear hb;go_wp2_with fail;go_ret3;rw[HM.out];exact ⟨rfl,HB.out⟩
 have h5:n≤2000:=by omega
 have h6:a+n+12≤s.length:=by omega
 have hd2:decide ((2000:Int)<(n:Int))=false:=by simp;omega
 have hd3:decide ((s.length:Int)-12-(a:Int)<(n:Int))=false:=by simp;omega
 obtain ⟨Y,hY⟩: ∃Y,(s.drop a).take (n+8)=Y:=⟨_,rfl⟩
 have hYl:Y.length=n+8:=by rw[←hY];simp;omega
 have hsY:=q2X s (a:Int) ((a:Int)+(n:Int)+12-4) a (a+(n+8)) rfl (by omega) (by omega) (by omega) (by rw[q5A,hY]);obtain ⟨Z,hZ⟩: ∃Z,(s.drop (a+n+8)).take 4=Z:=⟨_,rfl⟩
 have hsZ:=q2X s ((a:Int)+(n:Int)+12-4) ((a:Int)+(n:Int)+12) (a+n+8) (a+n+8+4) (by omega) (by omega) (by omega) (by omega) (by rw[q5A,hZ]);have HO:=η7 (fun W=>z2L Y W (by omega));have hi:isR s a=(q1q Y&&decide (Z=X)):=by
  unfold isR;rw[hn,decide_eq_true (p:=a+12≤s.length) (by omega),decide_eq_true h5,decide_eq_true h6,hY,hZ,hX];simp
 have hpay:q1q Y=true→(q1j Y).drop 4=(s.drop (a+4)).take n:=fun h=>by
  unfold q1j;rw[if_pos h,hYl,←hY,List.take_take,List.drop_take,List.drop_drop]
  congr 1;omega
 have hTl:q1q Y=true→(q1j Y).length=n+4:=fun h=>by
  unfold q1j;rw[if_pos h,List.length_take,hYl];omega
 have hS:q4z s a=if isR s a then some ((s.drop (a+4)).take n,a+n+12) else none:=by unfold q4z;rw[hn]
 have HI:=η7 hi;have HP:=η7 hpay;have HTl:=η7 hTl;have HS:=η7 hS;clear hX hn hnX hZ hY hYl hi hpay hTl hS h2 h1;generalize q1j Y=T at*
 cases hb:q1q Y with
 | false=>
  have HM:Hid (q9U s a= .tuple #[.string ⟨#[]⟩,.int .i64 0,.bool false]):=η7 (q7H (by rw[HI.out,hb];rfl));rw[hb] at HO;go_enter Tryz.func94,Tryz.ntmps94;go_wp2_with fail;refine (HG.out _).mono ?_;rintro e w1 ⟨rfl,hb1⟩;have HB:=η7 hb1;clear hb1;go_wp2_with fail;refine (HO.out _).mono ?_;rintro e w2 ⟨rfl,hb2⟩;have HB2:=η7 (HB.out.trans hb2);clear hb2;go_wp2_with fail;refine q0E (by kernel_rfl) (by kernel_rfl) ?_
  repeat (go_big_quiet_step (fail))
  refine wpQuiet_nil ?_;intro w3 hw3;have HB3:=η7 (HB2.out.trans hw3);clear hw3;go_wp2_with fail;go_ret3;rw[HM.out];exact ⟨rfl,HB3.out⟩
 | true =>
  by_cases hzx:Z=X
  ·have HM:Hid (q9U s a= .tuple #[.string ⟨(T.drop 4).toArray⟩,.int .i64 ((a:Int)+(n:Int)+12),.bool true]):=η7 (by
    unfold q9U;rw[HS.out,HI.out,hb,hzx,HP.out hb]
    simp)
   have hTlen:=HTl.out hb;have hsT: ∀w,(Instr.slice 9 (.string ⟨T.toArray⟩) (some (.int .i64 4)) none none).run Tryz.prog w= .ok (.string ⟨(T.drop 4).toArray⟩) w:=fun w=>by
    exact q2q T 4 4 rfl (by omega) w
   rw[hb] at HO;generalize T.drop 4=T4 at*;subst hzx;go_enter Tryz.func94,Tryz.ntmps94;go_wp2_with fail;refine (HG.out _).mono ?_;rintro e w1 ⟨rfl,hb1⟩;have HB:=η7 hb1;clear hb1;go_wp2_with fail;refine (HO.out _).mono ?_;rintro e w2 ⟨rfl,hb2⟩;have HB2:=η7 (HB.out.trans hb2);clear hb2;go_wp2_with fail;refine q0E (by kernel_rfl) (by kernel_rfl) ?_
   repeat (go_big_quiet_step (fail))
   refine wpQuiet_nil ?_;intro w3 hw3;have HB3:=η7 (HB2.out.trans hw3);clear hw3;go_wp2_with fail;go_ret3;rw[HM.out];exact ⟨rfl,HB3.out⟩
  ·have HM:Hid (q9U s a= .tuple #[.string ⟨#[]⟩,.int .i64 0,.bool false]):=η7 (q7H (by rw[HI.out,decide_eq_false hzx,Bool.and_false]))
   have hne:(Z==X)=false:=by simpa using hzx
   have hne':(Z !=X)=true:=by simpa using hzx
   rw[hb] at HO;go_enter Tryz.func94,Tryz.ntmps94;go_wp2_with fail;refine (HG.out _).mono ?_;rintro e w1 ⟨rfl,hb1⟩;have HB:=η7 hb1;clear hb1;go_wp2_with fail;refine (HO.out _).mono ?_;rintro e w2 ⟨rfl,hb2⟩;have HB2:=η7 (HB.out.trans hb2);clear hb2;go_wp2_with fail;refine q0E (by kernel_rfl) (by kernel_rfl) ?_
   repeat (go_big_quiet_step (fail))
   refine wpQuiet_nil ?_;intro w3 hw3;have HB3:=η7 (HB2.out.trans hw3);clear hw3;go_wp2_with fail;go_ret3;rw[HM.out];exact ⟨rfl,HB3.out⟩
end
section
open Go.RowKit
theorem z3J (n:Nat) (w:World) (hn:n<200):
  Calls Tryz.prog 129 #[.int .i64 (n:Int)] w fun e w'=>e= .returned (.string ⟨(q2R n).toArray⟩)∧Ext w w':=by
 have hd:decide ((200:Int)≤(n:Int))=false:=by simp;omega
 have HR:Hid (q2R n=q1M ([99,104,110,107]++be 4 n)):=η7 rfl;have HP:=η7 (fun W=>q6v (n:Int) 4 W (by omega) (by omega) (by omega) (by omega));have HS:=η7 (fun W=>z1z ([99,104,110,107]++be 4 n) W (by simp[q0I]));have hb4:(be 4 n).length=4:=q0I 4 _;rw[Int.toNat_natCast] at HP;generalize q1M ([99,104,110,107]++be 4 n)=Y at*;generalize be 4 n=X at*;go_enter Tryz.func129,Tryz.ntmps129;go_wp2_with fail;refine (HP.out _).mono ?_;rintro e w1 ⟨rfl,hb⟩;have HB:=η7 hb;clear hb;go_wp2_with fail;have hcat:=q2i [99,104,110,107] X;have hcat2:({data:=#[99,104,110,107]}:ByteArray)++{data:=X.toArray}=⟨([99,104,110,107]++X).toArray⟩:=hcat;rw[hcat2];refine (HS.out _).mono ?_;rintro e w2 ⟨rfl,hb⟩;have HB2:=η7 (HB.out.trans hb);clear hb;go_wp2_with fail;go_ret;exact ⟨by rw[HR.out];rfl,HB2.out⟩
theorem y0v (N:Int) (p:List UInt8) (w:World) (h0:0≤N) (h1:N≤4096) (hp:p.length≤2000):
  Calls Tryz.prog 74 #[.int .i64 N,.string ⟨p.toArray⟩] w fun e w'=>e= .returned (.bool (decide ((p.length:Int)+12≤4096-N)))∧w=w':=by
 have hd1:decide ((0:Int)≤N)=true:=by simpa using h0
 have hd2:decide (N≤(4096:Int))=true:=by simpa using h1
 have hd3:decide ((p.length:Int)≤(2000:Int))=true:=by simp;omega
 go_enter Tryz.func74,Tryz.ntmps74;go_wp2_with fail;go_ret;exact ⟨rfl,rfl⟩
def z6c (s p:List UInt8):Bool:=decide (p.length≤s.length)&&(s.take p.length==p)
theorem q9V (s p:List UInt8) (w:World) (hl:s.length≤9223372036854775807) (hp:p.length≤9223372036854775807):
  Calls Tryz.prog 190 #[.string ⟨s.toArray⟩,.string ⟨p.toArray⟩] w fun e w'=>e= .returned (.bool (z6c s p))∧w=w':=by
 by_cases h:p.length≤s.length
 ·have HM:Hid (z6c s p=(s.take p.length==p)):=η7 (by unfold z6c;rw[decide_eq_true h,Bool.true_and])
  have hd1:decide ((p.length:Int)≤(s.length:Int))=true:=by simp;omega
  go_enter Tryz.func190,Tryz.ntmps190;go_wp2_with fail;go_ret;rw[HM.out];exact ⟨rfl,rfl⟩
 ·have HM:Hid (z6c s p=false):=η7 (by unfold z6c;rw[decide_eq_false h,Bool.false_and])
  have hd1:decide ((p.length:Int)≤(s.length:Int))=false:=by simp;omega
  go_enter Tryz.func190,Tryz.ntmps190;go_wp2_with fail;go_ret;rw[HM.out];exact ⟨rfl,rfl⟩
theorem z1c (s p:List UInt8) (w:World) (hl:s.length≤9223372036854775807) (hp:p.length≤9223372036854775807):
  Calls Tryz.prog 139 #[.string ⟨s.toArray⟩,.string ⟨p.toArray⟩] w fun e w'=>e= .returned (.bool (z6c s p))∧w=w':=by
 go_enter Tryz.func139,Tryz.ntmps139;go_wp2_with fail;refine (q9V s p _ hl hp).mono ?_;rintro e w1 ⟨rfl,rfl⟩;go_wp2_with fail;go_ret;exact ⟨rfl,rfl⟩
end
section
open Go.RowKit
theorem q3s : ∀a b:List UInt8,Op.bytesLess a b=bytesBefore a b
 |[],[]=>rfl
 |[],_::_=>rfl
 |_::_,[]=>rfl
 |a::x,b::y=>by unfold Op.bytesLess bytesBefore;rw[q3s x y]
abbrev Cks :=List (List (List UInt8))
def q3v :Nat→Cks→List (List UInt8×List UInt8)
 |_,[]=>[]
 |i,ps::r=>(q0G 99 (i:Int),q0S i ps)::q3v (i+1) r
theorem q4w : ∀(C:Cks) (i:Nat),(q3v i C).length=C.length
 |[],_=>rfl
 |ps::r,i=>by simp[q3v,q4w r]
theorem q2z : ∀(C D:Cks) (i:Nat),q3v i (C++D)=q3v i C++q3v (i+C.length) D
 |[],D,i=>rfl
 | ps::r,D,i=>by
  rw[List.cons_append,q3v,q2z r D (i+1),q3v,List.cons_append,List.length_cons]
  congr 3;omega
theorem q3M : ∀{C:Cks} {i:Nat} {x:List UInt8×List UInt8},x∈q3v i C→ ∃k,i≤k∧k<i+C.length∧x.1=q0G 99 (k:Int)
 |[],_,_,h=>by cases h
 | ps ::r,i,x,h=>by
  rcases List.mem_cons.1 h with rfl|h
  ·exact ⟨i,Nat.le_refl _,by simp,rfl⟩
  ·obtain ⟨k,h1,h2,h3⟩:=q3M h
   exact ⟨k,by omega,by simp;omega,h3⟩
theorem q2n (n:Int):(q0G 99 n).length≤9223372036854775807:=by
 by_cases h:0≤n∧n≤999999
 ·rw[q0X h,List.length_cons,q0f];decide
 ·rw[q6U h];decide
theorem z7w {i k:Nat} (hi:i≤999999) (hk:k≤999999) (h:i≠k):q0G 99 (i:Int)≠q0G 99 (k:Int):=fun e=>by
 have:=z6g 99 (i:Int) (k:Int) (by omega) (by omega);rw[e,beq_self_eq_true] at this;have:=of_decide_eq_true this.symm;omega
theorem q5v {i k:Nat} (hi:i≤999999) (hk:k≤999999) (h:i<k):bytesBefore (q0G 99 (i:Int)) (q0G 99 (k:Int))=true:=by
 have h1:=z3j 99 (i:Int) (k:Int) (by omega) (by omega);have h2:decide ((i:Int)<(k:Int))=true:=by simp;omega
 rw[h2] at h1;rw[←q3s];exact h1
theorem q5O {C:Cks} {i k:Nat} (hk:k≤999999) (hC:i+C.length≤999999) (h: ∀j,i≤j→j<i+C.length→j≠k): ∀y∈q3v i C,Prod.fst y≠q0G 99 (k:Int):=fun y hy=>by
 obtain ⟨j,h1,h2,h3⟩:=q3M hy;rw[h3];exact z7w (by omega) hk (h j h1 h2)
theorem z0A {C:Cks} {k:Nat} {ps:List (List UInt8)} (hC:C.length≤200) (hk:C[k]? =some ps):q0H Prod.fst (q0G 99 (k:Int)) (q3v 0 C)=some (q0G 99 (k:Int),q0S k ps):=by
 obtain ⟨hlt,rfl⟩:=List.getElem?_eq_some_iff.1 hk;have e:C=C.take k++C[k]::C.drop (k+1):=by
  rw[List.getElem_cons_drop];exact (List.take_append_drop _ _).symm
 have hl:(C.take k).length=k:=by simp;omega
 conv=>lhs;rw[e]
 rw[q2z,hl,Nat.zero_add,q0Y]
 ·rw[q3v];unfold q0H;rw[List.find?_cons_of_pos (by simp)]
 ·exact q5O (by omega) (by rw[hl];omega) fun j _ h2=>by rw[hl] at h2;omega
theorem q9d {C:Cks} {k:Nat} (hC:C.length≤200) (hk:C.length≤k) (hk2:k≤999999):q0H Prod.fst (q0G 99 (k:Int)) (q3v 0 C)=none:=
 q0W (q5O hk2 (by omega) fun j _ h2=>by omega)
theorem z8B {C:Cks} (hC:C.length≤200):q0H Prod.fst [110,101,119] (q3v 0 C)=none:=q0W fun y hy e=>by
 obtain ⟨j,h1,h2,h3⟩:=q3M hy;rw[e] at h3;have h4:j<200:=by omega
 rw[q0X (by omega)] at h3;have h5:=congrArg List.length h3;have h6:(99::q4n 6 ((j:Int)).toNat).length=7:=by simp[q0f]
 rw[h6] at h5
 cases h5
theorem q7x : ∀(C:Cks) (i:Nat),(q3v i C).map Prod.fst=(List.range' i C.length).map fun k:Nat=>q0G 99 (k:Int)
 |[],_=>rfl
 |ps::r,i=>by rw[q3v,List.map_cons,q7x r,List.length_cons,List.range'_succ,List.map_cons]
theorem q1J (a b:List (List UInt8×List UInt8)):q2M (a++b)=q2M a+q2M b:=by simp[q2M,q5d,List.sum_append]
theorem q9o (x:List UInt8×List UInt8):q2M [x]=x.2.length:=by simp[q2M,q5d]
theorem z5j {D:Cks} {ps:List (List UInt8)} (p:List UInt8) (hD:D.length≤200):q1N Prod.fst (q0G 99 (D.length:Int)) (fun x=>(x.1,x.2++q2H p)) (q3v 0 (D++[ps]))=q3v 0 (D++[ps++[p]]):=by
 rw[q2z,q2z,q4b,q2r,Nat.zero_add]
 ·congr 1
  show q1N Prod.fst (q0G 99 (D.length:Int)) _ [(q0G 99 (D.length:Int),q0S D.length ps)]=[(q0G 99 (D.length:Int),q0S D.length (ps++[p]))];rw[z0x];unfold q1N;simp
 ·exact q5O (by omega) (by omega) fun j _ h2=>by omega
theorem z3q {C:Cks} (p:List UInt8) (hC:C.length≤200):q1N Prod.fst (q0G 99 (C.length:Int)) (fun x=>(x.1,x.2++(q2R C.length++q2H p))) (q3v 0 C++[(q0G 99 (C.length:Int),[])])=q3v 0 (C++[[p]]):=by
 rw[q2z,q4b,q2r,Nat.zero_add]
 ·congr 1
  show q1N Prod.fst (q0G 99 (C.length:Int)) _ [(q0G 99 (C.length:Int),[])]=[(q0G 99 (C.length:Int),q0S C.length [p])];rw[z3y];unfold q1N;simp
 ·exact q5O (by omega) (by omega) fun j _ h2=>by omega
def q0l (C:Cks):Nat:=(C.map q0K).sum
theorem q5B : ∀(C:Cks) (i:Nat),q2M (q3v i C)=q0l C
 |[],_=>rfl
 | ps::r,i=>by
  have e:q3v i (ps::r)=[(q0G 99 (i:Int),q0S i ps)]++q3v (i+1) r:=rfl;rw[e,q1J,q9o,q5B r];simp[q0l,q1I]
structure okC (C:Cks):Prop where
 few:C.length≤200
 size: ∀ps∈C,q0K ps≤4096
 pay: ∀ps∈C,∀p∈ps,p.length≤2000
 full: ∀ps∈C,ps≠[]
structure Oth where
 X:List (List UInt8×List UInt8)
 Z:List (List UInt8×List UInt8)
def noO :Oth:=⟨[],[]⟩
structure okOth (E:Oth):Prop where
 before: ∀y∈E.X,∀k:Nat,k≤999999→bytesBefore y.1 (q0G 99 (k:Int))=true
 behind: ∀y∈E.Z,∀k:Nat,k≤999999→bytesBefore (q0G 99 (k:Int)) y.1=true
 new: ∀y,y∈E.X∨y∈E.Z→y.1≠[110,101,119]
 kind: ∀y,y∈E.X∨y∈E.Z→(q0w y.1).2.2=true→(q0w y.1).1≠99
 len: ∀y,y∈E.X∨y∈E.Z→y.1.length≤1000
 few:E.X.length+E.Z.length≤190
theorem okOth.no :okOth noO:=⟨(fun _ h=>by cases h),(fun _ h=>by cases h),(fun _ h=>by rcases h with h|h<;>cases h),(fun _ h=>by rcases h with h|h<;>cases h),(fun _ h=>by rcases h with h|h<;>cases h),Nat.zero_le _⟩
def q2G (E:Oth):Nat:=q2M E.X+q2M E.Z
def q3D (E:Oth) (C:Cks):List (List UInt8×List UInt8):=E.X++(q3v 0 C++E.Z)
def z3s (E:Oth) (C:Cks):List (List UInt8×List UInt8):=E.X++(q3v 0 C++((q0G 99 (C.length:Int),[])::E.Z))
theorem q7S (E:Oth) (C:Cks):(q3D E C).length=E.X.length+C.length+E.Z.length:=by simp[q3D,q4w];omega
theorem z2n {a b:List UInt8} (h:bytesBefore a b=true):a≠b:=fun e=>by rw[e,WideAt.bytes_irrefl] at h;cases h
theorem okOth.neX {E:Oth} (h:okOth E) {k:Nat} (hk:k≤999999): ∀y∈E.X,Prod.fst y≠q0G 99 (k:Int):=fun y hy=>z2n (h.before y hy k hk)
theorem okOth.neZ {E:Oth} (h:okOth E) {k:Nat} (hk:k≤999999): ∀y∈E.Z,Prod.fst y≠q0G 99 (k:Int):=fun y hy e=>z2n (h.behind y hy k hk) e.symm
theorem q1P {α:Type} {k:α→List UInt8} {nm:List UInt8} {a b:List α} (h: ∀y∈b,k y≠nm):q0H k nm (a++b)=q0H k nm a:=by
 unfold q0H;rw[List.find?_append];have:List.find? (fun y=>k y==nm) b=none:=q0W h;rw[this];simp
theorem q3U {E:Oth} (hE:okOth E) {C:Cks} {k:Nat} {ps:List (List UInt8)} (hC:C.length≤200) (hk:C[k]? =some ps):q0H Prod.fst (q0G 99 (k:Int)) (q3D E C)=some (q0G 99 (k:Int),q0S k ps):=by
 have hlt:=(List.getElem?_eq_some_iff.1 hk).1;unfold q3D;rw[q0Y (hE.neX (by omega)),q1P (hE.neZ (by omega))];exact z0A hC hk
theorem z5a {E:Oth} (hE:okOth E) {C:Cks} {k:Nat} (hC:C.length≤200) (hk:C.length≤k) (hk2:k≤999999):q0H Prod.fst (q0G 99 (k:Int)) (q3D E C)=none:=by
 unfold q3D;rw[q0Y (hE.neX hk2),q1P (hE.neZ hk2)];exact q9d hC hk hk2
theorem z7f {E:Oth} (hE:okOth E) {C:Cks} (hC:C.length≤200):q0H Prod.fst [110,101,119] (q3D E C)=none:=by
 unfold q3D;rw[q0Y fun y hy=>hE.new y (.inl hy),q1P fun y hy=>hE.new y (.inr hy)];exact z8B hC
theorem q7U (E:Oth) (C:Cks):q2M (q3D E C)=q2G E+q0l C:=by
 unfold q3D q2G;rw[q1J,q1J,q5B];omega
theorem z5P (E:Oth) (C:Cks):q2M (z3s E C)=q2G E+q0l C:=by
 have e:z3s E C=E.X++(q3v 0 C++([(q0G 99 (C.length:Int),[])]++E.Z)):=rfl;rw[e,q1J,q1J,q1J,q5B,q9o];unfold q2G;simp;omega
theorem z4i {E:Oth} (hE:okOth E) {D:Cks} {ps:List (List UInt8)} (p:List UInt8) (hD:D.length≤200):q1N Prod.fst (q0G 99 (D.length:Int)) (fun x=>(x.1,x.2++q2H p)) (q3D E (D++[ps]))=q3D E (D++[ps++[p]]):=by
 unfold q3D;rw[q4b,q4b,q2r (hE.neX (by omega)),q2r (hE.neZ (by omega)),z5j p hD]
theorem q6m {α:Type} {k:α→List UInt8} {x:α} {b:List α}: ∀{a:List α},(∀y∈a,bytesBefore (k y) (k x)=true)→q3g k x (a++b)=a++q3g k x b
 |[],_=>rfl
 | y ::r,h=>by
  have h1:=h y (List.mem_cons_self);have h2:¬bytesBefore (k x) (k y)=true:=fun h3=>by
   have:=WideShapes.bytes_trans _ _ _ h1 h3;rw[WideAt.bytes_irrefl] at this
   cases this
  rw[List.cons_append,q3g,if_neg h2,q6m fun z hz=>h z (List.mem_cons_of_mem _ hz)]
  rfl
theorem z3b {α:Type} {k:α→List UInt8} {x:α}: ∀{b:List α},(∀y∈b,bytesBefore (k x) (k y)=true)→q3g k x b=x::b
 |[],_=>rfl
 |y::r,h=>by rw[q3g,if_pos (h y (List.mem_cons_self))]
theorem z7l {E:Oth} (hE:okOth E) {C:Cks} (hC:C.length≤200):q3g Prod.fst (q0G 99 (C.length:Int),[]) (q3D E C)=z3s E C:=by
 unfold q3D z3s;rw[q6m fun y hy=>hE.before y hy _ (by omega),q6m fun y hy=>?_,z3b fun y hy=>hE.behind y hy _ (by omega)];obtain ⟨j,h1,h2,h3⟩:=q3M hy;rw[h3];exact q5v (by omega) (by omega) (by omega)
theorem z4k {E:Oth} (hE:okOth E) {C:Cks} (hC:C.length≤200):q0H Prod.fst (q0G 99 (C.length:Int)) (z3s E C)=some (q0G 99 (C.length:Int),[]):=by
 unfold z3s;rw[q0Y (hE.neX (by omega)),q0Y (q5O (by omega) (by omega) fun j _ h2=>by omega)];unfold q0H;rw[List.find?_cons_of_pos (by simp)]
theorem z3i {E:Oth} (hE:okOth E) {C:Cks} (p:List UInt8) (hC:C.length≤200):q1N Prod.fst (q0G 99 (C.length:Int)) (fun x=>(x.1,x.2++(q2R C.length++q2H p))) (z3s E C)=q3D E (C++[[p]]):=by
 have e:z3s E C=E.X++((q3v 0 C++[(q0G 99 (C.length:Int),[])])++E.Z):=by simp[z3s]
 rw[e];unfold q3D;rw[q4b,q4b,q2r (hE.neX (by omega)),q2r (hE.neZ (by omega)),z3q p hC]
theorem z4I (E:Oth) (C:Cks):(q3D E C).map Prod.fst=E.X.map Prod.fst++((List.range C.length).map (fun k:Nat=>q0G 99 (k:Int))++E.Z.map Prod.fst):=by
 unfold q3D;rw[List.map_append,List.map_append,q7x,List.range_eq_range']
structure Lgd (E:Oth) (σ:DM) (c s:Int) (C:Cks):Prop where
 pl:Pl σ (c+(q2G E:Int)) s (q3D E C)
 ok:okC C
 oth:okOth E
theorem okC.nil :okC []:=⟨Nat.zero_le _,(fun _ h=>by cases h),(fun _ h=>by cases h),(fun _ h=>by cases h)⟩
theorem okC.grow {D:Cks} {ps:List (List UInt8)} {p:List UInt8} (h:okC (D++[ps])) (hp:p.length≤2000) (hs:q0K ps+(p.length+12)≤4096):okC (D++[ps++[p]]):=by
 have m:ps∈D++[ps]:=by simp
 refine ⟨by simpa using h.few,fun q hq=>?_,fun q hq=>?_,fun q hq=>?_⟩
 all_goals rcases List.mem_append.1 hq with h1|h1
 ·exact h.size q (List.mem_append_left _ h1)
 ·obtain rfl:=List.mem_singleton.1 h1;rw[q2O];exact hs
 ·exact h.pay q (List.mem_append_left _ h1)
 ·obtain rfl:=List.mem_singleton.1 h1
  intro x hx;rcases List.mem_append.1 hx with h2|h2
  ·exact h.pay ps m x h2
  ·obtain rfl:=List.mem_singleton.1 h2;exact hp
 ·exact h.full q (List.mem_append_left _ h1)
 ·obtain rfl:=List.mem_singleton.1 h1;simp
theorem okC.more {C:Cks} {p:List UInt8} (h:okC C) (hp:p.length≤2000) (hn:C.length<200):okC (C++[[p]]):=by
 refine ⟨by simp;omega,fun q hq=>?_,fun q hq=>?_,fun q hq=>?_⟩
 all_goals rcases List.mem_append.1 hq with h1|h1
 ·exact h.size q h1
 ·obtain rfl:=List.mem_singleton.1 h1;rw[q4F];omega
 ·exact h.pay q h1
 ·obtain rfl:=List.mem_singleton.1 h1
  intro x hx;obtain rfl:=List.mem_singleton.1 hx;exact hp
 ·exact h.full q h1
 ·obtain rfl:=List.mem_singleton.1 h1;simp
def q4r (C:Cks):Int:=match C.getLast? with|none=>0|some ps=>((C.length:Int)-1)*4096+(q0K ps:Int)
theorem z2J :q4r []=0:=rfl
theorem q2T (D:Cks) (ps:List (List UInt8)):q4r (D++[ps])=(D.length:Int)*4096+(q0K ps:Int):=by
 unfold q4r;simp
def q0M (C:Cks):List Int:=C.map fun ps=>(q0K ps:Int)
theorem q2K (D:Cks) (ps:List (List UInt8)):q0M (D++[ps])=q0M D++[(q0K ps:Int)]:=by simp[q0M]
theorem q0b (C:Cks):(q0M C).length=C.length:=by simp[q0M]
theorem q7L (D:Cks) (ps:List (List UInt8)):(q0M (D++[ps])).getD D.length 0=(q0K ps:Int):=by
 rw[q2K];have:D.length=(q0M D).length:=(q0b D).symm;rw[List.getD_eq_getElem?_getD,this,List.getElem?_append_right (Nat.le_refl _)];simp
theorem z3X (D:Cks) (ps qs:List (List UInt8)):(q0M (D++[ps])).set D.length (q0K qs:Int)=q0M (D++[qs]):=by
 rw[q2K,q2K];have:D.length=(q0M D).length:=(q0b D).symm;rw[this];simp
theorem z1Z (C:Cks) (i:Nat) {ps:List (List UInt8)} (h:C[i]? =some ps):(q0M C).getD i 0=(q0K ps:Int):=by
 unfold q0M;rw[List.getD_eq_getElem?_getD,List.getElem?_map,h];rfl
def q4A (C:Cks) (p:List UInt8):Bool:=match C.getLast? with|none=>false|some ps=>decide (q0K ps+(p.length+12)≤4096)
def q1A (free:Int) (C:Cks) (p:List UInt8):Int×Int×Cks:=
 if 2000<p.length then (0,3,C)
 else if q4A C p then (if free-((p.length:Int)+12)<6000 then (0,60,C) else (q4r C,0,C.dropLast++[C.getLast?.getD []++[p]]))
 else if 200≤C.length∨free-((p.length:Int)+24)<6000 then (0,60,C) else ((C.length:Int)*4096+12,0,C++[[p]])
def q4Q (free sure:Int) (C:Cks) (p:List UInt8):Int:=
 if (q1A free C p).2.1=0∧q4A C p=false∧C≠[] then q4r C else sure
def q2a :Nat→List (List UInt8)→List (Nat×List UInt8)
 |_,[]=>[]
 |a,p::r=>(a,p)::q2a (a+p.length+12) r
def q0y :Nat→Cks→List (Nat×List UInt8)
 |_,[]=>[]
 |b,ps::r=>q2a (b+12) ps++q0y (b+4096) r
def q3N (C:Cks) (pos:Int):Option (Nat×List UInt8):=(q0y 0 C).find? fun r=>decide (pos≤(r.1:Int))
def q5I (C:Cks) (pos:Int):List UInt8×Int:=
 if pos<0 then ([],4) else match C[(pos/4096).toNat]? with
 |none=>([],4)
 | some ps=>match (if 12≤pos % 4096 then q4z (q0S (pos/4096).toNat ps) (pos % 4096).toNat else none) with
  |none=>([],4)
  |some (p,_)=>(p,0)
end
section
open Go.RowKit
theorem q6L : ∀(ps:List (List UInt8)) (a:Nat),∀r∈q2a a ps,a≤r.1∧r.1+r.2.length+12≤a+(ps.map fun p=>p.length+12).sum
 |[],_,r,h=>by cases h
 | p ::t,a,r,h=>by
  rw[q2a] at h;rcases List.mem_cons.1 h with rfl|h
  ·simp only[List.map_cons,List.sum_cons];omega
  ·have:=q6L t _ r h
   simp only[List.map_cons,List.sum_cons];omega
theorem q5W : ∀(C:Cks) (b:Nat),(∀ps∈C,q0K ps≤4096)→ ∀r∈q0y b C,b+12≤r.1∧r.1<b+4096*C.length
 |[],_,_,r,h=>by cases h
 | ps ::t,b,hs,r,h=>by
  rw[q0y] at h;have h1:=hs ps (List.mem_cons_self);unfold q0K at h1;rcases List.mem_append.1 h with h|h
  ·have:=q6L ps _ r h
   simp only[List.length_cons];omega
  ·have:=q5W t _ (fun q hq=>hs q (List.mem_cons_of_mem _ hq)) r h
   simp only[List.length_cons];omega
theorem q4y : ∀(C:Cks) (b n:Nat),q0y b C=q0y b (C.take n)++q0y (b+4096*n) (C.drop n)
 |C,b,0=>by simp[q0y]
 |[],b,n+1=>by simp[q0y]
 | ps::t,b,n+1=>by
  rw[List.take_succ_cons,List.drop_succ_cons,q0y,q0y,q4y t (b+4096) n,List.append_assoc]
  congr 3;omega
theorem z0K (C D:Cks) (b:Nat):q0y b (C++D)=q0y b C++q0y (b+4096*C.length) D:=by
 have:=q4y (C++D) b C.length
 rwa [List.take_left,List.drop_left] at this
theorem z4P {pos:Int} {l m:List (Nat×List UInt8)} (h: ∀r∈l,(r.1:Int)<pos):(l++m).find? (fun r=>decide (pos≤(r.1:Int)))=m.find? fun r=>decide (pos≤(r.1:Int)):=by
 rw[List.find?_append];have:l.find? (fun r=>decide (pos≤(r.1:Int)))=none:=List.find?_eq_none.2 fun r hr=>by have:=h r hr;simp;omega
 rw[this];rfl
theorem z1Y (C:Cks) (pos:Int) (hs: ∀ps∈C,q0K ps≤4096) (n:Nat) (hn:(n:Int)*4096≤pos):q3N C pos=(q0y (4096*n) (C.drop n)).find? fun r=>decide (pos≤(r.1:Int)):=by
 unfold q3N;rw[q4y C 0 n,Nat.zero_add];refine z4P fun r hr=>?_
 have:=q5W (C.take n) 0 (fun ps h=>hs ps (List.mem_of_mem_take h)) r hr;have h2:(C.take n).length≤n:=List.length_take_le _ _;omega
theorem q4O : ∀(ps:List (List UInt8)) (a:Nat),(q2a a ps).length=ps.length
 |[],_=>rfl
 |p::t,a=>by simp[q2a,q4O t]
theorem z2q : ∀(ps:List (List UInt8)) (a k:Nat) (p:List UInt8),ps[k]? =some p→(q2a a ps)[k]? =some (a+((ps.take k).map fun p=>p.length+12).sum,p)
 |[],_,k,p,h=>by simp at h
 | q::t,a,0,p,h=>by
  simp only[List.getElem?_cons_zero,Option.some.injEq] at h;subst h;simp[q2a]
 | q::t,a,k+1,p,h=>by
  rw[List.getElem?_cons_succ] at h;rw[q2a,List.getElem?_cons_succ,z2q t _ k p h,List.take_succ_cons,List.map_cons,List.sum_cons]
  congr 2;omega
theorem q7n : ∀(ps:List (List UInt8)) (a k:Nat) (p:List UInt8),ps[k]? =some p→(q1R a ps)[k]? =some (a+((ps.take k).map fun p=>p.length+12).sum,a+((ps.take k).map fun p=>p.length+12).sum+p.length+12)
 |[],_,k,p,h=>by simp at h
 | q::t,a,0,p,h=>by
  simp only[List.getElem?_cons_zero,Option.some.injEq] at h;subst h;simp[q1R]
 | q::t,a,k+1,p,h=>by
  rw[List.getElem?_cons_succ] at h;rw[q1R,List.getElem?_cons_succ,q7n t _ k p h,List.take_succ_cons,List.map_cons,List.sum_cons]
  congr 2<;>omega
theorem z8P (n:Nat) (ps:List (List UInt8)) (k:Nat) (p:List UInt8) (h:ps[k]? =some p) (hp:p.length≤2000):q4z (q0S n ps) (q0K (ps.take k))=some (p,q0K (ps.take k)+p.length+12):=by
 obtain ⟨hk,rfl⟩:=List.getElem?_eq_some_iff.1 h;have e:ps=ps.take k++ps[k]::ps.drop (k+1):=by rw[List.getElem_cons_drop];exact (List.take_append_drop _ _).symm
 have:=z6I n (ps.take k) ps[k] (ps.drop (k+1)) hp
 rwa [←e] at this
end
section
open Go.RowKit
end
end Go.Proofs.YthdekbmdkpcooaaGreatDoor
