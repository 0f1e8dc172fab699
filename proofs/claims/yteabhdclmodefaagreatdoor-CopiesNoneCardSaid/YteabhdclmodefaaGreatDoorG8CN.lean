/- Plain laws. -/
import Derived.Test.YteabhdclmodefaaGreatDoorG3CN
import Derived.Test.YteabhdclmodefaaGreatDoorG6CN
import Derived.Test.YteabhdclmodefaaGreatDoorG7CN
import Derived.Laws.BitsLemmas
set_option linter.unusedVariables false
set_option linter.unusedSimpArgs false
set_option maxRecDepth 100000
set_option maxHeartbeats 6400000
namespace Go.Proofs.YteabhdclmodefaaGreatDoor
variable {a k i:Nat}{p:List UInt8}{α:Type}{L:List En}{ps:List (List UInt8)}
section
open Go.RowKit
theorem q2f(a b:List UInt8):(⟨a.toArray⟩:ByteArray)++⟨b.toArray⟩=⟨(a++b).toArray⟩:=by rw[ByteArray.mk_append_mk];first|done|simp
def q2H(p:List UInt8):List UInt8:=q0g (be 4 p.length++p)++be 4 p.length
def q3n(s:List UInt8)(a:Nat):Nat:=q1C ((s.drop a).take 4)
def isR(s:List UInt8)(a:Nat):Bool:=
 decide (a+12<=s.length)&&decide (q3n s a<=2000)&&decide (a+q3n s a+12<=s.length)
 &&q1b ((s.drop a).take (q3n s a+8))&&decide ((s.drop (a+q3n s a+8)).take 4=(s.drop a).take 4)
def q4l(s:List UInt8)(a:Nat):Option (List UInt8×Nat):=
 if isR s a then some ((s.drop (a+4)).take (q3n s a),a+q3n s a+12) else none
def q4y :Nat->List UInt8->Nat->List (Nat×Nat)
 |0,_,_=>[]
 | f+1,s,a=>match q4l s a with
  |none=>[]
  |some (_,b)=>(a,b)::q4y f s b
def q0h(s:List UInt8)(a:Nat):List (Nat×Nat):=q4y (s.length+1) s a
def q8Y(a:Nat)(l:List (Nat×Nat)):Nat:=(l.getLast?.map Prod.snd).getD a
def q2S(n:Nat):List UInt8:=q0g ([99,104,110,107]++be 4 n)
def q4U(ps:List (List UInt8)):List UInt8:=(ps.map q2H).flatten
def q0Q(n:Nat)(ps:List (List UInt8)):List UInt8:=q2S n++q4U ps
def q0J(ps:List (List UInt8)):Nat:=12+(ps.map fun p=>p.length+12).sum
def q1O :Nat->List (List UInt8)->List (Nat×Nat)
 |_,[]=>[]
 |a,p::r=>(a,a+p.length+12)::q1O (a+p.length+12) r
theorem q1B(p:List UInt8):(q2H p).length=p.length+12:=by
 simp only[q2H,θ,q0i,q0F];omega
theorem q2j(n:Nat):(q2S n).length=12:=by simp[q2S,q0i,q0F]
theorem q9S(ps:List (List UInt8)):(q4U ps).length=(ps.map fun p=>p.length+12).sum:=by
 unfold q4U
 induction ps with
 |nil=>rfl
 |cons p r ih=>simp[q1B,ih]
theorem q1E(n:Nat)(ps:List (List UInt8)):(q0Q n ps).length=q0J ps:=by
 simp[q0Q,q0J,q2j,q9S]
theorem z2w(ps:List (List UInt8))(p:List UInt8):q4U (ps++[p])=q4U ps++q2H p:=by simp[q4U]
theorem z0i(n:Nat)(ps:List (List UInt8))(p:List UInt8):q0Q n (ps++[p])=q0Q n ps++q2H p:=by simp[q0Q,z2w]
theorem z3B(n:Nat)(p:List UInt8):q0Q n [p]=q2S n++q2H p:=by simp[q0Q,q4U]
theorem q2L(ps:List (List UInt8))(p:List UInt8):q0J (ps++[p])=q0J ps+(p.length+12):=by simp[q0J,List.sum_append];omega
theorem q4F(p:List UInt8):q0J [p]=12+(p.length+12):=by simp[q0J]
theorem q9l{s:List UInt8}{b:Nat}(h:q4l s a=some (p,b)):
  p.length<=2000/\b=a+p.length+12/\b<=s.length/\p=(s.drop (a+4)).take p.length/\q3n s a=p.length:=by
 unfold q4l at h
 split at h
 case isFalse=>cases h
 case isTrue hi=>
  unfold isR at hi;simp only[Ξ,Φ] at hi;obtain⟨⟨⟨⟨h1,h2⟩,h3⟩,h4⟩,j⟩:=hi;simp only[Option.some.injEq,Prod.mk.injEq] at h;obtain⟨rfl,rfl⟩:=h;have d:((s.drop (a+4)).take (q3n s a)).length=q3n s a:=by simp;omega
  rw[d];exact⟨h2,rfl,h3,rfl,rfl⟩
theorem z8F(d m b:List α)(h:a=d.length):(d++m++b).drop a=m++b:=by
 subst h;rw[List.append_assoc,List.drop_left]
theorem z2N(d p b:List UInt8)(x:p.length<=2000)(q:a=d.length):q4l (d++q2H p++b) a=some (p,a+p.length+12):=by
 have m:(d++q2H p++b).drop a=be 4 p.length++(p++(q7T (q1W (be 4 p.length++p))++(be 4 p.length++b))):=by
  rw[z8F _ _ _ q];simp[q2H,q0g]
 have l:(be 4 p.length).length=4:=q0F 4 _;have o:=q4f (q1W (be 4 p.length++p));have j:q3n (d++q2H p++b) a=p.length:=by
  unfold q3n;rw[m,List.take_left' l,q4H];omega
 have r:(d++q2H p++b).length=a+(p.length+12)+b.length:=by simp[q1B,q];omega
 have v:isR (d++q2H p++b) a=true:=by
  unfold isR;rw[j];simp only[Ξ,Φ];refine⟨⟨⟨⟨by omega,x⟩,by omega⟩,?_⟩,?_⟩
  ·have e:((d++q2H p++b).drop a).take (p.length+8)=q0g (be 4 p.length++p):=by
    rw[m];have:be 4 p.length++(p++(q7T (q1W (be 4 p.length++p))++(be 4 p.length++b)))=q0g (be 4 p.length++p)++(be 4 p.length++b):=by simp[q0g]
    rw[this];exact List.take_left' (by simp[q0i,l];omega)
   rw[e];unfold q1b;simp only[Ξ,Φ,q0i];refine⟨by omega,?_⟩;have s:(q0g (be 4 p.length++p)).take ((be 4 p.length++p).length+4-4)=be 4 p.length++p:=by
    unfold q0g;exact List.take_left' (by omega)
   rw[s]
  ·have e:(d++q2H p++b).drop (a+p.length+8)=be 4 p.length++b:=by
    have:a+p.length+8=a+(p.length+8):=by omega
    rw[this,<-List.drop_drop,m];have:be 4 p.length++(p++(q7T (q1W (be 4 p.length++p))++(be 4 p.length++b)))=(be 4 p.length++(p++q7T (q1W (be 4 p.length++p))))++(be 4 p.length++b):=by simp
    rw[this];exact List.drop_left' (by simp[l,o];omega)
   rw[e,m,List.take_left' l,List.take_left' l]
 unfold q4l;rw[ξ v,j]
 congr 2
 rw[<-List.drop_drop,m];have u:(be 4 p.length++(p++(q7T (q1W (be 4 p.length++p))++(be 4 p.length++b)))).drop 4=p++(q7T (q1W (be 4 p.length++p))++(be 4 p.length++b)):=List.drop_left' l;rw[u];exact List.take_left' rfl
theorem z4v(s:List UInt8)(a:Nat)(h:s.length<a+12):q4l s a=none:=by
 unfold q4l isR;rw[ε (by omega)];simp
theorem q7j : ∀(ps:List (List UInt8)) (pre:List UInt8) (f a:Nat),(∀p∈ps,p.length<=2000)->a=pre.length->ps.length<f->q4y f (pre++q4U ps) a=q1O a ps
 |[],pre,0,a,_,_,hf=>by simp at hf
 | [],pre,f+1,a,_,ha,_=>by
  unfold q4y;rw[z4v _ _ (by simp[q4U,ha])]
  rfl
 |p::r,pre,0,a,_,_,hf=>by simp at hf
 | p::r,pre,f+1,a,hp,ha,hf=>by
  have e:pre++q4U (p::r)=pre++q2H p++q4U r:=by simp[q4U]
  rw[e];unfold q4y;rw[z2N pre p (q4U r) (hp p (List.mem_cons_self)) ha];show _::q4y f (pre++q2H p++q4U r) (a+p.length+12)=_;rw[q7j r (pre++q2H p) f _ (fun q hq=>hp q (List.mem_cons_of_mem _ hq)) (by simp[q1B,ha];omega) (by simp at hf;omega)]
  rfl
theorem z7m(ps:List (List UInt8)):12*ps.length<=(ps.map fun p=>p.length+12).sum:=by
 induction ps with
 |nil=>simp
 |cons p r ih=>simp only[List.map_cons,List.sum_cons,χ];omega
theorem q7P(n:Nat)(ps:List (List UInt8))(b: ∀p∈ps,p.length<=2000):q0h (q0Q n ps) 12=q1O 12 ps:=by
 unfold q0h;refine q7j ps (q2S n) _ 12 b (q2j n).symm ?_;have:=z7m ps;show _<(q0Q n ps).length+1;rw[q1E];unfold q0J;omega
theorem q5n : ∀(ps:List (List UInt8)) (p:List UInt8) (a:Nat),q1O a (ps++[p])=q1O a ps++[(a+(ps.map fun p=>p.length+12).sum,a+(ps.map fun p=>p.length+12).sum+p.length+12)]
 |[],p,a=>by simp[q1O]
 | q::r,p,a=>by
  rw[List.cons_append,q1O,q5n r p,q1O,List.cons_append];simp only[List.map_cons,List.sum_cons]
  congr 4<;>omega
theorem z1N : ∀(ps:List (List UInt8)) (a:Nat),q8Y a (q1O a ps)=a+(ps.map fun p=>p.length+12).sum:=fun ps a=>by
 rcases List.eq_nil_or_concat ps with rfl|⟨r,p,rfl⟩
 ·rfl
 ·rw[List.concat_eq_append,q5n]
  unfold q8Y;simp only[List.getLast?_append,List.getLast?_singleton,Option.some_or,Option.map_some,Option.getD_some,List.map_append,List.map_cons,List.map_nil,List.sum_append,List.sum_cons,List.sum_nil];omega
theorem q2R : ∀(ps:List (List UInt8)) (a:Nat),(q1O a ps).length=ps.length
 |[],_=>rfl
 |p::r,a=>by simp[q1O,q2R r]
theorem z4r(n:Nat)(l:List (List UInt8))(p:List UInt8)(r:List (List UInt8))(b:p.length<=2000):q4l (q0Q n (l++p::r)) (q0J l)=some (p,q0J l+p.length+12):=by
 have e:q0Q n (l++p::r)=q0Q n l++q2H p++q4U r:=by simp[q0Q,q4U]
 rw[e];exact z2N _ _ _ b (q1E n l).symm
theorem q9p(a b:En)(w:World):Calls Tryz.prog 180 #[enV a,enV b] w fun e w'=>e= .returned (.bool (q0c a b))/\Ext w w':=by
 obtain⟨d,j,l⟩:=a;obtain⟨b1,b2,b3⟩:=b;have m:=η (q5A w (.cells #[.int .u64 d,.int .i64 j,.int .i64 l] 145) (.cells #[.int .u64 b1,.int .i64 b2,.int .i64 b3] 145));have q:Hd (q0c (d,j,l) (b1,b2,b3)=if d≠b1 then decide (d<b1) else if j≠b2 then decide (j<b2) else decide (l<b3)):=η rfl;show Calls Tryz.prog 180 #[.agg #[.int .u64 d,.int .i64 j,.int .i64 l],.agg #[.int .u64 b1,.int .i64 b2,.int .i64 b3]] w _;by_cases h1:d=b1
 ·subst h1
  by_cases h2:j=b2
  ·subst h2
   go_enter Tryz.func180,Tryz.ntmps180;go_wp2_with fail;go_ret;exact⟨rb (by rw[q.o];simp),m.o⟩
  ·have r:(j !=b2)=true:=by simpa using h2
   go_enter Tryz.func180,Tryz.ntmps180;go_wp2_with fail;go_ret;exact⟨rb (by rw[q.o];simp[h2]),m.o⟩
 ·have r:(d !=b1)=true:=by simpa using h1
  go_enter Tryz.func180,Tryz.ntmps180;go_wp2_with fail;go_ret;exact⟨rb (by rw[q.o];simp[h1]),m.o⟩
theorem q8E(l:k+1<L.length):q3p (L.take (k+2))=(q3p (L.take (k+1))&&q0c (L.getD k en0) (L.getD (k+1) en0)):=by
 rw[Bool.eq_iff_iff,Ξ,q2z,q2z];have j:L.take (k+2)=L.take (k+1)++[L.getD (k+1) en0]:=q0R L en0 (k+1) l;have d:L.take (k+1)=L.take k++[L.getD k en0]:=q0R L en0 k (by omega);rw[j];unfold q0r;rw[List.pairwise_append]
 constructor
 ·rintro⟨h1,_,h3⟩
  exact⟨h1,h3 _ (by rw[d];simp) _ (by simp)⟩
 ·rintro⟨h1,h2⟩
  refine⟨h1,by simp,fun x b y m=>?_⟩;obtain rfl:=List.mem_singleton.1 m;rw[d] at b h1;rcases List.mem_append.1 b with b|b
  ·exact q1H ((List.pairwise_append.1 h1).2.2 x b _ (by simp)) h2
  ·obtain rfl:=List.mem_singleton.1 b;exact h2
theorem z1W(b:k+1<L.length)(h:q0c (L.getD k en0) (L.getD (k+1) en0)=false):q3p L=false:=by
 cases hs:q3p L with
 |false=>rfl
 | true=>
  rw[q2z] at hs;have h1:q0r (L.take (k+2)):=hs.sublist (List.take_sublist _ _);rw[<-q2z,q8E b,h,Bool.and_false] at h1
  cases h1
theorem z7V{ao:Option Addr}{n cap:Nat}(w:World)(m:Ens w ao n cap L):Calls Tryz.prog 240 #[.slice ao n cap] w fun e w'=>e= .returned (.bool (q3p L))/\Ext w w':=by
 have G:=η m;have b1:=m.fits;have b2:=m.bound;have j:=η m.len;clear m;go_enter Tryz.func240,Tryz.ntmps240;go_wp2_with fail
 go_loopw [3] (fun i W=> ∃k:Nat,k+1<=max n 1/\i= .int .i64 ((k:Int)+1)/\q3p (L.take (k+1))=true/\Ext w W) (fun i _=>n-(intOf i).toNat)
 case atStart=>
  refine⟨0,by omega,rfl,?_,Ext.refl _⟩
  cases L with
  |nil=>rfl
  |cons a r=>rfl
 case round=>
  obtain⟨k,Y,rfl,C,B⟩:=hrel;have R:=η C;have D:=η B;by_cases u:k+1<n
  ·have U:decide (((k:Int)+1)<(n:Int))=true:=by simp;omega
   obtain⟨b,off,rfl,I,J,M⟩:=(G.o.ext B).at (i:=k) (by omega);obtain⟨_,_,S,N,O,Q⟩:=(G.o.ext B).at (i:=k+1) u
   cases S;have E:=η (q8E (L:=L) (k:=k) (by rw[j.o];exact u));have v:=η (z1W (L:=L) (k:=k) (by rw[j.o];exact u));obtain⟨x,m⟩: ∃x,L.getD k en0=x:=⟨_,rfl⟩
   obtain⟨y,F⟩: ∃y,L.getD (k+1) en0=y:=⟨_,rfl⟩
   rw[m] at I J M;rw[F] at N O Q;rw[m,F] at E v;obtain⟨q,hq⟩: ∃q,q0c x y=q:=⟨_,rfl⟩
   have l:=η (fun W=>q9p x y W);rw[hq] at l E v;obtain⟨x1,x2,x3⟩:=x;obtain⟨y1,y2,y3⟩:=y;unfold enV ec at l;have Z:=q0C I;have u1:=q0C J;have u2:=q0C M;have v0:=q0C N;have v1:=q0C O;have v2:=q0C Q;have V:IntKind.i64.wrap ((k:Int)+1-1)=(k:Int):=by rw[ν];omega
   have d:IntKind.i64.wrap (k:Int)=(k:Int):=by rw[ν];omega
   clear m F C B hq
   cases q with
   | true=>
    go_wp2_with fail;refine q0D (by kernel_rfl) (by kernel_rfl) ?_
    repeat (go_big_quiet_step (first|(go_at_call 180;exact Calls.quiet_ext (l.o _))))
    refine wpQuiet_nil ?_;intro X d;have s:=η (D.o.trans d);clear d;go_wp2_with fail
    go_roundw
    case rel=>exact⟨k+1,by omega,by go_num,by rw[E.o,R.o];rfl,s.o⟩
    case measure=>simp[intOf];omega
   | false=>
    go_wp2_with fail;refine q0D (by kernel_rfl) (by kernel_rfl) ?_
    repeat (go_big_quiet_step (first|(go_at_call 180;exact Calls.quiet_ext (l.o _))))
    refine wpQuiet_nil ?_;intro X d;have s:=η (D.o.trans d);clear d;go_wp2_with fail;go_ret;exact⟨rb (v.o (by first|rfl|trivial)),s.o⟩
  ·have U:decide (((k:Int)+1)<(n:Int))=false:=by simp;omega
   have v:Hd (q3p L=true):=η (by rwa [Δ (by rw[j.o];omega)] at C);clear C B;go_wp2_with fail;go_ret;exact⟨rb v.o,D.o⟩
theorem q2y(s:List UInt8)(m j:Int)(a b:Nat)(l:m=(a:Int))(d:j=(b:Int))(h:a<=b)(h2:b<=s.length){X:List UInt8}(o:(s.take b).drop a=X):
  ∀w,(Instr.slice 9 (.string ⟨s.toArray⟩) (some (.int .i64 m)) (some (.int .i64 j)) none).run Tryz.prog w= .ok (.string ⟨X.toArray⟩) w:=fun w=>by
 have h3:=run_slice_string (P:=Tryz.prog) w 9 ⟨s.toArray⟩ .i64 .i64 m j Tryz.underlying9 (by omega) (by omega) (by simp[ByteArray.size];omega);rw[h3,l,d,<-o];show _=Result.ok (Value.string ⟨((s.take b).drop a).toArray⟩) w;rw[<-q2p];rfl
theorem q3J(s:List UInt8)(j:Int)(b:Nat)(d:j=(b:Int))(h2:b<=s.length):
  ∀w,(Instr.slice 9 (.string ⟨s.toArray⟩) none (some (.int .i64 j)) none).run Tryz.prog w= .ok (.string ⟨(s.take b).toArray⟩) w:=fun w=>by
 have h3:=run_slice_string_to_if (P:=Tryz.prog) w 9 ⟨s.toArray⟩ .i64 j Tryz.underlying9;have l:(ByteArray.size ⟨s.toArray⟩)=s.length:=by simp[ByteArray.size]
 rw[h3,l,ξ (by omega),d];show Result.ok (Value.string ((⟨s.toArray⟩:ByteArray).extract 0 b)) w=_;rw[q2p];rfl
theorem q1u(s:List UInt8)(d:Int)(a:Nat)(b:d=(a:Int))(h2:a<=s.length):
  ∀w,(Instr.slice 9 (.string ⟨s.toArray⟩) (some (.int .i64 d)) none none).run Tryz.prog w= .ok (.string ⟨(s.drop a).toArray⟩) w:=fun w=>by
 have h3:=run_slice_string_from_if (P:=Tryz.prog) w 9 ⟨s.toArray⟩ .i64 d Tryz.underlying9;have j:(ByteArray.size ⟨s.toArray⟩)=s.length:=by simp[ByteArray.size]
 rw[h3,j,ξ (by omega),b];show Result.ok (Value.string ((⟨s.toArray⟩:ByteArray).extract a s.length)) w=_;rw[q2p,List.take_length]
theorem z5c(k:Nat)(N:Int)(w:World)(q:N=(k:Int))(r:k<=9223372036854775807):
  Calls Tryz.prog 171 #[.int .i64 N] w fun e w'=>e= .returned (.string ⟨(be 4 k).toArray⟩)/\Ext w w':=by
 have m:0<=N:=by omega
 have h1:N<=9223372036854775807:=by omega
 have b:N.toNat=k:=by omega
 have l:=η b;clear q b;go_enter Tryz.func171,Tryz.ntmps171;go_wp2_with fail;refine(q6z N 4 _ (by omega) (by omega) m (by omega)).mono ?_;rintro e w1 ⟨rfl,d⟩;have j:=η d;clear d;rw[l.o];go_wp2_with fail;go_ret;exact⟨rfl,j.o⟩
theorem z5V(p:List UInt8)(w:World)(j:2000<p.length)(d:p.length<=9223372036854775807):
  Calls Tryz.prog 119 #[.string ⟨p.toArray⟩] w fun e w'=>e= .returned (.tuple #[.string ⟨#[]⟩,.int .i64 3])/\w=w':=by
 have b:decide ((2000:Int)<(p.length:Int))=true:=by simp;omega
 go_enter Tryz.func119,Tryz.ntmps119;go_wp2_with fail;go_ret2;exact⟨rfl,rfl⟩
theorem z7Q(p:List UInt8)(w:World)(y:p.length<=2000):
  Calls Tryz.prog 119 #[.string ⟨p.toArray⟩] w fun e w'=>e= .returned (.tuple #[.string ⟨(q2H p).toArray⟩,.int .i64 0])/\Ext w w':=by
 have v:decide ((2000:Int)<(p.length:Int))=false:=by simp;omega
 obtain⟨n,x⟩: ∃n:Int,n=(p.length:Int):=⟨_,rfl⟩
 have s:Hd (q2H p=q0g (be 4 p.length++p)++be 4 p.length):=η rfl;have d:(be 4 p.length).length=4:=q0F 4 _;have B:(q0g (be 4 p.length++p)).length=p.length+8:=by simp[q0i,d];omega
 have q:=η (fun W=>z5c p.length (p.length:Int) W rfl (by omega));have u:=η (fun W=>z0L (be 4 p.length++p) W (by simp[d];omega));go_enter Tryz.func119,Tryz.ntmps119;go_wp2_with fail;refine(q.o _).mono ?_;rintro e w1 ⟨rfl,b⟩;have r:=η b;clear b;generalize be 4 p.length=X at*;go_wp2_with fail;have m:=u.o w1;generalize q0g (X++p)=Y at*;rw[q2f];refine m.mono ?_;rintro e C ⟨rfl,b⟩;have j:=η (r.o.trans b);clear b;go_wp2_with fail;refine(q.o _).mono ?_;rintro e D ⟨rfl,b⟩;have l:=η (j.o.trans b);clear b;go_wp2_with fail;go_ret2;exact⟨by rw[s.o,q2f];rfl,l.o⟩
def q9m(s:List UInt8)(a:Nat):Value:=match q4l s a with
 |none=> .tuple #[.string ⟨#[]⟩,.int .i64 0,.bool false]
 |some (p,b)=> .tuple #[.string ⟨p.toArray⟩,.int .i64 b,.bool true]
theorem q6k{s:List UInt8}(h:isR s a=false):q9m s a= .tuple #[.string ⟨#[]⟩,.int .i64 0,.bool false]:=by unfold q9m q4l;rw[h];rfl
theorem q4t(s:List UInt8)(a k:Nat):(s.take (a+k)).drop a=(s.drop a).take k:=by rw[List.drop_take];congr 1;omega
theorem q8f(s:List UInt8)(a:Nat)(w:World)(hl:s.length<=4611686018427387903)(ha:a<=4611686018427387903):
  Calls Tryz.prog 95 #[.string ⟨s.toArray⟩,.int .i64 (a:Int)] w fun e w'=>e= .returned (q9m s a)/\Ext w w':=by
 by_cases h1:s.length<a+12
 ·have u:Hd (q9m s a= .tuple #[.string ⟨#[]⟩,.int .i64 0,.bool false]):=η (q6k (by unfold isR;rw[ε (by omega)];rfl))
  have hd:decide (((s.length:Int)-12)<(a:Int))=true:=by simp;omega
  go_enter Tryz.func95,Tryz.ntmps95;go_wp2_with fail;go_ret3;rw[u.o];exact⟨rfl,Ext.refl _⟩
 have b0:decide (((s.length:Int)-12)<(a:Int))=false:=by simp;omega
 obtain⟨X,E⟩: ∃X,(s.drop a).take 4=X:=⟨_,rfl⟩
 have I:X.length=4:=by rw[<-E];simp;omega
 have f0:=q2y s (a:Int) ((a:Int)+4) a (a+4) rfl (by omega) (by omega) (by omega) (by rw[q4t,E]);obtain⟨n,F⟩: ∃n,q3n s a=n:=⟨_,rfl⟩
 have x:q1C (X.take 8)=n:=by rw[Δ (by omega),<-E,<-F];rfl
 have c0:n<4294967296:=by rw[<-x];have:=q1k (X.take 8);rw[Θ,I] at this;exact this
 have C:=η (fun W=>q7Y X W (by omega));rw[x] at C;by_cases h2:2000<n\/s.length<a+n+12
 ·have u:Hd (q9m s a= .tuple #[.string ⟨#[]⟩,.int .i64 0,.bool false]):=η (q6k (by
   unfold isR;rw[F];rcases h2 with h|h
   ·rw[ε (p:=n<=2000) (by omega)];simp
   ·rw[ε (p:=a+n+12<=s.length) (by omega)];simp))
  clear E F x I;by_cases h3:2000<n
  ·have M:decide ((2000:Int)<(n:Int))=true:=by simp;omega
   go_enter Tryz.func95,Tryz.ntmps95;go_wp2_with fail;refine(C.o _).mono ?_;rintro e w1 ⟨rfl,l⟩;have v:=η l;clear l;go_wp2_with fail;go_ret3;rw[u.o];exact⟨rfl,v.o⟩
  ·have h4:s.length<a+n+12:=by omega
   have M:decide ((2000:Int)<(n:Int))=false:=by simp;omega
   have S:decide ((s.length:Int)-12-(a:Int)<(n:Int))=true:=by simp;omega
   go_enter Tryz.func95,Tryz.ntmps95;go_wp2_with fail;refine(C.o _).mono ?_;rintro e w1 ⟨rfl,l⟩;have v:=η l;clear l;go_wp2_with fail;go_ret3;rw[u.o];exact⟨rfl,v.o⟩
 have h5:n<=2000:=by omega
 have h6:a+n+12<=s.length:=by omega
 have M:decide ((2000:Int)<(n:Int))=false:=by simp;omega
 have S:decide ((s.length:Int)-12-(a:Int)<(n:Int))=false:=by simp;omega
 obtain⟨Y,J⟩: ∃Y,(s.drop a).take (n+8)=Y:=⟨_,rfl⟩
 have B:Y.length=n+8:=by rw[<-J];simp;omega
 have g0:=q2y s (a:Int) ((a:Int)+(n:Int)+12-4) a (a+(n+8)) rfl (by omega) (by omega) (by omega) (by rw[q4t,J]);obtain⟨Z,R⟩: ∃Z,(s.drop (a+n+8)).take 4=Z:=⟨_,rfl⟩
 have h0:=q2y s ((a:Int)+(n:Int)+12-4) ((a:Int)+(n:Int)+12) (a+n+8) (a+n+8+4) (by omega) (by omega) (by omega) (by omega) (by rw[q4t,R]);have D:=η (fun W=>q9x Y W (by omega));have V:isR s a=(q1b Y&&decide (Z=X)):=by
  unfold isR;rw[F,ζ (p:=a+12<=s.length) (by omega),ζ h5,ζ h6,J,R,E];simp
 have y:q1b Y=true->(q1I Y).drop 4=(s.drop (a+4)).take n:=fun h=>by
  unfold q1I;rw[ξ h,B,<-J,List.take_take,List.drop_take,List.drop_drop]
  congr 1;omega
 have G:q1b Y=true->(q1I Y).length=n+4:=fun h=>by
  unfold q1I;rw[ξ h,Θ,B];omega
 have U:q4l s a=if isR s a then some ((s.drop (a+4)).take n,a+n+12) else none:=by unfold q4l;rw[F]
 have N:=η V;have HP:=η y;have O:=η G;have HS:=η U;clear E F x R J B V y G U h2 h1;generalize q1I Y=T at*
 cases l:q1b Y with
 | false=>
  have u:Hd (q9m s a= .tuple #[.string ⟨#[]⟩,.int .i64 0,.bool false]):=η (q6k (by rw[N.o,l];rfl));rw[l] at D;go_enter Tryz.func95,Tryz.ntmps95;go_wp2_with fail;refine(C.o _).mono ?_;rintro e w1 ⟨rfl,b⟩;have v:=η b;clear b;go_wp2_with fail;refine(D.o _).mono ?_;rintro e w2 ⟨rfl,d⟩;have m:=η (v.o.trans d);clear d;go_wp2_with fail;refine q0D (by kernel_rfl) (by kernel_rfl) ?_
  repeat (go_big_quiet_step (fail))
  refine wpQuiet_nil ?_;intro w3 j;have q:=η (m.o.trans j);clear j;go_wp2_with fail;go_ret3;rw[u.o];exact⟨rfl,q.o⟩
 | true =>
  by_cases r:Z=X
  ·have u:Hd (q9m s a= .tuple #[.string ⟨(T.drop 4).toArray⟩,.int .i64 ((a:Int)+(n:Int)+12),.bool true]):=η (by
    unfold q9m;rw[HS.o,N.o,l,r,HP.o l]
    simp)
   have Q:=O.o l;have e0: ∀w,(Instr.slice 9 (.string ⟨T.toArray⟩) (some (.int .i64 4)) none none).run Tryz.prog w= .ok (.string ⟨(T.drop 4).toArray⟩) w:=fun w=>by
    exact q1u T 4 4 rfl (by omega) w
   rw[l] at D;generalize T.drop 4=T4 at*;subst r;go_enter Tryz.func95,Tryz.ntmps95;go_wp2_with fail;refine(C.o _).mono ?_;rintro e w1 ⟨rfl,b⟩;have v:=η b;clear b;go_wp2_with fail;refine(D.o _).mono ?_;rintro e w2 ⟨rfl,d⟩;have m:=η (v.o.trans d);clear d;go_wp2_with fail;refine q0D (by kernel_rfl) (by kernel_rfl) ?_
   repeat (go_big_quiet_step (fail))
   refine wpQuiet_nil ?_;intro w3 j;have q:=η (m.o.trans j);clear j;go_wp2_with fail;go_ret3;rw[u.o];exact⟨rfl,q.o⟩
  ·have u:Hd (q9m s a= .tuple #[.string ⟨#[]⟩,.int .i64 0,.bool false]):=η (q6k (by rw[N.o,ε r,Bool.and_false]))
   have d0:(Z==X)=false:=by simpa using r
   have a0:(Z !=X)=true:=by simpa using r
   rw[l] at D;go_enter Tryz.func95,Tryz.ntmps95;go_wp2_with fail;refine(C.o _).mono ?_;rintro e w1 ⟨rfl,b⟩;have v:=η b;clear b;go_wp2_with fail;refine(D.o _).mono ?_;rintro e w2 ⟨rfl,d⟩;have m:=η (v.o.trans d);clear d;go_wp2_with fail;refine q0D (by kernel_rfl) (by kernel_rfl) ?_
   repeat (go_big_quiet_step (fail))
   refine wpQuiet_nil ?_;intro w3 j;have q:=η (m.o.trans j);clear j;go_wp2_with fail;go_ret3;rw[u.o];exact⟨rfl,q.o⟩
theorem z1q(n:Nat)(w:World)(x:n<200):
  Calls Tryz.prog 146 #[.int .i64 (n:Int)] w fun e w'=>e= .returned (.string ⟨(q2S n).toArray⟩)/\Ext w w':=by
 have v:decide ((200:Int)<=(n:Int))=false:=by simp;omega
 have r:Hd (q2S n=q0g ([99,104,110,107]++be 4 n)):=η rfl;have m:=η (fun W=>q6z (n:Int) 4 W (by omega) (by omega) (by omega) (by omega));have s:=η (fun W=>z0L ([99,104,110,107]++be 4 n) W (by simp[q0F]));have u:(be 4 n).length=4:=q0F 4 _;rw[Int.toNat_natCast] at m;generalize q0g ([99,104,110,107]++be 4 n)=Y at*;generalize be 4 n=X at*;go_enter Tryz.func146,Tryz.ntmps146;go_wp2_with fail;refine(m.o _).mono ?_;rintro e w1 ⟨rfl,d⟩;have q:=η d;clear d;go_wp2_with fail;have j:=q2f [99,104,110,107] X;have b:({data:=#[99,104,110,107]}:ByteArray)++{data:=X.toArray}=⟨([99,104,110,107]++X).toArray⟩:=j;rw[b];refine(s.o _).mono ?_;rintro e y ⟨rfl,d⟩;have l:=η (q.o.trans d);clear d;go_wp2_with fail;go_ret;exact⟨by rw[r.o];rfl,l.o⟩
theorem z9Q(N:Int)(p:List UInt8)(w:World)(b:0<=N)(h1:N<=4096)(m:p.length<=2000):
  Calls Tryz.prog 120 #[.int .i64 N,.string ⟨p.toArray⟩] w fun e w'=>e= .returned (.bool (decide ((p.length:Int)+12<=4096-N)))/\w=w':=by
 have d:decide ((0:Int)<=N)=true:=by simpa using b
 have j:decide (N<=(4096:Int))=true:=by simpa using h1
 have l:decide ((p.length:Int)<=(2000:Int))=true:=by simp;omega
 go_enter Tryz.func120,Tryz.ntmps120;go_wp2_with fail;go_ret;exact⟨rfl,rfl⟩
def q7U(s p:List UInt8):Bool:=decide (p.length<=s.length)&&(s.take p.length==p)
theorem q5l(s p:List UInt8)(w:World)(j:s.length<=9223372036854775807)(l:p.length<=9223372036854775807):
  Calls Tryz.prog 130 #[.string ⟨s.toArray⟩,.string ⟨p.toArray⟩] w fun e w'=>e= .returned (.bool (q7U s p))/\w=w':=by
 by_cases h:p.length<=s.length
 ·have b:Hd (q7U s p=(s.take p.length==p)):=η (by unfold q7U;rw[ζ h,Bool.true_and])
  have d:decide ((p.length:Int)<=(s.length:Int))=true:=by simp;omega
  go_enter Tryz.func130,Tryz.ntmps130;go_wp2_with fail;go_ret;rw[b.o];exact⟨rfl,rfl⟩
 ·have b:Hd (q7U s p=false):=η (by unfold q7U;rw[ε h,Bool.false_and])
  have d:decide ((p.length:Int)<=(s.length:Int))=false:=by simp;omega
  go_enter Tryz.func130,Tryz.ntmps130;go_wp2_with fail;go_ret;rw[b.o];exact⟨rfl,rfl⟩
theorem z0x(s p:List UInt8)(w:World)(b:s.length<=9223372036854775807)(d:p.length<=9223372036854775807):
  Calls Tryz.prog 147 #[.string ⟨s.toArray⟩,.string ⟨p.toArray⟩] w fun e w'=>e= .returned (.bool (q7U s p))/\w=w':=by
 go_enter Tryz.func147,Tryz.ntmps147;go_wp2_with fail;refine(q5l s p _ b d).mono ?_;rintro e w1 ⟨rfl,rfl⟩;go_wp2_with fail;go_ret;exact⟨rfl,rfl⟩
theorem q3g : ∀a b:List UInt8,Op.bytesLess a b=bytesBefore a b
 |[],[]=>rfl
 |[],_::_=>rfl
 |_::_,[]=>rfl
 |a::x,b::y=>by unfold Op.bytesLess bytesBefore;rw[q3g x y]
abbrev Cks :=List (List (List UInt8))
def q3k :Nat->Cks->List (List UInt8×List UInt8)
 |_,[]=>[]
 |i,ps::r=>(q0E 99 (i:Int),q0Q i ps)::q3k (i+1) r
theorem q4c : ∀(C:Cks) (i:Nat),(q3k i C).length=C.length
 |[],_=>rfl
 |ps::r,i=>by simp[q3k,q4c r]
theorem q2t : ∀(C D:Cks) (i:Nat),q3k i (C++D)=q3k i C++q3k (i+C.length) D
 |[],D,i=>rfl
 | ps::r,D,i=>by
  rw[List.cons_append,q3k,q2t r D (i+1),q3k,List.cons_append,χ]
  congr 3;omega
theorem q3H : ∀{C:Cks} {i:Nat} {x:List UInt8×List UInt8},x∈q3k i C-> ∃k,i<=k/\k<i+C.length/\x.1=q0E 99 (k:Int)
 |[],_,_,h=>by cases h
 | ps ::r,i,x,h=>by
  rcases List.mem_cons.1 h with rfl|h
  ·exact⟨i,ι _,by simp,rfl⟩
  ·obtain⟨k,h1,h2,h3⟩:=q3H h
   exact⟨k,by omega,by simp;omega,h3⟩
theorem q2k(n:Int):(q0E 99 n).length<=9223372036854775807:=by
 by_cases h:0<=n/\n<=999999
 ·rw[q0U h,χ,q0a];decide
 ·rw[q6H h];decide
theorem z6O(b:i<=999999)(d:k<=999999)(h:i≠k):q0E 99 (i:Int)≠q0E 99 (k:Int):=fun e=>by
 have:=z7F 99 (i:Int) (k:Int) (by omega) (by omega);rw[e,beq_self_eq_true] at this;have:=of_decide_eq_true this.symm;omega
theorem q5g(b:i<=999999)(d:k<=999999)(h:i<k):bytesBefore (q0E 99 (i:Int)) (q0E 99 (k:Int))=true:=by
 have h1:=z3Y 99 (i:Int) (k:Int) (by omega) (by omega);have h2:decide ((i:Int)<(k:Int))=true:=by simp;omega
 rw[h2] at h1;rw[<-q3g];exact h1
theorem q4p{C:Cks}(b:k<=999999)(l:i+C.length<=999999)(h: ∀j,i<=j->j<i+C.length->j≠k): ∀y∈q3k i C,Prod.fst y≠q0E 99 (k:Int):=fun y d=>by
 obtain⟨j,h1,h2,h3⟩:=q3H d;rw[h3];exact z6O (by omega) b (h j h1 h2)
theorem q9W{C:Cks}(m:C.length<=200)(d:C[k]? =some ps):q0G Prod.fst (q0E 99 (k:Int)) (q3k 0 C)=some (q0E 99 (k:Int),q0Q k ps):=by
 obtain⟨l,rfl⟩:=List.getElem?_eq_some_iff.1 d;have e:C=C.take k++C[k]::C.drop (k+1):=by
  rw[List.getElem_cons_drop];exact(List.take_append_drop _ _).symm
 have b:(C.take k).length=k:=by simp;omega
 conv=>lhs;rw[e]
 rw[q2t,b,Nat.zero_add,q0V]
 ·rw[q3k];unfold q0G;rw[List.find?_cons_of_pos (by simp)]
 ·exact q4p (by omega) (by rw[b];omega) fun j _ h2=>by rw[b] at h2;omega
theorem q9X{C:Cks}(d:C.length<=200)(l:C.length<=k)(b:k<=999999):q0G Prod.fst (q0E 99 (k:Int)) (q3k 0 C)=none:=
 q0T (q4p b (by omega) fun j _ h2=>by omega)
theorem z6N{C:Cks}(m:C.length<=200):q0G Prod.fst [110,101,119] (q3k 0 C)=none:=q0T fun y l e=>by
 obtain⟨j,h1,h2,h3⟩:=q3H l;rw[e] at h3;have h4:j<200:=by omega
 rw[q0U (by omega)] at h3;have b:=congrArg List.length h3;have d:(99::q4Y 6 ((j:Int)).toNat).length=7:=by simp[q0a]
 rw[d] at b
 cases b
theorem q7h : ∀(C:Cks) (i:Nat),(q3k i C).map Prod.fst=(List.range' i C.length).map fun k:Nat=>q0E 99 (k:Int)
 |[],_=>rfl
 |ps::r,i=>by rw[q3k,List.map_cons,q7h r,χ,List.range'_succ,List.map_cons]
theorem q1F(a b:List (List UInt8×List UInt8)):q2O (a++b)=q2O a+q2O b:=by simp[q2O,q5Q,List.sum_append]
theorem z0U(x:List UInt8×List UInt8):q2O [x]=x.2.length:=by simp[q2O,q5Q]
theorem z4I{D:Cks}(p:List UInt8)(b:D.length<=200):q1J Prod.fst (q0E 99 (D.length:Int)) (fun x=>(x.1,x.2++q2H p)) (q3k 0 (D++[ps]))=q3k 0 (D++[ps++[p]]):=by
 rw[q2t,q2t,q4T,q2r,Nat.zero_add]
 ·congr 1
  show q1J Prod.fst (q0E 99 (D.length:Int)) _ [(q0E 99 (D.length:Int),q0Q D.length ps)]=[(q0E 99 (D.length:Int),q0Q D.length (ps++[p]))];rw[z0i];unfold q1J;simp
 ·exact q4p (by omega) (by omega) fun j _ h2=>by omega
theorem z3E{C:Cks}(p:List UInt8)(b:C.length<=200):q1J Prod.fst (q0E 99 (C.length:Int)) (fun x=>(x.1,x.2++(q2S C.length++q2H p))) (q3k 0 C++[(q0E 99 (C.length:Int),[])])=q3k 0 (C++[[p]]):=by
 rw[q2t,q4T,q2r,Nat.zero_add]
 ·congr 1
  show q1J Prod.fst (q0E 99 (C.length:Int)) _ [(q0E 99 (C.length:Int),[])]=[(q0E 99 (C.length:Int),q0Q C.length [p])];rw[z3B];unfold q1J;simp
 ·exact q4p (by omega) (by omega) fun j _ h2=>by omega
def q0k(C:Cks):Nat:=(C.map q0J).sum
theorem q4q : ∀(C:Cks) (i:Nat),q2O (q3k i C)=q0k C
 |[],_=>rfl
 | ps::r,i=>by
  have e:q3k i (ps::r)=[(q0E 99 (i:Int),q0Q i ps)]++q3k (i+1) r:=rfl;rw[e,q1F,z0U,q4q r];simp[q0k,q1E]
structure okC(C:Cks):Prop where
 few:C.length<=200
 size: ∀ps∈C,q0J ps<=4096
 pay: ∀ps∈C,∀p∈ps,p.length<=2000
 full: ∀ps∈C,ps≠[]
structure Oth where
 X:List (List UInt8×List UInt8)
 Z:List (List UInt8×List UInt8)
def noO :Oth:=⟨[],[]⟩
structure okOth(E:Oth):Prop where
 before: ∀y∈E.X,∀k:Nat,k<=999999->bytesBefore y.1 (q0E 99 (k:Int))=true
 behind: ∀y∈E.Z,∀k:Nat,k<=999999->bytesBefore (q0E 99 (k:Int)) y.1=true
 new: ∀y,y∈E.X\/y∈E.Z->y.1≠[110,101,119]
 kind: ∀y,y∈E.X\/y∈E.Z->(q0u y.1).2.2=true->(q0u y.1).1≠99
 len: ∀y,y∈E.X\/y∈E.Z->y.1.length<=1000
 few:E.X.length+E.Z.length<=190
theorem okOth.no :okOth noO:=⟨(fun _ h=>by cases h),(fun _ h=>by cases h),(fun _ h=>by rcases h with h|h<;>cases h),(fun _ h=>by rcases h with h|h<;>cases h),(fun _ h=>by rcases h with h|h<;>cases h),υ _⟩
def q2G(E:Oth):Nat:=q2O E.X+q2O E.Z
def q3C(E:Oth)(C:Cks):List (List UInt8×List UInt8):=E.X++(q3k 0 C++E.Z)
def z3F(E:Oth)(C:Cks):List (List UInt8×List UInt8):=E.X++(q3k 0 C++((q0E 99 (C.length:Int),[])::E.Z))
theorem q6V(E:Oth)(C:Cks):(q3C E C).length=E.X.length+C.length+E.Z.length:=by simp[q3C,q4c];omega
theorem z1n{a b:List UInt8}(h:bytesBefore a b=true):a≠b:=fun e=>by rw[e,WideAt.bytes_irrefl] at h;cases h
theorem okOth.neX{E:Oth}(h:okOth E)(b:k<=999999): ∀y∈E.X,Prod.fst y≠q0E 99 (k:Int):=fun y d=>z1n (h.before y d k b)
theorem okOth.neZ{E:Oth}(h:okOth E)(b:k<=999999): ∀y∈E.Z,Prod.fst y≠q0E 99 (k:Int):=fun y d e=>z1n (h.behind y d k b) e.symm
theorem q1M{k:α->List UInt8}{nm:List UInt8}{a b:List α}(h: ∀y∈b,k y≠nm):q0G k nm (a++b)=q0G k nm a:=by
 unfold q0G;rw[List.find?_append];have:List.find? (fun y=>k y==nm) b=none:=q0T h;rw[this];simp
theorem q3Q{E:Oth}(b:okOth E){C:Cks}(j:C.length<=200)(d:C[k]? =some ps):q0G Prod.fst (q0E 99 (k:Int)) (q3C E C)=some (q0E 99 (k:Int),q0Q k ps):=by
 have l:=(List.getElem?_eq_some_iff.1 d).1;unfold q3C;rw[q0V (b.neX (by omega)),q1M (b.neZ (by omega))];exact q9W j d
theorem z4H{E:Oth}(d:okOth E){C:Cks}(j:C.length<=200)(l:C.length<=k)(b:k<=999999):q0G Prod.fst (q0E 99 (k:Int)) (q3C E C)=none:=by
 unfold q3C;rw[q0V (d.neX b),q1M (d.neZ b)];exact q9X j l b
theorem z6M{E:Oth}(d:okOth E){C:Cks}(j:C.length<=200):q0G Prod.fst [110,101,119] (q3C E C)=none:=by
 unfold q3C;rw[q0V fun y b=>d.new y (.inl b),q1M fun y b=>d.new y (.inr b)];exact z6N j
theorem q6W(E:Oth)(C:Cks):q2O (q3C E C)=q2G E+q0k C:=by
 unfold q3C q2G;rw[q1F,q1F,q4q];omega
theorem z4K(E:Oth)(C:Cks):q2O (z3F E C)=q2G E+q0k C:=by
 have e:z3F E C=E.X++(q3k 0 C++([(q0E 99 (C.length:Int),[])]++E.Z)):=rfl;rw[e,q1F,q1F,q1F,q4q,z0U];unfold q2G;simp;omega
theorem z4G{E:Oth}(b:okOth E){D:Cks}(p:List UInt8)(d:D.length<=200):q1J Prod.fst (q0E 99 (D.length:Int)) (fun x=>(x.1,x.2++q2H p)) (q3C E (D++[ps]))=q3C E (D++[ps++[p]]):=by
 unfold q3C;rw[q4T,q4T,q2r (b.neX (by omega)),q2r (b.neZ (by omega)),z4I p d]
theorem q6n{k:α->List UInt8}{x:α}{b:List α}: ∀{a:List α},(∀y∈a,bytesBefore (k y) (k x)=true)->q3c k x (a++b)=a++q3c k x b
 |[],_=>rfl
 | y ::r,h=>by
  have h1:=h y (List.mem_cons_self);have h2:¬bytesBefore (k x) (k y)=true:=fun h3=>by
   have:=WideShapes.bytes_trans _ _ _ h1 h3;rw[WideAt.bytes_irrefl] at this
   cases this
  rw[List.cons_append,q3c,κ h2,q6n fun z d=>h z (List.mem_cons_of_mem _ d)]
  rfl
theorem z3V{k:α->List UInt8}{x:α}: ∀{b:List α},(∀y∈b,bytesBefore (k x) (k y)=true)->q3c k x b=x::b
 |[],_=>rfl
 |y::r,h=>by rw[q3c,ξ (h y (List.mem_cons_self))]
theorem z6L{E:Oth}(d:okOth E){C:Cks}(l:C.length<=200):q3c Prod.fst (q0E 99 (C.length:Int),[]) (q3C E C)=z3F E C:=by
 unfold q3C z3F;rw[q6n fun y b=>d.before y b _ (by omega),q6n fun y b=>?_,z3V fun y b=>d.behind y b _ (by omega)];obtain⟨j,h1,h2,h3⟩:=q3H b;rw[h3];exact q5g (by omega) (by omega) (by omega)
theorem z4J{E:Oth}(b:okOth E){C:Cks}(d:C.length<=200):q0G Prod.fst (q0E 99 (C.length:Int)) (z3F E C)=some (q0E 99 (C.length:Int),[]):=by
 unfold z3F;rw[q0V (b.neX (by omega)),q0V (q4p (by omega) (by omega) fun j _ h2=>by omega)];unfold q0G;rw[List.find?_cons_of_pos (by simp)]
theorem z3C{E:Oth}(b:okOth E){C:Cks}(p:List UInt8)(d:C.length<=200):q1J Prod.fst (q0E 99 (C.length:Int)) (fun x=>(x.1,x.2++(q2S C.length++q2H p))) (z3F E C)=q3C E (C++[[p]]):=by
 have e:z3F E C=E.X++((q3k 0 C++[(q0E 99 (C.length:Int),[])])++E.Z):=by simp[z3F]
 rw[e];unfold q3C;rw[q4T,q4T,q2r (b.neX (by omega)),q2r (b.neZ (by omega)),z3E p d]
theorem z3D(E:Oth)(C:Cks):(q3C E C).map Prod.fst=E.X.map Prod.fst++((List.range C.length).map (fun k:Nat=>q0E 99 (k:Int))++E.Z.map Prod.fst):=by
 unfold q3C;rw[List.map_append,List.map_append,q7h,List.range_eq_range']
structure Lgd(E:Oth)(σ:DM)(c s:Int)(C:Cks):Prop where
 pl:Pl σ (c+(q2G E:Int)) s (q3C E C)
 ok:okC C
 oth:okOth E
theorem okC.nil :okC []:=⟨υ _,(fun _ h=>by cases h),(fun _ h=>by cases h),(fun _ h=>by cases h)⟩
theorem okC.grow{D:Cks}(h:okC (D++[ps]))(b:p.length<=2000)(d:q0J ps+(p.length+12)<=4096):okC (D++[ps++[p]]):=by
 have m:ps∈D++[ps]:=by simp
 refine⟨by simpa using h.few,fun q hq=>?_,fun q hq=>?_,fun q hq=>?_⟩
 all_goals rcases List.mem_append.1 hq with h1|h1
 ·exact h.size q (List.mem_append_left _ h1)
 ·obtain rfl:=List.mem_singleton.1 h1;rw[q2L];exact d
 ·exact h.pay q (List.mem_append_left _ h1)
 ·obtain rfl:=List.mem_singleton.1 h1
  intro x j;rcases List.mem_append.1 j with h2|h2
  ·exact h.pay ps m x h2
  ·obtain rfl:=List.mem_singleton.1 h2;exact b
 ·exact h.full q (List.mem_append_left _ h1)
 ·obtain rfl:=List.mem_singleton.1 h1;simp
theorem okC.more{C:Cks}(h:okC C)(b:p.length<=2000)(j:C.length<200):okC (C++[[p]]):=by
 refine⟨by simp;omega,fun q hq=>?_,fun q hq=>?_,fun q hq=>?_⟩
 all_goals rcases List.mem_append.1 hq with h1|h1
 ·exact h.size q h1
 ·obtain rfl:=List.mem_singleton.1 h1;rw[q4F];omega
 ·exact h.pay q h1
 ·obtain rfl:=List.mem_singleton.1 h1
  intro x d;obtain rfl:=List.mem_singleton.1 d;exact b
 ·exact h.full q h1
 ·obtain rfl:=List.mem_singleton.1 h1;simp
def q4d(C:Cks):Int:=match C.getLast? with|none=>0|some ps=>((C.length:Int)-1)*4096+(q0J ps:Int)
theorem z2D :q4d []=0:=rfl
theorem q2T(D:Cks)(ps:List (List UInt8)):q4d (D++[ps])=(D.length:Int)*4096+(q0J ps:Int):=by
 unfold q4d;simp
def q0L(C:Cks):List Int:=C.map fun ps=>(q0J ps:Int)
theorem q2M(D:Cks)(ps:List (List UInt8)):q0L (D++[ps])=q0L D++[(q0J ps:Int)]:=by simp[q0L]
theorem q0Y(C:Cks):(q0L C).length=C.length:=by simp[q0L]
theorem q7D(D:Cks)(ps:List (List UInt8)):(q0L (D++[ps])).getD D.length 0=(q0J ps:Int):=by
 rw[q2M];have:D.length=(q0L D).length:=(q0Y D).symm;rw[δ,this,List.getElem?_append_right (ι _)];simp
theorem z3j(D:Cks)(ps b:List (List UInt8)):(q0L (D++[ps])).set D.length (q0J b:Int)=q0L (D++[b]):=by
 rw[q2M,q2M];have:D.length=(q0L D).length:=(q0Y D).symm;rw[this];simp
theorem z1T(C:Cks)(i:Nat)(h:C[i]? =some ps):(q0L C).getD i 0=(q0J ps:Int):=by
 unfold q0L;rw[δ,List.getElem?_map,h];rfl
def q3l(C:Cks)(p:List UInt8):Bool:=match C.getLast? with|none=>false|some ps=>decide (q0J ps+(p.length+12)<=4096)
def q0w(free:Int)(C:Cks)(p:List UInt8):Int×Int×Cks:=
 if 2000<p.length then(0,3,C)
 else if q3l C p then(if free-((p.length:Int)+12)<6000 then(0,60,C) else(q4d C,0,C.dropLast++[C.getLast?.getD []++[p]]))
 else if 200<=C.length\/free-((p.length:Int)+24)<6000 then(0,60,C) else((C.length:Int)*4096+12,0,C++[[p]])
def q3s(free sure:Int)(C:Cks)(p:List UInt8):Int:=
 if (q0w free C p).2.1=0/\q3l C p=false/\C≠[] then q4d C else sure
def q2X :Nat->List (List UInt8)->List (Nat×List UInt8)
 |_,[]=>[]
 |a,p::r=>(a,p)::q2X (a+p.length+12) r
def q0t :Nat->Cks->List (Nat×List UInt8)
 |_,[]=>[]
 |b,ps::r=>q2X (b+12) ps++q0t (b+4096) r
def q3N(C:Cks)(pos:Int):Option (Nat×List UInt8):=(q0t 0 C).find? fun r=>decide (pos<=(r.1:Int))
def q5I(C:Cks)(pos:Int):List UInt8×Int:=
 if pos<0 then([],4) else match C[(pos/4096).toNat]? with
 |none=>([],4)
 | some ps=>match (if 12<=pos % 4096 then q4l (q0Q (pos/4096).toNat ps) (pos % 4096).toNat else none) with
  |none=>([],4)
  |some (p,_)=>(p,0)
theorem q6M : ∀(ps:List (List UInt8)) (a:Nat),∀r∈q2X a ps,a<=r.1/\r.1+r.2.length+12<=a+(ps.map fun p=>p.length+12).sum
 |[],_,r,h=>by cases h
 | p ::t,a,r,h=>by
  rw[q2X] at h;rcases List.mem_cons.1 h with rfl|h
  ·simp only[List.map_cons,List.sum_cons];omega
  ·have:=q6M t _ r h
   simp only[List.map_cons,List.sum_cons];omega
theorem q5J : ∀(C:Cks) (b:Nat),(∀ps∈C,q0J ps<=4096)-> ∀r∈q0t b C,b+12<=r.1/\r.1<b+4096*C.length
 |[],_,_,r,h=>by cases h
 | ps ::t,b,hs,r,h=>by
  rw[q0t] at h;have h1:=hs ps (List.mem_cons_self);unfold q0J at h1;rcases List.mem_append.1 h with h|h
  ·have:=q6M ps _ r h
   simp only[χ];omega
  ·have:=q5J t _ (fun q hq=>hs q (List.mem_cons_of_mem _ hq)) r h
   simp only[χ];omega
theorem q4j : ∀(C:Cks) (b n:Nat),q0t b C=q0t b (C.take n)++q0t (b+4096*n) (C.drop n)
 |C,b,0=>by simp[q0t]
 |[],b,n+1=>by simp[q0t]
 | ps::t,b,n+1=>by
  rw[List.take_succ_cons,List.drop_succ_cons,q0t,q0t,q4j t (b+4096) n,List.append_assoc]
  congr 3;omega
theorem z0I(C D:Cks)(b:Nat):q0t b (C++D)=q0t b C++q0t (b+4096*C.length) D:=by
 have:=q4j (C++D) b C.length
 rwa [List.take_left,List.drop_left] at this
theorem z4m{pos:Int}{l m:List (Nat×List UInt8)}(h: ∀r∈l,(r.1:Int)<pos):(l++m).find? (fun r=>decide (pos<=(r.1:Int)))=m.find? fun r=>decide (pos<=(r.1:Int)):=by
 rw[List.find?_append];have:l.find? (fun r=>decide (pos<=(r.1:Int)))=none:=List.find?_eq_none.2 fun r b=>by have:=h r b;simp;omega
 rw[this];rfl
theorem z1H(C:Cks)(pos:Int)(d: ∀ps∈C,q0J ps<=4096)(n:Nat)(j:(n:Int)*4096<=pos):q3N C pos=(q0t (4096*n) (C.drop n)).find? fun r=>decide (pos<=(r.1:Int)):=by
 unfold q3N;rw[q4j C 0 n,Nat.zero_add];refine z4m fun r b=>?_
 have:=q5J (C.take n) 0 (fun ps h=>d ps (List.mem_of_mem_take h)) r b;have h2:(C.take n).length<=n:=List.length_take_le _ _;omega
theorem q4D : ∀(ps:List (List UInt8)) (a:Nat),(q2X a ps).length=ps.length
 |[],_=>rfl
 |p::t,a=>by simp[q2X,q4D t]
theorem z2b : ∀(ps:List (List UInt8)) (a k:Nat) (p:List UInt8),ps[k]? =some p->(q2X a ps)[k]? =some (a+((ps.take k).map fun p=>p.length+12).sum,p)
 |[],_,k,p,h=>by simp at h
 | q::t,a,0,p,h=>by
  simp only[List.getElem?_cons_zero,Option.some.injEq] at h;subst h;simp[q2X]
 | q::t,a,k+1,p,h=>by
  rw[List.getElem?_cons_succ] at h;rw[q2X,List.getElem?_cons_succ,z2b t _ k p h,List.take_succ_cons,List.map_cons,List.sum_cons]
  congr 2;omega
theorem q8A : ∀(ps:List (List UInt8)) (a k:Nat) (p:List UInt8),ps[k]? =some p->(q1O a ps)[k]? =some (a+((ps.take k).map fun p=>p.length+12).sum,a+((ps.take k).map fun p=>p.length+12).sum+p.length+12)
 |[],_,k,p,h=>by simp at h
 | q::t,a,0,p,h=>by
  simp only[List.getElem?_cons_zero,Option.some.injEq] at h;subst h;simp[q1O]
 | q::t,a,k+1,p,h=>by
  rw[List.getElem?_cons_succ] at h;rw[q1O,List.getElem?_cons_succ,q8A t _ k p h,List.take_succ_cons,List.map_cons,List.sum_cons]
  congr 2<;>omega
theorem z7g(n:Nat)(ps:List (List UInt8))(k:Nat)(p:List UInt8)(h:ps[k]? =some p)(b:p.length<=2000):q4l (q0Q n ps) (q0J (ps.take k))=some (p,q0J (ps.take k)+p.length+12):=by
 obtain⟨d,rfl⟩:=List.getElem?_eq_some_iff.1 h;have e:ps=ps.take k++ps[k]::ps.drop (k+1):=by rw[List.getElem_cons_drop];exact(List.take_append_drop _ _).symm
 have:=z4r n (ps.take k) ps[k] (ps.drop (k+1)) b
 rwa [<-e] at this
end
end Go.Proofs.YteabhdclmodefaaGreatDoor
