/- Plain laws. -/
import Derived.Test.YtjlcdfpbllobaaaGreatDoorG3AT
import Derived.Test.YtjlcdfpbllobaaaGreatDoorG6AT
import Derived.Laws.BitsLemmas
set_option linter.unusedVariables false
set_option linter.unusedSimpArgs false
set_option maxRecDepth 100000
set_option maxHeartbeats 6400000
namespace Go.Proofs.YtjlcdfpbllobaaaGreatDoor
variable {a k i:Nat}{p:List UInt8}{α:Type}{L:List En}{ps:List (List UInt8)}
section
open Go.RowKit
theorem q3Z(a b:List UInt8):(⟨a.toArray⟩:ByteArray)++⟨b.toArray⟩=⟨(a++b).toArray⟩:=by rw[ByteArray.mk_append_mk];first|done|simp
def q2Q(p:List UInt8):List UInt8:=q1Q (be 4 p.length++p)++be 4 p.length
def q4H(s:List UInt8)(a:Nat):Nat:=q1K ((s.drop a).take 4)
def isR(s:List UInt8)(a:Nat):Bool:=
 decide (a+12<=s.length)&&decide (q4H s a<=2000)&&decide (a+q4H s a+12<=s.length)
 &&q2A ((s.drop a).take (q4H s a+8))&&decide ((s.drop (a+q4H s a+8)).take 4=(s.drop a).take 4)
def q5M(s:List UInt8)(a:Nat):Option (List UInt8×Nat):=
 if isR s a then some ((s.drop (a+4)).take (q4H s a),a+q4H s a+12) else none
def q5a :Nat->List UInt8->Nat->List (Nat×Nat)
 |0,_,_=>[]
 | f+1,s,a=>match q5M s a with
  |none=>[]
  |some (_,b)=>(a,b)::q5a f s b
def q0n(s:List UInt8)(a:Nat):List (Nat×Nat):=q5a (s.length+1) s a
def q9B(a:Nat)(l:List (Nat×Nat)):Nat:=(l.getLast?.map Prod.snd).getD a
def q2Y(n:Nat):List UInt8:=q1Q ([99,104,110,107]++be 4 n)
def q4t(ps:List (List UInt8)):List UInt8:=(ps.map q2Q).flatten
def q0U(n:Nat)(ps:List (List UInt8)):List UInt8:=q2Y n++q4t ps
def q0L(ps:List (List UInt8)):Nat:=12+(ps.map fun p=>p.length+12).sum
def q1W :Nat->List (List UInt8)->List (Nat×Nat)
 |_,[]=>[]
 |a,p::r=>(a,a+p.length+12)::q1W (a+p.length+12) r
theorem q1H(p:List UInt8):(q2Q p).length=p.length+12:=by
 simp only[q2Q,θ,q1F,q0J];omega
theorem q2t(n:Nat):(q2Y n).length=12:=by simp[q2Y,q1F,q0J]
theorem q9y(ps:List (List UInt8)):(q4t ps).length=(ps.map fun p=>p.length+12).sum:=by
 unfold q4t
 induction ps with
 |nil=>rfl
 |cons p r ih=>simp[q1H,ih]
theorem q1M(n:Nat)(ps:List (List UInt8)):(q0U n ps).length=q0L ps:=by
 simp[q0U,q0L,q2t,q9y]
theorem z3n(ps:List (List UInt8))(p:List UInt8):q4t (ps++[p])=q4t ps++q2Q p:=by simp[q4t]
theorem z1Q(n:Nat)(ps:List (List UInt8))(p:List UInt8):q0U n (ps++[p])=q0U n ps++q2Q p:=by simp[q0U,z3n]
theorem z3s(n:Nat)(p:List UInt8):q0U n [p]=q2Y n++q2Q p:=by simp[q0U,q4t]
theorem q2T(ps:List (List UInt8))(p:List UInt8):q0L (ps++[p])=q0L ps+(p.length+12):=by simp[q0L,List.sum_append];omega
theorem q4Z(p:List UInt8):q0L [p]=12+(p.length+12):=by simp[q0L]
theorem z0R{s:List UInt8}{b:Nat}(h:q5M s a=some (p,b)):
  p.length<=2000/\b=a+p.length+12/\b<=s.length/\p=(s.drop (a+4)).take p.length/\q4H s a=p.length:=by
 unfold q5M at h
 split at h
 case isFalse=>cases h
 case isTrue hi=>
  unfold isR at hi;simp only[Ξ,Φ] at hi;obtain⟨⟨⟨⟨h1,h2⟩,h3⟩,h4⟩,j⟩:=hi;simp only[Option.some.injEq,Prod.mk.injEq] at h;obtain⟨rfl,rfl⟩:=h;have d:((s.drop (a+4)).take (q4H s a)).length=q4H s a:=by simp;omega
  rw[d];exact⟨h2,rfl,h3,rfl,rfl⟩
theorem z9V(d m b:List α)(h:a=d.length):(d++m++b).drop a=m++b:=by
 subst h;rw[List.append_assoc,List.drop_left]
theorem z2y(d p b:List UInt8)(x:p.length<=2000)(q:a=d.length):q5M (d++q2Q p++b) a=some (p,a+p.length+12):=by
 have m:(d++q2Q p++b).drop a=be 4 p.length++(p++(q7z (q1e (be 4 p.length++p))++(be 4 p.length++b))):=by
  rw[z9V _ _ _ q];simp[q2Q,q1Q]
 have l:(be 4 p.length).length=4:=q0J 4 _;have o:=q5E (q1e (be 4 p.length++p));have j:q4H (d++q2Q p++b) a=p.length:=by
  unfold q4H;rw[m,List.take_left' l,q5L];omega
 have r:(d++q2Q p++b).length=a+(p.length+12)+b.length:=by simp[q1H,q];omega
 have v:isR (d++q2Q p++b) a=true:=by
  unfold isR;rw[j];simp only[Ξ,Φ];refine⟨⟨⟨⟨by omega,x⟩,by omega⟩,?_⟩,?_⟩
  ·have e:((d++q2Q p++b).drop a).take (p.length+8)=q1Q (be 4 p.length++p):=by
    rw[m];have:be 4 p.length++(p++(q7z (q1e (be 4 p.length++p))++(be 4 p.length++b)))=q1Q (be 4 p.length++p)++(be 4 p.length++b):=by simp[q1Q]
    rw[this];exact List.take_left' (by simp[q1F,l];omega)
   rw[e];unfold q2A;simp only[Ξ,Φ,q1F];refine⟨by omega,?_⟩;have s:(q1Q (be 4 p.length++p)).take ((be 4 p.length++p).length+4-4)=be 4 p.length++p:=by
    unfold q1Q;exact List.take_left' (by omega)
   rw[s]
  ·have e:(d++q2Q p++b).drop (a+p.length+8)=be 4 p.length++b:=by
    have:a+p.length+8=a+(p.length+8):=by omega
    rw[this,<-List.drop_drop,m];have:be 4 p.length++(p++(q7z (q1e (be 4 p.length++p))++(be 4 p.length++b)))=(be 4 p.length++(p++q7z (q1e (be 4 p.length++p))))++(be 4 p.length++b):=by simp
    rw[this];exact List.drop_left' (by simp[l,o];omega)
   rw[e,m,List.take_left' l,List.take_left' l]
 unfold q5M;rw[ξ v,j]
 congr 2
 rw[<-List.drop_drop,m];have u:(be 4 p.length++(p++(q7z (q1e (be 4 p.length++p))++(be 4 p.length++b)))).drop 4=p++(q7z (q1e (be 4 p.length++p))++(be 4 p.length++b)):=List.drop_left' l;rw[u];exact List.take_left' rfl
theorem z5n(s:List UInt8)(a:Nat)(h:s.length<a+12):q5M s a=none:=by
 unfold q5M isR;rw[ε (by omega)];simp
theorem q8M : ∀(ps:List (List UInt8)) (pre:List UInt8) (f a:Nat),(∀p∈ps,p.length<=2000)->a=pre.length->ps.length<f->q5a f (pre++q4t ps) a=q1W a ps
 |[],pre,0,a,_,_,hf=>by simp at hf
 | [],pre,f+1,a,_,ha,_=>by
  unfold q5a;rw[z5n _ _ (by simp[q4t,ha])]
  rfl
 |p::r,pre,0,a,_,_,hf=>by simp at hf
 | p::r,pre,f+1,a,hp,ha,hf=>by
  have e:pre++q4t (p::r)=pre++q2Q p++q4t r:=by simp[q4t]
  rw[e];unfold q5a;rw[z2y pre p (q4t r) (hp p (List.mem_cons_self)) ha];show _::q5a f (pre++q2Q p++q4t r) (a+p.length+12)=_;rw[q8M r (pre++q2Q p) f _ (fun q hq=>hp q (List.mem_cons_of_mem _ hq)) (by simp[q1H,ha];omega) (by simp at hf;omega)]
  rfl
theorem z9A(ps:List (List UInt8)):12*ps.length<=(ps.map fun p=>p.length+12).sum:=by
 induction ps with
 |nil=>simp
 |cons p r ih=>simp only[List.map_cons,List.sum_cons,χ];omega
theorem q7v(n:Nat)(ps:List (List UInt8))(b: ∀p∈ps,p.length<=2000):q0n (q0U n ps) 12=q1W 12 ps:=by
 unfold q0n;refine q8M ps (q2Y n) _ 12 b (q2t n).symm ?_;have:=z9A ps;show _<(q0U n ps).length+1;rw[q1M];unfold q0L;omega
theorem q6P : ∀(ps:List (List UInt8)) (p:List UInt8) (a:Nat),q1W a (ps++[p])=q1W a ps++[(a+(ps.map fun p=>p.length+12).sum,a+(ps.map fun p=>p.length+12).sum+p.length+12)]
 |[],p,a=>by simp[q1W]
 | q::r,p,a=>by
  rw[List.cons_append,q1W,q6P r p,q1W,List.cons_append];simp only[List.map_cons,List.sum_cons]
  congr 4<;>omega
theorem z1u : ∀(ps:List (List UInt8)) (a:Nat),q9B a (q1W a ps)=a+(ps.map fun p=>p.length+12).sum:=fun ps a=>by
 rcases List.eq_nil_or_concat ps with rfl|⟨r,p,rfl⟩
 ·rfl
 ·rw[List.concat_eq_append,q6P]
  unfold q9B;simp only[List.getLast?_append,List.getLast?_singleton,Option.some_or,Option.map_some,Option.getD_some,List.map_append,List.map_cons,List.map_nil,List.sum_append,List.sum_cons,List.sum_nil];omega
theorem q2X : ∀(ps:List (List UInt8)) (a:Nat),(q1W a ps).length=ps.length
 |[],_=>rfl
 |p::r,a=>by simp[q1W,q2X r]
theorem z5i(n:Nat)(l:List (List UInt8))(p:List UInt8)(r:List (List UInt8))(b:p.length<=2000):q5M (q0U n (l++p::r)) (q0L l)=some (p,q0L l+p.length+12):=by
 have e:q0U n (l++p::r)=q0U n l++q2Q p++q4t r:=by simp[q0U,q4t]
 rw[e];exact z2y _ _ _ b (q1M n l).symm
theorem z0V(a b:En)(w:World):Calls Tryz.prog 148 #[enV a,enV b] w fun e w'=>e= .returned (.bool (q0i a b))/\Ext w w':=by
 obtain⟨d,j,l⟩:=a;obtain⟨b1,b2,b3⟩:=b;have m:=η (q6M w (.cells #[.int .u64 d,.int .i64 j,.int .i64 l] 128) (.cells #[.int .u64 b1,.int .i64 b2,.int .i64 b3] 128));have q:Hd (q0i (d,j,l) (b1,b2,b3)=if d≠b1 then decide (d<b1) else if j≠b2 then decide (j<b2) else decide (l<b3)):=η rfl;show Calls Tryz.prog 148 #[.agg #[.int .u64 d,.int .i64 j,.int .i64 l],.agg #[.int .u64 b1,.int .i64 b2,.int .i64 b3]] w _;by_cases h1:d=b1
 ·subst h1
  by_cases h2:j=b2
  ·subst h2
   go_enter Tryz.func148,Tryz.ntmps148;go_wp2_with fail;go_ret;exact⟨rb (by rw[q.o];simp),m.o⟩
  ·have r:(j !=b2)=true:=by simpa using h2
   go_enter Tryz.func148,Tryz.ntmps148;go_wp2_with fail;go_ret;exact⟨rb (by rw[q.o];simp[h2]),m.o⟩
 ·have r:(d !=b1)=true:=by simpa using h1
  go_enter Tryz.func148,Tryz.ntmps148;go_wp2_with fail;go_ret;exact⟨rb (by rw[q.o];simp[h1]),m.o⟩
theorem q8k(l:k+1<L.length):q4J (L.take (k+2))=(q4J (L.take (k+1))&&q0i (L.getD k en0) (L.getD (k+1) en0)):=by
 rw[Bool.eq_iff_iff,Ξ,q3O,q3O];have j:L.take (k+2)=L.take (k+1)++[L.getD (k+1) en0]:=q0V L en0 (k+1) l;have d:L.take (k+1)=L.take k++[L.getD k en0]:=q0V L en0 k (by omega);rw[j];unfold q0x;rw[List.pairwise_append]
 constructor
 ·rintro⟨h1,_,h3⟩
  exact⟨h1,h3 _ (by rw[d];simp) _ (by simp)⟩
 ·rintro⟨h1,h2⟩
  refine⟨h1,by simp,fun x b y m=>?_⟩;obtain rfl:=List.mem_singleton.1 m;rw[d] at b h1;rcases List.mem_append.1 b with b|b
  ·exact q1P ((List.pairwise_append.1 h1).2.2 x b _ (by simp)) h2
  ·obtain rfl:=List.mem_singleton.1 b;exact h2
theorem z2H(b:k+1<L.length)(h:q0i (L.getD k en0) (L.getD (k+1) en0)=false):q4J L=false:=by
 cases hs:q4J L with
 |false=>rfl
 | true=>
  rw[q3O] at hs;have h1:q0x (L.take (k+2)):=hs.sublist (List.take_sublist _ _);rw[<-q3O,q8k b,h,Bool.and_false] at h1
  cases h1
theorem z8j{ao:Option Addr}{n cap:Nat}(w:World)(m:Ens w ao n cap L):Calls Tryz.prog 254 #[.slice ao n cap] w fun e w'=>e= .returned (.bool (q4J L))/\Ext w w':=by
 have G:=η m;have b1:=m.fits;have b2:=m.bound;have j:=η m.len;clear m;go_enter Tryz.func254,Tryz.ntmps254;go_wp2_with fail
 go_loopw [3] (fun i W=> ∃k:Nat,k+1<=max n 1/\i= .int .i64 ((k:Int)+1)/\q4J (L.take (k+1))=true/\Ext w W) (fun i _=>n-(intOf i).toNat)
 case atStart=>
  refine⟨0,by omega,rfl,?_,Ext.refl _⟩
  cases L with
  |nil=>rfl
  |cons a r=>rfl
 case round=>
  obtain⟨k,Y,rfl,C,B⟩:=hrel;have R:=η C;have D:=η B;by_cases u:k+1<n
  ·have U:decide (((k:Int)+1)<(n:Int))=true:=by simp;omega
   obtain⟨b,off,rfl,I,J,M⟩:=(G.o.ext B).at (i:=k) (by omega);obtain⟨_,_,S,N,O,Q⟩:=(G.o.ext B).at (i:=k+1) u
   cases S;have E:=η (q8k (L:=L) (k:=k) (by rw[j.o];exact u));have v:=η (z2H (L:=L) (k:=k) (by rw[j.o];exact u));obtain⟨x,m⟩: ∃x,L.getD k en0=x:=⟨_,rfl⟩
   obtain⟨y,F⟩: ∃y,L.getD (k+1) en0=y:=⟨_,rfl⟩
   rw[m] at I J M;rw[F] at N O Q;rw[m,F] at E v;obtain⟨q,hq⟩: ∃q,q0i x y=q:=⟨_,rfl⟩
   have l:=η (fun W=>z0V x y W);rw[hq] at l E v;obtain⟨x1,x2,x3⟩:=x;obtain⟨y1,y2,y3⟩:=y;unfold enV ec at l;have Z:=q0C I;have u1:=q0C J;have u2:=q0C M;have v0:=q0C N;have v1:=q0C O;have v2:=q0C Q;have V:IntKind.i64.wrap ((k:Int)+1-1)=(k:Int):=by rw[ν];omega
   have d:IntKind.i64.wrap (k:Int)=(k:Int):=by rw[ν];omega
   clear m F C B hq
   cases q with
   | true=>
    go_wp2_with fail;refine q0D (by kernel_rfl) (by kernel_rfl) ?_
    repeat (go_big_quiet_step (first|(go_at_call 148;exact Calls.quiet_ext (l.o _))))
    refine wpQuiet_nil ?_;intro X d;have s:=η (D.o.trans d);clear d;go_wp2_with fail
    go_roundw
    case rel=>exact⟨k+1,by omega,by go_num,by rw[E.o,R.o];rfl,s.o⟩
    case measure=>simp[intOf];omega
   | false=>
    go_wp2_with fail;refine q0D (by kernel_rfl) (by kernel_rfl) ?_
    repeat (go_big_quiet_step (first|(go_at_call 148;exact Calls.quiet_ext (l.o _))))
    refine wpQuiet_nil ?_;intro X d;have s:=η (D.o.trans d);clear d;go_wp2_with fail;go_ret;exact⟨rb (v.o (by first|rfl|trivial)),s.o⟩
  ·have U:decide (((k:Int)+1)<(n:Int))=false:=by simp;omega
   have v:Hd (q4J L=true):=η (by rwa [Δ (by rw[j.o];omega)] at C);clear C B;go_wp2_with fail;go_ret;exact⟨rb v.o,D.o⟩
theorem q3N(s:List UInt8)(m j:Int)(a b:Nat)(l:m=(a:Int))(d:j=(b:Int))(h:a<=b)(h2:b<=s.length){X:List UInt8}(o:(s.take b).drop a=X):
  ∀w,(Instr.slice 9 (.string ⟨s.toArray⟩) (some (.int .i64 m)) (some (.int .i64 j)) none).run Tryz.prog w= .ok (.string ⟨X.toArray⟩) w:=fun w=>by
 have h3:=run_slice_string (P:=Tryz.prog) w 9 ⟨s.toArray⟩ .i64 .i64 m j Tryz.underlying9 (by omega) (by omega) (by simp[ByteArray.size];omega);rw[h3,l,d,<-o];show _=Result.ok (Value.string ⟨((s.take b).drop a).toArray⟩) w;rw[<-q3C];rfl
theorem q4n(s:List UInt8)(j:Int)(b:Nat)(d:j=(b:Int))(h2:b<=s.length):
  ∀w,(Instr.slice 9 (.string ⟨s.toArray⟩) none (some (.int .i64 j)) none).run Tryz.prog w= .ok (.string ⟨(s.take b).toArray⟩) w:=fun w=>by
 have h3:=run_slice_string_to_if (P:=Tryz.prog) w 9 ⟨s.toArray⟩ .i64 j Tryz.underlying9;have l:(ByteArray.size ⟨s.toArray⟩)=s.length:=by simp[ByteArray.size]
 rw[h3,l,ξ (by omega),d];show Result.ok (Value.string ((⟨s.toArray⟩:ByteArray).extract 0 b)) w=_;rw[q3C];rfl
theorem q3D(s:List UInt8)(d:Int)(a:Nat)(b:d=(a:Int))(h2:a<=s.length):
  ∀w,(Instr.slice 9 (.string ⟨s.toArray⟩) (some (.int .i64 d)) none none).run Tryz.prog w= .ok (.string ⟨(s.drop a).toArray⟩) w:=fun w=>by
 have h3:=run_slice_string_from_if (P:=Tryz.prog) w 9 ⟨s.toArray⟩ .i64 d Tryz.underlying9;have j:(ByteArray.size ⟨s.toArray⟩)=s.length:=by simp[ByteArray.size]
 rw[h3,j,ξ (by omega),b];show Result.ok (Value.string ((⟨s.toArray⟩:ByteArray).extract a s.length)) w=_;rw[q3C,List.take_length]
theorem z6Y(k:Nat)(N:Int)(w:World)(q:N=(k:Int))(r:k<=9223372036854775807):
  Calls Tryz.prog 137 #[.int .i64 N] w fun e w'=>e= .returned (.string ⟨(be 4 k).toArray⟩)/\Ext w w':=by
 have m:0<=N:=by omega
 have h1:N<=9223372036854775807:=by omega
 have b:N.toNat=k:=by omega
 have l:=η b;clear q b;go_enter Tryz.func137,Tryz.ntmps137;go_wp2_with fail;refine(q7c N 4 _ (by omega) (by omega) m (by omega)).mono ?_;rintro e w1 ⟨rfl,d⟩;have j:=η d;clear d;rw[l.o];go_wp2_with fail;go_ret;exact⟨rfl,j.o⟩
theorem z6P(p:List UInt8)(w:World)(j:2000<p.length)(d:p.length<=9223372036854775807):
  Calls Tryz.prog 88 #[.string ⟨p.toArray⟩] w fun e w'=>e= .returned (.tuple #[.string ⟨#[]⟩,.int .i64 3])/\w=w':=by
 have b:decide ((2000:Int)<(p.length:Int))=true:=by simp;omega
 go_enter Tryz.func88,Tryz.ntmps88;go_wp2_with fail;go_ret2;exact⟨rfl,rfl⟩
theorem z8c(p:List UInt8)(w:World)(y:p.length<=2000):
  Calls Tryz.prog 88 #[.string ⟨p.toArray⟩] w fun e w'=>e= .returned (.tuple #[.string ⟨(q2Q p).toArray⟩,.int .i64 0])/\Ext w w':=by
 have v:decide ((2000:Int)<(p.length:Int))=false:=by simp;omega
 obtain⟨n,x⟩: ∃n:Int,n=(p.length:Int):=⟨_,rfl⟩
 have s:Hd (q2Q p=q1Q (be 4 p.length++p)++be 4 p.length):=η rfl;have d:(be 4 p.length).length=4:=q0J 4 _;have B:(q1Q (be 4 p.length++p)).length=p.length+8:=by simp[q1F,d];omega
 have q:=η (fun W=>z6Y p.length (p.length:Int) W rfl (by omega));have u:=η (fun W=>z3Z (be 4 p.length++p) W (by simp[d];omega));go_enter Tryz.func88,Tryz.ntmps88;go_wp2_with fail;refine(q.o _).mono ?_;rintro e w1 ⟨rfl,b⟩;have r:=η b;clear b;generalize be 4 p.length=X at*;go_wp2_with fail;have m:=u.o w1;generalize q1Q (X++p)=Y at*;rw[q3Z];refine m.mono ?_;rintro e C ⟨rfl,b⟩;have j:=η (r.o.trans b);clear b;go_wp2_with fail;refine(q.o _).mono ?_;rintro e D ⟨rfl,b⟩;have l:=η (j.o.trans b);clear b;go_wp2_with fail;go_ret2;exact⟨by rw[s.o,q3Z];rfl,l.o⟩
def z0S(s:List UInt8)(a:Nat):Value:=match q5M s a with
 |none=> .tuple #[.string ⟨#[]⟩,.int .i64 0,.bool false]
 |some (p,b)=> .tuple #[.string ⟨p.toArray⟩,.int .i64 b,.bool true]
theorem q7M{s:List UInt8}(h:isR s a=false):z0S s a= .tuple #[.string ⟨#[]⟩,.int .i64 0,.bool false]:=by unfold z0S q5M;rw[h];rfl
theorem q5V(s:List UInt8)(a k:Nat):(s.take (a+k)).drop a=(s.drop a).take k:=by rw[List.drop_take];congr 1;omega
theorem q9J(s:List UInt8)(a:Nat)(w:World)(hl:s.length<=4611686018427387903)(ha:a<=4611686018427387903):
  Calls Tryz.prog 109 #[.string ⟨s.toArray⟩,.int .i64 (a:Int)] w fun e w'=>e= .returned (z0S s a)/\Ext w w':=by
 by_cases h1:s.length<a+12
 ·have u:Hd (z0S s a= .tuple #[.string ⟨#[]⟩,.int .i64 0,.bool false]):=η (q7M (by unfold isR;rw[ε (by omega)];rfl))
  have hd:decide (((s.length:Int)-12)<(a:Int))=true:=by simp;omega
  go_enter Tryz.func109,Tryz.ntmps109;go_wp2_with fail;go_ret3;rw[u.o];exact⟨rfl,Ext.refl _⟩
 have b0:decide (((s.length:Int)-12)<(a:Int))=false:=by simp;omega
 obtain⟨X,E⟩: ∃X,(s.drop a).take 4=X:=⟨_,rfl⟩
 have I:X.length=4:=by rw[<-E];simp;omega
 have f0:=q3N s (a:Int) ((a:Int)+4) a (a+4) rfl (by omega) (by omega) (by omega) (by rw[q5V,E]);obtain⟨n,F⟩: ∃n,q4H s a=n:=⟨_,rfl⟩
 have x:q1K (X.take 8)=n:=by rw[Δ (by omega),<-E,<-F];rfl
 have c0:n<4294967296:=by rw[<-x];have:=q2C (X.take 8);rw[Θ,I] at this;exact this
 have C:=η (fun W=>q9H X W (by omega));rw[x] at C;by_cases h2:2000<n\/s.length<a+n+12
 ·have u:Hd (z0S s a= .tuple #[.string ⟨#[]⟩,.int .i64 0,.bool false]):=η (q7M (by
   unfold isR;rw[F];rcases h2 with h|h
   ·rw[ε (p:=n<=2000) (by omega)];simp
   ·rw[ε (p:=a+n+12<=s.length) (by omega)];simp))
  clear E F x I;by_cases h3:2000<n
  ·have M:decide ((2000:Int)<(n:Int))=true:=by simp;omega
   go_enter Tryz.func109,Tryz.ntmps109;go_wp2_with fail;refine(C.o _).mono ?_;rintro e w1 ⟨rfl,l⟩;have v:=η l;clear l;go_wp2_with fail;go_ret3;rw[u.o];exact⟨rfl,v.o⟩
  ·have h4:s.length<a+n+12:=by omega
   have M:decide ((2000:Int)<(n:Int))=false:=by simp;omega
   have S:decide ((s.length:Int)-12-(a:Int)<(n:Int))=true:=by simp;omega
   go_enter Tryz.func109,Tryz.ntmps109;go_wp2_with fail;refine(C.o _).mono ?_;rintro e w1 ⟨rfl,l⟩;have v:=η l;clear l;go_wp2_with fail;go_ret3;rw[u.o];exact⟨rfl,v.o⟩
 have h5:n<=2000:=by omega
 have h6:a+n+12<=s.length:=by omega
 have M:decide ((2000:Int)<(n:Int))=false:=by simp;omega
 have S:decide ((s.length:Int)-12-(a:Int)<(n:Int))=false:=by simp;omega
 obtain⟨Y,J⟩: ∃Y,(s.drop a).take (n+8)=Y:=⟨_,rfl⟩
 have B:Y.length=n+8:=by rw[<-J];simp;omega
 have g0:=q3N s (a:Int) ((a:Int)+(n:Int)+12-4) a (a+(n+8)) rfl (by omega) (by omega) (by omega) (by rw[q5V,J]);obtain⟨Z,R⟩: ∃Z,(s.drop (a+n+8)).take 4=Z:=⟨_,rfl⟩
 have h0:=q3N s ((a:Int)+(n:Int)+12-4) ((a:Int)+(n:Int)+12) (a+n+8) (a+n+8+4) (by omega) (by omega) (by omega) (by omega) (by rw[q5V,R]);have D:=η (fun W=>z3J Y W (by omega));have V:isR s a=(q2A Y&&decide (Z=X)):=by
  unfold isR;rw[F,ζ (p:=a+12<=s.length) (by omega),ζ h5,ζ h6,J,R,E];simp
 have y:q2A Y=true->(q1p Y).drop 4=(s.drop (a+4)).take n:=fun h=>by
  unfold q1p;rw[ξ h,B,<-J,List.take_take,List.drop_take,List.drop_drop]
  congr 1;omega
 have G:q2A Y=true->(q1p Y).length=n+4:=fun h=>by
  unfold q1p;rw[ξ h,Θ,B];omega
 have U:q5M s a=if isR s a then some ((s.drop (a+4)).take n,a+n+12) else none:=by unfold q5M;rw[F]
 have N:=η V;have HP:=η y;have O:=η G;have HS:=η U;clear E F x R J B V y G U h2 h1;generalize q1p Y=T at*
 cases l:q2A Y with
 | false=>
  have u:Hd (z0S s a= .tuple #[.string ⟨#[]⟩,.int .i64 0,.bool false]):=η (q7M (by rw[N.o,l];rfl));rw[l] at D;go_enter Tryz.func109,Tryz.ntmps109;go_wp2_with fail;refine(C.o _).mono ?_;rintro e w1 ⟨rfl,b⟩;have v:=η b;clear b;go_wp2_with fail;refine(D.o _).mono ?_;rintro e w2 ⟨rfl,d⟩;have m:=η (v.o.trans d);clear d;go_wp2_with fail;refine q0D (by kernel_rfl) (by kernel_rfl) ?_
  repeat (go_big_quiet_step (fail))
  refine wpQuiet_nil ?_;intro w3 j;have q:=η (m.o.trans j);clear j;go_wp2_with fail;go_ret3;rw[u.o];exact⟨rfl,q.o⟩
 | true =>
  by_cases r:Z=X
  ·have u:Hd (z0S s a= .tuple #[.string ⟨(T.drop 4).toArray⟩,.int .i64 ((a:Int)+(n:Int)+12),.bool true]):=η (by
    unfold z0S;rw[HS.o,N.o,l,r,HP.o l]
    simp)
   have Q:=O.o l;have e0: ∀w,(Instr.slice 9 (.string ⟨T.toArray⟩) (some (.int .i64 4)) none none).run Tryz.prog w= .ok (.string ⟨(T.drop 4).toArray⟩) w:=fun w=>by
    exact q3D T 4 4 rfl (by omega) w
   rw[l] at D;generalize T.drop 4=T4 at*;subst r;go_enter Tryz.func109,Tryz.ntmps109;go_wp2_with fail;refine(C.o _).mono ?_;rintro e w1 ⟨rfl,b⟩;have v:=η b;clear b;go_wp2_with fail;refine(D.o _).mono ?_;rintro e w2 ⟨rfl,d⟩;have m:=η (v.o.trans d);clear d;go_wp2_with fail;refine q0D (by kernel_rfl) (by kernel_rfl) ?_
   repeat (go_big_quiet_step (fail))
   refine wpQuiet_nil ?_;intro w3 j;have q:=η (m.o.trans j);clear j;go_wp2_with fail;go_ret3;rw[u.o];exact⟨rfl,q.o⟩
  ·have u:Hd (z0S s a= .tuple #[.string ⟨#[]⟩,.int .i64 0,.bool false]):=η (q7M (by rw[N.o,ε r,Bool.and_false]))
   have d0:(Z==X)=false:=by simpa using r
   have a0:(Z !=X)=true:=by simpa using r
   rw[l] at D;go_enter Tryz.func109,Tryz.ntmps109;go_wp2_with fail;refine(C.o _).mono ?_;rintro e w1 ⟨rfl,b⟩;have v:=η b;clear b;go_wp2_with fail;refine(D.o _).mono ?_;rintro e w2 ⟨rfl,d⟩;have m:=η (v.o.trans d);clear d;go_wp2_with fail;refine q0D (by kernel_rfl) (by kernel_rfl) ?_
   repeat (go_big_quiet_step (fail))
   refine wpQuiet_nil ?_;intro w3 j;have q:=η (m.o.trans j);clear j;go_wp2_with fail;go_ret3;rw[u.o];exact⟨rfl,q.o⟩
theorem z2d(n:Nat)(w:World)(x:n<200):
  Calls Tryz.prog 145 #[.int .i64 (n:Int)] w fun e w'=>e= .returned (.string ⟨(q2Y n).toArray⟩)/\Ext w w':=by
 have v:decide ((200:Int)<=(n:Int))=false:=by simp;omega
 have r:Hd (q2Y n=q1Q ([99,104,110,107]++be 4 n)):=η rfl;have m:=η (fun W=>q7c (n:Int) 4 W (by omega) (by omega) (by omega) (by omega));have s:=η (fun W=>z3Z ([99,104,110,107]++be 4 n) W (by simp[q0J]));have u:(be 4 n).length=4:=q0J 4 _;rw[Int.toNat_natCast] at m;generalize q1Q ([99,104,110,107]++be 4 n)=Y at*;generalize be 4 n=X at*;go_enter Tryz.func145,Tryz.ntmps145;go_wp2_with fail;refine(m.o _).mono ?_;rintro e w1 ⟨rfl,d⟩;have q:=η d;clear d;go_wp2_with fail;have j:=q3Z [99,104,110,107] X;have b:({data:=#[99,104,110,107]}:ByteArray)++{data:=X.toArray}=⟨([99,104,110,107]++X).toArray⟩:=j;rw[b];refine(s.o _).mono ?_;rintro e y ⟨rfl,d⟩;have l:=η (q.o.trans d);clear d;go_wp2_with fail;go_ret;exact⟨by rw[r.o];rfl,l.o⟩
theorem y0y(N:Int)(p:List UInt8)(w:World)(b:0<=N)(h1:N<=4096)(m:p.length<=2000):
  Calls Tryz.prog 89 #[.int .i64 N,.string ⟨p.toArray⟩] w fun e w'=>e= .returned (.bool (decide ((p.length:Int)+12<=4096-N)))/\w=w':=by
 have d:decide ((0:Int)<=N)=true:=by simpa using b
 have j:decide (N<=(4096:Int))=true:=by simpa using h1
 have l:decide ((p.length:Int)<=(2000:Int))=true:=by simp;omega
 go_enter Tryz.func89,Tryz.ntmps89;go_wp2_with fail;go_ret;exact⟨rfl,rfl⟩
def z7G(s p:List UInt8):Bool:=decide (p.length<=s.length)&&(s.take p.length==p)
theorem z0Y(s p:List UInt8)(w:World)(j:s.length<=9223372036854775807)(l:p.length<=9223372036854775807):
  Calls Tryz.prog 205 #[.string ⟨s.toArray⟩,.string ⟨p.toArray⟩] w fun e w'=>e= .returned (.bool (z7G s p))/\w=w':=by
 by_cases h:p.length<=s.length
 ·have b:Hd (z7G s p=(s.take p.length==p)):=η (by unfold z7G;rw[ζ h,Bool.true_and])
  have d:decide ((p.length:Int)<=(s.length:Int))=true:=by simp;omega
  go_enter Tryz.func205,Tryz.ntmps205;go_wp2_with fail;go_ret;rw[b.o];exact⟨rfl,rfl⟩
 ·have b:Hd (z7G s p=false):=η (by unfold z7G;rw[ε h,Bool.false_and])
  have d:decide ((p.length:Int)<=(s.length:Int))=false:=by simp;omega
  go_enter Tryz.func205,Tryz.ntmps205;go_wp2_with fail;go_ret;rw[b.o];exact⟨rfl,rfl⟩
theorem z1d(s p:List UInt8)(w:World)(b:s.length<=9223372036854775807)(d:p.length<=9223372036854775807):
  Calls Tryz.prog 155 #[.string ⟨s.toArray⟩,.string ⟨p.toArray⟩] w fun e w'=>e= .returned (.bool (z7G s p))/\w=w':=by
 go_enter Tryz.func155,Tryz.ntmps155;go_wp2_with fail;refine(z0Y s p _ b d).mono ?_;rintro e w1 ⟨rfl,rfl⟩;go_wp2_with fail;go_ret;exact⟨rfl,rfl⟩
theorem q4B : ∀a b:List UInt8,Op.bytesLess a b=bytesBefore a b
 |[],[]=>rfl
 |[],_::_=>rfl
 |_::_,[]=>rfl
 |a::x,b::y=>by unfold Op.bytesLess bytesBefore;rw[q4B x y]
abbrev Cks :=List (List (List UInt8))
def q4E :Nat->Cks->List (List UInt8×List UInt8)
 |_,[]=>[]
 |i,ps::r=>(q0H 99 (i:Int),q0U i ps)::q4E (i+1) r
theorem q5A : ∀(C:Cks) (i:Nat),(q4E i C).length=C.length
 |[],_=>rfl
 |ps::r,i=>by simp[q4E,q5A r]
theorem q3G : ∀(C D:Cks) (i:Nat),q4E i (C++D)=q4E i C++q4E (i+C.length) D
 |[],D,i=>rfl
 | ps::r,D,i=>by
  rw[List.cons_append,q4E,q3G r D (i+1),q4E,List.cons_append,χ]
  congr 3;omega
theorem q3a : ∀{C:Cks} {i:Nat} {x:List UInt8×List UInt8},x∈q4E i C-> ∃k,i<=k/\k<i+C.length/\x.1=q0H 99 (k:Int)
 |[],_,_,h=>by cases h
 | ps ::r,i,x,h=>by
  rcases List.mem_cons.1 h with rfl|h
  ·exact⟨i,ι _,by simp,rfl⟩
  ·obtain⟨k,h1,h2,h3⟩:=q3a h
   exact⟨k,by omega,by simp;omega,h3⟩
theorem q2u(n:Int):(q0H 99 n).length<=9223372036854775807:=by
 by_cases h:0<=n/\n<=999999
 ·rw[q0Y h,χ,q0h];decide
 ·rw[q6i h];decide
theorem z7V(b:i<=999999)(d:k<=999999)(h:i≠k):q0H 99 (i:Int)≠q0H 99 (k:Int):=fun e=>by
 have:=z8Q 99 (i:Int) (k:Int) (by omega) (by omega);rw[e,beq_self_eq_true] at this;have:=of_decide_eq_true this.symm;omega
theorem q6J(b:i<=999999)(d:k<=999999)(h:i<k):bytesBefore (q0H 99 (i:Int)) (q0H 99 (k:Int))=true:=by
 have h1:=z4Q 99 (i:Int) (k:Int) (by omega) (by omega);have h2:decide ((i:Int)<(k:Int))=true:=by simp;omega
 rw[h2] at h1;rw[<-q4B];exact h1
theorem q5R{C:Cks}(b:k<=999999)(l:i+C.length<=999999)(h: ∀j,i<=j->j<i+C.length->j≠k): ∀y∈q4E i C,Prod.fst y≠q0H 99 (k:Int):=fun y d=>by
 obtain⟨j,h1,h2,h3⟩:=q3a d;rw[h3];exact z7V (by omega) b (h j h1 h2)
theorem z0A{C:Cks}(m:C.length<=200)(d:C[k]? =some ps):q0I Prod.fst (q0H 99 (k:Int)) (q4E 0 C)=some (q0H 99 (k:Int),q0U k ps):=by
 obtain⟨l,rfl⟩:=List.getElem?_eq_some_iff.1 d;have e:C=C.take k++C[k]::C.drop (k+1):=by
  rw[List.getElem_cons_drop];exact(List.take_append_drop _ _).symm
 have b:(C.take k).length=k:=by simp;omega
 conv=>lhs;rw[e]
 rw[q3G,b,Nat.zero_add,q0Z]
 ·rw[q4E];unfold q0I;rw[List.find?_cons_of_pos (by simp)]
 ·exact q5R (by omega) (by rw[b];omega) fun j _ h2=>by rw[b] at h2;omega
theorem z0B{C:Cks}(d:C.length<=200)(l:C.length<=k)(b:k<=999999):q0I Prod.fst (q0H 99 (k:Int)) (q4E 0 C)=none:=
 q0W (q5R b (by omega) fun j _ h2=>by omega)
theorem z7T{C:Cks}(m:C.length<=200):q0I Prod.fst [110,101,119] (q4E 0 C)=none:=q0W fun y l e=>by
 obtain⟨j,h1,h2,h3⟩:=q3a l;rw[e] at h3;have h4:j<200:=by omega
 rw[q0Y (by omega)] at h3;have b:=congrArg List.length h3;have d:(99::q4x 6 ((j:Int)).toNat).length=7:=by simp[q0h]
 rw[d] at b
 cases b
theorem q8L : ∀(C:Cks) (i:Nat),(q4E i C).map Prod.fst=(List.range' i C.length).map fun k:Nat=>q0H 99 (k:Int)
 |[],_=>rfl
 |ps::r,i=>by rw[q4E,List.map_cons,q8L r,χ,List.range'_succ,List.map_cons]
theorem q1N(a b:List (List UInt8×List UInt8)):q2W (a++b)=q2W a+q2W b:=by simp[q2W,q5s,List.sum_append]
theorem z1C(x:List UInt8×List UInt8):q2W [x]=x.2.length:=by simp[q2W,q5s]
theorem z5D{D:Cks}(p:List UInt8)(b:D.length<=200):q1R Prod.fst (q0H 99 (D.length:Int)) (fun x=>(x.1,x.2++q2Q p)) (q4E 0 (D++[ps]))=q4E 0 (D++[ps++[p]]):=by
 rw[q3G,q3G,q4s,q3F,Nat.zero_add]
 ·congr 1
  show q1R Prod.fst (q0H 99 (D.length:Int)) _ [(q0H 99 (D.length:Int),q0U D.length ps)]=[(q0H 99 (D.length:Int),q0U D.length (ps++[p]))];rw[z1Q];unfold q1R;simp
 ·exact q5R (by omega) (by omega) fun j _ h2=>by omega
theorem z3v{C:Cks}(p:List UInt8)(b:C.length<=200):q1R Prod.fst (q0H 99 (C.length:Int)) (fun x=>(x.1,x.2++(q2Y C.length++q2Q p))) (q4E 0 C++[(q0H 99 (C.length:Int),[])])=q4E 0 (C++[[p]]):=by
 rw[q3G,q4s,q3F,Nat.zero_add]
 ·congr 1
  show q1R Prod.fst (q0H 99 (C.length:Int)) _ [(q0H 99 (C.length:Int),[])]=[(q0H 99 (C.length:Int),q0U C.length [p])];rw[z3s];unfold q1R;simp
 ·exact q5R (by omega) (by omega) fun j _ h2=>by omega
def q0q(C:Cks):Nat:=(C.map q0L).sum
theorem q5S : ∀(C:Cks) (i:Nat),q2W (q4E i C)=q0q C
 |[],_=>rfl
 | ps::r,i=>by
  have e:q4E i (ps::r)=[(q0H 99 (i:Int),q0U i ps)]++q4E (i+1) r:=rfl;rw[e,q1N,z1C,q5S r];simp[q0q,q1M]
structure okC(C:Cks):Prop where
 few:C.length<=200
 size: ∀ps∈C,q0L ps<=4096
 pay: ∀ps∈C,∀p∈ps,p.length<=2000
 full: ∀ps∈C,ps≠[]
structure Oth where
 X:List (List UInt8×List UInt8)
 Z:List (List UInt8×List UInt8)
def noO :Oth:=⟨[],[]⟩
structure okOth(E:Oth):Prop where
 before: ∀y∈E.X,∀k:Nat,k<=999999->bytesBefore y.1 (q0H 99 (k:Int))=true
 behind: ∀y∈E.Z,∀k:Nat,k<=999999->bytesBefore (q0H 99 (k:Int)) y.1=true
 new: ∀y,y∈E.X\/y∈E.Z->y.1≠[110,101,119]
 kind: ∀y,y∈E.X\/y∈E.Z->(q1A y.1).2.2=true->(q1A y.1).1≠99
 len: ∀y,y∈E.X\/y∈E.Z->y.1.length<=1000
 few:E.X.length+E.Z.length<=190
theorem okOth.no :okOth noO:=⟨(fun _ h=>by cases h),(fun _ h=>by cases h),(fun _ h=>by rcases h with h|h<;>cases h),(fun _ h=>by rcases h with h|h<;>cases h),(fun _ h=>by rcases h with h|h<;>cases h),υ _⟩
def q2P(E:Oth):Nat:=q2W E.X+q2W E.Z
def q3T(E:Oth)(C:Cks):List (List UInt8×List UInt8):=E.X++(q4E 0 C++E.Z)
def z3w(E:Oth)(C:Cks):List (List UInt8×List UInt8):=E.X++(q4E 0 C++((q0H 99 (C.length:Int),[])::E.Z))
theorem q6w(E:Oth)(C:Cks):(q3T E C).length=E.X.length+C.length+E.Z.length:=by simp[q3T,q5A];omega
theorem z2b{a b:List UInt8}(h:bytesBefore a b=true):a≠b:=fun e=>by rw[e,WideAt.bytes_irrefl] at h;cases h
theorem okOth.neX{E:Oth}(h:okOth E)(b:k<=999999): ∀y∈E.X,Prod.fst y≠q0H 99 (k:Int):=fun y d=>z2b (h.before y d k b)
theorem okOth.neZ{E:Oth}(h:okOth E)(b:k<=999999): ∀y∈E.Z,Prod.fst y≠q0H 99 (k:Int):=fun y d e=>z2b (h.behind y d k b) e.symm
theorem q1T{k:α->List UInt8}{nm:List UInt8}{a b:List α}(h: ∀y∈b,k y≠nm):q0I k nm (a++b)=q0I k nm a:=by
 unfold q0I;rw[List.find?_append];have:List.find? (fun y=>k y==nm) b=none:=q0W h;rw[this];simp
theorem q3j{E:Oth}(b:okOth E){C:Cks}(j:C.length<=200)(d:C[k]? =some ps):q0I Prod.fst (q0H 99 (k:Int)) (q3T E C)=some (q0H 99 (k:Int),q0U k ps):=by
 have l:=(List.getElem?_eq_some_iff.1 d).1;unfold q3T;rw[q0Z (b.neX (by omega)),q1T (b.neZ (by omega))];exact z0A j d
theorem z5C{E:Oth}(d:okOth E){C:Cks}(j:C.length<=200)(l:C.length<=k)(b:k<=999999):q0I Prod.fst (q0H 99 (k:Int)) (q3T E C)=none:=by
 unfold q3T;rw[q0Z (d.neX b),q1T (d.neZ b)];exact z0B j l b
theorem z7S{E:Oth}(d:okOth E){C:Cks}(j:C.length<=200):q0I Prod.fst [110,101,119] (q3T E C)=none:=by
 unfold q3T;rw[q0Z fun y b=>d.new y (.inl b),q1T fun y b=>d.new y (.inr b)];exact z7T j
theorem q6x(E:Oth)(C:Cks):q2W (q3T E C)=q2P E+q0q C:=by
 unfold q3T q2P;rw[q1N,q1N,q5S];omega
theorem z5F(E:Oth)(C:Cks):q2W (z3w E C)=q2P E+q0q C:=by
 have e:z3w E C=E.X++(q4E 0 C++([(q0H 99 (C.length:Int),[])]++E.Z)):=rfl;rw[e,q1N,q1N,q1N,q5S,z1C];unfold q2P;simp;omega
theorem z5B{E:Oth}(b:okOth E){D:Cks}(p:List UInt8)(d:D.length<=200):q1R Prod.fst (q0H 99 (D.length:Int)) (fun x=>(x.1,x.2++q2Q p)) (q3T E (D++[ps]))=q3T E (D++[ps++[p]]):=by
 unfold q3T;rw[q4s,q4s,q3F (b.neX (by omega)),q3F (b.neZ (by omega)),z5D p d]
theorem q7Q{k:α->List UInt8}{x:α}{b:List α}: ∀{a:List α},(∀y∈a,bytesBefore (k y) (k x)=true)->q3x k x (a++b)=a++q3x k x b
 |[],_=>rfl
 | y ::r,h=>by
  have h1:=h y (List.mem_cons_self);have h2:¬bytesBefore (k x) (k y)=true:=fun h3=>by
   have:=WideShapes.bytes_trans _ _ _ h1 h3;rw[WideAt.bytes_irrefl] at this
   cases this
  rw[List.cons_append,q3x,κ h2,q7Q fun z d=>h z (List.mem_cons_of_mem _ d)]
  rfl
theorem z4M{k:α->List UInt8}{x:α}: ∀{b:List α},(∀y∈b,bytesBefore (k x) (k y)=true)->q3x k x b=x::b
 |[],_=>rfl
 |y::r,h=>by rw[q3x,ξ (h y (List.mem_cons_self))]
theorem z7R{E:Oth}(d:okOth E){C:Cks}(l:C.length<=200):q3x Prod.fst (q0H 99 (C.length:Int),[]) (q3T E C)=z3w E C:=by
 unfold q3T z3w;rw[q7Q fun y b=>d.before y b _ (by omega),q7Q fun y b=>?_,z4M fun y b=>d.behind y b _ (by omega)];obtain⟨j,h1,h2,h3⟩:=q3a b;rw[h3];exact q6J (by omega) (by omega) (by omega)
theorem z5E{E:Oth}(b:okOth E){C:Cks}(d:C.length<=200):q0I Prod.fst (q0H 99 (C.length:Int)) (z3w E C)=some (q0H 99 (C.length:Int),[]):=by
 unfold z3w;rw[q0Z (b.neX (by omega)),q0Z (q5R (by omega) (by omega) fun j _ h2=>by omega)];unfold q0I;rw[List.find?_cons_of_pos (by simp)]
theorem z3t{E:Oth}(b:okOth E){C:Cks}(p:List UInt8)(d:C.length<=200):q1R Prod.fst (q0H 99 (C.length:Int)) (fun x=>(x.1,x.2++(q2Y C.length++q2Q p))) (z3w E C)=q3T E (C++[[p]]):=by
 have e:z3w E C=E.X++((q4E 0 C++[(q0H 99 (C.length:Int),[])])++E.Z):=by simp[z3w]
 rw[e];unfold q3T;rw[q4s,q4s,q3F (b.neX (by omega)),q3F (b.neZ (by omega)),z3v p d]
theorem z3u(E:Oth)(C:Cks):(q3T E C).map Prod.fst=E.X.map Prod.fst++((List.range C.length).map (fun k:Nat=>q0H 99 (k:Int))++E.Z.map Prod.fst):=by
 unfold q3T;rw[List.map_append,List.map_append,q8L,List.range_eq_range']
structure Lgd(E:Oth)(σ:DM)(c s:Int)(C:Cks):Prop where
 pl:Pl σ (c+(q2P E:Int)) s (q3T E C)
 ok:okC C
 oth:okOth E
theorem okC.nil :okC []:=⟨υ _,(fun _ h=>by cases h),(fun _ h=>by cases h),(fun _ h=>by cases h)⟩
theorem okC.grow{D:Cks}(h:okC (D++[ps]))(b:p.length<=2000)(d:q0L ps+(p.length+12)<=4096):okC (D++[ps++[p]]):=by
 have m:ps∈D++[ps]:=by simp
 refine⟨by simpa using h.few,fun q hq=>?_,fun q hq=>?_,fun q hq=>?_⟩
 all_goals rcases List.mem_append.1 hq with h1|h1
 ·exact h.size q (List.mem_append_left _ h1)
 ·obtain rfl:=List.mem_singleton.1 h1;rw[q2T];exact d
 ·exact h.pay q (List.mem_append_left _ h1)
 ·obtain rfl:=List.mem_singleton.1 h1
  intro x j;rcases List.mem_append.1 j with h2|h2
  ·exact h.pay ps m x h2
  ·obtain rfl:=List.mem_singleton.1 h2;exact b
 ·exact h.full q (List.mem_append_left _ h1)
 ·obtain rfl:=List.mem_singleton.1 h1;simp
theorem okC.more{C:Cks}(h:okC C)(b:p.length<=2000)(j:C.length<200):okC (C++[[p]]):=by
 refine⟨by simp;omega,fun q hq=>?_,fun q hq=>?_,fun q hq=>?_⟩
 all_goals rcases List.mem_append.1 hq with h1|h1
 ·exact h.size q h1
 ·obtain rfl:=List.mem_singleton.1 h1;rw[q4Z];omega
 ·exact h.pay q h1
 ·obtain rfl:=List.mem_singleton.1 h1
  intro x d;obtain rfl:=List.mem_singleton.1 d;exact b
 ·exact h.full q h1
 ·obtain rfl:=List.mem_singleton.1 h1;simp
def q5B(C:Cks):Int:=match C.getLast? with|none=>0|some ps=>((C.length:Int)-1)*4096+(q0L ps:Int)
theorem z2p :q5B []=0:=rfl
theorem q2Z(D:Cks)(ps:List (List UInt8)):q5B (D++[ps])=(D.length:Int)*4096+(q0L ps:Int):=by
 unfold q5B;simp
def q0Q(C:Cks):List Int:=C.map fun ps=>(q0L ps:Int)
theorem q2U(D:Cks)(ps:List (List UInt8)):q0Q (D++[ps])=q0Q D++[(q0L ps:Int)]:=by simp[q0Q]
theorem q0e(C:Cks):(q0Q C).length=C.length:=by simp[q0Q]
theorem q7h(D:Cks)(ps:List (List UInt8)):(q0Q (D++[ps])).getD D.length 0=(q0L ps:Int):=by
 rw[q2U];have:D.length=(q0Q D).length:=(q0e D).symm;rw[δ,this,List.getElem?_append_right (ι _)];simp
theorem z4e(D:Cks)(ps b:List (List UInt8)):(q0Q (D++[ps])).set D.length (q0L b:Int)=q0Q (D++[b]):=by
 rw[q2U,q2U];have:D.length=(q0Q D).length:=(q0e D).symm;rw[this];simp
theorem z2E(C:Cks)(i:Nat)(h:C[i]? =some ps):(q0Q C).getD i 0=(q0L ps:Int):=by
 unfold q0Q;rw[δ,List.getElem?_map,h];rfl
def q4F(C:Cks)(p:List UInt8):Bool:=match C.getLast? with|none=>false|some ps=>decide (q0L ps+(p.length+12)<=4096)
def q1C(free:Int)(C:Cks)(p:List UInt8):Int×Int×Cks:=
 if 2000<p.length then(0,3,C)
 else if q4F C p then(if free-((p.length:Int)+12)<6000 then(0,60,C) else(q5B C,0,C.dropLast++[C.getLast?.getD []++[p]]))
 else if 200<=C.length\/free-((p.length:Int)+24)<6000 then(0,60,C) else((C.length:Int)*4096+12,0,C++[[p]])
def q4M(free sure:Int)(C:Cks)(p:List UInt8):Int:=
 if (q1C free C p).2.1=0/\q4F C p=false/\C≠[] then q5B C else sure
def q2d :Nat->List (List UInt8)->List (Nat×List UInt8)
 |_,[]=>[]
 |a,p::r=>(a,p)::q2d (a+p.length+12) r
def q0z :Nat->Cks->List (Nat×List UInt8)
 |_,[]=>[]
 |b,ps::r=>q2d (b+12) ps++q0z (b+4096) r
def q3g(C:Cks)(pos:Int):Option (Nat×List UInt8):=(q0z 0 C).find? fun r=>decide (pos<=(r.1:Int))
def q5j(C:Cks)(pos:Int):List UInt8×Int:=
 if pos<0 then([],4) else match C[(pos/4096).toNat]? with
 |none=>([],4)
 | some ps=>match (if 12<=pos % 4096 then q5M (q0U (pos/4096).toNat ps) (pos % 4096).toNat else none) with
  |none=>([],4)
  |some (p,_)=>(p,0)
theorem q6m : ∀(ps:List (List UInt8)) (a:Nat),∀r∈q2d a ps,a<=r.1/\r.1+r.2.length+12<=a+(ps.map fun p=>p.length+12).sum
 |[],_,r,h=>by cases h
 | p ::t,a,r,h=>by
  rw[q2d] at h;rcases List.mem_cons.1 h with rfl|h
  ·simp only[List.map_cons,List.sum_cons];omega
  ·have:=q6m t _ r h
   simp only[List.map_cons,List.sum_cons];omega
theorem q5k : ∀(C:Cks) (b:Nat),(∀ps∈C,q0L ps<=4096)-> ∀r∈q0z b C,b+12<=r.1/\r.1<b+4096*C.length
 |[],_,_,r,h=>by cases h
 | ps ::t,b,hs,r,h=>by
  rw[q0z] at h;have h1:=hs ps (List.mem_cons_self);unfold q0L at h1;rcases List.mem_append.1 h with h|h
  ·have:=q6m ps _ r h
   simp only[χ];omega
  ·have:=q5k t _ (fun q hq=>hs q (List.mem_cons_of_mem _ hq)) r h
   simp only[χ];omega
theorem q5H : ∀(C:Cks) (b n:Nat),q0z b C=q0z b (C.take n)++q0z (b+4096*n) (C.drop n)
 |C,b,0=>by simp[q0z]
 |[],b,n+1=>by simp[q0z]
 | ps::t,b,n+1=>by
  rw[List.take_succ_cons,List.drop_succ_cons,q0z,q0z,q5H t (b+4096) n,List.append_assoc]
  congr 3;omega
theorem z0q(C D:Cks)(b:Nat):q0z b (C++D)=q0z b C++q0z (b+4096*C.length) D:=by
 have:=q5H (C++D) b C.length
 rwa [List.take_left,List.drop_left] at this
theorem z5d{pos:Int}{l m:List (Nat×List UInt8)}(h: ∀r∈l,(r.1:Int)<pos):(l++m).find? (fun r=>decide (pos<=(r.1:Int)))=m.find? fun r=>decide (pos<=(r.1:Int)):=by
 rw[List.find?_append];have:l.find? (fun r=>decide (pos<=(r.1:Int)))=none:=List.find?_eq_none.2 fun r b=>by have:=h r b;simp;omega
 rw[this];rfl
theorem z1n(C:Cks)(pos:Int)(d: ∀ps∈C,q0L ps<=4096)(n:Nat)(j:(n:Int)*4096<=pos):q3g C pos=(q0z (4096*n) (C.drop n)).find? fun r=>decide (pos<=(r.1:Int)):=by
 unfold q3g;rw[q5H C 0 n,Nat.zero_add];refine z5d fun r b=>?_
 have:=q5k (C.take n) 0 (fun ps h=>d ps (List.mem_of_mem_take h)) r b;have h2:(C.take n).length<=n:=List.length_take_le _ _;omega
theorem q4W : ∀(ps:List (List UInt8)) (a:Nat),(q2d a ps).length=ps.length
 |[],_=>rfl
 |p::t,a=>by simp[q2d,q4W t]
theorem z3Q : ∀(ps:List (List UInt8)) (a k:Nat) (p:List UInt8),ps[k]? =some p->(q2d a ps)[k]? =some (a+((ps.take k).map fun p=>p.length+12).sum,p)
 |[],_,k,p,h=>by simp at h
 | q::t,a,0,p,h=>by
  simp only[List.getElem?_cons_zero,Option.some.injEq] at h;subst h;simp[q2d]
 | q::t,a,k+1,p,h=>by
  rw[List.getElem?_cons_succ] at h;rw[q2d,List.getElem?_cons_succ,z3Q t _ k p h,List.take_succ_cons,List.map_cons,List.sum_cons]
  congr 2;omega
theorem q8f : ∀(ps:List (List UInt8)) (a k:Nat) (p:List UInt8),ps[k]? =some p->(q1W a ps)[k]? =some (a+((ps.take k).map fun p=>p.length+12).sum,a+((ps.take k).map fun p=>p.length+12).sum+p.length+12)
 |[],_,k,p,h=>by simp at h
 | q::t,a,0,p,h=>by
  simp only[List.getElem?_cons_zero,Option.some.injEq] at h;subst h;simp[q1W]
 | q::t,a,k+1,p,h=>by
  rw[List.getElem?_cons_succ] at h;rw[q1W,List.getElem?_cons_succ,q8f t _ k p h,List.take_succ_cons,List.map_cons,List.sum_cons]
  congr 2<;>omega
theorem z8s(n:Nat)(ps:List (List UInt8))(k:Nat)(p:List UInt8)(h:ps[k]? =some p)(b:p.length<=2000):q5M (q0U n ps) (q0L (ps.take k))=some (p,q0L (ps.take k)+p.length+12):=by
 obtain⟨d,rfl⟩:=List.getElem?_eq_some_iff.1 h;have e:ps=ps.take k++ps[k]::ps.drop (k+1):=by rw[List.getElem_cons_drop];exact(List.take_append_drop _ _).symm
 have:=z5i n (ps.take k) ps[k] (ps.drop (k+1)) b
 rwa [<-e] at this
end
end Go.Proofs.YtjlcdfpbllobaaaGreatDoor
