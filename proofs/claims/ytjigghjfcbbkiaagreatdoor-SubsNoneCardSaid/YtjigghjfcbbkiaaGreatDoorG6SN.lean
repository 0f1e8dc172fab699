/- Plain laws. -/
import Derived.Test.YtjigghjfcbbkiaaGreatDoorG4SN
import Derived.Test.YtjigghjfcbbkiaaGreatDoorG5SN
import Derived.Laws.BitsLemmas
set_option linter.unusedVariables false
set_option linter.unusedSimpArgs false
set_option maxRecDepth 100000
set_option maxHeartbeats 6400000
namespace Go.Proofs.YtjigghjfcbbkiaaGreatDoor
variable {a i k:Nat}{p:List UInt8}{α:Type}{ps:List (List UInt8)}{L:List En}
section
open Go.RowKit
theorem q3J(a b:List UInt8):(⟨a.toArray⟩:ByteArray)++⟨b.toArray⟩=⟨(a++b).toArray⟩:=by rw[ByteArray.mk_append_mk];first|done|simp
def q2H(p:List UInt8):List UInt8:=q1M (be 4 p.length++p)++be 4 p.length
def q3q(s:List UInt8)(a:Nat):Nat:=q1G ((s.drop a).take 4)
def isR(s:List UInt8)(a:Nat):Bool:=
 decide (a+12<=s.length)&&decide (q3q s a<=2000)&&decide (a+q3q s a+12<=s.length)
 &&q1q ((s.drop a).take (q3q s a+8))&&decide ((s.drop (a+q3q s a+8)).take 4=(s.drop a).take 4)
def q4r(s:List UInt8)(a:Nat):Option (List UInt8×Nat):=
 if isR s a then some ((s.drop (a+4)).take (q3q s a),a+q3q s a+12) else none
def q5F :Nat->List UInt8->Nat->List (Nat×Nat)
 |0,_,_=>[]
 | f+1,s,a=>match q4r s a with
  |none=>[]
  |some (_,b)=>(a,b)::q5F f s b
def q0i(s:List UInt8)(a:Nat):List (Nat×Nat):=q5F (s.length+1) s a
def q8d(a:Nat)(l:List (Nat×Nat)):Nat:=(l.getLast?.map Prod.snd).getD a
def q2S(n:Nat):List UInt8:=q1M ([99,104,110,107]++be 4 n)
def q4Z(ps:List (List UInt8)):List UInt8:=(ps.map q2H).flatten
def q0R(n:Nat)(ps:List (List UInt8)):List UInt8:=q2S n++q4Z ps
def q0I(ps:List (List UInt8)):Nat:=12+(ps.map fun p=>p.length+12).sum
def q1S :Nat->List (List UInt8)->List (Nat×Nat)
 |_,[]=>[]
 |a,p::r=>(a,a+p.length+12)::q1S (a+p.length+12) r
theorem q1E(p:List UInt8):(q2H p).length=p.length+12:=by
 simp only[q2H,θ,q1D,q0G];omega
theorem q2l(n:Nat):(q2S n).length=12:=by simp[q2S,q1D,q0G]
theorem q9Y(ps:List (List UInt8)):(q4Z ps).length=(ps.map fun p=>p.length+12).sum:=by
 unfold q4Z
 induction ps with
 |nil=>rfl
 |cons p r ih=>simp[q1E,ih]
theorem q1H(n:Nat)(ps:List (List UInt8)):(q0R n ps).length=q0I ps:=by
 simp[q0R,q0I,q2l,q9Y]
theorem z3I(ps:List (List UInt8))(p:List UInt8):q4Z (ps++[p])=q4Z ps++q2H p:=by simp[q4Z]
theorem z0p(n:Nat)(ps:List (List UInt8))(p:List UInt8):q0R n (ps++[p])=q0R n ps++q2H p:=by simp[q0R,z3I]
theorem z3N(n:Nat)(p:List UInt8):q0R n [p]=q2S n++q2H p:=by simp[q0R,q4Z]
theorem q2M(ps:List (List UInt8))(p:List UInt8):q0I (ps++[p])=q0I ps+(p.length+12):=by simp[q0I,List.sum_append];omega
theorem q4I(p:List UInt8):q0I [p]=12+(p.length+12):=by simp[q0I]
theorem q9p{s:List UInt8}{b:Nat}(h:q4r s a=some (p,b)):
  p.length<=2000/\b=a+p.length+12/\b<=s.length/\p=(s.drop (a+4)).take p.length/\q3q s a=p.length:=by
 unfold q4r at h
 split at h
 case isFalse=>cases h
 case isTrue hi=>
  unfold isR at hi;simp only[Ξ,Φ] at hi;obtain⟨⟨⟨⟨m,d⟩,j⟩,o⟩,q⟩:=hi;simp only[Option.some.injEq,Prod.mk.injEq] at h;obtain⟨rfl,rfl⟩:=h;have l:((s.drop (a+4)).take (q3q s a)).length=q3q s a:=by simp;omega
  rw[l];exact⟨d,rfl,j,rfl,rfl⟩
theorem z8p(d m b:List α)(h:a=d.length):(d++m++b).drop a=m++b:=by
 subst h;rw[List.append_assoc,List.drop_left]
theorem z2Y(d p b:List UInt8)(x:p.length<=2000)(q:a=d.length):q4r (d++q2H p++b) a=some (p,a+p.length+12):=by
 have m:(d++q2H p++b).drop a=be 4 p.length++(p++(q7a (q1Z (be 4 p.length++p))++(be 4 p.length++b))):=by
  rw[z8p _ _ _ q];simp[q2H,q1M]
 have l:(be 4 p.length).length=4:=q0G 4 _;have o:=q4j (q1Z (be 4 p.length++p));have j:q3q (d++q2H p++b) a=p.length:=by
  unfold q3q;rw[m,List.take_left' l,q4q];omega
 have r:(d++q2H p++b).length=a+(p.length+12)+b.length:=by simp[q1E,q];omega
 have v:isR (d++q2H p++b) a=true:=by
  unfold isR;rw[j];simp only[Ξ,Φ];refine⟨⟨⟨⟨by omega,x⟩,by omega⟩,?_⟩,?_⟩
  ·have e:((d++q2H p++b).drop a).take (p.length+8)=q1M (be 4 p.length++p):=by
    rw[m];have:be 4 p.length++(p++(q7a (q1Z (be 4 p.length++p))++(be 4 p.length++b)))=q1M (be 4 p.length++p)++(be 4 p.length++b):=by simp[q1M]
    rw[this];exact List.take_left' (by simp[q1D,l];omega)
   rw[e];unfold q1q;simp only[Ξ,Φ,q1D];refine⟨by omega,?_⟩;have s:(q1M (be 4 p.length++p)).take ((be 4 p.length++p).length+4-4)=be 4 p.length++p:=by
    unfold q1M;exact List.take_left' (by omega)
   rw[s]
  ·have e:(d++q2H p++b).drop (a+p.length+8)=be 4 p.length++b:=by
    have:a+p.length+8=a+(p.length+8):=by omega
    rw[this,<-List.drop_drop,m];have:be 4 p.length++(p++(q7a (q1Z (be 4 p.length++p))++(be 4 p.length++b)))=(be 4 p.length++(p++q7a (q1Z (be 4 p.length++p))))++(be 4 p.length++b):=by simp
    rw[this];exact List.drop_left' (by simp[l,o];omega)
   rw[e,m,List.take_left' l,List.take_left' l]
 unfold q4r;rw[ξ v,j]
 congr 2
 rw[<-List.drop_drop,m];have u:(be 4 p.length++(p++(q7a (q1Z (be 4 p.length++p))++(be 4 p.length++b)))).drop 4=p++(q7a (q1Z (be 4 p.length++p))++(be 4 p.length++b)):=List.drop_left' l;rw[u];exact List.take_left' rfl
theorem z5N(s:List UInt8)(a:Nat)(h:s.length<a+12):q4r s a=none:=by
 unfold q4r isR;rw[ε (by omega)];simp
theorem q7m : ∀(ps:List (List UInt8)) (pre:List UInt8) (f a:Nat),(∀p∈ps,p.length<=2000)->a=pre.length->ps.length<f->q5F f (pre++q4Z ps) a=q1S a ps
 |[],pre,0,a,_,_,hf=>by simp at hf
 | [],pre,f+1,a,_,ha,_=>by
  unfold q5F;rw[z5N _ _ (by simp[q4Z,ha])]
  rfl
 |p::r,pre,0,a,_,_,hf=>by simp at hf
 | p::r,pre,f+1,a,hp,ha,hf=>by
  have e:pre++q4Z (p::r)=pre++q2H p++q4Z r:=by simp[q4Z]
  rw[e];unfold q5F;rw[z2Y pre p (q4Z r) (hp p (List.mem_cons_self)) ha];show _::q5F f (pre++q2H p++q4Z r) (a+p.length+12)=_;rw[q7m r (pre++q2H p) f _ (fun q hq=>hp q (List.mem_cons_of_mem _ hq)) (by simp[q1E,ha];omega) (by simp at hf;omega)]
  rfl
theorem z8V(ps:List (List UInt8)):12*ps.length<=(ps.map fun p=>p.length+12).sum:=by
 induction ps with
 |nil=>simp
 |cons p r ih=>simp only[List.map_cons,List.sum_cons,χ];omega
theorem q7V(n:Nat)(ps:List (List UInt8))(b: ∀p∈ps,p.length<=2000):q0i (q0R n ps) 12=q1S 12 ps:=by
 unfold q0i;refine q7m ps (q2S n) _ 12 b (q2l n).symm ?_;have:=z8V ps;show _<(q0R n ps).length+1;rw[q1H];unfold q0I;omega
theorem q5u : ∀(ps:List (List UInt8)) (p:List UInt8) (a:Nat),q1S a (ps++[p])=q1S a ps++[(a+(ps.map fun p=>p.length+12).sum,a+(ps.map fun p=>p.length+12).sum+p.length+12)]
 |[],p,a=>by simp[q1S]
 | q::r,p,a=>by
  rw[List.cons_append,q1S,q5u r p,q1S,List.cons_append];simp only[List.map_cons,List.sum_cons]
  congr 4<;>omega
theorem z1W : ∀(ps:List (List UInt8)) (a:Nat),q8d a (q1S a ps)=a+(ps.map fun p=>p.length+12).sum:=fun ps a=>by
 rcases List.eq_nil_or_concat ps with rfl|⟨r,p,rfl⟩
 ·rfl
 ·rw[List.concat_eq_append,q5u]
  unfold q8d;simp only[List.getLast?_append,List.getLast?_singleton,Option.some_or,Option.map_some,Option.getD_some,List.map_append,List.map_cons,List.map_nil,List.sum_append,List.sum_cons,List.sum_nil];omega
theorem q2R : ∀(ps:List (List UInt8)) (a:Nat),(q1S a ps).length=ps.length
 |[],_=>rfl
 |p::r,a=>by simp[q1S,q2R r]
theorem z5H(n:Nat)(l:List (List UInt8))(p:List UInt8)(r:List (List UInt8))(b:p.length<=2000):q4r (q0R n (l++p::r)) (q0I l)=some (p,q0I l+p.length+12):=by
 have e:q0R n (l++p::r)=q0R n l++q2H p++q4Z r:=by simp[q0R,q4Z]
 rw[e];exact z2Y _ _ _ b (q1H n l).symm
theorem q2Y(s:List UInt8)(m j:Int)(a b:Nat)(l:m=(a:Int))(d:j=(b:Int))(h:a<=b)(r:b<=s.length){X:List UInt8}(q:(s.take b).drop a=X):
  ∀w,(Instr.slice 9 (.string ⟨s.toArray⟩) (some (.int .i64 m)) (some (.int .i64 j)) none).run Tryz.prog w= .ok (.string ⟨X.toArray⟩) w:=fun w=>by
 have o:=run_slice_string (P:=Tryz.prog) w 9 ⟨s.toArray⟩ .i64 .i64 m j Tryz.underlying9 (by omega) (by omega) (by simp[ByteArray.size];omega);rw[o,l,d,<-q];show _=Result.ok (Value.string ⟨((s.take b).drop a).toArray⟩) w;rw[<-q2t];rfl
theorem q4S(s:List UInt8)(j:Int)(b:Nat)(d:j=(b:Int))(o:b<=s.length):
  ∀w,(Instr.slice 9 (.string ⟨s.toArray⟩) none (some (.int .i64 j)) none).run Tryz.prog w= .ok (.string ⟨(s.take b).toArray⟩) w:=fun w=>by
 have l:=run_slice_string_to_if (P:=Tryz.prog) w 9 ⟨s.toArray⟩ .i64 j Tryz.underlying9;have m:(ByteArray.size ⟨s.toArray⟩)=s.length:=by simp[ByteArray.size]
 rw[l,m,ξ (by omega),d];show Result.ok (Value.string ((⟨s.toArray⟩:ByteArray).extract 0 b)) w=_;rw[q2t];rfl
theorem q2u(s:List UInt8)(d:Int)(a:Nat)(b:d=(a:Int))(m:a<=s.length):
  ∀w,(Instr.slice 9 (.string ⟨s.toArray⟩) (some (.int .i64 d)) none none).run Tryz.prog w= .ok (.string ⟨(s.drop a).toArray⟩) w:=fun w=>by
 have j:=run_slice_string_from_if (P:=Tryz.prog) w 9 ⟨s.toArray⟩ .i64 d Tryz.underlying9;have l:(ByteArray.size ⟨s.toArray⟩)=s.length:=by simp[ByteArray.size]
 rw[j,l,ξ (by omega),b];show Result.ok (Value.string ((⟨s.toArray⟩:ByteArray).extract a s.length)) w=_;rw[q2t,List.take_length]
theorem z5x(k:Nat)(N:Int)(w:World)(q:N=(k:Int))(s:k<=9223372036854775807):
  Calls Tryz.prog 188 #[.int .i64 N] w fun e w'=>e= .returned (.string ⟨(be 4 k).toArray⟩)/\Ext w w':=by
 have m:0<=N:=by omega
 have r:N<=9223372036854775807:=by omega
 have b:N.toNat=k:=by omega
 have l:=η b;clear q b;go_enter Tryz.func188,Tryz.ntmps188;go_wp2_with fail;refine(q7D N 4 _ (by omega) (by omega) m (by omega)).mono ?_;rintro e w1 ⟨rfl,d⟩;have j:=η d;clear d;rw[l.o];go_wp2_with fail;go_ret;exact⟨rfl,j.o⟩
theorem z5r(p:List UInt8)(w:World)(j:2000<p.length)(d:p.length<=9223372036854775807):
  Calls Tryz.prog 134 #[.string ⟨p.toArray⟩] w fun e w'=>e= .returned (.tuple #[.string ⟨#[]⟩,.int .i64 3])/\w=w':=by
 have b:decide ((2000:Int)<(p.length:Int))=true:=by simp;omega
 go_enter Tryz.func134,Tryz.ntmps134;go_wp2_with fail;go_ret2;exact⟨rfl,rfl⟩
theorem z7q(p:List UInt8)(w:World)(y:p.length<=2000):
  Calls Tryz.prog 134 #[.string ⟨p.toArray⟩] w fun e w'=>e= .returned (.tuple #[.string ⟨(q2H p).toArray⟩,.int .i64 0])/\Ext w w':=by
 have v:decide ((2000:Int)<(p.length:Int))=false:=by simp;omega
 obtain⟨n,x⟩: ∃n:Int,n=(p.length:Int):=⟨_,rfl⟩
 have s:Hd (q2H p=q1M (be 4 p.length++p)++be 4 p.length):=η rfl;have d:(be 4 p.length).length=4:=q0G 4 _;have B:(q1M (be 4 p.length++p)).length=p.length+8:=by simp[q1D,d];omega
 have q:=η (fun W=>z5x p.length (p.length:Int) W rfl (by omega));have u:=η (fun W=>z2w (be 4 p.length++p) W (by simp[d];omega));go_enter Tryz.func134,Tryz.ntmps134;go_wp2_with fail;refine(q.o _).mono ?_;rintro e w1 ⟨rfl,b⟩;have r:=η b;clear b;generalize be 4 p.length=X at*;go_wp2_with fail;have m:=u.o w1;generalize q1M (X++p)=Y at*;rw[q3J];refine m.mono ?_;rintro e C ⟨rfl,b⟩;have j:=η (r.o.trans b);clear b;go_wp2_with fail;refine(q.o _).mono ?_;rintro e D ⟨rfl,b⟩;have l:=η (j.o.trans b);clear b;go_wp2_with fail;go_ret2;exact⟨by rw[s.o,q3J];rfl,l.o⟩
theorem q3k : ∀a b:List UInt8,Op.bytesLess a b=bytesBefore a b
 |[],[]=>rfl
 |[],_::_=>rfl
 |_::_,[]=>rfl
 |a::x,b::y=>by unfold Op.bytesLess bytesBefore;rw[q3k x y]
abbrev Cks :=List (List (List UInt8))
def q3n :Nat->Cks->List (List UInt8×List UInt8)
 |_,[]=>[]
 |i,ps::r=>(q0E 99 (i:Int),q0R i ps)::q3n (i+1) r
theorem q4g : ∀(C:Cks) (i:Nat),(q3n i C).length=C.length
 |[],_=>rfl
 |ps::r,i=>by simp[q3n,q4g r]
theorem q2w : ∀(C D:Cks) (i:Nat),q3n i (C++D)=q3n i C++q3n (i+C.length) D
 |[],D,i=>rfl
 | ps::r,D,i=>by
  rw[List.cons_append,q3n,q2w r D (i+1),q3n,List.cons_append,χ]
  congr 3;omega
theorem q3K : ∀{C:Cks} {i:Nat} {x:List UInt8×List UInt8},x∈q3n i C-> ∃k,i<=k/\k<i+C.length/\x.1=q0E 99 (k:Int)
 |[],_,_,h=>by cases h
 | ps ::r,i,x,h=>by
  rcases List.mem_cons.1 h with rfl|h
  ·exact⟨i,ι _,by simp,rfl⟩
  ·obtain⟨k,d,j,b⟩:=q3K h
   exact⟨k,by omega,by simp;omega,b⟩
theorem q2m(n:Int):(q0E 99 n).length<=9223372036854775807:=by
 by_cases h:0<=n/\n<=999999
 ·rw[q0W h,χ,q0d];decide
 ·rw[q6I h];decide
theorem z6o(b:i<=999999)(d:k<=999999)(h:i≠k):q0E 99 (i:Int)≠q0E 99 (k:Int):=fun e=>by
 have:=z7g 99 (i:Int) (k:Int) (by omega) (by omega);rw[e,beq_self_eq_true] at this;have:=of_decide_eq_true this.symm;omega
theorem q5m(j:i<=999999)(l:k<=999999)(h:i<k):bytesBefore (q0E 99 (i:Int)) (q0E 99 (k:Int))=true:=by
 have b:=z3l 99 (i:Int) (k:Int) (by omega) (by omega);have d:decide ((i:Int)<(k:Int))=true:=by simp;omega
 rw[d] at b;rw[<-q3k];exact b
theorem q4w{C:Cks}(m:k<=999999)(q:i+C.length<=999999)(h: ∀j,i<=j->j<i+C.length->j≠k): ∀y∈q3n i C,Prod.fst y≠q0E 99 (k:Int):=fun y o=>by
 obtain⟨j,b,d,l⟩:=q3K o;rw[l];exact z6o (by omega) m (h j b d)
theorem q9a{C:Cks}(o:C.length<=200)(l:C[k]? =some ps):q0F Prod.fst (q0E 99 (k:Int)) (q3n 0 C)=some (q0E 99 (k:Int),q0R k ps):=by
 obtain⟨m,rfl⟩:=List.getElem?_eq_some_iff.1 l;have e:C=C.take k++C[k]::C.drop (k+1):=by
  rw[List.getElem_cons_drop];exact(List.take_append_drop _ _).symm
 have b:(C.take k).length=k:=by simp;omega
 conv=>lhs;rw[e]
 rw[q2w,b,Nat.zero_add,q0Y]
 ·rw[q3n];unfold q0F;rw[List.find?_cons_of_pos (by simp)]
 ·exact q4w (by omega) (by rw[b];omega) fun j _ d=>by rw[b] at d;omega
theorem q9b{C:Cks}(l:C.length<=200)(m:C.length<=k)(b:k<=999999):q0F Prod.fst (q0E 99 (k:Int)) (q3n 0 C)=none:=
 q0V (q4w b (by omega) fun j _ d=>by omega)
theorem z6n{C:Cks}(s:C.length<=200):q0F Prod.fst [110,101,119] (q3n 0 C)=none:=q0V fun y m e=>by
 obtain⟨j,o,q,b⟩:=q3K m;rw[e] at b;have r:j<200:=by omega
 rw[q0W (by omega)] at b;have d:=congrArg List.length b;have l:(99::q4d 6 ((j:Int)).toNat).length=7:=by simp[q0d]
 rw[l] at d
 cases d
theorem q7l : ∀(C:Cks) (i:Nat),(q3n i C).map Prod.fst=(List.range' i C.length).map fun k:Nat=>q0E 99 (k:Int)
 |[],_=>rfl
 |ps::r,i=>by rw[q3n,List.map_cons,q7l r,χ,List.range'_succ,List.map_cons]
theorem q1I(a b:List (List UInt8×List UInt8)):q2Q (a++b)=q2Q a+q2Q b:=by simp[q2Q,q5X,List.sum_append]
theorem z0Z(x:List UInt8×List UInt8):q2Q [x]=x.2.length:=by simp[q2Q,q5X]
theorem z4a{D:Cks}(p:List UInt8)(d:D.length<=200):q1N Prod.fst (q0E 99 (D.length:Int)) (fun x=>(x.1,x.2++q2H p)) (q3n 0 (D++[ps]))=q3n 0 (D++[ps++[p]]):=by
 rw[q2w,q2w,q4Y,q2v,Nat.zero_add]
 ·congr 1
  show q1N Prod.fst (q0E 99 (D.length:Int)) _ [(q0E 99 (D.length:Int),q0R D.length ps)]=[(q0E 99 (D.length:Int),q0R D.length (ps++[p]))];rw[z0p];unfold q1N;simp
 ·exact q4w (by omega) (by omega) fun j _ b=>by omega
theorem z3Q{C:Cks}(p:List UInt8)(d:C.length<=200):q1N Prod.fst (q0E 99 (C.length:Int)) (fun x=>(x.1,x.2++(q2S C.length++q2H p))) (q3n 0 C++[(q0E 99 (C.length:Int),[])])=q3n 0 (C++[[p]]):=by
 rw[q2w,q4Y,q2v,Nat.zero_add]
 ·congr 1
  show q1N Prod.fst (q0E 99 (C.length:Int)) _ [(q0E 99 (C.length:Int),[])]=[(q0E 99 (C.length:Int),q0R C.length [p])];rw[z3N];unfold q1N;simp
 ·exact q4w (by omega) (by omega) fun j _ b=>by omega
def q0l(C:Cks):Nat:=(C.map q0I).sum
theorem q4x : ∀(C:Cks) (i:Nat),q2Q (q3n i C)=q0l C
 |[],_=>rfl
 | ps::r,i=>by
  have e:q3n i (ps::r)=[(q0E 99 (i:Int),q0R i ps)]++q3n (i+1) r:=rfl;rw[e,q1I,z0Z,q4x r];simp[q0l,q1H]
structure okC(C:Cks):Prop where
 few:C.length<=200
 size: ∀ps∈C,q0I ps<=4096
 pay: ∀ps∈C,∀p∈ps,p.length<=2000
 full: ∀ps∈C,ps≠[]
structure Oth where
 X:List (List UInt8×List UInt8)
 Z:List (List UInt8×List UInt8)
def noO :Oth:=⟨[],[]⟩
structure okOth(E:Oth):Prop where
 before: ∀y∈E.X,∀k:Nat,k<=999999->bytesBefore y.1 (q0E 99 (k:Int))=true
 behind: ∀y∈E.Z,∀k:Nat,k<=999999->bytesBefore (q0E 99 (k:Int)) y.1=true
 new: ∀y,y∈E.X\/y∈E.Z->y.1≠[110,101,119]
 kind: ∀y,y∈E.X\/y∈E.Z->(q0v y.1).2.2=true->(q0v y.1).1≠99
 len: ∀y,y∈E.X\/y∈E.Z->y.1.length<=1000
 few:E.X.length+E.Z.length<=190
theorem okOth.no :okOth noO:=⟨(fun _ h=>by cases h),(fun _ h=>by cases h),(fun _ h=>by rcases h with h|h<;>cases h),(fun _ h=>by rcases h with h|h<;>cases h),(fun _ h=>by rcases h with h|h<;>cases h),υ _⟩
def q2G(E:Oth):Nat:=q2Q E.X+q2Q E.Z
def q3E(E:Oth)(C:Cks):List (List UInt8×List UInt8):=E.X++(q3n 0 C++E.Z)
def z3R(E:Oth)(C:Cks):List (List UInt8×List UInt8):=E.X++(q3n 0 C++((q0E 99 (C.length:Int),[])::E.Z))
theorem q6X(E:Oth)(C:Cks):(q3E E C).length=E.X.length+C.length+E.Z.length:=by simp[q3E,q4g];omega
theorem z2A{a b:List UInt8}(h:bytesBefore a b=true):a≠b:=fun e=>by rw[e,WideAt.bytes_irrefl] at h;cases h
theorem okOth.neX{E:Oth}(h:okOth E)(b:k<=999999): ∀y∈E.X,Prod.fst y≠q0E 99 (k:Int):=fun y d=>z2A (h.before y d k b)
theorem okOth.neZ{E:Oth}(h:okOth E)(b:k<=999999): ∀y∈E.Z,Prod.fst y≠q0E 99 (k:Int):=fun y d e=>z2A (h.behind y d k b) e.symm
theorem q1P{k:α->List UInt8}{nm:List UInt8}{a b:List α}(h: ∀y∈b,k y≠nm):q0F k nm (a++b)=q0F k nm a:=by
 unfold q0F;rw[List.find?_append];have:List.find? (fun y=>k y==nm) b=none:=q0V h;rw[this];simp
theorem q3S{E:Oth}(b:okOth E){C:Cks}(j:C.length<=200)(d:C[k]? =some ps):q0F Prod.fst (q0E 99 (k:Int)) (q3E E C)=some (q0E 99 (k:Int),q0R k ps):=by
 have l:=(List.getElem?_eq_some_iff.1 d).1;unfold q3E;rw[q0Y (b.neX (by omega)),q1P (b.neZ (by omega))];exact q9a j d
theorem z4Z{E:Oth}(d:okOth E){C:Cks}(j:C.length<=200)(l:C.length<=k)(b:k<=999999):q0F Prod.fst (q0E 99 (k:Int)) (q3E E C)=none:=by
 unfold q3E;rw[q0Y (d.neX b),q1P (d.neZ b)];exact q9b j l b
theorem z6m{E:Oth}(d:okOth E){C:Cks}(j:C.length<=200):q0F Prod.fst [110,101,119] (q3E E C)=none:=by
 unfold q3E;rw[q0Y fun y b=>d.new y (.inl b),q1P fun y b=>d.new y (.inr b)];exact z6n j
theorem q6Y(E:Oth)(C:Cks):q2Q (q3E E C)=q2G E+q0l C:=by
 unfold q3E q2G;rw[q1I,q1I,q4x];omega
theorem z4c(E:Oth)(C:Cks):q2Q (z3R E C)=q2G E+q0l C:=by
 have e:z3R E C=E.X++(q3n 0 C++([(q0E 99 (C.length:Int),[])]++E.Z)):=rfl;rw[e,q1I,q1I,q1I,q4x,z0Z];unfold q2G;simp;omega
theorem z4Y{E:Oth}(b:okOth E){D:Cks}(p:List UInt8)(d:D.length<=200):q1N Prod.fst (q0E 99 (D.length:Int)) (fun x=>(x.1,x.2++q2H p)) (q3E E (D++[ps]))=q3E E (D++[ps++[p]]):=by
 unfold q3E;rw[q4Y,q4Y,q2v (b.neX (by omega)),q2v (b.neZ (by omega)),z4a p d]
theorem q6p{k:α->List UInt8}{x:α}{b:List α}: ∀{a:List α},(∀y∈a,bytesBefore (k y) (k x)=true)->q3f k x (a++b)=a++q3f k x b
 |[],_=>rfl
 | y ::r,h=>by
  have d:=h y (List.mem_cons_self);have j:¬bytesBefore (k x) (k y)=true:=fun l=>by
   have:=WideShapes.bytes_trans _ _ _ d l;rw[WideAt.bytes_irrefl] at this
   cases this
  rw[List.cons_append,q3f,κ j,q6p fun z m=>h z (List.mem_cons_of_mem _ m)]
  rfl
theorem z3h{k:α->List UInt8}{x:α}: ∀{b:List α},(∀y∈b,bytesBefore (k x) (k y)=true)->q3f k x b=x::b
 |[],_=>rfl
 |y::r,h=>by rw[q3f,ξ (h y (List.mem_cons_self))]
theorem z6l{E:Oth}(d:okOth E){C:Cks}(q:C.length<=200):q3f Prod.fst (q0E 99 (C.length:Int),[]) (q3E E C)=z3R E C:=by
 unfold q3E z3R;rw[q6p fun y b=>d.before y b _ (by omega),q6p fun y b=>?_,z3h fun y b=>d.behind y b _ (by omega)];obtain⟨j,m,o,l⟩:=q3K b;rw[l];exact q5m (by omega) (by omega) (by omega)
theorem z4b{E:Oth}(b:okOth E){C:Cks}(l:C.length<=200):q0F Prod.fst (q0E 99 (C.length:Int)) (z3R E C)=some (q0E 99 (C.length:Int),[]):=by
 unfold z3R;rw[q0Y (b.neX (by omega)),q0Y (q4w (by omega) (by omega) fun j _ d=>by omega)];unfold q0F;rw[List.find?_cons_of_pos (by simp)]
theorem z3O{E:Oth}(b:okOth E){C:Cks}(p:List UInt8)(d:C.length<=200):q1N Prod.fst (q0E 99 (C.length:Int)) (fun x=>(x.1,x.2++(q2S C.length++q2H p))) (z3R E C)=q3E E (C++[[p]]):=by
 have e:z3R E C=E.X++((q3n 0 C++[(q0E 99 (C.length:Int),[])])++E.Z):=by simp[z3R]
 rw[e];unfold q3E;rw[q4Y,q4Y,q2v (b.neX (by omega)),q2v (b.neZ (by omega)),z3Q p d]
theorem z3P(E:Oth)(C:Cks):(q3E E C).map Prod.fst=E.X.map Prod.fst++((List.range C.length).map (fun k:Nat=>q0E 99 (k:Int))++E.Z.map Prod.fst):=by
 unfold q3E;rw[List.map_append,List.map_append,q7l,List.range_eq_range']
structure Lgd(E:Oth)(σ:DM)(c s:Int)(C:Cks):Prop where
 pl:Pl σ (c+(q2G E:Int)) s (q3E E C)
 ok:okC C
 oth:okOth E
theorem okC.nil :okC []:=⟨υ _,(fun _ h=>by cases h),(fun _ h=>by cases h),(fun _ h=>by cases h)⟩
theorem okC.grow{D:Cks}(h:okC (D++[ps]))(j:p.length<=2000)(l:q0I ps+(p.length+12)<=4096):okC (D++[ps++[p]]):=by
 have m:ps∈D++[ps]:=by simp
 refine⟨by simpa using h.few,fun q hq=>?_,fun q hq=>?_,fun q hq=>?_⟩
 all_goals rcases List.mem_append.1 hq with b|b
 ·exact h.size q (List.mem_append_left _ b)
 ·obtain rfl:=List.mem_singleton.1 b;rw[q2M];exact l
 ·exact h.pay q (List.mem_append_left _ b)
 ·obtain rfl:=List.mem_singleton.1 b
  intro x o;rcases List.mem_append.1 o with d|d
  ·exact h.pay ps m x d
  ·obtain rfl:=List.mem_singleton.1 d;exact j
 ·exact h.full q (List.mem_append_left _ b)
 ·obtain rfl:=List.mem_singleton.1 b;simp
theorem okC.more{C:Cks}(h:okC C)(d:p.length<=2000)(l:C.length<200):okC (C++[[p]]):=by
 refine⟨by simp;omega,fun q hq=>?_,fun q hq=>?_,fun q hq=>?_⟩
 all_goals rcases List.mem_append.1 hq with b|b
 ·exact h.size q b
 ·obtain rfl:=List.mem_singleton.1 b;rw[q4I];omega
 ·exact h.pay q b
 ·obtain rfl:=List.mem_singleton.1 b
  intro x j;obtain rfl:=List.mem_singleton.1 j;exact d
 ·exact h.full q b
 ·obtain rfl:=List.mem_singleton.1 b;simp
def q4h(C:Cks):Int:=match C.getLast? with|none=>0|some ps=>((C.length:Int)-1)*4096+(q0I ps:Int)
theorem z2O :q4h []=0:=rfl
theorem q2T(D:Cks)(ps:List (List UInt8)):q4h (D++[ps])=(D.length:Int)*4096+(q0I ps:Int):=by
 unfold q4h;simp
def q0L(C:Cks):List Int:=C.map fun ps=>(q0I ps:Int)
theorem q2N(D:Cks)(ps:List (List UInt8)):q0L (D++[ps])=q0L D++[(q0I ps:Int)]:=by simp[q0L]
theorem q0b(C:Cks):(q0L C).length=C.length:=by simp[q0L]
theorem q7I(D:Cks)(ps:List (List UInt8)):(q0L (D++[ps])).getD D.length 0=(q0I ps:Int):=by
 rw[q2N];have:D.length=(q0L D).length:=(q0b D).symm;rw[δ,this,List.getElem?_append_right (ι _)];simp
theorem z4B(D:Cks)(ps b:List (List UInt8)):(q0L (D++[ps])).set D.length (q0I b:Int)=q0L (D++[b]):=by
 rw[q2N,q2N];have:D.length=(q0L D).length:=(q0b D).symm;rw[this];simp
theorem z1g(C:Cks)(i:Nat)(h:C[i]? =some ps):(q0L C).getD i 0=(q0I ps:Int):=by
 unfold q0L;rw[δ,List.getElem?_map,h];rfl
def q3o(C:Cks)(p:List UInt8):Bool:=match C.getLast? with|none=>false|some ps=>decide (q0I ps+(p.length+12)<=4096)
def q0y(free:Int)(C:Cks)(p:List UInt8):Int×Int×Cks:=
 if 2000<p.length then(0,3,C)
 else if q3o C p then(if free-((p.length:Int)+12)<6000 then(0,60,C) else(q4h C,0,C.dropLast++[C.getLast?.getD []++[p]]))
 else if 200<=C.length\/free-((p.length:Int)+24)<6000 then(0,60,C) else((C.length:Int)*4096+12,0,C++[[p]])
def q3w(free sure:Int)(C:Cks)(p:List UInt8):Int:=
 if (q0y free C p).2.1=0/\q3o C p=false/\C≠[] then q4h C else sure
def q2X :Nat->List (List UInt8)->List (Nat×List UInt8)
 |_,[]=>[]
 |a,p::r=>(a,p)::q2X (a+p.length+12) r
def q0x :Nat->Cks->List (Nat×List UInt8)
 |_,[]=>[]
 |b,ps::r=>q2X (b+12) ps++q0x (b+4096) r
def q3P(C:Cks)(pos:Int):Option (Nat×List UInt8):=(q0x 0 C).find? fun r=>decide (pos<=(r.1:Int))
def q5O(C:Cks)(pos:Int):List UInt8×Int:=
 if pos<0 then([],4) else match C[(pos/4096).toNat]? with
 |none=>([],4)
 | some ps=>match (if 12<=pos % 4096 then q4r (q0R (pos/4096).toNat ps) (pos % 4096).toNat else none) with
  |none=>([],4)
  |some (p,_)=>(p,0)
def q9q(s:List UInt8)(a:Nat):Value:=match q4r s a with
 |none=> .tuple #[.string ⟨#[]⟩,.int .i64 0,.bool false]
 |some (p,b)=> .tuple #[.string ⟨p.toArray⟩,.int .i64 b,.bool true]
theorem q6m{s:List UInt8}(h:isR s a=false):q9q s a= .tuple #[.string ⟨#[]⟩,.int .i64 0,.bool false]:=by unfold q9q q4r;rw[h];rfl
theorem q5A(s:List UInt8)(a k:Nat):(s.take (a+k)).drop a=(s.drop a).take k:=by rw[List.drop_take];congr 1;omega
theorem q8l(s:List UInt8)(a:Nat)(w:World)(hl:s.length<=4611686018427387903)(ha:a<=4611686018427387903):
  Calls Tryz.prog 152 #[.string ⟨s.toArray⟩,.int .i64 (a:Int)] w fun e w'=>e= .returned (q9q s a)/\Ext w w':=by
 by_cases h1:s.length<a+12
 ·have u:Hd (q9q s a= .tuple #[.string ⟨#[]⟩,.int .i64 0,.bool false]):=η (q6m (by unfold isR;rw[ε (by omega)];rfl))
  have hd:decide (((s.length:Int)-12)<(a:Int))=true:=by simp;omega
  go_enter Tryz.func152,Tryz.ntmps152;go_wp2_with fail;go_ret3;rw[u.o];exact⟨rfl,Ext.refl _⟩
 have b0:decide (((s.length:Int)-12)<(a:Int))=false:=by simp;omega
 obtain⟨X,E⟩: ∃X,(s.drop a).take 4=X:=⟨_,rfl⟩
 have I:X.length=4:=by rw[<-E];simp;omega
 have f0:=q2Y s (a:Int) ((a:Int)+4) a (a+4) rfl (by omega) (by omega) (by omega) (by rw[q5A,E]);obtain⟨n,F⟩: ∃n,q3q s a=n:=⟨_,rfl⟩
 have x:q1G (X.take 8)=n:=by rw[Δ (by omega),<-E,<-F];rfl
 have c0:n<4294967296:=by rw[<-x];have:=q1r (X.take 8);rw[Θ,I] at this;exact this
 have C:=η (fun W=>q8j X W (by omega));rw[x] at C;by_cases U:2000<n\/s.length<a+n+12
 ·have u:Hd (q9q s a= .tuple #[.string ⟨#[]⟩,.int .i64 0,.bool false]):=η (q6m (by
   unfold isR;rw[F];rcases U with h|h
   ·rw[ε (p:=n<=2000) (by omega)];simp
   ·rw[ε (p:=a+n+12<=s.length) (by omega)];simp))
  clear E F x I;by_cases h3:2000<n
  ·have M:decide ((2000:Int)<(n:Int))=true:=by simp;omega
   go_enter Tryz.func152,Tryz.ntmps152;go_wp2_with fail;refine(C.o _).mono ?_;rintro e w1 ⟨rfl,l⟩;have v:=η l;clear l;go_wp2_with fail;go_ret3;rw[u.o];exact⟨rfl,v.o⟩
  ·have h4:s.length<a+n+12:=by omega
   have M:decide ((2000:Int)<(n:Int))=false:=by simp;omega
   have S:decide ((s.length:Int)-12-(a:Int)<(n:Int))=true:=by simp;omega
   go_enter Tryz.func152,Tryz.ntmps152;go_wp2_with fail;refine(C.o _).mono ?_;rintro e w1 ⟨rfl,l⟩;have v:=η l;clear l;go_wp2_with fail;go_ret3;rw[u.o];exact⟨rfl,v.o⟩
 have h5:n<=2000:=by omega
 have h6:a+n+12<=s.length:=by omega
 have M:decide ((2000:Int)<(n:Int))=false:=by simp;omega
 have S:decide ((s.length:Int)-12-(a:Int)<(n:Int))=false:=by simp;omega
 obtain⟨Y,J⟩: ∃Y,(s.drop a).take (n+8)=Y:=⟨_,rfl⟩
 have B:Y.length=n+8:=by rw[<-J];simp;omega
 have g0:=q2Y s (a:Int) ((a:Int)+(n:Int)+12-4) a (a+(n+8)) rfl (by omega) (by omega) (by omega) (by rw[q5A,J]);obtain⟨Z,R⟩: ∃Z,(s.drop (a+n+8)).take 4=Z:=⟨_,rfl⟩
 have h0:=q2Y s ((a:Int)+(n:Int)+12-4) ((a:Int)+(n:Int)+12) (a+n+8) (a+n+8+4) (by omega) (by omega) (by omega) (by omega) (by rw[q5A,R]);have D:=η (fun W=>z2h Y W (by omega));have hi:isR s a=(q1q Y&&decide (Z=X)):=by
  unfold isR;rw[F,ζ (p:=a+12<=s.length) (by omega),ζ h5,ζ h6,J,R,E];simp
 have y:q1q Y=true->(q1f Y).drop 4=(s.drop (a+4)).take n:=fun h=>by
  unfold q1f;rw[ξ h,B,<-J,List.take_take,List.drop_take,List.drop_drop]
  congr 1;omega
 have G:q1q Y=true->(q1f Y).length=n+4:=fun h=>by
  unfold q1f;rw[ξ h,Θ,B];omega
 have V:q4r s a=if isR s a then some ((s.drop (a+4)).take n,a+n+12) else none:=by unfold q4r;rw[F]
 have N:=η hi;have HP:=η y;have O:=η G;have HS:=η V;clear E F x R J B hi y G V U h1;generalize q1f Y=T at*
 cases l:q1q Y with
 | false=>
  have u:Hd (q9q s a= .tuple #[.string ⟨#[]⟩,.int .i64 0,.bool false]):=η (q6m (by rw[N.o,l];rfl));rw[l] at D;go_enter Tryz.func152,Tryz.ntmps152;go_wp2_with fail;refine(C.o _).mono ?_;rintro e w1 ⟨rfl,b⟩;have v:=η b;clear b;go_wp2_with fail;refine(D.o _).mono ?_;rintro e w2 ⟨rfl,d⟩;have m:=η (v.o.trans d);clear d;go_wp2_with fail;refine q0D (by kernel_rfl) (by kernel_rfl) ?_
  repeat (go_big_quiet_step (fail))
  refine wpQuiet_nil ?_;intro w3 j;have q:=η (m.o.trans j);clear j;go_wp2_with fail;go_ret3;rw[u.o];exact⟨rfl,q.o⟩
 | true =>
  by_cases r:Z=X
  ·have u:Hd (q9q s a= .tuple #[.string ⟨(T.drop 4).toArray⟩,.int .i64 ((a:Int)+(n:Int)+12),.bool true]):=η (by
    unfold q9q;rw[HS.o,N.o,l,r,HP.o l]
    simp)
   have Q:=O.o l;have e0: ∀w,(Instr.slice 9 (.string ⟨T.toArray⟩) (some (.int .i64 4)) none none).run Tryz.prog w= .ok (.string ⟨(T.drop 4).toArray⟩) w:=fun w=>by
    exact q2u T 4 4 rfl (by omega) w
   rw[l] at D;generalize T.drop 4=T4 at*;subst r;go_enter Tryz.func152,Tryz.ntmps152;go_wp2_with fail;refine(C.o _).mono ?_;rintro e w1 ⟨rfl,b⟩;have v:=η b;clear b;go_wp2_with fail;refine(D.o _).mono ?_;rintro e w2 ⟨rfl,d⟩;have m:=η (v.o.trans d);clear d;go_wp2_with fail;refine q0D (by kernel_rfl) (by kernel_rfl) ?_
   repeat (go_big_quiet_step (fail))
   refine wpQuiet_nil ?_;intro w3 j;have q:=η (m.o.trans j);clear j;go_wp2_with fail;go_ret3;rw[u.o];exact⟨rfl,q.o⟩
  ·have u:Hd (q9q s a= .tuple #[.string ⟨#[]⟩,.int .i64 0,.bool false]):=η (q6m (by rw[N.o,ε r,Bool.and_false]))
   have d0:(Z==X)=false:=by simpa using r
   have a0:(Z !=X)=true:=by simpa using r
   rw[l] at D;go_enter Tryz.func152,Tryz.ntmps152;go_wp2_with fail;refine(C.o _).mono ?_;rintro e w1 ⟨rfl,b⟩;have v:=η b;clear b;go_wp2_with fail;refine(D.o _).mono ?_;rintro e w2 ⟨rfl,d⟩;have m:=η (v.o.trans d);clear d;go_wp2_with fail;refine q0D (by kernel_rfl) (by kernel_rfl) ?_
   repeat (go_big_quiet_step (fail))
   refine wpQuiet_nil ?_;intro w3 j;have q:=η (m.o.trans j);clear j;go_wp2_with fail;go_ret3;rw[u.o];exact⟨rfl,q.o⟩
theorem z2C(n:Nat)(w:World)(x:n<200):
  Calls Tryz.prog 195 #[.int .i64 (n:Int)] w fun e w'=>e= .returned (.string ⟨(q2S n).toArray⟩)/\Ext w w':=by
 have v:decide ((200:Int)<=(n:Int))=false:=by simp;omega
 have r:Hd (q2S n=q1M ([99,104,110,107]++be 4 n)):=η rfl;have m:=η (fun W=>q7D (n:Int) 4 W (by omega) (by omega) (by omega) (by omega));have s:=η (fun W=>z2w ([99,104,110,107]++be 4 n) W (by simp[q0G]));have u:(be 4 n).length=4:=q0G 4 _;rw[Int.toNat_natCast] at m;generalize q1M ([99,104,110,107]++be 4 n)=Y at*;generalize be 4 n=X at*;go_enter Tryz.func195,Tryz.ntmps195;go_wp2_with fail;refine(m.o _).mono ?_;rintro e w1 ⟨rfl,d⟩;have q:=η d;clear d;go_wp2_with fail;have j:=q3J [99,104,110,107] X;have b:({data:=#[99,104,110,107]}:ByteArray)++{data:=X.toArray}=⟨([99,104,110,107]++X).toArray⟩:=j;rw[b];refine(s.o _).mono ?_;rintro e y ⟨rfl,d⟩;have l:=η (q.o.trans d);clear d;go_wp2_with fail;go_ret;exact⟨by rw[r.o];rfl,l.o⟩
theorem y0J(N:Int)(p:List UInt8)(w:World)(b:0<=N)(d:N<=4096)(o:p.length<=2000):
  Calls Tryz.prog 135 #[.int .i64 N,.string ⟨p.toArray⟩] w fun e w'=>e= .returned (.bool (decide ((p.length:Int)+12<=4096-N)))/\w=w':=by
 have j:decide ((0:Int)<=N)=true:=by simpa using b
 have l:decide (N<=(4096:Int))=true:=by simpa using d
 have m:decide ((p.length:Int)<=(2000:Int))=true:=by simp;omega
 go_enter Tryz.func135,Tryz.ntmps135;go_wp2_with fail;go_ret;exact⟨rfl,rfl⟩
def z6Z(s p:List UInt8):Bool:=decide (p.length<=s.length)&&(s.take p.length==p)
theorem q9w(s p:List UInt8)(w:World)(j:s.length<=9223372036854775807)(l:p.length<=9223372036854775807):
  Calls Tryz.prog 263 #[.string ⟨s.toArray⟩,.string ⟨p.toArray⟩] w fun e w'=>e= .returned (.bool (z6Z s p))/\w=w':=by
 by_cases h:p.length<=s.length
 ·have b:Hd (z6Z s p=(s.take p.length==p)):=η (by unfold z6Z;rw[ζ h,Bool.true_and])
  have d:decide ((p.length:Int)<=(s.length:Int))=true:=by simp;omega
  go_enter Tryz.func263,Tryz.ntmps263;go_wp2_with fail;go_ret;rw[b.o];exact⟨rfl,rfl⟩
 ·have b:Hd (z6Z s p=false):=η (by unfold z6Z;rw[ε h,Bool.false_and])
  have d:decide ((p.length:Int)<=(s.length:Int))=false:=by simp;omega
  go_enter Tryz.func263,Tryz.ntmps263;go_wp2_with fail;go_ret;rw[b.o];exact⟨rfl,rfl⟩
theorem z1B(s p:List UInt8)(w:World)(b:s.length<=9223372036854775807)(d:p.length<=9223372036854775807):
  Calls Tryz.prog 204 #[.string ⟨s.toArray⟩,.string ⟨p.toArray⟩] w fun e w'=>e= .returned (.bool (z6Z s p))/\w=w':=by
 go_enter Tryz.func204,Tryz.ntmps204;go_wp2_with fail;refine(q9w s p _ b d).mono ?_;rintro e w1 ⟨rfl,rfl⟩;go_wp2_with fail;go_ret;exact⟨rfl,rfl⟩
theorem q6M : ∀(ps:List (List UInt8)) (a:Nat),∀r∈q2X a ps,a<=r.1/\r.1+r.2.length+12<=a+(ps.map fun p=>p.length+12).sum
 |[],_,r,h=>by cases h
 | p ::t,a,r,h=>by
  rw[q2X] at h;rcases List.mem_cons.1 h with rfl|h
  ·simp only[List.map_cons,List.sum_cons];omega
  ·have:=q6M t _ r h
   simp only[List.map_cons,List.sum_cons];omega
theorem q5P : ∀(C:Cks) (b:Nat),(∀ps∈C,q0I ps<=4096)-> ∀r∈q0x b C,b+12<=r.1/\r.1<b+4096*C.length
 |[],_,_,r,h=>by cases h
 | ps ::t,b,hs,r,h=>by
  rw[q0x] at h;have d:=hs ps (List.mem_cons_self);unfold q0I at d;rcases List.mem_append.1 h with h|h
  ·have:=q6M ps _ r h
   simp only[χ];omega
  ·have:=q5P t _ (fun q hq=>hs q (List.mem_cons_of_mem _ hq)) r h
   simp only[χ];omega
theorem q4m : ∀(C:Cks) (b n:Nat),q0x b C=q0x b (C.take n)++q0x (b+4096*n) (C.drop n)
 |C,b,0=>by simp[q0x]
 |[],b,n+1=>by simp[q0x]
 | ps::t,b,n+1=>by
  rw[List.take_succ_cons,List.drop_succ_cons,q0x,q0x,q4m t (b+4096) n,List.append_assoc]
  congr 3;omega
theorem z0M(C D:Cks)(b:Nat):q0x b (C++D)=q0x b C++q0x (b+4096*C.length) D:=by
 have:=q4m (C++D) b C.length
 rwa [List.take_left,List.drop_left] at this
theorem z5B{pos:Int}{l m:List (Nat×List UInt8)}(h: ∀r∈l,(r.1:Int)<pos):(l++m).find? (fun r=>decide (pos<=(r.1:Int)))=m.find? fun r=>decide (pos<=(r.1:Int)):=by
 rw[List.find?_append];have:l.find? (fun r=>decide (pos<=(r.1:Int)))=none:=List.find?_eq_none.2 fun r b=>by have:=h r b;simp;omega
 rw[this];rfl
theorem z1L(C:Cks)(pos:Int)(d: ∀ps∈C,q0I ps<=4096)(n:Nat)(l:(n:Int)*4096<=pos):q3P C pos=(q0x (4096*n) (C.drop n)).find? fun r=>decide (pos<=(r.1:Int)):=by
 unfold q3P;rw[q4m C 0 n,Nat.zero_add];refine z5B fun r b=>?_
 have:=q5P (C.take n) 0 (fun ps h=>d ps (List.mem_of_mem_take h)) r b;have j:(C.take n).length<=n:=List.length_take_le _ _;omega
theorem q4G : ∀(ps:List (List UInt8)) (a:Nat),(q2X a ps).length=ps.length
 |[],_=>rfl
 |p::t,a=>by simp[q2X,q4G t]
theorem z2o : ∀(ps:List (List UInt8)) (a k:Nat) (p:List UInt8),ps[k]? =some p->(q2X a ps)[k]? =some (a+((ps.take k).map fun p=>p.length+12).sum,p)
 |[],_,k,p,h=>by simp at h
 | q::t,a,0,p,h=>by
  simp only[List.getElem?_cons_zero,Option.some.injEq] at h;subst h;simp[q2X]
 | q::t,a,k+1,p,h=>by
  rw[List.getElem?_cons_succ] at h;rw[q2X,List.getElem?_cons_succ,z2o t _ k p h,List.take_succ_cons,List.map_cons,List.sum_cons]
  congr 2;omega
theorem q8H : ∀(ps:List (List UInt8)) (a k:Nat) (p:List UInt8),ps[k]? =some p->(q1S a ps)[k]? =some (a+((ps.take k).map fun p=>p.length+12).sum,a+((ps.take k).map fun p=>p.length+12).sum+p.length+12)
 |[],_,k,p,h=>by simp at h
 | q::t,a,0,p,h=>by
  simp only[List.getElem?_cons_zero,Option.some.injEq] at h;subst h;simp[q1S]
 | q::t,a,k+1,p,h=>by
  rw[List.getElem?_cons_succ] at h;rw[q1S,List.getElem?_cons_succ,q8H t _ k p h,List.take_succ_cons,List.map_cons,List.sum_cons]
  congr 2<;>omega
theorem z8O(n:Nat)(ps:List (List UInt8))(k:Nat)(p:List UInt8)(h:ps[k]? =some p)(b:p.length<=2000):q4r (q0R n ps) (q0I (ps.take k))=some (p,q0I (ps.take k)+p.length+12):=by
 obtain⟨d,rfl⟩:=List.getElem?_eq_some_iff.1 h;have e:ps=ps.take k++ps[k]::ps.drop (k+1):=by rw[List.getElem_cons_drop];exact(List.take_append_drop _ _).symm
 have:=z5H n (ps.take k) ps[k] (ps.drop (k+1)) b
 rwa [<-e] at this
theorem q9t(a b:En)(w:World):Calls Tryz.prog 198 #[enV a,enV b] w fun e w'=>e= .returned (.bool (q0e a b))/\Ext w w':=by
 obtain⟨d,j,l⟩:=a;obtain⟨b1,b2,b3⟩:=b;have m:=η (q5r w (.cells #[.int .u64 d,.int .i64 j,.int .i64 l] 159) (.cells #[.int .u64 b1,.int .i64 b2,.int .i64 b3] 159));have q:Hd (q0e (d,j,l) (b1,b2,b3)=if d≠b1 then decide (d<b1) else if j≠b2 then decide (j<b2) else decide (l<b3)):=η rfl;show Calls Tryz.prog 198 #[.agg #[.int .u64 d,.int .i64 j,.int .i64 l],.agg #[.int .u64 b1,.int .i64 b2,.int .i64 b3]] w _;by_cases r:d=b1
 ·subst r
  by_cases s:j=b2
  ·subst s
   go_enter Tryz.func198,Tryz.ntmps198;go_wp2_with fail;go_ret;exact⟨rb (by rw[q.o];simp),m.o⟩
  ·have u:(j !=b2)=true:=by simpa using s
   go_enter Tryz.func198,Tryz.ntmps198;go_wp2_with fail;go_ret;exact⟨rb (by rw[q.o];simp[s]),m.o⟩
 ·have u:(d !=b1)=true:=by simpa using r
  go_enter Tryz.func198,Tryz.ntmps198;go_wp2_with fail;go_ret;exact⟨rb (by rw[q.o];simp[r]),m.o⟩
theorem q8L(q:k+1<L.length):q3s (L.take (k+2))=(q3s (L.take (k+1))&&q0e (L.getD k en0) (L.getD (k+1) en0)):=by
 rw[Bool.eq_iff_iff,Ξ,q3B,q3B];have m:L.take (k+2)=L.take (k+1)++[L.getD (k+1) en0]:=q0T L en0 (k+1) q;have j:L.take (k+1)=L.take k++[L.getD k en0]:=q0T L en0 k (by omega);rw[m];unfold q0s;rw[List.pairwise_append]
 constructor
 ·rintro⟨d,_,o⟩
  exact⟨d,o _ (by rw[j];simp) _ (by simp)⟩
 ·rintro⟨d,l⟩
  refine⟨d,by simp,fun x b y r=>?_⟩;obtain rfl:=List.mem_singleton.1 r;rw[j] at b d;rcases List.mem_append.1 b with b|b
  ·exact q1K ((List.pairwise_append.1 d).2.2 x b _ (by simp)) l
  ·obtain rfl:=List.mem_singleton.1 b;exact l
theorem z1j(d:k+1<L.length)(h:q0e (L.getD k en0) (L.getD (k+1) en0)=false):q3s L=false:=by
 cases hs:q3s L with
 |false=>rfl
 | true=>
  rw[q3B] at hs;have b:q0s (L.take (k+2)):=hs.sublist (List.take_sublist _ _);rw[<-q3B,q8L d,h,Bool.and_false] at b
  cases b
theorem z7y{ao:Option Addr}{n cap:Nat}(w:World)(m:Ens w ao n cap L):Calls Tryz.prog 284 #[.slice ao n cap] w fun e w'=>e= .returned (.bool (q3s L))/\Ext w w':=by
 have G:=η m;have b1:=m.fits;have b2:=m.bound;have j:=η m.len;clear m;go_enter Tryz.func284,Tryz.ntmps284;go_wp2_with fail
 go_loopw [3] (fun i W=> ∃k:Nat,k+1<=max n 1/\i= .int .i64 ((k:Int)+1)/\q3s (L.take (k+1))=true/\Ext w W) (fun i _=>n-(intOf i).toNat)
 case atStart=>
  refine⟨0,by omega,rfl,?_,Ext.refl _⟩
  cases L with
  |nil=>rfl
  |cons a r=>rfl
 case round=>
  obtain⟨k,Y,rfl,C,B⟩:=hrel;have R:=η C;have D:=η B;by_cases u:k+1<n
  ·have U:decide (((k:Int)+1)<(n:Int))=true:=by simp;omega
   obtain⟨b,off,rfl,I,J,M⟩:=(G.o.ext B).at (i:=k) (by omega);obtain⟨_,_,S,N,O,Q⟩:=(G.o.ext B).at (i:=k+1) u
   cases S;have E:=η (q8L (L:=L) (k:=k) (by rw[j.o];exact u));have v:=η (z1j (L:=L) (k:=k) (by rw[j.o];exact u));obtain⟨x,m⟩: ∃x,L.getD k en0=x:=⟨_,rfl⟩
   obtain⟨y,F⟩: ∃y,L.getD (k+1) en0=y:=⟨_,rfl⟩
   rw[m] at I J M;rw[F] at N O Q;rw[m,F] at E v;obtain⟨q,hq⟩: ∃q,q0e x y=q:=⟨_,rfl⟩
   have l:=η (fun W=>q9t x y W);rw[hq] at l E v;obtain⟨x1,x2,x3⟩:=x;obtain⟨y1,y2,y3⟩:=y;unfold enV ec at l;have Z:=q0C I;have u1:=q0C J;have u2:=q0C M;have v0:=q0C N;have v1:=q0C O;have v2:=q0C Q;have V:IntKind.i64.wrap ((k:Int)+1-1)=(k:Int):=by rw[ν];omega
   have d:IntKind.i64.wrap (k:Int)=(k:Int):=by rw[ν];omega
   clear m F C B hq
   cases q with
   | true=>
    go_wp2_with fail;refine q0D (by kernel_rfl) (by kernel_rfl) ?_
    repeat (go_big_quiet_step (first|(go_at_call 198;exact Calls.quiet_ext (l.o _))))
    refine wpQuiet_nil ?_;intro X d;have s:=η (D.o.trans d);clear d;go_wp2_with fail
    go_roundw
    case rel=>exact⟨k+1,by omega,by go_num,by rw[E.o,R.o];rfl,s.o⟩
    case measure=>simp[intOf];omega
   | false=>
    go_wp2_with fail;refine q0D (by kernel_rfl) (by kernel_rfl) ?_
    repeat (go_big_quiet_step (first|(go_at_call 198;exact Calls.quiet_ext (l.o _))))
    refine wpQuiet_nil ?_;intro X d;have s:=η (D.o.trans d);clear d;go_wp2_with fail;go_ret;exact⟨rb (v.o (by first|rfl|trivial)),s.o⟩
  ·have U:decide (((k:Int)+1)<(n:Int))=false:=by simp;omega
   have v:Hd (q3s L=true):=η (by rwa [Δ (by rw[j.o];omega)] at C);clear C B;go_wp2_with fail;go_ret;exact⟨rb v.o,D.o⟩
end
end Go.Proofs.YtjigghjfcbbkiaaGreatDoor
