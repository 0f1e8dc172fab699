/- Plain laws. -/
import Derived.Test.YtfiibpgoplcgkaaGreatDoorG3WS
import Derived.Test.YtfiibpgoplcgkaaGreatDoorG4WS
import Derived.Laws.BitsLemmas
set_option linter.unusedVariables false
set_option linter.unusedSimpArgs false
set_option maxRecDepth 100000
set_option maxHeartbeats 6400000
namespace Go.Proofs.YtfiibpgoplcgkaaGreatDoor
variable {a i k n:Nat}{p t r:List UInt8}{α:Type}{ps:List (List UInt8)}{L:List FM}{σ σ':DM}{f:FM}{c:Int}
section
open Go.RowKit
theorem q3c(a b:List UInt8):(⟨a.toArray⟩:ByteArray)++⟨b.toArray⟩=⟨(a++b).toArray⟩:=by rw[ByteArray.mk_append_mk];first|done|simp
def q2N(p:List UInt8):List UInt8:=q1S (be 4 p.length++p)++be 4 p.length
def q4M(s:List UInt8)(a:Nat):Nat:=q1W ((s.drop a).take 4)
def isR(s:List UInt8)(a:Nat):Bool:=
 decide (a+12<=s.length)&&decide (q4M s a<=2000)&&decide (a+q4M s a+12<=s.length)
 &&q2Q ((s.drop a).take (q4M s a+8))&&decide ((s.drop (a+q4M s a+8)).take 4=(s.drop a).take 4)
def q5d(s:List UInt8)(a:Nat):Option (List UInt8×Nat):=
 if isR s a then some ((s.drop (a+4)).take (q4M s a),a+q4M s a+12) else none
def q4q :Nat->List UInt8->Nat->List (Nat×Nat)
 |0,_,_=>[]
 | f+1,s,a=>match q5d s a with
  |none=>[]
  |some (_,b)=>(a,b)::q4q f s b
def q0s(s:List UInt8)(a:Nat):List (Nat×Nat):=q4q (s.length+1) s a
def z0K(a:Nat)(l:List (Nat×Nat)):Nat:=(l.getLast?.map Prod.snd).getD a
def q1e(n:Nat):List UInt8:=q1S ([99,104,110,107]++be 4 n)
def q2G(ps:List (List UInt8)):List UInt8:=(ps.map q2N).flatten
def q0N(n:Nat)(ps:List (List UInt8)):List UInt8:=q1e n++q2G ps
def q0I(ps:List (List UInt8)):Nat:=12+(ps.map fun p=>p.length+12).sum
def q1d :Nat->List (List UInt8)->List (Nat×Nat)
 |_,[]=>[]
 |a,p::r=>(a,a+p.length+12)::q1d (a+p.length+12) r
theorem q0n(p:List UInt8):(q2N p).length=p.length+12:=by
 simp only[q2N,θ,q0v,q0G];omega
theorem q1f(n:Nat):(q1e n).length=12:=by simp[q1e,q0v,q0G]
theorem z1R(ps:List (List UInt8)):(q2G ps).length=(ps.map fun p=>p.length+12).sum:=by
 unfold q2G
 induction ps with
 |nil=>rfl
 |cons p r ih=>simp[q0n,ih]
theorem q0a(n:Nat)(ps:List (List UInt8)):(q0N n ps).length=q0I ps:=by
 simp[q0N,q0I,q1f,z1R]
theorem z5O(ps:List (List UInt8))(p:List UInt8):q2G (ps++[p])=q2G ps++q2N p:=by simp[q2G]
theorem z2s(n:Nat)(ps:List (List UInt8))(p:List UInt8):q0N n (ps++[p])=q0N n ps++q2N p:=by simp[q0N,z5O]
theorem z5T(n:Nat)(p:List UInt8):q0N n [p]=q1e n++q2N p:=by simp[q0N,q2G]
theorem q2W(ps:List (List UInt8))(p:List UInt8):q0I (ps++[p])=q0I ps+(p.length+12):=by simp[q0I,List.sum_append];omega
theorem q5H(p:List UInt8):q0I [p]=12+(p.length+12):=by simp[q0I]
theorem z1m{s:List UInt8}{b:Nat}(h:q5d s a=some (p,b)):
  p.length<=2000/\b=a+p.length+12/\b<=s.length/\p=(s.drop (a+4)).take p.length/\q4M s a=p.length:=by
 unfold q5d at h
 split at h
 case isFalse=>cases h
 case isTrue hi=>
  unfold isR at hi;simp only[Ξ,Φ] at hi;obtain⟨⟨⟨⟨h1,h2⟩,h3⟩,h4⟩,j⟩:=hi;simp only[Option.some.injEq,Prod.mk.injEq] at h;obtain⟨rfl,rfl⟩:=h;have d:((s.drop (a+4)).take (q4M s a)).length=q4M s a:=by simp;omega
  rw[d];exact⟨h2,rfl,h3,rfl,rfl⟩
theorem y1X(pre m b:List α)(h:a=pre.length):(pre++m++b).drop a=m++b:=by
 subst h;rw[List.append_assoc,List.drop_left]
theorem z0R(pre p b:List UInt8)(x:p.length<=2000)(o:a=pre.length):q5d (pre++q2N p++b) a=some (p,a+p.length+12):=by
 have l:(pre++q2N p++b).drop a=be 4 p.length++(p++(q8z (q1q (be 4 p.length++p))++(be 4 p.length++b))):=by
  rw[y1X _ _ _ o];simp[q2N,q1S]
 have j:(be 4 p.length).length=4:=q0G 4 _;have m:=q5m (q1q (be 4 p.length++p));have d:q4M (pre++q2N p++b) a=p.length:=by
  unfold q4M;rw[l,List.take_left' j,q5J];omega
 have q:(pre++q2N p++b).length=a+(p.length+12)+b.length:=by simp[q0n,o];omega
 have v:isR (pre++q2N p++b) a=true:=by
  unfold isR;rw[d];simp only[Ξ,Φ];refine⟨⟨⟨⟨by omega,x⟩,by omega⟩,?_⟩,?_⟩
  ·have e:((pre++q2N p++b).drop a).take (p.length+8)=q1S (be 4 p.length++p):=by
    rw[l];have:be 4 p.length++(p++(q8z (q1q (be 4 p.length++p))++(be 4 p.length++b)))=q1S (be 4 p.length++p)++(be 4 p.length++b):=by simp[q1S]
    rw[this];exact List.take_left' (by simp[q0v,j];omega)
   rw[e];unfold q2Q;simp only[Ξ,Φ,q0v];refine⟨by omega,?_⟩;have s:(q1S (be 4 p.length++p)).take ((be 4 p.length++p).length+4-4)=be 4 p.length++p:=by
    unfold q1S;exact List.take_left' (by omega)
   rw[s]
  ·have e:(pre++q2N p++b).drop (a+p.length+8)=be 4 p.length++b:=by
    have:a+p.length+8=a+(p.length+8):=by omega
    rw[this,<-List.drop_drop,l];have:be 4 p.length++(p++(q8z (q1q (be 4 p.length++p))++(be 4 p.length++b)))=(be 4 p.length++(p++q8z (q1q (be 4 p.length++p))))++(be 4 p.length++b):=by simp
    rw[this];exact List.drop_left' (by simp[j,m];omega)
   rw[e,l,List.take_left' j,List.take_left' j]
 unfold q5d;rw[ξ v,d]
 congr 2
 rw[<-List.drop_drop,l];have u:(be 4 p.length++(p++(q8z (q1q (be 4 p.length++p))++(be 4 p.length++b)))).drop 4=p++(q8z (q1q (be 4 p.length++p))++(be 4 p.length++b)):=List.drop_left' j;rw[u];exact List.take_left' rfl
theorem z0X(s:List UInt8)(a:Nat)(h:s.length<a+12):q5d s a=none:=by
 unfold q5d isR;rw[ε (by omega)];simp
theorem q9Q : ∀(ps:List (List UInt8)) (pre:List UInt8) (f a:Nat),(∀p∈ps,p.length<=2000)->a=pre.length->ps.length<f->q4q f (pre++q2G ps) a=q1d a ps
 |[],pre,0,a,_,_,hf=>by simp at hf
 | [],pre,f+1,a,_,ha,_=>by
  unfold q4q;rw[z0X _ _ (by simp[q2G,ha])]
  rfl
 |p::r,pre,0,a,_,_,hf=>by simp at hf
 | p::r,pre,f+1,a,hp,ha,hf=>by
  have e:pre++q2G (p::r)=pre++q2N p++q2G r:=by simp[q2G]
  rw[e];unfold q4q;rw[z0R pre p (q2G r) (hp p (List.mem_cons_self)) ha];show _::q4q f (pre++q2N p++q2G r) (a+p.length+12)=_;rw[q9Q r (pre++q2N p) f _ (fun q hq=>hp q (List.mem_cons_of_mem _ hq)) (by simp[q0n,ha];omega) (by simp at hf;omega)]
  rfl
theorem z8f(ps:List (List UInt8)):12*ps.length<=(ps.map fun p=>p.length+12).sum:=by
 induction ps with
 |nil=>simp
 |cons p r ih=>simp only[List.map_cons,List.sum_cons,χ];omega
theorem q5z(n:Nat)(ps:List (List UInt8))(b: ∀p∈ps,p.length<=2000):q0s (q0N n ps) 12=q1d 12 ps:=by
 unfold q0s;refine q9Q ps (q1e n) _ 12 b (q1f n).symm ?_;have:=z8f ps;show _<(q0N n ps).length+1;rw[q0a];unfold q0I;omega
theorem q7P : ∀(ps:List (List UInt8)) (p:List UInt8) (a:Nat),q1d a (ps++[p])=q1d a ps++[(a+(ps.map fun p=>p.length+12).sum,a+(ps.map fun p=>p.length+12).sum+p.length+12)]
 |[],p,a=>by simp[q1d]
 | q::r,p,a=>by
  rw[List.cons_append,q1d,q7P r p,q1d,List.cons_append];simp only[List.map_cons,List.sum_cons]
  congr 4<;>omega
theorem q5r : ∀(ps:List (List UInt8)) (a:Nat),z0K a (q1d a ps)=a+(ps.map fun p=>p.length+12).sum:=fun ps a=>by
 rcases List.eq_nil_or_concat ps with rfl|⟨r,p,rfl⟩
 ·rfl
 ·rw[List.concat_eq_append,q7P]
  unfold z0K;simp only[List.getLast?_append,List.getLast?_singleton,Option.some_or,Option.map_some,Option.getD_some,List.map_append,List.map_cons,List.map_nil,List.sum_append,List.sum_cons,List.sum_nil];omega
theorem q2w : ∀(ps:List (List UInt8)) (a:Nat),(q1d a ps).length=ps.length
 |[],_=>rfl
 |p::r,a=>by simp[q1d,q2w r]
theorem z7e(n:Nat)(l:List (List UInt8))(p:List UInt8)(r:List (List UInt8))(b:p.length<=2000):q5d (q0N n (l++p::r)) (q0I l)=some (p,q0I l+p.length+12):=by
 have e:q0N n (l++p::r)=q0N n l++q2N p++q2G r:=by simp[q0N,q2G]
 rw[e];exact z0R _ _ _ b (q0a n l).symm
theorem q4o : ∀a b:List UInt8,Op.bytesLess a b=bytesBefore a b
 |[],[]=>rfl
 |[],_::_=>rfl
 |_::_,[]=>rfl
 |a::x,b::y=>by unfold Op.bytesLess bytesBefore;rw[q4o x y]
abbrev Cks :=List (List (List UInt8))
def q3e :Nat->Cks->List (List UInt8×List UInt8)
 |_,[]=>[]
 |i,ps::r=>(q0B 99 (i:Int),q0N i ps)::q3e (i+1) r
theorem q3f : ∀(C:Cks) (i:Nat),(q3e i C).length=C.length
 |[],_=>rfl
 |ps::r,i=>by simp[q3e,q3f r]
theorem q2j : ∀(C D:Cks) (i:Nat),q3e i (C++D)=q3e i C++q3e (i+C.length) D
 |[],D,i=>rfl
 | ps::r,D,i=>by
  rw[List.cons_append,q3e,q2j r D (i+1),q3e,List.cons_append,χ]
  congr 3;omega
theorem q2t : ∀{C:Cks} {i:Nat} {x:List UInt8×List UInt8},x∈q3e i C-> ∃k,i<=k/\k<i+C.length/\x.1=q0B 99 (k:Int)
 |[],_,_,h=>by cases h
 | ps ::r,i,x,h=>by
  rcases List.mem_cons.1 h with rfl|h
  ·exact⟨i,ι _,by simp,rfl⟩
  ·obtain⟨k,h1,h2,h3⟩:=q2t h
   exact⟨k,by omega,by simp;omega,h3⟩
theorem q2u(n:Int):(q0B 99 n).length<=9223372036854775807:=by
 by_cases h:0<=n/\n<=999999
 ·rw[q0R h,χ,q0b];decide
 ·rw[q6T h];decide
theorem z0F(b:i<=999999)(d:k<=999999)(h:i≠k):q0B 99 (i:Int)≠q0B 99 (k:Int):=fun e=>by
 have:=y0O 99 (i:Int) (k:Int) (by omega) (by omega);rw[e,beq_self_eq_true] at this;have:=of_decide_eq_true this.symm;omega
theorem q4u(b:i<=999999)(d:k<=999999)(h:i<k):bytesBefore (q0B 99 (i:Int)) (q0B 99 (k:Int))=true:=by
 have h1:=z5u 99 (i:Int) (k:Int) (by omega) (by omega);have h2:decide ((i:Int)<(k:Int))=true:=by simp;omega
 rw[h2] at h1;rw[<-q4o];exact h1
theorem q3w{C:Cks}(b:k<=999999)(l:i+C.length<=999999)(h: ∀j,i<=j->j<i+C.length->j≠k): ∀y∈q3e i C,Prod.fst y≠q0B 99 (k:Int):=fun y d=>by
 obtain⟨j,h1,h2,h3⟩:=q2t d;rw[h3];exact z0F (by omega) b (h j h1 h2)
theorem q7z{C:Cks}(m:C.length<=200)(d:C[k]? =some ps):q0F Prod.fst (q0B 99 (k:Int)) (q3e 0 C)=some (q0B 99 (k:Int),q0N k ps):=by
 obtain⟨l,rfl⟩:=List.getElem?_eq_some_iff.1 d;have e:C=C.take k++C[k]::C.drop (k+1):=by
  rw[List.getElem_cons_drop];exact(List.take_append_drop _ _).symm
 have b:(C.take k).length=k:=by simp;omega
 conv=>lhs;rw[e]
 rw[q2j,b,Nat.zero_add,q0T]
 ·rw[q3e];unfold q0F;rw[List.find?_cons_of_pos (by simp)]
 ·exact q3w (by omega) (by rw[b];omega) fun j _ h2=>by rw[b] at h2;omega
theorem z1V{C:Cks}(d:C.length<=200)(l:C.length<=k)(b:k<=999999):q0F Prod.fst (q0B 99 (k:Int)) (q3e 0 C)=none:=
 q0W (q3w b (by omega) fun j _ h2=>by omega)
theorem z9P{C:Cks}(m:C.length<=200):q0F Prod.fst [110,101,119] (q3e 0 C)=none:=q0W fun y l e=>by
 obtain⟨j,h1,h2,h3⟩:=q2t l;rw[e] at h3;have h4:j<200:=by omega
 rw[q0R (by omega)] at h3;have b:=congrArg List.length h3;have d:(99::q5b 6 ((j:Int)).toNat).length=7:=by simp[q0b]
 rw[d] at b
 cases b
theorem q6l : ∀(C:Cks) (i:Nat),(q3e i C).map Prod.fst=(List.range' i C.length).map fun k:Nat=>q0B 99 (k:Int)
 |[],_=>rfl
 |ps::r,i=>by rw[q3e,List.map_cons,q6l r,χ,List.range'_succ,List.map_cons]
theorem q0l(a b:List (List UInt8×List UInt8)):q1R (a++b)=q1R a+q1R b:=by simp[q1R,q5Q,List.sum_append]
theorem q6f(x:List UInt8×List UInt8):q1R [x]=x.2.length:=by simp[q1R,q5Q]
theorem z6m{D:Cks}(p:List UInt8)(b:D.length<=200):q1T Prod.fst (q0B 99 (D.length:Int)) (fun x=>(x.1,x.2++q2N p)) (q3e 0 (D++[ps]))=q3e 0 (D++[ps++[p]]):=by
 rw[q2j,q2j,q5U,q2r,Nat.zero_add]
 ·congr 1
  show q1T Prod.fst (q0B 99 (D.length:Int)) _ [(q0B 99 (D.length:Int),q0N D.length ps)]=[(q0B 99 (D.length:Int),q0N D.length (ps++[p]))];rw[z2s];unfold q1T;simp
 ·exact q3w (by omega) (by omega) fun j _ h2=>by omega
theorem z5X{C:Cks}(p:List UInt8)(b:C.length<=200):q1T Prod.fst (q0B 99 (C.length:Int)) (fun x=>(x.1,x.2++(q1e C.length++q2N p))) (q3e 0 C++[(q0B 99 (C.length:Int),[])])=q3e 0 (C++[[p]]):=by
 rw[q2j,q5U,q2r,Nat.zero_add]
 ·congr 1
  show q1T Prod.fst (q0B 99 (C.length:Int)) _ [(q0B 99 (C.length:Int),[])]=[(q0B 99 (C.length:Int),q0N C.length [p])];rw[z5T];unfold q1T;simp
 ·exact q3w (by omega) (by omega) fun j _ h2=>by omega
def q0q(C:Cks):Nat:=(C.map q0I).sum
theorem q4I : ∀(C:Cks) (i:Nat),q1R (q3e i C)=q0q C
 |[],_=>rfl
 | ps::r,i=>by
  have e:q3e i (ps::r)=[(q0B 99 (i:Int),q0N i ps)]++q3e (i+1) r:=rfl;rw[e,q0l,q6f,q4I r];simp[q0q,q0a]
structure okC(C:Cks):Prop where
 few:C.length<=200
 size: ∀ps∈C,q0I ps<=4096
 pay: ∀ps∈C,∀p∈ps,p.length<=2000
 full: ∀ps∈C.dropLast,ps≠[]
structure Oth where
 X:List (List UInt8×List UInt8)
 Z:List (List UInt8×List UInt8)
def noO :Oth:=⟨[],[]⟩
structure okOth(E:Oth):Prop where
 before: ∀y∈E.X,∀k:Nat,k<=999999->bytesBefore y.1 (q0B 99 (k:Int))=true
 behind: ∀y∈E.Z,∀k:Nat,k<=999999->bytesBefore (q0B 99 (k:Int)) y.1=true
 new: ∀y,y∈E.X\/y∈E.Z->y.1≠[110,101,119]
 kind: ∀y,y∈E.X\/y∈E.Z->(q1L y.1).2.2=true->(q1L y.1).1≠99
 len: ∀y,y∈E.X\/y∈E.Z->y.1.length<=1000
 few:E.X.length+E.Z.length<=190
theorem okOth.no :okOth noO:=⟨(fun _ h=>by cases h),(fun _ h=>by cases h),(fun _ h=>by rcases h with h|h<;>cases h),(fun _ h=>by rcases h with h|h<;>cases h),(fun _ h=>by rcases h with h|h<;>cases h),υ _⟩
def q1b(E:Oth):Nat:=q1R E.X+q1R E.Z
def q2i(E:Oth)(C:Cks):List (List UInt8×List UInt8):=E.X++(q3e 0 C++E.Z)
def z5Y(E:Oth)(C:Cks):List (List UInt8×List UInt8):=E.X++(q3e 0 C++((q0B 99 (C.length:Int),[])::E.Z))
theorem q7x(E:Oth)(C:Cks):(q2i E C).length=E.X.length+C.length+E.Z.length:=by simp[q2i,q3f];omega
theorem z4B{a b:List UInt8}(h:bytesBefore a b=true):a≠b:=fun e=>by rw[e,WideAt.bytes_irrefl] at h;cases h
theorem okOth.neX{E:Oth}(h:okOth E)(b:k<=999999): ∀y∈E.X,Prod.fst y≠q0B 99 (k:Int):=fun y d=>z4B (h.before y d k b)
theorem okOth.neZ{E:Oth}(h:okOth E)(b:k<=999999): ∀y∈E.Z,Prod.fst y≠q0B 99 (k:Int):=fun y d e=>z4B (h.behind y d k b) e.symm
theorem q1B{k:α->List UInt8}{nm:List UInt8}{a b:List α}(h: ∀y∈b,k y≠nm):q0F k nm (a++b)=q0F k nm a:=by
 unfold q0F;rw[List.find?_append];have:List.find? (fun y=>k y==nm) b=none:=q0W h;rw[this];simp
theorem q3d{E:Oth}(b:okOth E){C:Cks}(j:C.length<=200)(d:C[k]? =some ps):q0F Prod.fst (q0B 99 (k:Int)) (q2i E C)=some (q0B 99 (k:Int),q0N k ps):=by
 have l:=(List.getElem?_eq_some_iff.1 d).1;unfold q2i;rw[q0T (b.neX (by omega)),q1B (b.neZ (by omega))];exact q7z j d
theorem z6l{E:Oth}(d:okOth E){C:Cks}(j:C.length<=200)(l:C.length<=k)(b:k<=999999):q0F Prod.fst (q0B 99 (k:Int)) (q2i E C)=none:=by
 unfold q2i;rw[q0T (d.neX b),q1B (d.neZ b)];exact z1V j l b
theorem z4D{E:Oth}(d:okOth E){C:Cks}(j:C.length<=200):q0F Prod.fst [110,101,119] (q2i E C)=none:=by
 unfold q2i;rw[q0T fun y b=>d.new y (.inl b),q1B fun y b=>d.new y (.inr b)];exact z9P j
theorem q7y(E:Oth)(C:Cks):q1R (q2i E C)=q1b E+q0q C:=by
 unfold q2i q1b;rw[q0l,q0l,q4I];omega
theorem z6o(E:Oth)(C:Cks):q1R (z5Y E C)=q1b E+q0q C:=by
 have e:z5Y E C=E.X++(q3e 0 C++([(q0B 99 (C.length:Int),[])]++E.Z)):=rfl;rw[e,q0l,q0l,q0l,q4I,q6f];unfold q1b;simp;omega
theorem z6k{E:Oth}(b:okOth E){D:Cks}(p:List UInt8)(d:D.length<=200):q1T Prod.fst (q0B 99 (D.length:Int)) (fun x=>(x.1,x.2++q2N p)) (q2i E (D++[ps]))=q2i E (D++[ps++[p]]):=by
 unfold q2i;rw[q5U,q5U,q2r (b.neX (by omega)),q2r (b.neZ (by omega)),z6m p d]
theorem q8V{k:α->List UInt8}{x:α}{b:List α}: ∀{a:List α},(∀y∈a,bytesBefore (k y) (k x)=true)->q1K k x (a++b)=a++q1K k x b
 |[],_=>rfl
 | y ::r,h=>by
  have h1:=h y (List.mem_cons_self);have h2:¬bytesBefore (k x) (k y)=true:=fun h3=>by
   have:=WideShapes.bytes_trans _ _ _ h1 h3;rw[WideAt.bytes_irrefl] at this
   cases this
  rw[List.cons_append,q1K,κ h2,q8V fun z d=>h z (List.mem_cons_of_mem _ d)]
  rfl
theorem z5q{k:α->List UInt8}{x:α}: ∀{b:List α},(∀y∈b,bytesBefore (k x) (k y)=true)->q1K k x b=x::b
 |[],_=>rfl
 |y::r,h=>by rw[q1K,ξ (h y (List.mem_cons_self))]
theorem z9O{E:Oth}(d:okOth E){C:Cks}(l:C.length<=200):q1K Prod.fst (q0B 99 (C.length:Int),[]) (q2i E C)=z5Y E C:=by
 unfold q2i z5Y;rw[q8V fun y b=>d.before y b _ (by omega),q8V fun y b=>?_,z5q fun y b=>d.behind y b _ (by omega)];obtain⟨j,h1,h2,h3⟩:=q2t b;rw[h3];exact q4u (by omega) (by omega) (by omega)
theorem z6n{E:Oth}(b:okOth E){C:Cks}(d:C.length<=200):q0F Prod.fst (q0B 99 (C.length:Int)) (z5Y E C)=some (q0B 99 (C.length:Int),[]):=by
 unfold z5Y;rw[q0T (b.neX (by omega)),q0T (q3w (by omega) (by omega) fun j _ h2=>by omega)];unfold q0F;rw[List.find?_cons_of_pos (by simp)]
theorem z5V{E:Oth}(b:okOth E){C:Cks}(p:List UInt8)(d:C.length<=200):q1T Prod.fst (q0B 99 (C.length:Int)) (fun x=>(x.1,x.2++(q1e C.length++q2N p))) (z5Y E C)=q2i E (C++[[p]]):=by
 have e:z5Y E C=E.X++((q3e 0 C++[(q0B 99 (C.length:Int),[])])++E.Z):=by simp[z5Y]
 rw[e];unfold q2i;rw[q5U,q5U,q2r (b.neX (by omega)),q2r (b.neZ (by omega)),z5X p d]
theorem z5W(E:Oth)(C:Cks):(q2i E C).map Prod.fst=E.X.map Prod.fst++((List.range C.length).map (fun k:Nat=>q0B 99 (k:Int))++E.Z.map Prod.fst):=by
 unfold q2i;rw[List.map_append,List.map_append,q6l,List.range_eq_range']
def q1u(C:Cks):Int:=match C.getLast? with|none=>0|some ps=>((C.length:Int)-1)*4096+(q0I ps:Int)
theorem z0J :q1u []=0:=rfl
theorem q1J(D:Cks)(ps:List (List UInt8)):q1u (D++[ps])=(D.length:Int)*4096+(q0I ps:Int):=by
 unfold q1u;simp
theorem z3A{C:Cks}(h:okC C):0<=q1u C/\q1u C<=(C.length:Int)*4096:=by
 rcases List.eq_nil_or_concat C with rfl|⟨D,ps,rfl⟩
 ·rw[z0J];exact⟨Int.le_refl _,Int.le_refl _⟩
 ·rw[List.concat_eq_append] at*
  have:=h.size ps (by simp);rw[q1J,θ,List.length_singleton];omega
def AllS(L:List FM):Prop:= ∀f∈L,f.sy=f.da.length
def Sur(L:List FM)(n:Nat)(k:Int):Prop:= ∀f∈L,f.sy=f.da.length\/ ∃j:Nat,n=j+1/\f.nm=q0B 99 (j:Int)/\k<=(j:Int)*4096+(f.sy:Int)
theorem AllS.sur(h:AllS L)(n:Nat)(k:Int):Sur L n k:=fun f b=> .inl (h f b)
theorem Sur.all0{k:Int}(h:Sur L 0 k):AllS L:=fun f b=>(h f b).elim id fun ⟨j,e,_⟩=>absurd e (by omega)
theorem Sur.less{k k':Int}(h:Sur L n k)(m:k'<=k):Sur L n k':=fun f l=>(h f l).imp id fun ⟨j,a,b,d⟩=>⟨j,a,b,by omega⟩
theorem q1U{a:Int}(b:a≠0)(h:(a,σ)=(0,σ')):False:=b (congrArg Prod.fst h)
theorem q9P{nm:List UInt8}(h:q0h σ nm=(0,σ'))(d:AllS σ.L):AllS σ'.L:=by
 unfold q0h at h
 split at h
 ·exact(q1U (by decide) h).elim
 split at h
 ·exact(q1U (by decide) h).elim
 split at h
 ·exact(q1U (by decide) h).elim
 split at h
 ·exact(q1U (by decide) h).elim
 split at h
 ·exact(q1U (by decide) h).elim
 have e:=congrArg Prod.snd h;subst e;intro f b;have b:f∈q1K FM.nm ⟨nm,[],0⟩ σ.L:=b;rcases mem_insN.1 b with rfl|b
 ·rfl
 ·exact d f b
theorem q6j{nm:List UInt8}(h:q0m σ nm t=(0,σ'))(l:f∈σ'.L): ∃b∈σ.L,(b.nm=nm/\f={b with da:=b.da++t})\/(b.nm≠nm/\f=b):=by
 unfold q0m at h
 split at h
 ·exact(q1U (by decide) h).elim
 split at h
 ·exact(q1U (by decide) h).elim
 split at h
 ·exact(q1U (by decide) h).elim
 split at h
 ·exact(q1U (by decide) h).elim
 have e:=congrArg Prod.snd h;subst e;obtain⟨b,j,rfl⟩:=List.mem_map.1 (show f∈σ.L.map (fun y=>if y.nm==nm then {y with da:=y.da++t} else y) from l);refine⟨b,j,?_⟩;by_cases d:b.nm=nm
 ·rw[ξ (by simpa using d)];exact .inl ⟨d,rfl⟩
 ·rw[κ (by simpa using d)];exact .inr ⟨d,rfl⟩
theorem z5J{nm:List UInt8}(h:q0m σ nm t=(0,σ'))(d:AllS σ.L)(l:nm=q0B 99 (n:Int)):Sur σ'.L (n+1) ((n:Int)*4096):=fun f j=>by
 obtain⟨m,b,⟨h1,rfl⟩|⟨h1,rfl⟩⟩:=q6j h j
 ·exact .inr ⟨n,rfl,h1.trans l,by simp only;omega⟩
 ·exact .inl (d _ b)
theorem z5K{nm:List UInt8}{j:Nat}{k:Int}(h:q0m σ nm t=(0,σ'))(d:Sur σ.L (j+1) k)(q:nm=q0B 99 (j:Int))(o: ∀f∈σ.L,f.nm=nm->k<=(j:Int)*4096+(f.da.length:Int)):Sur σ'.L (j+1) k:=fun f m=>by
 obtain⟨s,b,⟨h1,rfl⟩|⟨h1,rfl⟩⟩:=q6j h m
 ·refine .inr ⟨j,rfl,h1.trans q,?_⟩
  have h2:=o _ b h1;rcases d _ b with h3|⟨i,h3,h4,l⟩
  ·simp only;omega
  ·have:i=j:=by omega
   subst this;exact l
 ·exact d _ b
theorem z5C{nm:List UInt8}{k:Int}(h:q3K σ nm=(0,σ'))(m:Sur σ.L n k)(s: ∀j:Nat,n=j+1->nm=q0B 99 (j:Int)):AllS σ'.L:=by
 unfold q3K at h
 split at h
 ·exact(q1U (by decide) h).elim
 split at h
 ·exact(q1U (by decide) h).elim
 split at h
 ·exact(q1U (by decide) h).elim
 have e:=congrArg Prod.snd h;subst e;intro f o;obtain⟨d,l,rfl⟩:=List.mem_map.1 (show f∈σ.L.map (fun y=>if y.nm==nm then {y with sy:=y.da.length} else y) from o);by_cases b:d.nm=nm
 ·rw[ξ (by simpa using b)]
 ·rw[κ (by simpa using b)]
  rcases m d l with h1|⟨j,q,e,_⟩
  ·exact h1
  ·exact absurd (e.trans (s j q).symm) b
structure Lgd(E:Oth)(σ:DM)(c s:Int)(C:Cks)(k:Int):Prop where
 pl:Pl σ (c+(q1b E:Int)) s (q2i E C)
 ok:okC C
 oth:okOth E
 sr:Sur σ.L C.length k
 le:k<=q1u C
theorem Lgd.lastLen{E:Oth}{s:Int}{D:Cks}{k:Int}(h:Lgd E σ c s (D++[ps]) k)(d:okD σ)(b:f∈σ.L)(e:f.nm=q0B 99 (D.length:Int)):f.da.length=q0I ps:=by
 have h1:=q3Q d.ord b e;have h2:=h.pl.find (q0B 99 (D.length:Int));rw[q3d h.oth h.ok.few (show(D++[ps])[D.length]? =some ps by simp),h1] at h2;injection h2 with h2;have h3:=congrArg (fun x=>x.2.length) h2;simp only[fbF,q0a] at h3;exact h3.symm
theorem Lgd.all{E:Oth}{s:Int}{C:Cks}(h:Lgd E σ c s C (q1u C))(l:okD σ):AllS σ.L:=by
 rcases List.eq_nil_or_concat C with rfl|⟨D,ps,rfl⟩
 ·exact h.sr.all0
 ·rw [List.concat_eq_append] at*
  intro f b;rcases h.sr f b with h1|⟨j,m,e,o⟩
  ·exact h1
  ·have d:j=D.length:=by rw[θ,List.length_singleton] at m;omega
   subst d;have h1:=h.lastLen l b e;have h2:=l.sy f b;rw[q1J] at o;omega
theorem okC.nil :okC []:=⟨υ _,(fun _ h=>by cases h),(fun _ h=>by cases h),(fun _ h=>by cases h)⟩
theorem okC.grow{D:Cks}(h:okC (D++[ps]))(b:p.length<=2000)(d:q0I ps+(p.length+12)<=4096):okC (D++[ps++[p]]):=by
 have m:ps∈D++[ps]:=by simp
 refine⟨by simpa using h.few,fun q hq=>?_,fun q hq=>?_,fun q hq=>h.full q (by simpa using hq)⟩
 all_goals rcases List.mem_append.1 hq with h1|h1
 ·exact h.size q (List.mem_append_left _ h1)
 ·obtain rfl:=List.mem_singleton.1 h1;rw[q2W];exact d
 ·exact h.pay q (List.mem_append_left _ h1)
 ·obtain rfl:=List.mem_singleton.1 h1
  intro x j;rcases List.mem_append.1 j with h2|h2
  ·exact h.pay ps m x h2
  ·obtain rfl:=List.mem_singleton.1 h2;exact b
theorem okC.more{C:Cks}(h:okC C)(d:p.length<=2000)(l:C.length<200)(b: ∀ps∈C,ps≠[]):okC (C++[[p]]):=by
 refine⟨by simp;omega,fun q hq=>?_,fun q hq=>?_,fun q hq=>b q (by simpa using hq)⟩
 all_goals rcases List.mem_append.1 hq with h1|h1
 ·exact h.size q h1
 ·obtain rfl:=List.mem_singleton.1 h1;rw[q5H];omega
 ·exact h.pay q h1
 ·obtain rfl:=List.mem_singleton.1 h1
  intro x j;obtain rfl:=List.mem_singleton.1 j;exact d
def q0O(C:Cks):List Int:=C.map fun ps=>(q0I ps:Int)
theorem q2E(D:Cks)(ps:List (List UInt8)):q0O (D++[ps])=q0O D++[(q0I ps:Int)]:=by simp[q0O]
theorem q0f(C:Cks):(q0O C).length=C.length:=by simp[q0O]
theorem q8g(D:Cks)(ps:List (List UInt8)):(q0O (D++[ps])).getD D.length 0=(q0I ps:Int):=by
 rw[q2E];have:D.length=(q0O D).length:=(q0f D).symm;rw[δ,this,List.getElem?_append_right (ι _)];simp
theorem z6G(D:Cks)(ps b:List (List UInt8)):(q0O (D++[ps])).set D.length (q0I b:Int)=q0O (D++[b]):=by
 rw[q2E,q2E];have:D.length=(q0O D).length:=(q0f D).symm;rw[this];simp
theorem z3e(C:Cks)(i:Nat)(h:C[i]? =some ps):(q0O C).getD i 0=(q0I ps:Int):=by
 unfold q0O;rw[δ,List.getElem?_map,h];rfl
def q4a(C:Cks)(p:List UInt8):Bool:=match C.getLast? with|none=>false|some ps=>decide (q0I ps+(p.length+12)<=4096)
def q1O(free:Int)(C:Cks)(p:List UInt8):Int×Int×Cks:=
 if 2000<p.length then(0,3,C)
 else if q4a C p then(if free-((p.length:Int)+12)<6000 then(0,60,C) else(q1u C,0,C.dropLast++[C.getLast?.getD []++[p]]))
 else if 200<=C.length\/free-((p.length:Int)+24)<6000 then(0,60,C) else((C.length:Int)*4096+12,0,C++[[p]])
def q4T(free sure:Int)(C:Cks)(p:List UInt8):Int:=
 if (q1O free C p).2.1=0/\q4a C p=false/\C≠[] then q1u C else sure
def q2D :Nat->List (List UInt8)->List (Nat×List UInt8)
 |_,[]=>[]
 |a,p::r=>(a,p)::q2D (a+p.length+12) r
def q0k :Nat->Cks->List (Nat×List UInt8)
 |_,[]=>[]
 |b,ps::r=>q2D (b+12) ps++q0k (b+4096) r
def q4E(C:Cks)(pos:Int):Option (Nat×List UInt8):=(q0k 0 C).find? fun r=>decide (pos<=(r.1:Int))
def q6X(C:Cks)(pos:Int):List UInt8×Int:=
 if pos<0 then([],4) else match C[(pos/4096).toNat]? with
 |none=>([],4)
 | some ps=>match (if 12<=pos % 4096 then q5d (q0N (pos/4096).toNat ps) (pos % 4096).toNat else none) with
  |none=>([],4)
  |some (p,_)=>(p,0)
def z2y :Nat->List (List UInt8)->List (List UInt8)
 |_,[]=>[]
 |b,p::r=>if p.length+12<=b then p::z2y (b-(p.length+12)) r else []
def z3X(r:List UInt8):Prop:=r=[]\/ ∃p:List UInt8,p.length<=2000/\r.length<p.length+12/\ ∃x,q2N p=r++x
theorem z0H : ∀(ps:List (List UInt8)) (b:Nat),∃d,ps=z2y b ps++d
 |[],_=>⟨[],rfl⟩
 | p ::r,b=>by
  rw[z2y]
  split
  ·obtain⟨d,h⟩:=z0H r (b-(p.length+12))
   exact⟨d,by rw[List.cons_append,<-h]⟩
  ·exact⟨p::r,rfl⟩
theorem z2P : ∀(ps:List (List UInt8)) (b:Nat),(∀p∈ps,p.length<=2000)-> ∃r,(q2G ps).take b=q2G (z2y b ps)++r/\z3X r
 |[],b,_=>⟨[],by simp[q2G,z2y],.inl rfl⟩
 | p ::t,b,h=>by
  have e:q2G (p::t)=q2N p++q2G t:=by simp[q2G]
  rw[z2y]
  split
  ·rename_i d
   obtain⟨r,h1,h2⟩:=z2P t (b-(p.length+12)) fun q hq=>h q (.tail _ hq)
   refine⟨r,?_,h2⟩;rw[e,List.take_append,Δ (by rw[q0n];omega),q0n,h1];simp[q2G]
  ·rename_i d
   refine⟨(q2N p).take b,?_,.inr ⟨p,h p (.head _),by rw[Θ,q0n];omega,(q2N p).drop b,(List.take_append_drop _ _).symm⟩⟩;rw[e,List.take_append_of_le_length (by rw[q0n];omega)];simp[q2G]
theorem z7d{pre:List UInt8}(h:z3X r)(l:a=pre.length):q5d (pre++r) a=none:=by
 rcases h with rfl|⟨p,q,o,x,m⟩
 ·exact z0X _ _ (by simp;omega)
 ·by_cases d:r.length<12
  ·exact z0X _ _ (by simp;omega)
  ·have b:q4M (pre++r) a=p.length:=by
    unfold q4M;rw[l,List.drop_left];have h4:r.take 4=be 4 p.length:=by
     have j:(q2N p).take 4=r.take 4:=by rw[m,List.take_append_of_le_length (by omega)]
     rw[<-j];unfold q2N q1S;rw[List.append_assoc,List.append_assoc,List.take_left' (q0G 4 _)]
    rw[h4,q5J];omega
   unfold q5d isR;rw[b,ε (p:=a+p.length+12<=(pre++r).length) (by rw[θ];omega)];simp
theorem q9R : ∀(ps:List (List UInt8)) (pre r:List UInt8) (f a:Nat),(∀p∈ps,p.length<=2000)->z3X r->a=pre.length->ps.length<f->q4q f (pre++q2G ps++r) a=q1d a ps
 |[],pre,r,0,a,_,_,_,hf=>by simp at hf
 | [],pre,r,f+1,a,_,hr,ha,_=>by
  unfold q4q;rw[show pre++q2G []++r=pre++r by simp[q2G],z7d hr ha]
  rfl
 |p::t,pre,r,0,a,_,_,_,hf=>by simp at hf
 | p::t,pre,r,f+1,a,hp,hr,ha,hf=>by
  have e:pre++q2G (p::t)++r=pre++q2N p++(q2G t++r):=by simp[q2G]
  have b:pre++q2G (p::t)++r=(pre++q2N p)++q2G t++r:=by simp[q2G]
  unfold q4q;rw[e,z0R pre p _ (hp p (List.mem_cons_self)) ha,<-e,b];show _::q4q f ((pre++q2N p)++q2G t++r) (a+p.length+12)=_;rw[q9R t (pre++q2N p) r f _ (fun q hq=>hp q (List.mem_cons_of_mem _ hq)) hr (by simp[q0n,ha];omega) (by simp at hf;omega)]
  rfl
theorem z6U(n:Nat)(ps:List (List UInt8))(b: ∀p∈ps,p.length<=2000)(d:z3X r):q0s (q0N n ps++r) 12=q1d 12 ps:=by
 unfold q0s;refine q9R ps (q1e n) r _ 12 b d (q1f n).symm ?_;have:=z8f ps;rw[θ,q0a];unfold q0I;omega
theorem z9m(n:Nat)(ps:List (List UInt8))(b: ∀p∈ps,p.length<=2000)(d:z3X r):(z0K 12 (q0s (q0N n ps++r) 12):Int)=(q0I ps:Int):=by
 rw[z6U n ps b d,q5r];rfl
def q4C(E:Oth)(D:Cks)(t:List UInt8):List (List UInt8×List UInt8):=E.X++(q3e 0 D++((q0B 99 (D.length:Int),t)::E.Z))
theorem y2z(E:Oth)(D:Cks)(ps:List (List UInt8)):q2i E (D++[ps])=q4C E D (q0N D.length ps):=by
 unfold q2i q4C;rw[q2j,Nat.zero_add];simp[q3e]
theorem z2t(E:Oth)(D:Cks)(t:List UInt8):(q4C E D t).length=E.X.length+D.length+E.Z.length+1:=by simp[q4C,q3f];omega
theorem z6r(E:Oth)(D:Cks)(t:List UInt8):q1R (q4C E D t)=q1b E+q0q D+t.length:=by
 unfold q4C q1b;rw[q0l,q0l,q4I,show((q0B 99 (D.length:Int),t)::E.Z)=[(q0B 99 (D.length:Int),t)]++E.Z from rfl,q0l,q6f];simp only;omega
theorem q8A{E:Oth}(b:okOth E){D:Cks}(d:D.length<=200)(t:List UInt8):q0F Prod.fst (q0B 99 (D.length:Int)) (q4C E D t)=some (q0B 99 (D.length:Int),t):=by
 unfold q4C;rw[q0T (b.neX (by omega)),q0T (q3w (by omega) (by omega) fun j _ h2=>by omega)];unfold q0F;rw[List.find?_cons_of_pos (by simp)]
theorem z6q{E:Oth}(j:okOth E){D:Cks}(d:D.length<=200)(t:List UInt8)(b:D[k]? =some ps):q0F Prod.fst (q0B 99 (k:Int)) (q4C E D t)=some (q0B 99 (k:Int),q0N k ps):=by
 have l:k<D.length:=(List.getElem?_eq_some_iff.1 b).1;have h1:=q7z d b;unfold q4C;rw[q0T (j.neX (by omega))];unfold q0F at h1⊢;rw[List.find?_append,h1]
 rfl
theorem z0C{E:Oth}(l:okOth E){D:Cks}(j:D.length<=200)(t:List UInt8):q0F Prod.fst [110,101,119] (q4C E D t)=none:=by
 have h:=z4D l (C:=D) j;have b:=q0U h;refine q0W fun y d=>?_
 unfold q4C at d;unfold q2i at b;rcases List.mem_append.1 d with h1|h1
 ·exact b y (List.mem_append.2 (.inl h1))
 rcases List.mem_append.1 h1 with h1|h1
 ·exact b y (List.mem_append.2 (.inr (List.mem_append.2 (.inl h1))))
 rcases List.mem_cons.1 h1 with rfl|h1
 ·intro e
  have e:q0B 99 (D.length:Int)=[110,101,119]:=e;rw[q0R (by omega)] at e;exact absurd (List.cons.inj e).1 (by decide)
 ·exact b y (List.mem_append.2 (.inr (List.mem_append.2 (.inr h1))))
theorem q9M(E:Oth)(D:Cks)(t:List UInt8):(q4C E D t).map Prod.fst=E.X.map Prod.fst++((List.range (D.length+1)).map (fun k:Nat=>q0B 99 (k:Int))++E.Z.map Prod.fst):=by
 unfold q4C;rw[List.map_append,List.map_append,q6l,List.map_cons,List.range_succ,List.map_append,List.range_eq_range'];simp
theorem q3B(s:List UInt8)(m j:Int)(a b:Nat)(l:m=(a:Int))(d:j=(b:Int))(h:a<=b)(h2:b<=s.length){X:List UInt8}(o:(s.take b).drop a=X):
  ∀w,(Instr.slice 9 (.string ⟨s.toArray⟩) (some (.int .i64 m)) (some (.int .i64 j)) none).run Tryz.prog w= .ok (.string ⟨X.toArray⟩) w:=fun w=>by
 have h3:=run_slice_string (P:=Tryz.prog) w 9 ⟨s.toArray⟩ .i64 .i64 m j Tryz.underlying9 (by omega) (by omega) (by simp[ByteArray.size];omega);rw[h3,l,d,<-o];show _=Result.ok (Value.string ⟨((s.take b).drop a).toArray⟩) w;rw[<-q3Y];rfl
theorem q4l(s:List UInt8)(j:Int)(b:Nat)(d:j=(b:Int))(h2:b<=s.length):
  ∀w,(Instr.slice 9 (.string ⟨s.toArray⟩) none (some (.int .i64 j)) none).run Tryz.prog w= .ok (.string ⟨(s.take b).toArray⟩) w:=fun w=>by
 have h3:=run_slice_string_to_if (P:=Tryz.prog) w 9 ⟨s.toArray⟩ .i64 j Tryz.underlying9;have l:(ByteArray.size ⟨s.toArray⟩)=s.length:=by simp[ByteArray.size]
 rw[h3,l,ξ (by omega),d];show Result.ok (Value.string ((⟨s.toArray⟩:ByteArray).extract 0 b)) w=_;rw[q3Y];rfl
theorem q3a(s:List UInt8)(d:Int)(a:Nat)(b:d=(a:Int))(h2:a<=s.length):
  ∀w,(Instr.slice 9 (.string ⟨s.toArray⟩) (some (.int .i64 d)) none none).run Tryz.prog w= .ok (.string ⟨(s.drop a).toArray⟩) w:=fun w=>by
 have h3:=run_slice_string_from_if (P:=Tryz.prog) w 9 ⟨s.toArray⟩ .i64 d Tryz.underlying9;have j:(ByteArray.size ⟨s.toArray⟩)=s.length:=by simp[ByteArray.size]
 rw[h3,j,ξ (by omega),b];show Result.ok (Value.string ((⟨s.toArray⟩:ByteArray).extract a s.length)) w=_;rw[q3Y,List.take_length]
theorem z8V(k:Nat)(N:Int)(w:World)(q:N=(k:Int))(s:k<=9223372036854775807):
  Calls Tryz.prog 206 #[.int .i64 N] w fun e w'=>e= .returned (.string ⟨(be 4 k).toArray⟩)/\Ext w w':=by
 have m:0<=N:=by omega
 have h1:N<=9223372036854775807:=by omega
 have b:N.toNat=k:=by omega
 have l:=η b;clear q b;go_enter Tryz.func206,Tryz.ntmps206;go_wp2_with fail;refine(q7a N 4 _ (by omega) (by omega) m (by omega)).mono ?_;rintro e w1 ⟨rfl,d⟩;have j:=η d;clear d;rw[l.o];go_wp2_with fail;go_ret;exact⟨rfl,j.o⟩
theorem z8O(p:List UInt8)(w:World)(j:2000<p.length)(d:p.length<=9223372036854775807):
  Calls Tryz.prog 147 #[.string ⟨p.toArray⟩] w fun e w'=>e= .returned (.tuple #[.string ⟨#[]⟩,.int .i64 3])/\w=w':=by
 have b:decide ((2000:Int)<(p.length:Int))=true:=by simp;omega
 go_enter Tryz.func147,Tryz.ntmps147;go_wp2_with fail;go_ret2;exact⟨rfl,rfl⟩
theorem y0V(p:List UInt8)(w:World)(B:p.length<=2000):
  Calls Tryz.prog 147 #[.string ⟨p.toArray⟩] w fun e w'=>e= .returned (.tuple #[.string ⟨(q2N p).toArray⟩,.int .i64 0])/\Ext w w':=by
 have x:decide ((2000:Int)<(p.length:Int))=false:=by simp;omega
 obtain⟨n,y⟩: ∃n:Int,n=(p.length:Int):=⟨_,rfl⟩
 have u:Hd (q2N p=q1S (be 4 p.length++p)++be 4 p.length):=η rfl;have d:(be 4 p.length).length=4:=q0G 4 _;have C:(q1S (be 4 p.length++p)).length=p.length+8:=by simp[q0v,d];omega
 have q:=η (fun W=>z8V p.length (p.length:Int) W rfl (by omega));have v:=η (fun W=>q9l (be 4 p.length++p) W (by simp[d];omega));go_enter Tryz.func147,Tryz.ntmps147;go_wp2_with fail;refine(q.o _).mono ?_;rintro e w1 ⟨rfl,b⟩;have s:=η b;clear b;generalize be 4 p.length=X at*;go_wp2_with fail;have m:=v.o w1;generalize q1S (X++p)=Y at*;rw[q3c];refine m.mono ?_;rintro e D ⟨rfl,b⟩;have j:=η (s.o.trans b);clear b;go_wp2_with fail;refine(q.o _).mono ?_;rintro e E ⟨rfl,b⟩;have l:=η (j.o.trans b);clear b;go_wp2_with fail;go_ret2;exact⟨by rw[u.o,q3c];rfl,l.o⟩
def z1n(s:List UInt8)(a:Nat):Value:=match q5d s a with
 |none=> .tuple #[.string ⟨#[]⟩,.int .i64 0,.bool false]
 |some (p,b)=> .tuple #[.string ⟨p.toArray⟩,.int .i64 b,.bool true]
theorem q8R{s:List UInt8}(h:isR s a=false):z1n s a= .tuple #[.string ⟨#[]⟩,.int .i64 0,.bool false]:=by unfold z1n q5d;rw[h];rfl
theorem q6I(s:List UInt8)(a k:Nat):(s.take (a+k)).drop a=(s.drop a).take k:=by rw[List.drop_take];congr 1;omega
theorem z0U(s:List UInt8)(a:Nat)(w:World)(hl:s.length<=4611686018427387903)(ha:a<=4611686018427387903):
  Calls Tryz.prog 164 #[.string ⟨s.toArray⟩,.int .i64 (a:Int)] w fun e w'=>e= .returned (z1n s a)/\Ext w w':=by
 by_cases h1:s.length<a+12
 ·have v:Hd (z1n s a= .tuple #[.string ⟨#[]⟩,.int .i64 0,.bool false]):=η (q8R (by unfold isR;rw[ε (by omega)];rfl))
  have hd:decide (((s.length:Int)-12)<(a:Int))=true:=by simp;omega
  go_enter Tryz.func164,Tryz.ntmps164;go_wp2_with fail;go_ret3;rw[v.o];exact⟨rfl,Ext.refl _⟩
 have b0:decide (((s.length:Int)-12)<(a:Int))=false:=by simp;omega
 obtain⟨X,F⟩: ∃X,(s.drop a).take 4=X:=⟨_,rfl⟩
 have J:X.length=4:=by rw[<-F];simp;omega
 have f0:=q3B s (a:Int) ((a:Int)+4) a (a+4) rfl (by omega) (by omega) (by omega) (by rw[q6I,F]);obtain⟨n,G⟩: ∃n,q4M s a=n:=⟨_,rfl⟩
 have y:q1W (X.take 8)=n:=by rw[Δ (by omega),<-F,<-G];rfl
 have c0:n<4294967296:=by rw[<-y];have:=q2R (X.take 8);rw[Θ,J] at this;exact this
 have D:=η (fun W=>z0S X W (by omega));rw[y] at D;by_cases h2:2000<n\/s.length<a+n+12
 ·have v:Hd (z1n s a= .tuple #[.string ⟨#[]⟩,.int .i64 0,.bool false]):=η (q8R (by
   unfold isR;rw[G];rcases h2 with h|h
   ·rw[ε (p:=n<=2000) (by omega)];simp
   ·rw[ε (p:=a+n+12<=s.length) (by omega)];simp))
  clear F G y J;by_cases h3:2000<n
  ·have N:decide ((2000:Int)<(n:Int))=true:=by simp;omega
   go_enter Tryz.func164,Tryz.ntmps164;go_wp2_with fail;refine(D.o _).mono ?_;rintro e w1 ⟨rfl,l⟩;have x:=η l;clear l;go_wp2_with fail;go_ret3;rw[v.o];exact⟨rfl,x.o⟩
  ·have h4:s.length<a+n+12:=by omega
   have N:decide ((2000:Int)<(n:Int))=false:=by simp;omega
   have U:decide ((s.length:Int)-12-(a:Int)<(n:Int))=true:=by simp;omega
   go_enter Tryz.func164,Tryz.ntmps164;go_wp2_with fail;refine(D.o _).mono ?_;rintro e w1 ⟨rfl,l⟩;have x:=η l;clear l;go_wp2_with fail;go_ret3;rw[v.o];exact⟨rfl,x.o⟩
 have h5:n<=2000:=by omega
 have h6:a+n+12<=s.length:=by omega
 have N:decide ((2000:Int)<(n:Int))=false:=by simp;omega
 have U:decide ((s.length:Int)-12-(a:Int)<(n:Int))=false:=by simp;omega
 obtain⟨Y,M⟩: ∃Y,(s.drop a).take (n+8)=Y:=⟨_,rfl⟩
 have C:Y.length=n+8:=by rw[<-M];simp;omega
 have g0:=q3B s (a:Int) ((a:Int)+(n:Int)+12-4) a (a+(n+8)) rfl (by omega) (by omega) (by omega) (by rw[q6I,M]);obtain⟨Z,S⟩: ∃Z,(s.drop (a+n+8)).take 4=Z:=⟨_,rfl⟩
 have h0:=q3B s ((a:Int)+(n:Int)+12-4) ((a:Int)+(n:Int)+12) (a+n+8) (a+n+8+4) (by omega) (by omega) (by omega) (by omega) (by rw[q6I,S]);have E:=η (fun W=>z4g Y W (by omega));have hi:isR s a=(q2Q Y&&decide (Z=X)):=by
  unfold isR;rw[G,ζ (p:=a+12<=s.length) (by omega),ζ h5,ζ h6,M,S,F];simp
 have B:q2Q Y=true->(q2K Y).drop 4=(s.drop (a+4)).take n:=fun h=>by
  unfold q2K;rw[ξ h,C,<-M,List.take_take,List.drop_take,List.drop_drop]
  congr 1;omega
 have I:q2Q Y=true->(q2K Y).length=n+4:=fun h=>by
  unfold q2K;rw[ξ h,Θ,C];omega
 have V:q5d s a=if isR s a then some ((s.drop (a+4)).take n,a+n+12) else none:=by unfold q5d;rw[G]
 have O:=η hi;have HP:=η B;have Q:=η I;have HS:=η V;clear F G y S M C hi B I V h2 h1;generalize q2K Y=T at*
 cases l:q2Q Y with
 | false=>
  have v:Hd (z1n s a= .tuple #[.string ⟨#[]⟩,.int .i64 0,.bool false]):=η (q8R (by rw[O.o,l];rfl));rw[l] at E;go_enter Tryz.func164,Tryz.ntmps164;go_wp2_with fail;refine(D.o _).mono ?_;rintro e w1 ⟨rfl,b⟩;have x:=η b;clear b;go_wp2_with fail;refine(E.o _).mono ?_;rintro e w2 ⟨rfl,d⟩;have m:=η (x.o.trans d);clear d;go_wp2_with fail;refine q0E (by kernel_rfl) (by kernel_rfl) ?_
  repeat (go_big_quiet_step (fail))
  refine wpQuiet_nil ?_;intro w3 j;have q:=η (m.o.trans j);clear j;go_wp2_with fail;go_ret3;rw[v.o];exact⟨rfl,q.o⟩
 | true =>
  by_cases u:Z=X
  ·have v:Hd (z1n s a= .tuple #[.string ⟨(T.drop 4).toArray⟩,.int .i64 ((a:Int)+(n:Int)+12),.bool true]):=η (by
    unfold z1n;rw[HS.o,O.o,l,u,HP.o l]
    simp)
   have R:=Q.o l;have e0: ∀w,(Instr.slice 9 (.string ⟨T.toArray⟩) (some (.int .i64 4)) none none).run Tryz.prog w= .ok (.string ⟨(T.drop 4).toArray⟩) w:=fun w=>by
    exact q3a T 4 4 rfl (by omega) w
   rw[l] at E;generalize T.drop 4=T4 at*;subst u;go_enter Tryz.func164,Tryz.ntmps164;go_wp2_with fail;refine(D.o _).mono ?_;rintro e w1 ⟨rfl,b⟩;have x:=η b;clear b;go_wp2_with fail;refine(E.o _).mono ?_;rintro e w2 ⟨rfl,d⟩;have m:=η (x.o.trans d);clear d;go_wp2_with fail;refine q0E (by kernel_rfl) (by kernel_rfl) ?_
   repeat (go_big_quiet_step (fail))
   refine wpQuiet_nil ?_;intro w3 j;have q:=η (m.o.trans j);clear j;go_wp2_with fail;go_ret3;rw[v.o];exact⟨rfl,q.o⟩
  ·have v:Hd (z1n s a= .tuple #[.string ⟨#[]⟩,.int .i64 0,.bool false]):=η (q8R (by rw[O.o,ε u,Bool.and_false]))
   have d0:(Z==X)=false:=by simpa using u
   have a0:(Z !=X)=true:=by simpa using u
   rw[l] at E;go_enter Tryz.func164,Tryz.ntmps164;go_wp2_with fail;refine(D.o _).mono ?_;rintro e w1 ⟨rfl,b⟩;have x:=η b;clear b;go_wp2_with fail;refine(E.o _).mono ?_;rintro e w2 ⟨rfl,d⟩;have m:=η (x.o.trans d);clear d;go_wp2_with fail;refine q0E (by kernel_rfl) (by kernel_rfl) ?_
   repeat (go_big_quiet_step (fail))
   refine wpQuiet_nil ?_;intro w3 j;have q:=η (m.o.trans j);clear j;go_wp2_with fail;go_ret3;rw[v.o];exact⟨rfl,q.o⟩
theorem q9z(n:Nat)(w:World)(y:n<200):
  Calls Tryz.prog 213 #[.int .i64 (n:Int)] w fun e w'=>e= .returned (.string ⟨(q1e n).toArray⟩)/\Ext w w':=by
 have x:decide ((200:Int)<=(n:Int))=false:=by simp;omega
 have s:Hd (q1e n=q1S ([99,104,110,107]++be 4 n)):=η rfl;have m:=η (fun W=>q7a (n:Int) 4 W (by omega) (by omega) (by omega) (by omega));have u:=η (fun W=>q9l ([99,104,110,107]++be 4 n) W (by simp[q0G]));have v:(be 4 n).length=4:=q0G 4 _;rw[Int.toNat_natCast] at m;generalize q1S ([99,104,110,107]++be 4 n)=Y at*;generalize be 4 n=X at*;go_enter Tryz.func213,Tryz.ntmps213;go_wp2_with fail;refine(m.o _).mono ?_;rintro e w1 ⟨rfl,d⟩;have q:=η d;clear d;go_wp2_with fail;have j:=q3c [99,104,110,107] X;have b:({data:=#[99,104,110,107]}:ByteArray)++{data:=X.toArray}=⟨([99,104,110,107]++X).toArray⟩:=j;rw[b];refine(u.o _).mono ?_;rintro e B ⟨rfl,d⟩;have l:=η (q.o.trans d);clear d;go_wp2_with fail;go_ret;exact⟨by rw[s.o];rfl,l.o⟩
theorem y3E(N:Int)(p:List UInt8)(w:World)(b:0<=N)(h1:N<=4096)(m:p.length<=2000):
  Calls Tryz.prog 148 #[.int .i64 N,.string ⟨p.toArray⟩] w fun e w'=>e= .returned (.bool (decide ((p.length:Int)+12<=4096-N)))/\w=w':=by
 have d:decide ((0:Int)<=N)=true:=by simpa using b
 have j:decide (N<=(4096:Int))=true:=by simpa using h1
 have l:decide ((p.length:Int)<=(2000:Int))=true:=by simp;omega
 go_enter Tryz.func148,Tryz.ntmps148;go_wp2_with fail;go_ret;exact⟨rfl,rfl⟩
def z1E(s p:List UInt8):Bool:=decide (p.length<=s.length)&&(s.take p.length==p)
theorem z1u(s p:List UInt8)(w:World)(j:s.length<=9223372036854775807)(l:p.length<=9223372036854775807):
  Calls Tryz.prog 244 #[.string ⟨s.toArray⟩,.string ⟨p.toArray⟩] w fun e w'=>e= .returned (.bool (z1E s p))/\w=w':=by
 by_cases h:p.length<=s.length
 ·have b:Hd (z1E s p=(s.take p.length==p)):=η (by unfold z1E;rw[ζ h,Bool.true_and])
  have d:decide ((p.length:Int)<=(s.length:Int))=true:=by simp;omega
  go_enter Tryz.func244,Tryz.ntmps244;go_wp2_with fail;go_ret;rw[b.o];exact⟨rfl,rfl⟩
 ·have b:Hd (z1E s p=false):=η (by unfold z1E;rw[ε h,Bool.false_and])
  have d:decide ((p.length:Int)<=(s.length:Int))=false:=by simp;omega
  go_enter Tryz.func244,Tryz.ntmps244;go_wp2_with fail;go_ret;rw[b.o];exact⟨rfl,rfl⟩
theorem q5j(s p:List UInt8)(w:World)(b:s.length<=9223372036854775807)(d:p.length<=9223372036854775807):
  Calls Tryz.prog 221 #[.string ⟨s.toArray⟩,.string ⟨p.toArray⟩] w fun e w'=>e= .returned (.bool (z1E s p))/\w=w':=by
 go_enter Tryz.func221,Tryz.ntmps221;go_wp2_with fail;refine(z1u s p _ b d).mono ?_;rintro e w1 ⟨rfl,rfl⟩;go_wp2_with fail;go_ret;exact⟨rfl,rfl⟩
theorem q4j : ∀(ps:List (List UInt8)) (a:Nat),∀r∈q2D a ps,a<=r.1/\r.1+r.2.length+12<=a+(ps.map fun p=>p.length+12).sum
 |[],_,r,h=>by cases h
 | p ::t,a,r,h=>by
  rw[q2D] at h;rcases List.mem_cons.1 h with rfl|h
  ·simp only[List.map_cons,List.sum_cons];omega
  ·have:=q4j t _ r h
   simp only[List.map_cons,List.sum_cons];omega
theorem q6Y : ∀(C:Cks) (b:Nat),(∀ps∈C,q0I ps<=4096)-> ∀r∈q0k b C,b+12<=r.1/\r.1<b+4096*C.length
 |[],_,_,r,h=>by cases h
 | ps ::t,b,hs,r,h=>by
  rw[q0k] at h;have h1:=hs ps (List.mem_cons_self);unfold q0I at h1;rcases List.mem_append.1 h with h|h
  ·have:=q4j ps _ r h
   simp only[χ];omega
  ·have:=q6Y t _ (fun q hq=>hs q (List.mem_cons_of_mem _ hq)) r h
   simp only[χ];omega
theorem q5v : ∀(C:Cks) (b n:Nat),q0k b C=q0k b (C.take n)++q0k (b+4096*n) (C.drop n)
 |C,b,0=>by simp[q0k]
 |[],b,n+1=>by simp[q0k]
 | ps::t,b,n+1=>by
  rw[List.take_succ_cons,List.drop_succ_cons,q0k,q0k,q5v t (b+4096) n,List.append_assoc]
  congr 3;omega
theorem z2I(C D:Cks)(b:Nat):q0k b (C++D)=q0k b C++q0k (b+4096*C.length) D:=by
 have:=q5v (C++D) b C.length
 rwa [List.take_left,List.drop_left] at this
theorem z7X{pos:Int}{l m:List (Nat×List UInt8)}(h: ∀r∈l,(r.1:Int)<pos):(l++m).find? (fun r=>decide (pos<=(r.1:Int)))=m.find? fun r=>decide (pos<=(r.1:Int)):=by
 rw[List.find?_append];have:l.find? (fun r=>decide (pos<=(r.1:Int)))=none:=List.find?_eq_none.2 fun r b=>by have:=h r b;simp;omega
 rw[this];rfl
theorem z3R(C:Cks)(pos:Int)(d: ∀ps∈C,q0I ps<=4096)(n:Nat)(j:(n:Int)*4096<=pos):q4E C pos=(q0k (4096*n) (C.drop n)).find? fun r=>decide (pos<=(r.1:Int)):=by
 unfold q4E;rw[q5v C 0 n,Nat.zero_add];refine z7X fun r b=>?_
 have:=q6Y (C.take n) 0 (fun ps h=>d ps (List.mem_of_mem_take h)) r b;have h2:(C.take n).length<=n:=List.length_take_le _ _;omega
theorem q5D : ∀(ps:List (List UInt8)) (a:Nat),(q2D a ps).length=ps.length
 |[],_=>rfl
 |p::t,a=>by simp[q2D,q5D t]
theorem z4q : ∀(ps:List (List UInt8)) (a k:Nat) (p:List UInt8),ps[k]? =some p->(q2D a ps)[k]? =some (a+((ps.take k).map fun p=>p.length+12).sum,p)
 |[],_,k,p,h=>by simp at h
 | q::t,a,0,p,h=>by
  simp only[List.getElem?_cons_zero,Option.some.injEq] at h;subst h;simp[q2D]
 | q::t,a,k+1,p,h=>by
  rw[List.getElem?_cons_succ] at h;rw[q2D,List.getElem?_cons_succ,z4q t _ k p h,List.take_succ_cons,List.map_cons,List.sum_cons]
  congr 2;omega
theorem q9j : ∀(ps:List (List UInt8)) (a k:Nat) (p:List UInt8),ps[k]? =some p->(q1d a ps)[k]? =some (a+((ps.take k).map fun p=>p.length+12).sum,a+((ps.take k).map fun p=>p.length+12).sum+p.length+12)
 |[],_,k,p,h=>by simp at h
 | q::t,a,0,p,h=>by
  simp only[List.getElem?_cons_zero,Option.some.injEq] at h;subst h;simp[q1d]
 | q::t,a,k+1,p,h=>by
  rw[List.getElem?_cons_succ] at h;rw[q1d,List.getElem?_cons_succ,q9j t _ k p h,List.take_succ_cons,List.map_cons,List.sum_cons]
  congr 2<;>omega
theorem y0t(n:Nat)(ps:List (List UInt8))(k:Nat)(p:List UInt8)(h:ps[k]? =some p)(b:p.length<=2000):q5d (q0N n ps) (q0I (ps.take k))=some (p,q0I (ps.take k)+p.length+12):=by
 obtain⟨d,rfl⟩:=List.getElem?_eq_some_iff.1 h;have e:ps=ps.take k++ps[k]::ps.drop (k+1):=by rw[List.getElem_cons_drop];exact(List.take_append_drop _ _).symm
 have:=z7e n (ps.take k) ps[k] (ps.drop (k+1)) b
 rwa [<-e] at this
theorem z1r(a b:En)(w:World):Calls Tryz.prog 216 #[enV a,enV b] w fun e w'=>e= .returned (.bool (q0u a b))/\Ext w w':=by
 obtain⟨d,j,l⟩:=a;obtain⟨b1,b2,b3⟩:=b;have m:=η (q1x w (.cells #[.int .u64 d,.int .i64 j,.int .i64 l] 165) (.cells #[.int .u64 b1,.int .i64 b2,.int .i64 b3] 165));have q:Hd (q0u (d,j,l) (b1,b2,b3)=if d≠b1 then decide (d<b1) else if j≠b2 then decide (j<b2) else decide (l<b3)):=η rfl;show Calls Tryz.prog 216 #[.agg #[.int .u64 d,.int .i64 j,.int .i64 l],.agg #[.int .u64 b1,.int .i64 b2,.int .i64 b3]] w _;by_cases h1:d=b1
 ·subst h1
  by_cases h2:j=b2
  ·subst h2
   go_enter Tryz.func216,Tryz.ntmps216;go_wp2_with fail;go_ret;exact⟨rb (by rw[q.o];simp),m.o⟩
  ·have s:(j !=b2)=true:=by simpa using h2
   go_enter Tryz.func216,Tryz.ntmps216;go_wp2_with fail;go_ret;exact⟨rb (by rw[q.o];simp[h2]),m.o⟩
 ·have s:(d !=b1)=true:=by simpa using h1
  go_enter Tryz.func216,Tryz.ntmps216;go_wp2_with fail;go_ret;exact⟨rb (by rw[q.o];simp[h1]),m.o⟩
theorem q9n{L:List En}(l:k+1<L.length):q2f (L.take (k+2))=(q2f (L.take (k+1))&&q0u (L.getD k en0) (L.getD (k+1) en0)):=by
 rw[Bool.eq_iff_iff,Ξ,q3C,q3C];have j:L.take (k+2)=L.take (k+1)++[L.getD (k+1) en0]:=q0Z L en0 (k+1) l;have d:L.take (k+1)=L.take k++[L.getD k en0]:=q0Z L en0 k (by omega);rw[j];unfold q1G;rw[List.pairwise_append]
 constructor
 ·rintro⟨h1,_,h3⟩
  exact⟨h1,h3 _ (by rw[d];simp) _ (by simp)⟩
 ·rintro⟨h1,h2⟩
  refine⟨h1,by simp,fun x b y m=>?_⟩;obtain rfl:=List.mem_singleton.1 m;rw[d] at b h1;rcases List.mem_append.1 b with b|b
  ·exact q1a ((List.pairwise_append.1 h1).2.2 x b _ (by simp)) h2
  ·obtain rfl:=List.mem_singleton.1 b;exact h2
theorem z3g{L:List En}(b:k+1<L.length)(h:q0u (L.getD k en0) (L.getD (k+1) en0)=false):q2f L=false:=by
 cases hs:q2f L with
 |false=>rfl
 | true=>
  rw[q3C] at hs;have h1:q1G (L.take (k+2)):=hs.sublist (List.take_sublist _ _);rw[<-q3C,q9n b,h,Bool.and_false] at h1
  cases h1
theorem z5B{ao:Option Addr}{cap:Nat}{L:List En}(w:World)(m:Ens w ao n cap L):Calls Tryz.prog 291 #[.slice ao n cap] w fun e w'=>e= .returned (.bool (q2f L))/\Ext w w':=by
 have G:=η m;have b1:=m.fits;have b2:=m.bound;have j:=η m.len;clear m;go_enter Tryz.func291,Tryz.ntmps291;go_wp2_with fail
 go_loopw [3] (fun i W=> ∃k:Nat,k+1<=max n 1/\i= .int .i64 ((k:Int)+1)/\q2f (L.take (k+1))=true/\Ext w W) (fun i _=>n-(intOf i).toNat)
 case atStart=>
  refine⟨0,by omega,rfl,?_,Ext.refl _⟩
  cases L with
  |nil=>rfl
  |cons a r=>rfl
 case round=>
  obtain⟨k,Y,rfl,C,B⟩:=hrel;have R:=η C;have D:=η B;by_cases u:k+1<n
  ·have U:decide (((k:Int)+1)<(n:Int))=true:=by simp;omega
   obtain⟨b,off,rfl,I,J,M⟩:=(G.o.ext B).at (i:=k) (by omega);obtain⟨_,_,S,N,O,Q⟩:=(G.o.ext B).at (i:=k+1) u
   cases S;have E:=η (q9n (L:=L) (k:=k) (by rw[j.o];exact u));have v:=η (z3g (L:=L) (k:=k) (by rw[j.o];exact u));obtain⟨x,m⟩: ∃x,L.getD k en0=x:=⟨_,rfl⟩
   obtain⟨y,F⟩: ∃y,L.getD (k+1) en0=y:=⟨_,rfl⟩
   rw[m] at I J M;rw[F] at N O Q;rw[m,F] at E v;obtain⟨q,hq⟩: ∃q,q0u x y=q:=⟨_,rfl⟩
   have l:=η (fun W=>z1r x y W);rw[hq] at l E v;obtain⟨x1,x2,x3⟩:=x;obtain⟨y1,y2,y3⟩:=y;unfold enV ec at l;have Z:=q0D I;have u1:=q0D J;have u2:=q0D M;have v0:=q0D N;have v1:=q0D O;have v2:=q0D Q;have V:IntKind.i64.wrap ((k:Int)+1-1)=(k:Int):=by rw[ν];omega
   have d:IntKind.i64.wrap (k:Int)=(k:Int):=by rw[ν];omega
   clear m F C B hq
   cases q with
   | true=>
    go_wp2_with fail;refine q0E (by kernel_rfl) (by kernel_rfl) ?_
    repeat (go_big_quiet_step (first|(go_at_call 216;exact Calls.quiet_ext (l.o _))))
    refine wpQuiet_nil ?_;intro X d;have s:=η (D.o.trans d);clear d;go_wp2_with fail
    go_roundw
    case rel=>exact⟨k+1,by omega,by go_num,by rw[E.o,R.o];rfl,s.o⟩
    case measure=>simp[intOf];omega
   | false=>
    go_wp2_with fail;refine q0E (by kernel_rfl) (by kernel_rfl) ?_
    repeat (go_big_quiet_step (first|(go_at_call 216;exact Calls.quiet_ext (l.o _))))
    refine wpQuiet_nil ?_;intro X d;have s:=η (D.o.trans d);clear d;go_wp2_with fail;go_ret;exact⟨rb (v.o (by first|rfl|trivial)),s.o⟩
  ·have U:decide (((k:Int)+1)<(n:Int))=false:=by simp;omega
   have v:Hd (q2f L=true):=η (by rwa [Δ (by rw[j.o];omega)] at C);clear C B;go_wp2_with fail;go_ret;exact⟨rb v.o,D.o⟩
end
end Go.Proofs.YtfiibpgoplcgkaaGreatDoor
