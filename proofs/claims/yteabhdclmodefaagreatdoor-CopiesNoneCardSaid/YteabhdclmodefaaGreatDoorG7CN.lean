/- Plain laws. -/
import Derived.Test.YteabhdclmodefaaGreatDoorG0CN
import Derived.Sort.KeysCollected
import Derived.Lib.Hide
set_option linter.unusedVariables false
set_option linter.unusedSimpArgs false
set_option maxRecDepth 100000
set_option maxHeartbeats 200000
namespace Go.Proofs.YteabhdclmodefaaGreatDoor
section
open Go.RowKit
theorem q4X : ∀a b:List UInt8,bytesBefore a b=decide (a<b)
 |[],[]=>by simp[bytesBefore]
 |[],b::s=>by simp[bytesBefore]
 |a::r,[]=>by simp[bytesBefore]
 | a::r,b::s=>by
  unfold bytesBefore;rw[q4X r s,Bool.eq_iff_iff];simp[List.cons_lt_cons_iff]
section gen
variable {α β:Type}(k:α->List UInt8)
def q3c(x:α):List α->List α
 |[]=>[x]
 |y::r=>if bytesBefore (k x) (k y) then x::y::r else y::q3c x r
def q2l(nm:List UInt8)(l:List α):List α:=l.filter fun y=>!(k y==nm)
def q1J(nm:List UInt8)(f:α->α)(l:List α):List α:=l.map fun y=>if k y==nm then f y else y
def q0G(nm:List UInt8)(l:List α):Option α:=l.find? fun y=>k y==nm
def q3D(l:List α):Prop:=l.Pairwise fun x y=>bytesBefore (k x) (k y)=true
variable {k}
theorem q3z(x:α): ∀l:List α,(q3c k x l).Perm (x::l)
 |[]=>List.Perm.refl _
 | y::r=>by
  unfold q3c
  split
  ·exact List.Perm.refl _
  ·exact(List.Perm.cons y (q3z x r)).trans (List.Perm.swap x y r)
theorem mem_insN{x y:α}{l:List α}:y∈q3c k x l↔y=x\/y∈l:=by rw[(q3z x l).mem_iff];simp
theorem z0z(x:α)(l:List α):(q3c k x l).length=l.length+1:=by rw[(q3z x l).length_eq];rfl
theorem q8k{x:α}: ∀{l:List α},q3D k l->(∀y∈l,k y≠k x)->q3D k (q3c k x l)
 |[],_,_=>by simp[q3D,q3c]
 | y :: r,h,hne=>by
  obtain⟨h1,h2⟩:=List.pairwise_cons.1 h;unfold q3c
  split
  ·rename_i d
   refine List.pairwise_cons.2 ⟨fun z b=>?_,h⟩;rcases List.mem_cons.1 b with rfl|b
   ·exact d
   ·exact WideShapes.bytes_trans _ _ _ d (h1 z b)
  ·rename_i d
   have i:bytesBefore (k y) (k x)=true:=by
    rcases WideAt.bytes_total _ _ (hne y (List.mem_cons_self)) with h|h
    ·exact h
    ·exact absurd h d
   refine List.pairwise_cons.2 ⟨fun z b=>?_,q8k h2 fun z b=>hne z (List.mem_cons_of_mem _ b)⟩;rcases mem_insN.1 b with rfl|b
   ·exact i
   ·exact h1 z b
theorem q8X{nm:List UInt8}{l:List α}(h:q3D k l):q3D k (q2l k nm l):=h.filter _
theorem mem_delN{nm:List UInt8}{x:α}{l:List α}:x∈q2l k nm l↔x∈l/\k x≠nm:=by simp[q2l,List.mem_filter]
theorem q9I{nm:List UInt8}{f:α->α}{l:List α}(h:q3D k l)(i: ∀y,k y=nm->k (f y)=nm):q3D k (q1J k nm f l):=by
 refine List.pairwise_map.2 (h.imp fun {x y} d=>?_);have e: ∀z,k (if k z==nm then f z else z)=k z:=fun z=>by
  split
  ·rename_i j
   have b:k z=nm:=by simpa using j
   rw[i z b,b]
  ·rfl
 rw[e,e];exact d
theorem q7L{nm:List UInt8}{f:α->α}(l:List α):(q1J k nm f l).length=l.length:=by simp[q1J]
theorem q0M{nm:List UInt8}{l:List α}{e:α}(h:q0G k nm l=some e):e∈l/\k e=nm:=⟨List.mem_of_find?_eq_some h,by simpa using List.find?_some h⟩
theorem q1s{nm:List UInt8}{l:List α}(h:q0G k nm l=none): ∀y∈l,k y≠nm:=fun y hy=>by simpa using List.find?_eq_none.1 h y hy
theorem q0T{nm:List UInt8}{l:List α}(h: ∀y∈l,k y≠nm):q0G k nm l=none:=List.find?_eq_none.2 fun y b=>by simpa using h y b
theorem q9y{l:List α}(h:q3D k l):l.Pairwise fun x y=>k x≠k y:=h.imp fun {x y} b e=>by rw[e,WideAt.bytes_irrefl] at b;cases b
theorem q5W{l:List α}(h:q3D k l){x y:α}(j:x∈l)(o:y∈l)(e:k x=k y):x=y:=by
 have m:=q9y h;clear h
 induction l with
 |nil=>cases j
 | cons a r ih=>
  obtain⟨h1,h2⟩:=List.pairwise_cons.1 m;rcases List.mem_cons.1 j with ex|b<;>rcases List.mem_cons.1 o with i|d
  ·rw[ex,i]
  ·subst ex;exact absurd e (h1 y d)
  ·subst i;exact absurd e.symm (h1 x b)
  ·exact ih b d h2
theorem q5B{nm:List UInt8}{l:List α}(h:q3D k l){e:α}(he:e∈l)(b:k e=nm):q0G k nm l=some e:=by
 cases hf:q0G k nm l with
 |none=>exact absurd b (q1s hf e he)
 |some e'=>obtain⟨h1,h2⟩:=q0M hf;rw[q5W h h1 he (h2.trans b.symm)]
theorem q4u{nm:List UInt8}{l:List α}(h:q0G k nm l=none):q2l k nm l=l:=List.filter_eq_self.2 fun y b=>by simpa using q1s h y b
theorem q5P{nm:List UInt8}{f:α->α}{l:List α}(h:q0G k nm l=none):q1J k nm f l=l:=by
 unfold q1J
 conv=>rhs;rw[<-List.map_id l]
 exact List.map_congr_left fun y b=>by rw[κ (by simpa using q1s h y b)];rfl
theorem q4J{nm:List UInt8}{f:α->α}{l:List α}(h:q3D k l){e:α}(i:q0G k nm l=some e){y:α}:y∈q1J k nm f l↔y=f e\/(y∈l/\k y≠nm):=by
 obtain⟨h1,h2⟩:=q0M i;unfold q1J;rw[List.mem_map]
 constructor
 ·rintro⟨z,d,rfl⟩
  by_cases b:k z=nm
  ·obtain rfl:=q5W h d h1 (b.trans h2.symm)
   left;rw[ξ (by simpa using b)]
  ·right;rw[κ (by simpa using b)];exact⟨d,b⟩
 ·rintro(rfl|⟨j,b⟩)
  ·exact⟨e,h1,by rw[ξ (by simpa using h2)]⟩
  ·exact⟨y,j,by rw[κ (by simpa using b)]⟩
theorem q8u{S:α->α->Prop}{nm:List UInt8}{f:α->α}{l:List α}(h:q3D k l)(q:l.Pairwise S){e:α}(r:q0G k nm l=some e)(h1: ∀y∈l,k y≠nm->S (f e) y/\S y (f e)):(q1J k nm f l).Pairwise S:=by
 obtain⟨he,i⟩:=q0M r;refine List.pairwise_map.2 ((q.and (q9y h)).imp_of_mem fun {x y} m o ⟨u,j⟩=>?_);by_cases d:k x=nm
 ·have b:k y≠nm:=fun e=>j (d.trans e.symm)
  obtain rfl:=q5W h m he (d.trans i.symm);rw[ξ (by simpa using d),κ (by simpa using b)];exact(h1 y o b).1
 ·rw [κ (by simpa using d)]
  by_cases b:k y=nm
  ·obtain rfl:=q5W h o he (b.trans i.symm)
   rw[ξ (by simpa using b)];exact(h1 x m d).2
  ·rw[κ (by simpa using b)];exact u
section map
variable {k' :β->List UInt8}{h:α->β}(hk: ∀x,k' (h x)=k x)
include hk
theorem q8j(x:α): ∀l:List α,(q3c k x l).map h=q3c k' (h x) (l.map h)
 |[]=>rfl
 | y::r=>by
  unfold q3c;simp only[List.map_cons,hk]
  split
  ·rfl
  ·rw[List.map_cons,q8j x r]
theorem z1w(nm:List UInt8)(l:List α):(q2l k nm l).map h=q2l k' nm (l.map h):=by
 unfold q2l;rw[List.filter_map];congr 1;exact List.filter_congr fun y _=>by simp[hk]
theorem z2t(nm:List UInt8)(f:α->α)(g:β->β)(b: ∀y,h (f y)=g (h y))(l:List α):(q1J k nm f l).map h=q1J k' nm g (l.map h):=by
 unfold q1J;rw[List.map_map,List.map_map];refine List.map_congr_left fun y _=>?_
 simp only[Function.comp,hk];split<;>simp[b]
theorem z5r{nm:List UInt8}{f:α->α}{g:β->β}{l:List α}(m:q3D k l){e:α}(j:q0G k nm l=some e)(d:h (f e)=g (h e)):(q1J k nm f l).map h=q1J k' nm g (l.map h):=by
 obtain⟨he,b⟩:=q0M j;unfold q1J;rw[List.map_map,List.map_map];refine List.map_congr_left fun y o=>?_
 simp only[Function.comp,hk]
 split
 ·rename_i q
  have i:k y=nm:=by simpa using q
  rw[q5W m o he (i.trans b.symm)];exact d
 ·rfl
theorem q1l(nm:List UInt8)(l:List α):q0G k' nm (l.map h)=(q0G k nm l).map h:=by
 unfold q0G;rw[List.find?_map];congr 2;funext y;simp[hk]
theorem z1J{l:List α}:q3D k' (l.map h)↔q3D k l:=by
 unfold q3D;rw[List.pairwise_map];simp only[hk]
end map
def q5Q(s:α->Nat)(l:List α):Nat:=(l.map s).sum
theorem z7X(s:α->Nat)(x:α)(l:List α):q5Q s (q3c k x l)=s x+q5Q s l:=by
 unfold q5Q;rw[((q3z x l).map s).sum_nat];simp
theorem z2n(s:α->Nat){nm:List UInt8}: ∀{l:List α},q3D k l-> ∀{e:α},q0G k nm l=some e->q5Q s (q2l k nm l)+s e=q5Q s l
 |[],_,_,hf=>by simp[q0G] at hf
 | a :: r,h,e,hf=>by
  obtain⟨h1,h2⟩:=List.pairwise_cons.1 h;by_cases b:k a=nm
  ·have j:a=e:=by unfold q0G at hf;rw[List.find?_cons_of_pos (by simpa using b)] at hf;exact Option.some.inj hf
   subst j;have d:q2l k nm (a::r)=r:=by
    unfold q2l;rw[List.filter_cons_of_neg (by simp[b])];refine List.filter_eq_self.2 fun y o=>?_
    have:=h1 y o;simp only[Bool.not_eq_true',beq_eq_false_iff_ne];intro m;rw[m,<-b,WideAt.bytes_irrefl] at this
    cases this
   rw[d];simp[q5Q];omega
  ·have i:q0G k nm r=some e:=by unfold q0G at hf⊢;rwa [List.find?_cons_of_neg (by simpa using b)] at hf
   have q:=z2n s h2 i;have d:q2l k nm (a::r)=a::q2l k nm r:=by unfold q2l;rw[List.filter_cons_of_pos (by simpa using b)]
   rw[d];simp only[q5Q,List.map_cons,List.sum_cons] at q⊢;omega
theorem q6P(s:α->Nat){nm:List UInt8}{f:α->α}: ∀{l:List α},q3D k l-> ∀{e:α},q0G k nm l=some e->q5Q s (q1J k nm f l)+s e=q5Q s l+s (f e)
 |[],_,_,hf=>by simp[q0G] at hf
 | a ::r,h,e,hf=>by
  obtain⟨h1,h2⟩:=List.pairwise_cons.1 h;by_cases b:k a=nm
  ·have m:a=e:=by unfold q0G at hf;rw[List.find?_cons_of_pos (by simpa using b)] at hf;exact Option.some.inj hf
   subst m;have d:q1J k nm f r=r:=q5P (q0T fun y o i=>by have:=h1 y o;rw[i,<-b,WideAt.bytes_irrefl] at this;cases this);have i:q1J k nm f (a::r)=f a::q1J k nm f r:=by unfold q1J;rw[List.map_cons,ξ (by simpa using b)]
   rw[i,d];simp[q5Q];omega
  ·have j:q0G k nm r=some e:=by unfold q0G at hf⊢;rwa [List.find?_cons_of_neg (by simpa using b)] at hf
   have q:=q6P s (f:=f) h2 j;have d:q1J k nm f (a::r)=a::q1J k nm f r:=by unfold q1J;rw[List.map_cons,κ (by simpa using b)]
   rw[d];simp only[q5Q,List.map_cons,List.sum_cons] at q⊢;omega
theorem q6O(s:α->Nat): ∀{l:List α} {e:α},e∈l->s e<=q5Q s l
 | a::r,e,h=>by
  rcases List.mem_cons.1 h with rfl|h
  ·simp[q5Q]
  ·have:=q6O s h;simp only[q5Q,List.map_cons,List.sum_cons] at this⊢;omega
end gen
structure FM where
 nm:List UInt8
 da:List UInt8
 sy:Nat
structure DM where
 cap:Int
 L:List FM
 reads:Int
 starts:Int
 down:Bool
 fail:Bool
 left:Int
 keep:List Int
def q0O(L:List FM):Nat:=q5Q (fun f=>f.da.length) L
def q3j(nm:List UInt8):Bool:=!nm.isEmpty&&decide (nm.length<=12)
structure okD(σ:DM):Prop where
 cap0:0<=σ.cap
 cap1:σ.cap<=1048576
 used:(q0O σ.L:Int)<=σ.cap
 ord:q3D FM.nm σ.L
 sy: ∀f∈σ.L,f.sy<=f.da.length
 many:σ.L.length<=400
 left:0<=σ.left
 idle:σ.fail=false->σ.left=0
 keep:σ.keep.length<=1000000
 left1:σ.left<=9223372036854775807
def q2B(σ:DM):Bool:=σ.fail&&decide (σ.left=0)
def q2Y(σ:DM):DM:={σ with left:=max (σ.left-1) 0}
def q3i(f:FM)(more:Int):FM:={f with da:=f.da.take (f.sy+min (max more 0).toNat (f.da.length-f.sy)),sy:=f.sy+min (max more 0).toNat (f.da.length-f.sy)}
def q1V :List FM->List Int->List FM
 |[],_=>[]
 |f::r,ks=>q3i f (ks.headD 0)::q1V r ks.tail
def z1u(σ:DM)(ks:List Int):DM:={σ with L:=q1V σ.L ks,down:=true,fail:=false,left:=0,keep:=[]}
def q5M(σ:DM):DM:=z1u σ σ.keep
def q1z(σ:DM)(nm:List UInt8):Int×DM:=
 if σ.down then(61,σ) else if !q3j nm then(2,σ) else if (q0G FM.nm nm σ.L).isSome then(62,σ) else if 400<=σ.L.length then(60,σ)
 else if q2B σ then(61,q5M σ) else(0,{q2Y σ with L:=q3c FM.nm ⟨nm,[],0⟩ σ.L})
def q7e(σ:DM)(nm s:List UInt8):DM:={σ with L:=q1J FM.nm nm (fun f=>{f with da:=f.da++s}) σ.L}
def q1w(σ:DM)(nm s:List UInt8):Int×DM:=
 if σ.down then(61,σ) else if (q0G FM.nm nm σ.L).isNone then(4,σ) else if σ.cap-(q0O σ.L:Int)<(s.length:Int) then(60,σ)
 else if q2B σ then(61,q5M (q7e σ nm s)) else(0,q2Y (q7e σ nm s))
def q2N(σ:DM):DM:={σ with reads:=wrap64 (σ.reads+1)}
def q1Z(σ:DM)(nm:List UInt8)(at_ n:Int):List UInt8×Int×DM:=
 if σ.down then([],61,σ) else match q0G FM.nm nm σ.L with
 |none=>([],4,q2N σ)
 |some f=>if 0<=at_/\0<=n/\at_<=(f.da.length:Int)/\n<=(f.da.length:Int)-at_ then((f.da.drop at_.toNat).take n.toNat,0,q2N σ) else([],2,q2N σ)
def q6B(σ:DM)(nm:List UInt8):Int×DM:=
 if σ.down then(61,σ) else if (q0G FM.nm nm σ.L).isNone then(4,σ) else if q2B σ then(61,q5M σ)
 else(0,{q2Y σ with L:=q1J FM.nm nm (fun f=>{f with sy:=f.da.length}) σ.L})
def q1N(σ:DM)(nm:List UInt8):Int×DM:=
 if σ.down then(61,σ) else if (q0G FM.nm nm σ.L).isNone then(4,σ) else if q2B σ then(61,q5M σ) else(0,{q2Y σ with L:=q2l FM.nm nm σ.L})
def q1U(σ:DM)(nm:List UInt8):Int×Int:=
 if σ.down then(0,61) else match q0G FM.nm nm σ.L with|none=>(0,4)|some f=>((f.da.length:Int),0)
def q1Y(σ:DM):List (List UInt8):=σ.L.map FM.nm
def z0t(σ:DM):Int:=σ.cap-(q0O σ.L:Int)
def q4s(n:Nat)(f:FM):FM:={f with da:=f.da.take n,sy:=min f.sy (min n f.da.length)}
end
section
open Go.RowKit
def q3w(L:List FM)(xs:List Int)(i:Nat):List FM:=q1V (L.take i) xs++L.drop i
theorem q4r : ∀(L:List FM) (xs:List Int),(q1V L xs).length=L.length
 |[],_=>rfl
 |f::r,xs=>by simp[q1V,q4r r]
theorem z4P(f:FM)(x:Int):(q3i f x).nm=f.nm:=rfl
theorem q6Z : ∀(L:List FM) (xs:List Int),(q1V L xs).map FM.nm=L.map FM.nm
 |[],_=>rfl
 |f::r,xs=>by simp[q1V,q6Z r,z4P]
theorem z4S(L:List FM)(b:List Int):q3w L b 0=L:=by simp[q3w,q1V]
theorem z6T(L:List FM)(b:List Int):q3w L b L.length=q1V L b:=by simp[q3w]
theorem z0n(L:List FM)(b:List Int)(i:Nat):(q3w L b i).map FM.nm=L.map FM.nm:=by
 unfold q3w;rw[List.map_append,q6Z,<-List.map_append,List.take_append_drop]
theorem z2X{L b:List FM}(h:q3D FM.nm L)(e:b.map FM.nm=L.map FM.nm):q3D FM.nm b:=by
 have h1:q3D (fun x:List UInt8=>x) (L.map FM.nm):=(z1J (k:=FM.nm) (h:=FM.nm) fun x=>rfl).2 h;rw[<-e] at h1;exact(z1J (k:=FM.nm) (h:=FM.nm) fun x=>rfl).1 h1
theorem z4p(b:List Int)(i:Nat):b.tail.getD i 0=b.getD (i+1) 0:=by
 cases b<;>simp[δ]
theorem z3U(b:List Int):b.headD 0=b.getD 0 0:=by cases b<;>simp
theorem q6a : ∀(l:List FM) (f:FM) (xs:List Int),q1V (l++[f]) xs=q1V l xs++[q3i f (xs.getD l.length 0)]
 |[],f,xs=>by simp only[List.nil_append,q1V,List.length_nil,z3U]
 | a::r,f,xs=>by
  rw[List.cons_append,q1V,q1V,q6a r f xs.tail,z4p]
  rfl
theorem z1g{nm:List UInt8}{h:FM->FM}{a c:List FM}{f:FM}(d:f.nm=nm)(m:q3D FM.nm (a++f::c)):q1J FM.nm nm h (a++f::c)=a++h f::c:=by
 have b:=q9y m;rw[List.pairwise_append] at b;obtain⟨_,h2,h3⟩:=b;have j:q1J FM.nm nm h a=a:=q5P (q0T fun y i e=>h3 y i f (by simp) (e.trans d.symm));have hc:q1J FM.nm nm h c=c:=q5P (q0T fun y i e=>(List.pairwise_cons.1 h2).1 y i (d.trans e.symm));unfold q1J at j hc⊢;rw[List.map_append,List.map_cons,j,hc,ξ (by simpa using d)]
theorem q9Z{L:List FM}(b:List Int){i:Nat}(d:i<L.length)(q:q3D FM.nm L):
  q0G FM.nm L[i].nm (q3w L b i)=some L[i]/\ ∀h:FM->FM,h L[i]=q3i L[i] (b.getD i 0)->q1J FM.nm L[i].nm h (q3w L b i)=q3w L b (i+1):=by
 have m:q3w L b i=q1V (L.take i) b++L[i]::L.drop (i+1):=by unfold q3w;rw[List.drop_eq_getElem_cons d]
 have j:q3D FM.nm (q3w L b i):=z2X q (z0n L b i);have hm:L[i]∈q3w L b i:=by rw[m];exact List.mem_append_right _ List.mem_cons_self
 refine⟨q5B j hm rfl,fun h o=>?_⟩;rw[m] at j⊢;rw[z1g rfl j,o];unfold q3w;rw[List.take_succ_eq_append_getElem d,q6a,Θ,Nat.min_eq_left (Nat.le_of_lt d)];simp
theorem z3p{nm:List UInt8}{h b:FM->FM}{L:List FM}(hk: ∀y,(h y).nm=y.nm):q1J FM.nm nm b (q1J FM.nm nm h L)=q1J FM.nm nm (fun y=>b (h y)) L:=by
 unfold q1J;rw[List.map_map];refine List.map_congr_left fun y _=>?_
 simp only[Function.comp];by_cases e:(y.nm==nm)=true
 ·rw[ξ e,ξ (by rw[hk];exact e),ξ e]
 ·rw[κ e,κ e,κ e]
theorem z4O(f:FM)(x:Int):(q3i f x).da.length<=f.da.length:=by simp[q3i];omega
theorem z4Q(f:FM)(x:Int)(h:f.sy<=f.da.length):(q3i f x).sy=(q3i f x).da.length:=by simp[q3i];omega
theorem q7M : ∀(L:List FM) (xs:List Int),q0O (q1V L xs)<=q0O L
 |[],_=>ι _
 | f::r,xs=>by
  have:=q7M r xs.tail;have:=z4O f (xs.headD 0);unfold q0O q5Q at*;simp only[q1V,List.map_cons,List.sum_cons];omega
theorem q5r(a b:List FM):q0O (a++b)=q0O a+q0O b:=by simp[q0O,q5Q]
theorem z3q(L:List FM)(b:List Int)(i:Nat):q0O (q3w L b i)<=q0O L:=by
 unfold q3w;have e:q0O L=q0O (L.take i)+q0O (L.drop i):=by rw[<-q5r,List.take_append_drop]
 rw[q5r,e];have:=q7M (L.take i) b;omega
theorem q9Y : ∀(L:List FM) (xs:List Int),(∀f∈L,f.sy<=f.da.length)-> ∀f∈q1V L xs,f.sy=f.da.length
 |[],_,_=>by simp[q1V]
 | a::r,xs,h=>by
  intro f b;rw[q1V] at b;rcases List.mem_cons.1 b with rfl|b
  ·exact z4Q _ _ (h a (by simp))
  ·exact q9Y r xs.tail (fun g d=>h g (by simp[d])) f b
theorem z6R{σ:DM}(h:okD σ)(b:List Int):okD (z1u σ b):=by
 refine⟨h.cap0,h.cap1,?_,z2X h.ord (q6Z _ _),fun f d=>Nat.le_of_eq (q9Y _ _ h.sy f d),?_,Int.le_refl _,fun _=>rfl,υ _,by show(0:Int)<=_;decide⟩
 ·have:=h.used
  have:=q7M σ.L b;show(q0O (q1V σ.L b):Int)<=σ.cap;omega
 ·show(q1V σ.L b).length<=400
  rw[q4r];exact h.many
theorem z0S{L:List FM}{nm:List UInt8}{f:FM->FM}(d:q3D FM.nm L){e:FM}(b:q0G FM.nm nm L=some e):q0O (q1J FM.nm nm f L)+e.da.length=q0O L+(f e).da.length:=q6P _ d b
theorem z0P{L:List FM}{nm:List UInt8}(d:q3D FM.nm L){e:FM}(b:q0G FM.nm nm L=some e):q0O (q2l FM.nm nm L)+e.da.length=q0O L:=z2n _ d b
theorem z0R(x:FM)(L:List FM):q0O (q3c FM.nm x L)=x.da.length+q0O L:=z7X _ x L
theorem q7N{L:List FM}{e:FM}(h:e∈L):e.da.length<=q0O L:=q6O (fun f:FM=>f.da.length) h
theorem okD.tick{σ:DM}(h:okD σ):okD (q2Y σ):=
 ⟨h.cap0,h.cap1,h.used,h.ord,h.sy,h.many,(by show 0<=max (σ.left-1) 0;omega),(fun b=>by have:=h.idle b;show max (σ.left-1) 0=0;omega),h.keep,by have:=h.left1;show max (σ.left-1) 0<=_;omega⟩
theorem okD.sink{σ:DM}(h:okD σ):okD (q5M σ):=z6R h _
theorem okD.files{σ:DM}(h:okD σ){L:List FM}(i:(q0O L:Int)<=σ.cap)(b:q3D FM.nm L)(d: ∀f∈L,f.sy<=f.da.length)(hm:L.length<=400):okD {σ with L:=L}:=
 ⟨h.cap0,h.cap1,i,b,d,hm,h.left,h.idle,h.keep,h.left1⟩
theorem okD.upd{σ:DM}(h:okD σ){nm:List UInt8}{f:FM->FM}{e:FM}(d:q0G FM.nm nm σ.L=some e)(m:(q0O (q1J FM.nm nm f σ.L):Int)<=σ.cap)(i: ∀y,(f y).nm=y.nm)(j:(f e).sy<=(f e).da.length):okD {σ with L:=q1J FM.nm nm f σ.L}:=by
 refine h.files m (q9I h.ord fun y b=>by rw[i,b]) (fun y b=>?_) (by rw[q7L];exact h.many);rcases(q4J h.ord d).1 b with rfl|⟨b,_⟩
 ·exact j
 ·exact h.sy y b
theorem okD.app{σ:DM}(h:okD σ){nm s:List UInt8}{e:FM}(b:q0G FM.nm nm σ.L=some e)(d:(q0O σ.L:Int)+s.length<=σ.cap):okD (q7e σ nm s)/\q0O (q7e σ nm s).L=q0O σ.L+s.length:=by
 have h1:=z0S (f:=fun f:FM=>{f with da:=f.da++s}) h.ord b;have h2:=h.sy e (q0M b).1;have h3:({e with da:=e.da++s}:FM).da.length=e.da.length+s.length:=θ;have h4:q0O (q1J FM.nm nm (fun f:FM=>{f with da:=f.da++s}) σ.L)=q0O σ.L+s.length:=by omega
 exact⟨h.upd b (by rw[h4];omega) (fun y=>rfl) (by show e.sy<=(e.da++s).length;rw[θ];omega),h4⟩
theorem okD.create{σ:DM}(h:okD σ){nm:List UInt8}(d:q0G FM.nm nm σ.L=none)(hm:σ.L.length<400):okD {σ with L:=q3c FM.nm ⟨nm,[],0⟩ σ.L}:=by
 refine h.files (by rw[z0R];have:=h.used;simpa using this) (q8k h.ord (q1s d)) (fun f b=>?_) (by rw[z0z];omega);rcases mem_insN.1 b with rfl|b
 ·exact ι _
 ·exact h.sy f b
theorem okD.tell{σ:DM}(h:okD σ):okD (q2N σ):=⟨h.cap0,h.cap1,h.used,h.ord,h.sy,h.many,h.left,h.idle,h.keep,h.left1⟩
theorem okD.sync{σ:DM}(h:okD σ){nm:List UInt8}{e:FM}(b:q0G FM.nm nm σ.L=some e):okD {σ with L:=q1J FM.nm nm (fun f=>{f with sy:=f.da.length}) σ.L}/\q0O (q1J FM.nm nm (fun f=>{f with sy:=f.da.length}) σ.L)=q0O σ.L:=by
 have h1:=z0S (f:=fun f:FM=>{f with sy:=f.da.length}) h.ord b;have h4:q0O (q1J FM.nm nm (fun f:FM=>{f with sy:=f.da.length}) σ.L)=q0O σ.L:=by
  have:({e with sy:=e.da.length}:FM).da.length=e.da.length:=rfl;omega
 exact⟨h.upd b (by rw[h4];exact h.used) (fun y=>rfl) (ι _),h4⟩
theorem z8D(nm:List UInt8)(L:List FM):(q2l FM.nm nm L).length<=L.length:=List.length_filter_le _ _
theorem z0Q{L:List FM}(nm:List UInt8)(b:q3D FM.nm L):q0O (q2l FM.nm nm L)<=q0O L:=by
 cases hf:q0G FM.nm nm L with
 |none=>rw[q4u hf];exact ι _
 |some e=>have:=z0P b hf;omega
theorem okD.delete{σ:DM}(h:okD σ)(nm:List UInt8):okD {σ with L:=q2l FM.nm nm σ.L}:=
 h.files (by have:=z0Q nm h.ord;have:=h.used;omega) (q8X h.ord) (fun f b=>h.sy f (mem_delN.1 b).1) (by have:=z8D nm σ.L;have:=h.many;omega)
def fbF(f:FM):List UInt8×List UInt8:=(f.nm,f.da)
structure Pl(σ:DM)(c s:Int)(l:List (List UInt8×List UInt8)):Prop where
 up:σ.down=false
 fine:σ.fail=false
 files:σ.L.map fbF=l
 cap:σ.cap=c
 st:σ.starts=s
def q2O(l:List (List UInt8×List UInt8)):Nat:=q5Q (fun x:List UInt8×List UInt8=>x.2.length) l
section
variable {σ :DM}{c s:Int}{l:List (List UInt8×List UInt8)}{nm t:List UInt8}{x:List UInt8×List UInt8}
theorem q7m : ∀f:FM,Prod.fst (fbF f)=FM.nm f:=fun _=>rfl
theorem Pl.used(h:Pl σ c s l):q0O σ.L=q2O l:=by
 unfold q0O q2O q5Q;rw[<-h.files,List.map_map]
 rfl
theorem Pl.free(h:Pl σ c s l):z0t σ=c-(q2O l:Int):=by unfold z0t;rw[h.cap,h.used]
theorem Pl.find(h:Pl σ c s l)(nm:List UInt8):q0G Prod.fst nm l=(q0G FM.nm nm σ.L).map fbF:=by rw[<-h.files];exact q1l q7m nm σ.L
theorem Pl.find_some(h:Pl σ c s l)(b:q0G Prod.fst nm l=some x): ∃f,q0G FM.nm nm σ.L=some f/\fbF f=x:=by
 rw[h.find] at b
 cases hq:q0G FM.nm nm σ.L with
 |none=>rw[hq] at b;cases b
 |some f=>rw[hq] at b;exact⟨f,rfl,Option.some.inj b⟩
theorem Pl.find_none(h:Pl σ c s l)(b:q0G Prod.fst nm l=none):q0G FM.nm nm σ.L=none:=by
 rw[h.find] at b
 cases hq:q0G FM.nm nm σ.L with
 |none=>rfl
 |some f=>rw[hq] at b;cases b
theorem Pl.ord(h:Pl σ c s l)(b:okD σ):q3D Prod.fst l:=by rw[<-h.files];exact(z1J q7m).2 b.ord
theorem Pl.names(h:Pl σ c s l):q1Y σ=l.map Prod.fst:=by rw[<-h.files,List.map_map];rfl
theorem Pl.no(h:Pl σ c s l):q2B σ=false:=by unfold q2B;rw[h.fine];rfl
theorem Pl.tell(h:Pl σ c s l):Pl (q2N σ) c s l:=⟨h.up,h.fine,h.files,h.cap,h.st⟩
theorem Pl.size(h:Pl σ c s l)(b:q0G Prod.fst nm l=some x):q1U σ nm=((x.2.length:Int),0):=by
 obtain⟨f,h1,rfl⟩:=h.find_some b;unfold q1U;rw[κ (by rw[h.up];decide),h1]
 rfl
theorem Pl.sizeN(h:Pl σ c s l)(b:q0G Prod.fst nm l=none):q1U σ nm=(0,4):=by
 unfold q1U;rw[κ (by rw[h.up];decide),h.find_none b]
theorem Pl.read(h:Pl σ c s l)(b:q0G Prod.fst nm l=some x)(a n:Int)(i:0<=a)(j:0<=n)(d:a+n<=(x.2.length:Int)):q1Z σ nm a n=((x.2.drop a.toNat).take n.toNat,0,q2N σ):=by
 obtain⟨f,h1,rfl⟩:=h.find_some b;unfold q1Z;rw[κ (by rw[h.up];decide),h1];show(if 0<=a/\0<=n/\a<=(f.da.length:Int)/\n<=(f.da.length:Int)-a then _ else _)=_;have e:(fbF f).2=f.da:=rfl;rw[e] at d;rw[ξ (by omega)]
 rfl
theorem Pl.append(h:Pl σ c s l)(b:q0G Prod.fst nm l=some x)(d:(t.length:Int)<=c-(q2O l:Int)): ∃σ',q1w σ nm t=(0,σ')/\Pl σ' c s (q1J Prod.fst nm (fun x=>(x.1,x.2++t)) l):=by
 obtain⟨f,h1,rfl⟩:=h.find_some b;refine⟨q2Y (q7e σ nm t),?_,?_⟩
 ·unfold q1w
  rw[κ (by rw[h.up];decide),h1,κ (by simp),κ (by rw[h.cap,h.used];omega),κ (by rw[h.no];decide)]
 ·exact⟨h.up,h.fine,by rw[<-h.files];exact z2t (k:=FM.nm) (k':=Prod.fst) q7m nm (fun f=>{f with da:=f.da++t}) (fun x=>(x.1,x.2++t)) (fun _=>rfl) σ.L,h.cap,h.st⟩
theorem Pl.sync(h:Pl σ c s l)(b:q0G Prod.fst nm l=some x): ∃σ',q6B σ nm=(0,σ')/\Pl σ' c s l:=by
 obtain⟨f,h1,rfl⟩:=h.find_some b;refine⟨{q2Y σ with L:=q1J FM.nm nm (fun f=>{f with sy:=f.da.length}) σ.L},?_,?_⟩
 ·unfold q6B
  rw[κ (by rw[h.up];decide),h1,κ (by simp),κ (by rw[h.no];decide)]
 ·refine⟨h.up,h.fine,?_,h.cap,h.st⟩
  rw[<-h.files];show(q1J FM.nm nm _ σ.L).map fbF=_;rw[z2t (k:=FM.nm) (k':=Prod.fst) q7m nm (fun f=>{f with sy:=f.da.length}) id (fun _=>rfl) σ.L];unfold q1J
  conv=>rhs;rw[<-List.map_id (σ.L.map fbF)]
  exact List.map_congr_left fun y _=>by split<;>rfl
theorem Pl.create(h:Pl σ c s l)(b:q0G Prod.fst nm l=none)(hk:q3j nm=true)(hm:l.length<400): ∃σ',q1z σ nm=(0,σ')/\Pl σ' c s (q3c Prod.fst (nm,[]) l):=by
 refine⟨{q2Y σ with L:=q3c FM.nm ⟨nm,[],0⟩ σ.L},?_,?_⟩
 ·unfold q1z
  have e:σ.L.length=l.length:=by rw[<-h.files,List.length_map]
  rw[κ (by rw[h.up];decide),κ (by rw[hk];decide),h.find_none b,κ (by simp),κ (by omega),κ (by rw[h.no];decide)]
 ·refine⟨h.up,h.fine,?_,h.cap,h.st⟩
  rw[<-h.files];exact q8j (k:=FM.nm) (k':=Prod.fst) q7m ⟨nm,[],0⟩ σ.L
end
section
variable {α :Type}{k:α->List UInt8}
theorem q4T(nm:List UInt8)(f:α->α)(a b:List α):q1J k nm f (a++b)=q1J k nm f a++q1J k nm f b:=by unfold q1J;simp
theorem q2r{nm:List UInt8}{f:α->α}{l:List α}(h: ∀y∈l,k y≠nm):q1J k nm f l=l:=q5P (q0T h)
theorem q0V{nm:List UInt8}{a b:List α}(h: ∀y∈a,k y≠nm):q0G k nm (a++b)=q0G k nm b:=by
 unfold q0G;rw[List.find?_append];have:List.find? (fun y=>k y==nm) a=none:=q0T h;rw[this];rfl
end
end
end Go.Proofs.YteabhdclmodefaaGreatDoor
