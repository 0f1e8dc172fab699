/- Plain laws. -/
import Derived.Test.YteabhdclmodefaaGreatDoorG0CX
import Derived.Sort.KeysCollected
import Derived.Lib.Hide
set_option linter.unusedVariables false
set_option linter.unusedSimpArgs false
set_option maxRecDepth 100000
set_option maxHeartbeats 200000
namespace Go.Proofs.YteabhdclmodefaaGreatDoor
section
open Go.RowKit
theorem q4m : ∀a b:List UInt8,bytesBefore a b=decide (a<b)
 |[],[]=>by simp[bytesBefore]
 |[],b::s=>by simp[bytesBefore]
 |a::r,[]=>by simp[bytesBefore]
 | a::r,b::s=>by
  unfold bytesBefore;rw[q4m r s,Bool.eq_iff_iff];simp[List.cons_lt_cons_iff]
section gen
variable {α β:Type}(k:α->List UInt8)
def q3l(x:α):List α->List α
 |[]=>[x]
 |y::r=>if bytesBefore (k x) (k y) then x::y::r else y::q3l x r
def q2t(nm:List UInt8)(l:List α):List α:=l.filter fun y=>!(k y==nm)
def q1S(nm:List UInt8)(f:α->α)(l:List α):List α:=l.map fun y=>if k y==nm then f y else y
def q0I(nm:List UInt8)(l:List α):Option α:=l.find? fun y=>k y==nm
def q3L(l:List α):Prop:=l.Pairwise fun x y=>bytesBefore (k x) (k y)=true
variable {k}
theorem q4J(x:α): ∀l:List α,(q3l k x l).Perm (x::l)
 |[]=>List.Perm.refl _
 | y::r=>by
  unfold q3l
  split
  ·exact List.Perm.refl _
  ·exact(List.Perm.cons y (q4J x r)).trans (List.Perm.swap x y r)
theorem mem_insN{x y:α}{l:List α}:y∈q3l k x l↔y=x\/y∈l:=by rw[(q4J x l).mem_iff];simp
theorem z1V(x:α)(l:List α):(q3l k x l).length=l.length+1:=by rw[(q4J x l).length_eq];rfl
theorem q9E{x:α}: ∀{l:List α},q3L k l->(∀y∈l,k y≠k x)->q3L k (q3l k x l)
 |[],_,_=>by simp[q3L,q3l]
 | y :: r,h,hne=>by
  obtain⟨h1,h2⟩:=List.pairwise_cons.1 h;unfold q3l
  split
  ·rename_i d
   refine List.pairwise_cons.2 ⟨fun z b=>?_,h⟩;rcases List.mem_cons.1 b with rfl|b
   ·exact d
   ·exact WideShapes.bytes_trans _ _ _ d (h1 z b)
  ·rename_i d
   have i:bytesBefore (k y) (k x)=true:=by
    rcases WideAt.bytes_total _ _ (hne y (List.mem_cons_self)) with h|h
    ·exact h
    ·exact absurd h d
   refine List.pairwise_cons.2 ⟨fun z b=>?_,q9E h2 fun z b=>hne z (List.mem_cons_of_mem _ b)⟩;rcases mem_insN.1 b with rfl|b
   ·exact i
   ·exact h1 z b
theorem q8r{nm:List UInt8}{l:List α}(h:q3L k l):q3L k (q2t k nm l):=h.filter _
theorem mem_delN{nm:List UInt8}{x:α}{l:List α}:x∈q2t k nm l↔x∈l/\k x≠nm:=by simp[q2t,List.mem_filter]
theorem q9d{nm:List UInt8}{f:α->α}{l:List α}(h:q3L k l)(i: ∀y,k y=nm->k (f y)=nm):q3L k (q1S k nm f l):=by
 refine List.pairwise_map.2 (h.imp fun {x y} d=>?_);have e: ∀z,k (if k z==nm then f z else z)=k z:=fun z=>by
  split
  ·rename_i j
   have b:k z=nm:=by simpa using j
   rw[i z b,b]
  ·rfl
 rw[e,e];exact d
theorem q7j{nm:List UInt8}{f:α->α}(l:List α):(q1S k nm f l).length=l.length:=by simp[q1S]
theorem q0O{nm:List UInt8}{l:List α}{e:α}(h:q0I k nm l=some e):e∈l/\k e=nm:=⟨List.mem_of_find?_eq_some h,by simpa using List.find?_some h⟩
theorem q2F{nm:List UInt8}{l:List α}(h:q0I k nm l=none): ∀y∈l,k y≠nm:=fun y hy=>by simpa using List.find?_eq_none.1 h y hy
theorem q0X{nm:List UInt8}{l:List α}(h: ∀y∈l,k y≠nm):q0I k nm l=none:=List.find?_eq_none.2 fun y b=>by simpa using h y b
theorem z0T{l:List α}(h:q3L k l):l.Pairwise fun x y=>k x≠k y:=h.imp fun {x y} b e=>by rw[e,WideAt.bytes_irrefl] at b;cases b
theorem q5r{l:List α}(h:q3L k l){x y:α}(j:x∈l)(o:y∈l)(e:k x=k y):x=y:=by
 have m:=z0T h;clear h
 induction l with
 |nil=>cases j
 | cons a r ih=>
  obtain⟨h1,h2⟩:=List.pairwise_cons.1 m;rcases List.mem_cons.1 j with ex|b<;>rcases List.mem_cons.1 o with i|d
  ·rw[ex,i]
  ·subst ex;exact absurd e (h1 y d)
  ·subst i;exact absurd e.symm (h1 x b)
  ·exact ih b d h2
theorem q5V{nm:List UInt8}{l:List α}(h:q3L k l){e:α}(he:e∈l)(b:k e=nm):q0I k nm l=some e:=by
 cases hf:q0I k nm l with
 |none=>exact absurd b (q2F hf e he)
 |some e'=>obtain⟨h1,h2⟩:=q0O hf;rw[q5r h h1 he (h2.trans b.symm)]
theorem q5N{nm:List UInt8}{l:List α}(h:q0I k nm l=none):q2t k nm l=l:=List.filter_eq_self.2 fun y b=>by simpa using q2F h y b
theorem q5i{nm:List UInt8}{f:α->α}{l:List α}(h:q0I k nm l=none):q1S k nm f l=l:=by
 unfold q1S
 conv=>rhs;rw[<-List.map_id l]
 exact List.map_congr_left fun y b=>by rw[κ (by simpa using q2F h y b)];rfl
theorem q4W{nm:List UInt8}{f:α->α}{l:List α}(h:q3L k l){e:α}(i:q0I k nm l=some e){y:α}:y∈q1S k nm f l↔y=f e\/(y∈l/\k y≠nm):=by
 obtain⟨h1,h2⟩:=q0O i;unfold q1S;rw[List.mem_map]
 constructor
 ·rintro⟨z,d,rfl⟩
  by_cases b:k z=nm
  ·obtain rfl:=q5r h d h1 (b.trans h2.symm)
   left;rw[ξ (by simpa using b)]
  ·right;rw[κ (by simpa using b)];exact⟨d,b⟩
 ·rintro(rfl|⟨j,b⟩)
  ·exact⟨e,h1,by rw[ξ (by simpa using h2)]⟩
  ·exact⟨y,j,by rw[κ (by simpa using b)]⟩
theorem q9O{S:α->α->Prop}{nm:List UInt8}{f:α->α}{l:List α}(h:q3L k l)(q:l.Pairwise S){e:α}(r:q0I k nm l=some e)(h1: ∀y∈l,k y≠nm->S (f e) y/\S y (f e)):(q1S k nm f l).Pairwise S:=by
 obtain⟨he,i⟩:=q0O r;refine List.pairwise_map.2 ((q.and (z0T h)).imp_of_mem fun {x y} m o ⟨u,j⟩=>?_);by_cases d:k x=nm
 ·have b:k y≠nm:=fun e=>j (d.trans e.symm)
  obtain rfl:=q5r h m he (d.trans i.symm);rw[ξ (by simpa using d),κ (by simpa using b)];exact(h1 y o b).1
 ·rw [κ (by simpa using d)]
  by_cases b:k y=nm
  ·obtain rfl:=q5r h o he (b.trans i.symm)
   rw[ξ (by simpa using b)];exact(h1 x m d).2
  ·rw[κ (by simpa using b)];exact u
section map
variable {k' :β->List UInt8}{h:α->β}(hk: ∀x,k' (h x)=k x)
include hk
theorem q9D(x:α): ∀l:List α,(q3l k x l).map h=q3l k' (h x) (l.map h)
 |[]=>rfl
 | y::r=>by
  unfold q3l;simp only[List.map_cons,hk]
  split
  ·rfl
  ·rw[List.map_cons,q9D x r]
theorem z2W(nm:List UInt8)(l:List α):(q2t k nm l).map h=q2t k' nm (l.map h):=by
 unfold q2t;rw[List.filter_map];congr 1;exact List.filter_congr fun y _=>by simp[hk]
theorem z3X(nm:List UInt8)(f:α->α)(g:β->β)(b: ∀y,h (f y)=g (h y))(l:List α):(q1S k nm f l).map h=q1S k' nm g (l.map h):=by
 unfold q1S;rw[List.map_map,List.map_map];refine List.map_congr_left fun y _=>?_
 simp only[Function.comp,hk];split<;>simp[b]
theorem z6h{nm:List UInt8}{f:α->α}{g:β->β}{l:List α}(m:q3L k l){e:α}(j:q0I k nm l=some e)(d:h (f e)=g (h e)):(q1S k nm f l).map h=q1S k' nm g (l.map h):=by
 obtain⟨he,b⟩:=q0O j;unfold q1S;rw[List.map_map,List.map_map];refine List.map_congr_left fun y o=>?_
 simp only[Function.comp,hk]
 split
 ·rename_i q
  have i:k y=nm:=by simpa using q
  rw[q5r m o he (i.trans b.symm)];exact d
 ·rfl
theorem q1x(nm:List UInt8)(l:List α):q0I k' nm (l.map h)=(q0I k nm l).map h:=by
 unfold q0I;rw[List.find?_map];congr 2;funext y;simp[hk]
theorem z1e{l:List α}:q3L k' (l.map h)↔q3L k l:=by
 unfold q3L;rw[List.pairwise_map];simp only[hk]
end map
def q5k(s:α->Nat)(l:List α):Nat:=(l.map s).sum
theorem z8Y(s:α->Nat)(x:α)(l:List α):q5k s (q3l k x l)=s x+q5k s l:=by
 unfold q5k;rw[((q4J x l).map s).sum_nat];simp
theorem z3P(s:α->Nat){nm:List UInt8}: ∀{l:List α},q3L k l-> ∀{e:α},q0I k nm l=some e->q5k s (q2t k nm l)+s e=q5k s l
 |[],_,_,hf=>by simp[q0I] at hf
 | a :: r,h,e,hf=>by
  obtain⟨h1,h2⟩:=List.pairwise_cons.1 h;by_cases b:k a=nm
  ·have j:a=e:=by unfold q0I at hf;rw[List.find?_cons_of_pos (by simpa using b)] at hf;exact Option.some.inj hf
   subst j;have d:q2t k nm (a::r)=r:=by
    unfold q2t;rw[List.filter_cons_of_neg (by simp[b])];refine List.filter_eq_self.2 fun y o=>?_
    have:=h1 y o;simp only[Bool.not_eq_true',beq_eq_false_iff_ne];intro m;rw[m,<-b,WideAt.bytes_irrefl] at this
    cases this
   rw[d];simp[q5k];omega
  ·have i:q0I k nm r=some e:=by unfold q0I at hf⊢;rwa [List.find?_cons_of_neg (by simpa using b)] at hf
   have q:=z3P s h2 i;have d:q2t k nm (a::r)=a::q2t k nm r:=by unfold q2t;rw[List.filter_cons_of_pos (by simpa using b)]
   rw[d];simp only[q5k,List.map_cons,List.sum_cons] at q⊢;omega
theorem q6i(s:α->Nat){nm:List UInt8}{f:α->α}: ∀{l:List α},q3L k l-> ∀{e:α},q0I k nm l=some e->q5k s (q1S k nm f l)+s e=q5k s l+s (f e)
 |[],_,_,hf=>by simp[q0I] at hf
 | a ::r,h,e,hf=>by
  obtain⟨h1,h2⟩:=List.pairwise_cons.1 h;by_cases b:k a=nm
  ·have m:a=e:=by unfold q0I at hf;rw[List.find?_cons_of_pos (by simpa using b)] at hf;exact Option.some.inj hf
   subst m;have d:q1S k nm f r=r:=q5i (q0X fun y o i=>by have:=h1 y o;rw[i,<-b,WideAt.bytes_irrefl] at this;cases this);have i:q1S k nm f (a::r)=f a::q1S k nm f r:=by unfold q1S;rw[List.map_cons,ξ (by simpa using b)]
   rw[i,d];simp[q5k];omega
  ·have j:q0I k nm r=some e:=by unfold q0I at hf⊢;rwa [List.find?_cons_of_neg (by simpa using b)] at hf
   have q:=q6i s (f:=f) h2 j;have d:q1S k nm f (a::r)=a::q1S k nm f r:=by unfold q1S;rw[List.map_cons,κ (by simpa using b)]
   rw[d];simp only[q5k,List.map_cons,List.sum_cons] at q⊢;omega
theorem q6h(s:α->Nat): ∀{l:List α} {e:α},e∈l->s e<=q5k s l
 | a::r,e,h=>by
  rcases List.mem_cons.1 h with rfl|h
  ·simp[q5k]
  ·have:=q6h s h;simp only[q5k,List.map_cons,List.sum_cons] at this⊢;omega
end gen
structure FM where
 nm:List UInt8
 da:List UInt8
 sy:Nat
structure DM where
 cap:Int
 L:List FM
 reads:Int
 starts:Int
 down:Bool
 fail:Bool
 left:Int
 keep:List Int
def q0Q(L:List FM):Nat:=q5k (fun f=>f.da.length) L
def q3r(nm:List UInt8):Bool:=!nm.isEmpty&&decide (nm.length<=12)
structure okD(σ:DM):Prop where
 cap0:0<=σ.cap
 cap1:σ.cap<=1048576
 used:(q0Q σ.L:Int)<=σ.cap
 ord:q3L FM.nm σ.L
 sy: ∀f∈σ.L,f.sy<=f.da.length
 many:σ.L.length<=400
 left:0<=σ.left
 idle:σ.fail=false->σ.left=0
 keep:σ.keep.length<=1000000
 left1:σ.left<=9223372036854775807
def q2K(σ:DM):Bool:=σ.fail&&decide (σ.left=0)
def q2i(σ:DM):DM:={σ with left:=max (σ.left-1) 0}
def q3q(f:FM)(more:Int):FM:={f with da:=f.da.take (f.sy+min (max more 0).toNat (f.da.length-f.sy)),sy:=f.sy+min (max more 0).toNat (f.da.length-f.sy)}
def q1i :List FM->List Int->List FM
 |[],_=>[]
 |f::r,ks=>q3q f (ks.headD 0)::q1i r ks.tail
def z2V(σ:DM)(ks:List Int):DM:={σ with L:=q1i σ.L ks,down:=true,fail:=false,left:=0,keep:=[]}
def q5f(σ:DM):DM:=z2V σ σ.keep
def q2J(σ:DM)(nm:List UInt8):Int×DM:=
 if σ.down then(61,σ) else if !q3r nm then(2,σ) else if (q0I FM.nm nm σ.L).isSome then(62,σ) else if 400<=σ.L.length then(60,σ)
 else if q2K σ then(61,q5f σ) else(0,{q2i σ with L:=q3l FM.nm ⟨nm,[],0⟩ σ.L})
def q8A(σ:DM)(nm s:List UInt8):DM:={σ with L:=q1S FM.nm nm (fun f=>{f with da:=f.da++s}) σ.L}
def q2H(σ:DM)(nm s:List UInt8):Int×DM:=
 if σ.down then(61,σ) else if (q0I FM.nm nm σ.L).isNone then(4,σ) else if σ.cap-(q0Q σ.L:Int)<(s.length:Int) then(60,σ)
 else if q2K σ then(61,q5f (q8A σ nm s)) else(0,q2i (q8A σ nm s))
def q2X(σ:DM):DM:={σ with reads:=wrap64 (σ.reads+1)}
def q1m(σ:DM)(nm:List UInt8)(at_ n:Int):List UInt8×Int×DM:=
 if σ.down then([],61,σ) else match q0I FM.nm nm σ.L with
 |none=>([],4,q2X σ)
 |some f=>if 0<=at_/\0<=n/\at_<=(f.da.length:Int)/\n<=(f.da.length:Int)-at_ then((f.da.drop at_.toNat).take n.toNat,0,q2X σ) else([],2,q2X σ)
def q6T(σ:DM)(nm:List UInt8):Int×DM:=
 if σ.down then(61,σ) else if (q0I FM.nm nm σ.L).isNone then(4,σ) else if q2K σ then(61,q5f σ)
 else(0,{q2i σ with L:=q1S FM.nm nm (fun f=>{f with sy:=f.da.length}) σ.L})
def q1a(σ:DM)(nm:List UInt8):Int×DM:=
 if σ.down then(61,σ) else if (q0I FM.nm nm σ.L).isNone then(4,σ) else if q2K σ then(61,q5f σ) else(0,{q2i σ with L:=q2t FM.nm nm σ.L})
def q1h(σ:DM)(nm:List UInt8):Int×Int:=
 if σ.down then(0,61) else match q0I FM.nm nm σ.L with|none=>(0,4)|some f=>((f.da.length:Int),0)
def q1l(σ:DM):List (List UInt8):=σ.L.map FM.nm
def z1P(σ:DM):Int:=σ.cap-(q0Q σ.L:Int)
def q5L(n:Nat)(f:FM):FM:={f with da:=f.da.take n,sy:=min f.sy (min n f.da.length)}
end
section
open Go.RowKit
def q4G(L:List FM)(xs:List Int)(i:Nat):List FM:=q1i (L.take i) xs++L.drop i
theorem q5K : ∀(L:List FM) (xs:List Int),(q1i L xs).length=L.length
 |[],_=>rfl
 |f::r,xs=>by simp[q1i,q5K r]
theorem z4z(f:FM)(x:Int):(q3q f x).nm=f.nm:=rfl
theorem q6t : ∀(L:List FM) (xs:List Int),(q1i L xs).map FM.nm=L.map FM.nm
 |[],_=>rfl
 |f::r,xs=>by simp[q1i,q6t r,z4z]
theorem z5D(L:List FM)(b:List Int):q4G L b 0=L:=by simp[q4G,q1i]
theorem z7M(L:List FM)(b:List Int):q4G L b L.length=q1i L b:=by simp[q4G]
theorem z1J(L:List FM)(b:List Int)(i:Nat):(q4G L b i).map FM.nm=L.map FM.nm:=by
 unfold q4G;rw[List.map_append,q6t,<-List.map_append,List.take_append_drop]
theorem z2x{L b:List FM}(h:q3L FM.nm L)(e:b.map FM.nm=L.map FM.nm):q3L FM.nm b:=by
 have h1:q3L (fun x:List UInt8=>x) (L.map FM.nm):=(z1e (k:=FM.nm) (h:=FM.nm) fun x=>rfl).2 h;rw[<-e] at h1;exact(z1e (k:=FM.nm) (h:=FM.nm) fun x=>rfl).1 h1
theorem z5a(b:List Int)(i:Nat):b.tail.getD i 0=b.getD (i+1) 0:=by
 cases b<;>simp[δ]
theorem z3z(b:List Int):b.headD 0=b.getD 0 0:=by cases b<;>simp
theorem q6u : ∀(l:List FM) (f:FM) (xs:List Int),q1i (l++[f]) xs=q1i l xs++[q3q f (xs.getD l.length 0)]
 |[],f,xs=>by simp only[List.nil_append,q1i,List.length_nil,z3z]
 | a::r,f,xs=>by
  rw[List.cons_append,q1i,q1i,q6u r f xs.tail,z5a]
  rfl
theorem z2H{nm:List UInt8}{h:FM->FM}{a c:List FM}{f:FM}(d:f.nm=nm)(m:q3L FM.nm (a++f::c)):q1S FM.nm nm h (a++f::c)=a++h f::c:=by
 have b:=z0T m;rw[List.pairwise_append] at b;obtain⟨_,h2,h3⟩:=b;have j:q1S FM.nm nm h a=a:=q5i (q0X fun y i e=>h3 y i f (by simp) (e.trans d.symm));have hc:q1S FM.nm nm h c=c:=q5i (q0X fun y i e=>(List.pairwise_cons.1 h2).1 y i (d.trans e.symm));unfold q1S at j hc⊢;rw[List.map_append,List.map_cons,j,hc,ξ (by simpa using d)]
theorem q9v{L:List FM}(b:List Int){i:Nat}(d:i<L.length)(q:q3L FM.nm L):
  q0I FM.nm L[i].nm (q4G L b i)=some L[i]/\ ∀h:FM->FM,h L[i]=q3q L[i] (b.getD i 0)->q1S FM.nm L[i].nm h (q4G L b i)=q4G L b (i+1):=by
 have m:q4G L b i=q1i (L.take i) b++L[i]::L.drop (i+1):=by unfold q4G;rw[List.drop_eq_getElem_cons d]
 have j:q3L FM.nm (q4G L b i):=z2x q (z1J L b i);have hm:L[i]∈q4G L b i:=by rw[m];exact List.mem_append_right _ List.mem_cons_self
 refine⟨q5V j hm rfl,fun h o=>?_⟩;rw[m] at j⊢;rw[z2H rfl j,o];unfold q4G;rw[List.take_succ_eq_append_getElem d,q6u,Θ,Nat.min_eq_left (Nat.le_of_lt d)];simp
theorem z4Y{nm:List UInt8}{h b:FM->FM}{L:List FM}(hk: ∀y,(h y).nm=y.nm):q1S FM.nm nm b (q1S FM.nm nm h L)=q1S FM.nm nm (fun y=>b (h y)) L:=by
 unfold q1S;rw[List.map_map];refine List.map_congr_left fun y _=>?_
 simp only[Function.comp];by_cases e:(y.nm==nm)=true
 ·rw[ξ e,ξ (by rw[hk];exact e),ξ e]
 ·rw[κ e,κ e,κ e]
theorem z4y(f:FM)(x:Int):(q3q f x).da.length<=f.da.length:=by simp[q3q];omega
theorem z5A(f:FM)(x:Int)(h:f.sy<=f.da.length):(q3q f x).sy=(q3q f x).da.length:=by simp[q3q];omega
theorem q7k : ∀(L:List FM) (xs:List Int),q0Q (q1i L xs)<=q0Q L
 |[],_=>ι _
 | f::r,xs=>by
  have:=q7k r xs.tail;have:=z4y f (xs.headD 0);unfold q0Q q5k at*;simp only[q1i,List.map_cons,List.sum_cons];omega
theorem q6L(a b:List FM):q0Q (a++b)=q0Q a+q0Q b:=by simp[q0Q,q5k]
theorem z4Z(L:List FM)(b:List Int)(i:Nat):q0Q (q4G L b i)<=q0Q L:=by
 unfold q4G;have e:q0Q L=q0Q (L.take i)+q0Q (L.drop i):=by rw[<-q6L,List.take_append_drop]
 rw[q6L,e];have:=q7k (L.take i) b;omega
theorem q9u : ∀(L:List FM) (xs:List Int),(∀f∈L,f.sy<=f.da.length)-> ∀f∈q1i L xs,f.sy=f.da.length
 |[],_,_=>by simp[q1i]
 | a::r,xs,h=>by
  intro f b;rw[q1i] at b;rcases List.mem_cons.1 b with rfl|b
  ·exact z5A _ _ (h a (by simp))
  ·exact q9u r xs.tail (fun g d=>h g (by simp[d])) f b
theorem z7K{σ:DM}(h:okD σ)(b:List Int):okD (z2V σ b):=by
 refine⟨h.cap0,h.cap1,?_,z2x h.ord (q6t _ _),fun f d=>Nat.le_of_eq (q9u _ _ h.sy f d),?_,Int.le_refl _,fun _=>rfl,υ _,by show(0:Int)<=_;decide⟩
 ·have:=h.used
  have:=q7k σ.L b;show(q0Q (q1i σ.L b):Int)<=σ.cap;omega
 ·show(q1i σ.L b).length<=400
  rw[q5K];exact h.many
theorem z0n{L:List FM}{nm:List UInt8}{f:FM->FM}(d:q3L FM.nm L){e:FM}(b:q0I FM.nm nm L=some e):q0Q (q1S FM.nm nm f L)+e.da.length=q0Q L+(f e).da.length:=q6i _ d b
theorem z0k{L:List FM}{nm:List UInt8}(d:q3L FM.nm L){e:FM}(b:q0I FM.nm nm L=some e):q0Q (q2t FM.nm nm L)+e.da.length=q0Q L:=z3P _ d b
theorem z0m(x:FM)(L:List FM):q0Q (q3l FM.nm x L)=x.da.length+q0Q L:=z8Y _ x L
theorem q7l{L:List FM}{e:FM}(h:e∈L):e.da.length<=q0Q L:=q6h (fun f:FM=>f.da.length) h
theorem okD.tick{σ:DM}(h:okD σ):okD (q2i σ):=
 ⟨h.cap0,h.cap1,h.used,h.ord,h.sy,h.many,(by show 0<=max (σ.left-1) 0;omega),(fun b=>by have:=h.idle b;show max (σ.left-1) 0=0;omega),h.keep,by have:=h.left1;show max (σ.left-1) 0<=_;omega⟩
theorem okD.sink{σ:DM}(h:okD σ):okD (q5f σ):=z7K h _
theorem okD.files{σ:DM}(h:okD σ){L:List FM}(i:(q0Q L:Int)<=σ.cap)(b:q3L FM.nm L)(d: ∀f∈L,f.sy<=f.da.length)(hm:L.length<=400):okD {σ with L:=L}:=
 ⟨h.cap0,h.cap1,i,b,d,hm,h.left,h.idle,h.keep,h.left1⟩
theorem okD.upd{σ:DM}(h:okD σ){nm:List UInt8}{f:FM->FM}{e:FM}(d:q0I FM.nm nm σ.L=some e)(m:(q0Q (q1S FM.nm nm f σ.L):Int)<=σ.cap)(i: ∀y,(f y).nm=y.nm)(j:(f e).sy<=(f e).da.length):okD {σ with L:=q1S FM.nm nm f σ.L}:=by
 refine h.files m (q9d h.ord fun y b=>by rw[i,b]) (fun y b=>?_) (by rw[q7j];exact h.many);rcases(q4W h.ord d).1 b with rfl|⟨b,_⟩
 ·exact j
 ·exact h.sy y b
theorem okD.app{σ:DM}(h:okD σ){nm s:List UInt8}{e:FM}(b:q0I FM.nm nm σ.L=some e)(d:(q0Q σ.L:Int)+s.length<=σ.cap):okD (q8A σ nm s)/\q0Q (q8A σ nm s).L=q0Q σ.L+s.length:=by
 have h1:=z0n (f:=fun f:FM=>{f with da:=f.da++s}) h.ord b;have h2:=h.sy e (q0O b).1;have h3:({e with da:=e.da++s}:FM).da.length=e.da.length+s.length:=θ;have h4:q0Q (q1S FM.nm nm (fun f:FM=>{f with da:=f.da++s}) σ.L)=q0Q σ.L+s.length:=by omega
 exact⟨h.upd b (by rw[h4];omega) (fun y=>rfl) (by show e.sy<=(e.da++s).length;rw[θ];omega),h4⟩
theorem okD.create{σ:DM}(h:okD σ){nm:List UInt8}(d:q0I FM.nm nm σ.L=none)(hm:σ.L.length<400):okD {σ with L:=q3l FM.nm ⟨nm,[],0⟩ σ.L}:=by
 refine h.files (by rw[z0m];have:=h.used;simpa using this) (q9E h.ord (q2F d)) (fun f b=>?_) (by rw[z1V];omega);rcases mem_insN.1 b with rfl|b
 ·exact ι _
 ·exact h.sy f b
theorem okD.tell{σ:DM}(h:okD σ):okD (q2X σ):=⟨h.cap0,h.cap1,h.used,h.ord,h.sy,h.many,h.left,h.idle,h.keep,h.left1⟩
theorem okD.sync{σ:DM}(h:okD σ){nm:List UInt8}{e:FM}(b:q0I FM.nm nm σ.L=some e):okD {σ with L:=q1S FM.nm nm (fun f=>{f with sy:=f.da.length}) σ.L}/\q0Q (q1S FM.nm nm (fun f=>{f with sy:=f.da.length}) σ.L)=q0Q σ.L:=by
 have h1:=z0n (f:=fun f:FM=>{f with sy:=f.da.length}) h.ord b;have h4:q0Q (q1S FM.nm nm (fun f:FM=>{f with sy:=f.da.length}) σ.L)=q0Q σ.L:=by
  have:({e with sy:=e.da.length}:FM).da.length=e.da.length:=rfl;omega
 exact⟨h.upd b (by rw[h4];exact h.used) (fun y=>rfl) (ι _),h4⟩
theorem z9E(nm:List UInt8)(L:List FM):(q2t FM.nm nm L).length<=L.length:=List.length_filter_le _ _
theorem z0l{L:List FM}(nm:List UInt8)(b:q3L FM.nm L):q0Q (q2t FM.nm nm L)<=q0Q L:=by
 cases hf:q0I FM.nm nm L with
 |none=>rw[q5N hf];exact ι _
 |some e=>have:=z0k b hf;omega
theorem okD.delete{σ:DM}(h:okD σ)(nm:List UInt8):okD {σ with L:=q2t FM.nm nm σ.L}:=
 h.files (by have:=z0l nm h.ord;have:=h.used;omega) (q8r h.ord) (fun f b=>h.sy f (mem_delN.1 b).1) (by have:=z9E nm σ.L;have:=h.many;omega)
def fbF(f:FM):List UInt8×List UInt8:=(f.nm,f.da)
structure Pl(σ:DM)(c s:Int)(l:List (List UInt8×List UInt8)):Prop where
 up:σ.down=false
 fine:σ.fail=false
 files:σ.L.map fbF=l
 cap:σ.cap=c
 st:σ.starts=s
def q2Y(l:List (List UInt8×List UInt8)):Nat:=q5k (fun x:List UInt8×List UInt8=>x.2.length) l
section
variable {σ :DM}{c s:Int}{l:List (List UInt8×List UInt8)}{nm t:List UInt8}{x:List UInt8×List UInt8}
theorem q8G : ∀f:FM,Prod.fst (fbF f)=FM.nm f:=fun _=>rfl
theorem Pl.used(h:Pl σ c s l):q0Q σ.L=q2Y l:=by
 unfold q0Q q2Y q5k;rw[<-h.files,List.map_map]
 rfl
theorem Pl.free(h:Pl σ c s l):z1P σ=c-(q2Y l:Int):=by unfold z1P;rw[h.cap,h.used]
theorem Pl.find(h:Pl σ c s l)(nm:List UInt8):q0I Prod.fst nm l=(q0I FM.nm nm σ.L).map fbF:=by rw[<-h.files];exact q1x q8G nm σ.L
theorem Pl.find_some(h:Pl σ c s l)(b:q0I Prod.fst nm l=some x): ∃f,q0I FM.nm nm σ.L=some f/\fbF f=x:=by
 rw[h.find] at b
 cases hq:q0I FM.nm nm σ.L with
 |none=>rw[hq] at b;cases b
 |some f=>rw[hq] at b;exact⟨f,rfl,Option.some.inj b⟩
theorem Pl.find_none(h:Pl σ c s l)(b:q0I Prod.fst nm l=none):q0I FM.nm nm σ.L=none:=by
 rw[h.find] at b
 cases hq:q0I FM.nm nm σ.L with
 |none=>rfl
 |some f=>rw[hq] at b;cases b
theorem Pl.ord(h:Pl σ c s l)(b:okD σ):q3L Prod.fst l:=by rw[<-h.files];exact(z1e q8G).2 b.ord
theorem Pl.names(h:Pl σ c s l):q1l σ=l.map Prod.fst:=by rw[<-h.files,List.map_map];rfl
theorem Pl.no(h:Pl σ c s l):q2K σ=false:=by unfold q2K;rw[h.fine];rfl
theorem Pl.tell(h:Pl σ c s l):Pl (q2X σ) c s l:=⟨h.up,h.fine,h.files,h.cap,h.st⟩
theorem Pl.size(h:Pl σ c s l)(b:q0I Prod.fst nm l=some x):q1h σ nm=((x.2.length:Int),0):=by
 obtain⟨f,h1,rfl⟩:=h.find_some b;unfold q1h;rw[κ (by rw[h.up];decide),h1]
 rfl
theorem Pl.sizeN(h:Pl σ c s l)(b:q0I Prod.fst nm l=none):q1h σ nm=(0,4):=by
 unfold q1h;rw[κ (by rw[h.up];decide),h.find_none b]
theorem Pl.read(h:Pl σ c s l)(b:q0I Prod.fst nm l=some x)(a n:Int)(i:0<=a)(j:0<=n)(d:a+n<=(x.2.length:Int)):q1m σ nm a n=((x.2.drop a.toNat).take n.toNat,0,q2X σ):=by
 obtain⟨f,h1,rfl⟩:=h.find_some b;unfold q1m;rw[κ (by rw[h.up];decide),h1];show(if 0<=a/\0<=n/\a<=(f.da.length:Int)/\n<=(f.da.length:Int)-a then _ else _)=_;have e:(fbF f).2=f.da:=rfl;rw[e] at d;rw[ξ (by omega)]
 rfl
theorem Pl.append(h:Pl σ c s l)(b:q0I Prod.fst nm l=some x)(d:(t.length:Int)<=c-(q2Y l:Int)): ∃σ',q2H σ nm t=(0,σ')/\Pl σ' c s (q1S Prod.fst nm (fun x=>(x.1,x.2++t)) l):=by
 obtain⟨f,h1,rfl⟩:=h.find_some b;refine⟨q2i (q8A σ nm t),?_,?_⟩
 ·unfold q2H
  rw[κ (by rw[h.up];decide),h1,κ (by simp),κ (by rw[h.cap,h.used];omega),κ (by rw[h.no];decide)]
 ·exact⟨h.up,h.fine,by rw[<-h.files];exact z3X (k:=FM.nm) (k':=Prod.fst) q8G nm (fun f=>{f with da:=f.da++t}) (fun x=>(x.1,x.2++t)) (fun _=>rfl) σ.L,h.cap,h.st⟩
theorem Pl.sync(h:Pl σ c s l)(b:q0I Prod.fst nm l=some x): ∃σ',q6T σ nm=(0,σ')/\Pl σ' c s l:=by
 obtain⟨f,h1,rfl⟩:=h.find_some b;refine⟨{q2i σ with L:=q1S FM.nm nm (fun f=>{f with sy:=f.da.length}) σ.L},?_,?_⟩
 ·unfold q6T
  rw[κ (by rw[h.up];decide),h1,κ (by simp),κ (by rw[h.no];decide)]
 ·refine⟨h.up,h.fine,?_,h.cap,h.st⟩
  rw[<-h.files];show(q1S FM.nm nm _ σ.L).map fbF=_;rw[z3X (k:=FM.nm) (k':=Prod.fst) q8G nm (fun f=>{f with sy:=f.da.length}) id (fun _=>rfl) σ.L];unfold q1S
  conv=>rhs;rw[<-List.map_id (σ.L.map fbF)]
  exact List.map_congr_left fun y _=>by split<;>rfl
theorem Pl.create(h:Pl σ c s l)(b:q0I Prod.fst nm l=none)(hk:q3r nm=true)(hm:l.length<400): ∃σ',q2J σ nm=(0,σ')/\Pl σ' c s (q3l Prod.fst (nm,[]) l):=by
 refine⟨{q2i σ with L:=q3l FM.nm ⟨nm,[],0⟩ σ.L},?_,?_⟩
 ·unfold q2J
  have e:σ.L.length=l.length:=by rw[<-h.files,List.length_map]
  rw[κ (by rw[h.up];decide),κ (by rw[hk];decide),h.find_none b,κ (by simp),κ (by omega),κ (by rw[h.no];decide)]
 ·refine⟨h.up,h.fine,?_,h.cap,h.st⟩
  rw[<-h.files];exact q9D (k:=FM.nm) (k':=Prod.fst) q8G ⟨nm,[],0⟩ σ.L
end
section
variable {α :Type}{k:α->List UInt8}
theorem q4i(nm:List UInt8)(f:α->α)(a b:List α):q1S k nm f (a++b)=q1S k nm f a++q1S k nm f b:=by unfold q1S;simp
theorem q3A{nm:List UInt8}{f:α->α}{l:List α}(h: ∀y∈l,k y≠nm):q1S k nm f l=l:=q5i (q0X h)
theorem q0Z{nm:List UInt8}{a b:List α}(h: ∀y∈a,k y≠nm):q0I k nm (a++b)=q0I k nm b:=by
 unfold q0I;rw[List.find?_append];have:List.find? (fun y=>k y==nm) a=none:=q0X h;rw[this];rfl
end
end
end Go.Proofs.YteabhdclmodefaaGreatDoor
