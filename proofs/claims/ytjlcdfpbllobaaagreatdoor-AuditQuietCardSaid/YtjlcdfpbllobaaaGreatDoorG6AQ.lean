/- Plain laws. -/
import Derived.Test.YtjlcdfpbllobaaaGreatDoorG0AQ
import Derived.Sort.KeysCollected
import Derived.Lib.Hide
set_option linter.unusedVariables false
set_option linter.unusedSimpArgs false
set_option maxRecDepth 100000
set_option maxHeartbeats 200000
namespace Go.Proofs.YtjlcdfpbllobaaaGreatDoor
variable {a:List UInt8}
section
open Go.RowKit
theorem q5u : ∀a b:List UInt8,bytesBefore a b=decide (a<b)
 |[],[]=>by simp[bytesBefore]
 |[],b::s=>by simp[bytesBefore]
 |a::r,[]=>by simp[bytesBefore]
 | a::r,b::s=>by
  unfold bytesBefore;rw[q5u r s,Bool.eq_iff_iff];simp[List.cons_lt_cons_iff]
section gen
variable {α β:Type}(k:α->List UInt8)
def q2F(x:α):List α->List α
 |[]=>[x]
 |y::r=>if bytesBefore (k x) (k y) then x::y::r else y::q2F x r
def delN(nm:List UInt8)(l:List α):List α:=l.filter fun y=>!(k y==nm)
def q1X(nm:List UInt8)(f:α->α)(l:List α):List α:=l.map fun y=>if k y==nm then f y else y
def q0H(nm:List UInt8)(l:List α):Option α:=l.find? fun y=>k y==nm
def q3g(l:List α):Prop:=l.Pairwise fun x y=>bytesBefore (k x) (k y)=true
variable {k}
theorem q3u(x:α): ∀l:List α,(q2F k x l).Perm (x::l)
 |[]=>List.Perm.refl _
 | y::r=>by
  unfold q2F
  split
  ·exact List.Perm.refl _
  ·exact(List.Perm.cons y (q3u x r)).trans (List.Perm.swap x y r)
theorem mem_insN{x y:α}{l:List α}:y∈q2F k x l↔y=x\/y∈l:=by rw[(q3u x l).mem_iff];simp
theorem q3A(x:α)(l:List α):(q2F k x l).length=l.length+1:=by rw[(q3u x l).length_eq];rfl
theorem q4K{x:α}: ∀{l:List α},q3g k l->(∀y∈l,k y≠k x)->q3g k (q2F k x l)
 |[],_,_=>by simp[q3g,q2F]
 | y :: r,h,hne=>by
  obtain⟨h1,h2⟩:=List.pairwise_cons.1 h;unfold q2F
  split
  ·rename_i d
   refine List.pairwise_cons.2 ⟨fun z b=>?_,h⟩;rcases List.mem_cons.1 b with rfl|b
   ·exact d
   ·exact WideShapes.bytes_trans _ _ _ d (h1 z b)
  ·rename_i d
   have i:bytesBefore (k y) (k x)=true:=by
    rcases WideAt.bytes_total _ _ (hne y (List.mem_cons_self)) with h|h
    ·exact h
    ·exact absurd h d
   refine List.pairwise_cons.2 ⟨fun z b=>?_,q4K h2 fun z b=>hne z (List.mem_cons_of_mem _ b)⟩;rcases mem_insN.1 b with rfl|b
   ·exact i
   ·exact h1 z b
theorem q2f{nm:List UInt8}{l:List α}(h:q3g k l):q3g k (delN k nm l):=h.filter _
theorem mem_delN{nm:List UInt8}{x:α}{l:List α}:x∈delN k nm l↔x∈l/\k x≠nm:=by simp[delN,List.mem_filter]
theorem z2L{nm:List UInt8}{f:α->α}{l:List α}(h:q3g k l)(i: ∀y,k y=nm->k (f y)=nm):q3g k (q1X k nm f l):=by
 refine List.pairwise_map.2 (h.imp fun {x y} d=>?_);have e: ∀z,k (if k z==nm then f z else z)=k z:=fun z=>by
  split
  ·rename_i j
   have b:k z=nm:=by simpa using j
   rw[i z b,b]
  ·rfl
 rw[e,e];exact d
theorem q9t{nm:List UInt8}{f:α->α}(l:List α):(q1X k nm f l).length=l.length:=by simp[q1X]
theorem q0K{nm:List UInt8}{l:List α}{e:α}(h:q0H k nm l=some e):e∈l/\k e=nm:=⟨List.mem_of_find?_eq_some h,by simpa using List.find?_some h⟩
theorem q0l{nm:List UInt8}{l:List α}(h:q0H k nm l=none): ∀y∈l,k y≠nm:=fun y hy=>by simpa using List.find?_eq_none.1 h y hy
theorem q0f{nm:List UInt8}{l:List α}(h: ∀y∈l,k y≠nm):q0H k nm l=none:=List.find?_eq_none.2 fun y b=>by simpa using h y b
theorem z3H{l:List α}(h:q3g k l):l.Pairwise fun x y=>k x≠k y:=h.imp fun {x y} b e=>by rw[e,WideAt.bytes_irrefl] at b;cases b
theorem q7a{l:List α}(h:q3g k l){x y:α}(j:x∈l)(o:y∈l)(e:k x=k y):x=y:=by
 have m:=z3H h;clear h
 induction l with
 |nil=>cases j
 | cons a r ih=>
  obtain⟨h1,h2⟩:=List.pairwise_cons.1 m;rcases List.mem_cons.1 j with ex|b<;>rcases List.mem_cons.1 o with i|d
  ·rw[ex,i]
  ·subst ex;exact absurd e (h1 y d)
  ·subst i;exact absurd e.symm (h1 x b)
  ·exact ih b d h2
theorem q4g{nm:List UInt8}{l:List α}(h:q3g k l){e:α}(he:e∈l)(b:k e=nm):q0H k nm l=some e:=by
 cases hf:q0H k nm l with
 |none=>exact absurd b (q0l hf e he)
 |some e'=>obtain⟨h1,h2⟩:=q0K hf;rw[q7a h h1 he (h2.trans b.symm)]
theorem q6i{nm:List UInt8}{l:List α}(h:q0H k nm l=none):delN k nm l=l:=List.filter_eq_self.2 fun y b=>by simpa using q0l h y b
theorem q7L{nm:List UInt8}{f:α->α}{l:List α}(h:q0H k nm l=none):q1X k nm f l=l:=by
 unfold q1X
 conv=>rhs;rw[<-List.map_id l]
 exact List.map_congr_left fun y b=>by rw[κ (by simpa using q0l h y b)];rfl
theorem q5d{nm:List UInt8}{f:α->α}{l:List α}(h:q3g k l){e:α}(i:q0H k nm l=some e){y:α}:y∈q1X k nm f l↔y=f e\/(y∈l/\k y≠nm):=by
 obtain⟨h1,h2⟩:=q0K i;unfold q1X;rw[List.mem_map]
 constructor
 ·rintro⟨z,d,rfl⟩
  by_cases b:k z=nm
  ·obtain rfl:=q7a h d h1 (b.trans h2.symm)
   left;rw[ξ (by simpa using b)]
  ·right;rw[κ (by simpa using b)];exact⟨d,b⟩
 ·rintro(rfl|⟨j,b⟩)
  ·exact⟨e,h1,by rw[ξ (by simpa using h2)]⟩
  ·exact⟨y,j,by rw[κ (by simpa using b)]⟩
theorem z1r{S:α->α->Prop}{nm:List UInt8}{f:α->α}{l:List α}(h:q3g k l)(q:l.Pairwise S){e:α}(r:q0H k nm l=some e)(h1: ∀y∈l,k y≠nm->S (f e) y/\S y (f e)):(q1X k nm f l).Pairwise S:=by
 obtain⟨he,i⟩:=q0K r;refine List.pairwise_map.2 ((q.and (z3H h)).imp_of_mem fun {x y} m o ⟨u,j⟩=>?_);by_cases d:k x=nm
 ·have b:k y≠nm:=fun e=>j (d.trans e.symm)
  obtain rfl:=q7a h m he (d.trans i.symm);rw[ξ (by simpa using d),κ (by simpa using b)];exact(h1 y o b).1
 ·rw [κ (by simpa using d)]
  by_cases b:k y=nm
  ·obtain rfl:=q7a h o he (b.trans i.symm)
   rw[ξ (by simpa using b)];exact(h1 x m d).2
  ·rw[κ (by simpa using b)];exact u
section map
variable {k' :β->List UInt8}{h:α->β}(hk: ∀x,k' (h x)=k x)
include hk
theorem q6v(x:α): ∀l:List α,(q2F k x l).map h=q2F k' (h x) (l.map h)
 |[]=>rfl
 | y::r=>by
  unfold q2F;simp only[List.map_cons,hk]
  split
  ·rfl
  ·rw[List.map_cons,q6v x r]
theorem q6h(nm:List UInt8)(l:List α):(delN k nm l).map h=delN k' nm (l.map h):=by
 unfold delN;rw[List.filter_map];congr 1;exact List.filter_congr fun y _=>by simp[hk]
theorem z6Y(nm:List UInt8)(f:α->α)(g:β->β)(b: ∀y,h (f y)=g (h y))(l:List α):(q1X k nm f l).map h=q1X k' nm g (l.map h):=by
 unfold q1X;rw[List.map_map,List.map_map];refine List.map_congr_left fun y _=>?_
 simp only[Function.comp,hk];split<;>simp[b]
theorem y0H{nm:List UInt8}{f:α->α}{g:β->β}{l:List α}(m:q3g k l){e:α}(j:q0H k nm l=some e)(d:h (f e)=g (h e)):(q1X k nm f l).map h=q1X k' nm g (l.map h):=by
 obtain⟨he,b⟩:=q0K j;unfold q1X;rw[List.map_map,List.map_map];refine List.map_congr_left fun y o=>?_
 simp only[Function.comp,hk]
 split
 ·rename_i q
  have i:k y=nm:=by simpa using q
  rw[q7a m o he (i.trans b.symm)];exact d
 ·rfl
theorem q2P(nm:List UInt8)(l:List α):q0H k' nm (l.map h)=(q0H k nm l).map h:=by
 unfold q0H;rw[List.find?_map];congr 2;funext y;simp[hk]
theorem z4b{l:List α}:q3g k' (l.map h)↔q3g k l:=by
 unfold q3g;rw[List.pairwise_map];simp only[hk]
end map
def q6B(s:α->Nat)(l:List α):Nat:=(l.map s).sum
theorem y1u(s:α->Nat)(x:α)(l:List α):q6B s (q2F k x l)=s x+q6B s l:=by
 unfold q6B;rw[((q3u x l).map s).sum_nat];simp
theorem q8U(s:α->Nat){nm:List UInt8}: ∀{l:List α},q3g k l-> ∀{e:α},q0H k nm l=some e->q6B s (delN k nm l)+s e=q6B s l
 |[],_,_,hf=>by simp[q0H] at hf
 | a :: r,h,e,hf=>by
  obtain⟨h1,h2⟩:=List.pairwise_cons.1 h;by_cases b:k a=nm
  ·have j:a=e:=by unfold q0H at hf;rw[List.find?_cons_of_pos (by simpa using b)] at hf;exact Option.some.inj hf
   subst j;have d:delN k nm (a::r)=r:=by
    unfold delN;rw[List.filter_cons_of_neg (by simp[b])];refine List.filter_eq_self.2 fun y o=>?_
    have:=h1 y o;simp only[Bool.not_eq_true',beq_eq_false_iff_ne];intro m;rw[m,<-b,WideAt.bytes_irrefl] at this
    cases this
   rw[d];simp[q6B];omega
  ·have i:q0H k nm r=some e:=by unfold q0H at hf⊢;rwa [List.find?_cons_of_neg (by simpa using b)] at hf
   have q:=q8U s h2 i;have d:delN k nm (a::r)=a::delN k nm r:=by unfold delN;rw[List.filter_cons_of_pos (by simpa using b)]
   rw[d];simp only[q6B,List.map_cons,List.sum_cons] at q⊢;omega
theorem q8W(s:α->Nat){nm:List UInt8}{f:α->α}: ∀{l:List α},q3g k l-> ∀{e:α},q0H k nm l=some e->q6B s (q1X k nm f l)+s e=q6B s l+s (f e)
 |[],_,_,hf=>by simp[q0H] at hf
 | a ::r,h,e,hf=>by
  obtain⟨h1,h2⟩:=List.pairwise_cons.1 h;by_cases b:k a=nm
  ·have m:a=e:=by unfold q0H at hf;rw[List.find?_cons_of_pos (by simpa using b)] at hf;exact Option.some.inj hf
   subst m;have d:q1X k nm f r=r:=q7L (q0f fun y o i=>by have:=h1 y o;rw[i,<-b,WideAt.bytes_irrefl] at this;cases this);have i:q1X k nm f (a::r)=f a::q1X k nm f r:=by unfold q1X;rw[List.map_cons,ξ (by simpa using b)]
   rw[i,d];simp[q6B];omega
  ·have j:q0H k nm r=some e:=by unfold q0H at hf⊢;rwa [List.find?_cons_of_neg (by simpa using b)] at hf
   have q:=q8W s (f:=f) h2 j;have d:q1X k nm f (a::r)=a::q1X k nm f r:=by unfold q1X;rw[List.map_cons,κ (by simpa using b)]
   rw[d];simp only[q6B,List.map_cons,List.sum_cons] at q⊢;omega
theorem q8V(s:α->Nat): ∀{l:List α} {e:α},e∈l->s e<=q6B s l
 | a::r,e,h=>by
  rcases List.mem_cons.1 h with rfl|h
  ·simp[q6B]
  ·have:=q8V s h;simp only[q6B,List.map_cons,List.sum_cons] at this⊢;omega
theorem q8n{nm:List UInt8}{l:List α}(h:q3g k l){e:α}(d:q0H k nm l=some e):(delN k nm l).length+1=l.length:=by
 have:=q8U (fun _=>1) h d;have b: ∀m:List α,q6B (fun _=>1) m=m.length:=fun m=>by unfold q6B;induction m with
  |nil=>rfl
  |cons a r ih=>simp only[List.map_cons,List.sum_cons,ih,χ];omega
 rw[b,b] at this;exact this
end gen
structure FM where
 nm:List UInt8
 da:List UInt8
 sy:Nat
structure DM where
 cap:Int
 L:List FM
 reads:Int
 starts:Int
 down:Bool
 fail:Bool
 left:Int
 keep:List Int
def q0R(L:List FM):Nat:=q6B (fun f=>f.da.length) L
def q2k(nm:List UInt8):Bool:=!nm.isEmpty&&decide (nm.length<=12)
structure okD(σ:DM):Prop where
 cap0:0<=σ.cap
 cap1:σ.cap<=1048576
 used:(q0R σ.L:Int)<=σ.cap
 ord:q3g FM.nm σ.L
 sy: ∀f∈σ.L,f.sy<=f.da.length
 many:σ.L.length<=400
 left:0<=σ.left
 idle:σ.fail=false->σ.left=0
 keep:σ.keep.length<=1000000
 left1:σ.left<=9223372036854775807
def q2M(σ:DM):Bool:=σ.fail&&decide (σ.left=0)
def q1m(σ:DM):DM:={σ with left:=max (σ.left-1) 0}
def q4u(f:FM)(more:Int):FM:={f with da:=f.da.take (f.sy+min (max more 0).toNat (f.da.length-f.sy)),sy:=f.sy+min (max more 0).toNat (f.da.length-f.sy)}
def q1t :List FM->List Int->List FM
 |[],_=>[]
 |f::r,ks=>q4u f (ks.headD 0)::q1t r ks.tail
def z5O(σ:DM)(ks:List Int):DM:={σ with L:=q1t σ.L ks,down:=true,fail:=false,left:=0,keep:=[]}
def q5W(σ:DM):DM:=z5O σ σ.keep
def upM(σ:DM):Int:=if σ.down then 61 else 0
def q0y(σ:DM)(nm:List UInt8):Int×DM:=
 if σ.down then(61,σ) else if !q2k nm then(2,σ) else if (q0H FM.nm nm σ.L).isSome then(62,σ) else if 400<=σ.L.length then(60,σ)
 else if q2M σ then(61,q5W σ) else(0,{q1m σ with L:=q2F FM.nm ⟨nm,[],0⟩ σ.L})
def z0R(σ:DM)(nm s:List UInt8):DM:={σ with L:=q1X FM.nm nm (fun f=>{f with da:=f.da++s}) σ.L}
def q1L(σ:DM)(nm s:List UInt8):Int×DM:=
 if σ.down then(61,σ) else if (q0H FM.nm nm σ.L).isNone then(4,σ) else if σ.cap-(q0R σ.L:Int)<(s.length:Int) then(60,σ)
 else if q2M σ then(61,q5W (z0R σ nm s)) else(0,q1m (z0R σ nm s))
def q2r(σ:DM):DM:={σ with reads:=wrap64 (σ.reads+1)}
def q1y(σ:DM)(nm:List UInt8)(at_ n:Int):List UInt8×Int×DM:=
 if σ.down then([],61,σ) else match q0H FM.nm nm σ.L with
 |none=>([],4,q2r σ)
 |some f=>if 0<=at_/\0<=n/\at_<=(f.da.length:Int)/\n<=(f.da.length:Int)-at_ then((f.da.drop at_.toNat).take n.toNat,0,q2r σ) else([],2,q2r σ)
def q4n(σ:DM)(nm:List UInt8):Int×DM:=
 if σ.down then(61,σ) else if (q0H FM.nm nm σ.L).isNone then(4,σ) else if q2M σ then(61,q5W σ)
 else(0,{q1m σ with L:=q1X FM.nm nm (fun f=>{f with sy:=f.da.length}) σ.L})
def z7P(a b:List UInt8)(f:FM)(L:List FM):List FM:=q2F FM.nm {f with nm:=b} (delN FM.nm a (delN FM.nm b L))
def q1k(σ:DM)(a b:List UInt8):Int×DM:=
 if σ.down then(61,σ) else match q0H FM.nm a σ.L with
 |none=>(4,σ)
 |some f=>if !q2k b then(2,σ) else if q2M σ then(61,q5W σ) else if a=b then(0,q1m σ) else(0,{q1m σ with L:=z7P a b f σ.L})
def q0X(σ:DM)(nm:List UInt8):Int×DM:=
 if σ.down then(61,σ) else if (q0H FM.nm nm σ.L).isNone then(4,σ) else if q2M σ then(61,q5W σ) else(0,{q1m σ with L:=delN FM.nm nm σ.L})
def q1l(σ:DM)(nm:List UInt8):Int×Int:=
 if σ.down then(0,61) else match q0H FM.nm nm σ.L with|none=>(0,4)|some f=>((f.da.length:Int),0)
def q1x(σ:DM):List (List UInt8):=σ.L.map FM.nm
def q4h(σ:DM):Int:=σ.cap-(q0R σ.L:Int)
def q6f(n:Nat)(f:FM):FM:={f with da:=f.da.take n,sy:=min f.sy (min n f.da.length)}
end
section
open Go.RowKit
def q5J(L:List FM)(xs:List Int)(i:Nat):List FM:=q1t (L.take i) xs++L.drop i
theorem q6e : ∀(L:List FM) (xs:List Int),(q1t L xs).length=L.length
 |[],_=>rfl
 |f::r,xs=>by simp[q1t,q6e r]
theorem z8B(f:FM)(x:Int):(q4u f x).nm=f.nm:=rfl
theorem q8j : ∀(L:List FM) (xs:List Int),(q1t L xs).map FM.nm=L.map FM.nm
 |[],_=>rfl
 |f::r,xs=>by simp[q1t,q8j r,z8B]
theorem z8D(L:List FM)(xs:List Int):q5J L xs 0=L:=by simp[q5J,q1t]
theorem y0g(L:List FM)(xs:List Int):q5J L xs L.length=q1t L xs:=by simp[q5J]
theorem z4G(L:List FM)(xs:List Int)(i:Nat):(q5J L xs i).map FM.nm=L.map FM.nm:=by
 unfold q5J;rw[List.map_append,q8j,<-List.map_append,List.take_append_drop]
theorem z5z{L b:List FM}(h:q3g FM.nm L)(e:b.map FM.nm=L.map FM.nm):q3g FM.nm b:=by
 have h1:q3g (fun x:List UInt8=>x) (L.map FM.nm):=(z4b (k:=FM.nm) (h:=FM.nm) fun x=>rfl).2 h;rw[<-e] at h1;exact(z4b (k:=FM.nm) (h:=FM.nm) fun x=>rfl).1 h1
theorem z8f(xs:List Int)(i:Nat):xs.tail.getD i 0=xs.getD (i+1) 0:=by
 cases xs<;>simp[δ]
theorem z7A(xs:List Int):xs.headD 0=xs.getD 0 0:=by cases xs<;>simp
theorem q8k : ∀(l:List FM) (f:FM) (xs:List Int),q1t (l++[f]) xs=q1t l xs++[q4u f (xs.getD l.length 0)]
 |[],f,xs=>by simp only[List.nil_append,q1t,List.length_nil,z7A]
 | a::r,f,xs=>by
  rw[List.cons_append,q1t,q1t,q8k r f xs.tail,z8f]
  rfl
theorem z4y{nm:List UInt8}{h:FM->FM}{a c:List FM}{f:FM}(d:f.nm=nm)(m:q3g FM.nm (a++f::c)):q1X FM.nm nm h (a++f::c)=a++h f::c:=by
 have b:=z3H m;rw[List.pairwise_append] at b;obtain⟨_,h2,h3⟩:=b;have j:q1X FM.nm nm h a=a:=q7L (q0f fun y i e=>h3 y i f (by simp) (e.trans d.symm));have hc:q1X FM.nm nm h c=c:=q7L (q0f fun y i e=>(List.pairwise_cons.1 h2).1 y i (d.trans e.symm));unfold q1X at j hc⊢;rw[List.map_append,List.map_cons,j,hc,ξ (by simpa using d)]
theorem z2h{L:List FM}(xs:List Int){i:Nat}(b:i<L.length)(o:q3g FM.nm L):
  q0H FM.nm L[i].nm (q5J L xs i)=some L[i]/\ ∀h:FM->FM,h L[i]=q4u L[i] (xs.getD i 0)->q1X FM.nm L[i].nm h (q5J L xs i)=q5J L xs (i+1):=by
 have j:q5J L xs i=q1t (L.take i) xs++L[i]::L.drop (i+1):=by unfold q5J;rw[List.drop_eq_getElem_cons b]
 have d:q3g FM.nm (q5J L xs i):=z5z o (z4G L xs i);have hm:L[i]∈q5J L xs i:=by rw[j];exact List.mem_append_right _ List.mem_cons_self
 refine⟨q4g d hm rfl,fun h m=>?_⟩;rw[j] at d⊢;rw[z4y rfl d,m];unfold q5J;rw[List.take_succ_eq_append_getElem b,q8k,Θ,Nat.min_eq_left (Nat.le_of_lt b)];simp
theorem z7Z{nm:List UInt8}{h b:FM->FM}{L:List FM}(hk: ∀y,(h y).nm=y.nm):q1X FM.nm nm b (q1X FM.nm nm h L)=q1X FM.nm nm (fun y=>b (h y)) L:=by
 unfold q1X;rw[List.map_map];refine List.map_congr_left fun y _=>?_
 simp only[Function.comp];by_cases e:(y.nm==nm)=true
 ·rw[ξ e,ξ (by rw[hk];exact e),ξ e]
 ·rw[κ e,κ e,κ e]
theorem z8A(f:FM)(x:Int):(q4u f x).da.length<=f.da.length:=by simp[q4u];omega
theorem z8C(f:FM)(x:Int)(h:f.sy<=f.da.length):(q4u f x).sy=(q4u f x).da.length:=by simp[q4u];omega
theorem q9u : ∀(L:List FM) (xs:List Int),q0R (q1t L xs)<=q0R L
 |[],_=>ι _
 | f::r,xs=>by
  have:=q9u r xs.tail;have:=z8A f (xs.headD 0);unfold q0R q6B at*;simp only[q1t,List.map_cons,List.sum_cons];omega
theorem q7z(a b:List FM):q0R (a++b)=q0R a+q0R b:=by simp[q0R,q6B]
theorem z7a(L:List FM)(xs:List Int)(i:Nat):q0R (q5J L xs i)<=q0R L:=by
 unfold q5J;have e:q0R L=q0R (L.take i)+q0R (L.drop i):=by rw[<-q7z,List.take_append_drop]
 rw[q7z,e];have:=q9u (L.take i) xs;omega
theorem z2g : ∀(L:List FM) (xs:List Int),(∀f∈L,f.sy<=f.da.length)-> ∀f∈q1t L xs,f.sy=f.da.length
 |[],_,_=>by simp[q1t]
 | a::r,xs,h=>by
  intro f b;rw[q1t] at b;rcases List.mem_cons.1 b with rfl|b
  ·exact z8C _ _ (h a (by simp))
  ·exact z2g r xs.tail (fun g d=>h g (by simp[d])) f b
theorem y0f{σ:DM}(h:okD σ)(xs:List Int):okD (z5O σ xs):=by
 refine⟨h.cap0,h.cap1,?_,z5z h.ord (q8j _ _),fun f b=>Nat.le_of_eq (z2g _ _ h.sy f b),?_,Int.le_refl _,fun _=>rfl,υ _,by show(0:Int)<=_;decide⟩
 ·have:=h.used
  have:=q9u σ.L xs;show(q0R (q1t σ.L xs):Int)<=σ.cap;omega
 ·show(q1t σ.L xs).length<=400
  rw[q6e];exact h.many
theorem z3j{L:List FM}{nm:List UInt8}{f:FM->FM}(d:q3g FM.nm L){e:FM}(b:q0H FM.nm nm L=some e):q0R (q1X FM.nm nm f L)+e.da.length=q0R L+(f e).da.length:=q8W _ d b
theorem q9v{L:List FM}{nm:List UInt8}(d:q3g FM.nm L){e:FM}(b:q0H FM.nm nm L=some e):q0R (delN FM.nm nm L)+e.da.length=q0R L:=q8U _ d b
theorem q9w(x:FM)(L:List FM):q0R (q2F FM.nm x L)=x.da.length+q0R L:=y1u _ x L
theorem q9x{L:List FM}{e:FM}(h:e∈L):e.da.length<=q0R L:=q8V (fun f:FM=>f.da.length) h
theorem okD.tick{σ:DM}(h:okD σ):okD (q1m σ):=
 ⟨h.cap0,h.cap1,h.used,h.ord,h.sy,h.many,(by show 0<=max (σ.left-1) 0;omega),(fun b=>by have:=h.idle b;show max (σ.left-1) 0=0;omega),h.keep,by have:=h.left1;show max (σ.left-1) 0<=_;omega⟩
theorem okD.sink{σ:DM}(h:okD σ):okD (q5W σ):=y0f h _
theorem okD.files{σ:DM}(h:okD σ){L:List FM}(i:(q0R L:Int)<=σ.cap)(b:q3g FM.nm L)(d: ∀f∈L,f.sy<=f.da.length)(hm:L.length<=400):okD {σ with L:=L}:=
 ⟨h.cap0,h.cap1,i,b,d,hm,h.left,h.idle,h.keep,h.left1⟩
theorem okD.upd{σ:DM}(h:okD σ){nm:List UInt8}{f:FM->FM}{e:FM}(d:q0H FM.nm nm σ.L=some e)(m:(q0R (q1X FM.nm nm f σ.L):Int)<=σ.cap)(i: ∀y,(f y).nm=y.nm)(j:(f e).sy<=(f e).da.length):okD {σ with L:=q1X FM.nm nm f σ.L}:=by
 refine h.files m (z2L h.ord fun y b=>by rw[i,b]) (fun y b=>?_) (by rw[q9t];exact h.many);rcases(q5d h.ord d).1 b with rfl|⟨b,_⟩
 ·exact j
 ·exact h.sy y b
theorem okD.app{σ:DM}(h:okD σ){nm s:List UInt8}{e:FM}(b:q0H FM.nm nm σ.L=some e)(d:(q0R σ.L:Int)+s.length<=σ.cap):okD (z0R σ nm s)/\q0R (z0R σ nm s).L=q0R σ.L+s.length:=by
 have h1:=z3j (f:=fun f:FM=>{f with da:=f.da++s}) h.ord b;have h2:=h.sy e (q0K b).1;have h3:({e with da:=e.da++s}:FM).da.length=e.da.length+s.length:=θ;have h4:q0R (q1X FM.nm nm (fun f:FM=>{f with da:=f.da++s}) σ.L)=q0R σ.L+s.length:=by omega
 exact⟨h.upd b (by rw[h4];omega) (fun y=>rfl) (by show e.sy<=(e.da++s).length;rw[θ];omega),h4⟩
theorem okD.create{σ:DM}(h:okD σ){nm:List UInt8}(d:q0H FM.nm nm σ.L=none)(hm:σ.L.length<400):okD {σ with L:=q2F FM.nm ⟨nm,[],0⟩ σ.L}:=by
 refine h.files (by rw[q9w];have:=h.used;simpa using this) (q4K h.ord (q0l d)) (fun f b=>?_) (by rw[q3A];omega);rcases mem_insN.1 b with rfl|b
 ·exact ι _
 ·exact h.sy f b
theorem okD.tell{σ:DM}(h:okD σ):okD (q2r σ):=⟨h.cap0,h.cap1,h.used,h.ord,h.sy,h.many,h.left,h.idle,h.keep,h.left1⟩
theorem okD.sync{σ:DM}(h:okD σ){nm:List UInt8}{e:FM}(b:q0H FM.nm nm σ.L=some e):okD {σ with L:=q1X FM.nm nm (fun f=>{f with sy:=f.da.length}) σ.L}/\q0R (q1X FM.nm nm (fun f=>{f with sy:=f.da.length}) σ.L)=q0R σ.L:=by
 have h1:=z3j (f:=fun f:FM=>{f with sy:=f.da.length}) h.ord b;have h4:q0R (q1X FM.nm nm (fun f:FM=>{f with sy:=f.da.length}) σ.L)=q0R σ.L:=by
  have:({e with sy:=e.da.length}:FM).da.length=e.da.length:=rfl;omega
 exact⟨h.upd b (by rw[h4];exact h.used) (fun y=>rfl) (ι _),h4⟩
theorem z8E(nm:List UInt8)(L:List FM):(delN FM.nm nm L).length<=L.length:=List.length_filter_le _ _
theorem q8A{L:List FM}(nm:List UInt8)(b:q3g FM.nm L):q0R (delN FM.nm nm L)<=q0R L:=by
 cases hf:q0H FM.nm nm L with
 |none=>rw[q6i hf];exact ι _
 |some e=>have:=q9v b hf;omega
theorem okD.delete{σ:DM}(h:okD σ)(nm:List UInt8):okD {σ with L:=delN FM.nm nm σ.L}:=
 h.files (by have:=q8A nm h.ord;have:=h.used;omega) (q2f h.ord) (fun f b=>h.sy f (mem_delN.1 b).1) (by have:=z8E nm σ.L;have:=h.many;omega)
theorem z2l{L:List FM}{b:List UInt8}(j:q3g FM.nm L){f:FM}(d:q0H FM.nm a L=some f)(i:a≠b):q0H FM.nm a (delN FM.nm b L)=some f:=
 q4g (q2f j) (mem_delN.2 ⟨(q0K d).1,fun e=>i ((q0K d).2.symm.trans e)⟩) (q0K d).2
theorem okD.rename{σ:DM}(h:okD σ){b:List UInt8}{f:FM}(o:q0H FM.nm a σ.L=some f)(i:a≠b):okD {σ with L:=z7P a b f σ.L}/\q0R (z7P a b f σ.L)=q0R (delN FM.nm b σ.L):=by
 have j:q3g FM.nm (delN FM.nm b σ.L):=q2f h.ord;have m:=z2l h.ord o i;have v:=q9v j m;have B:=q8A b h.ord;have r:=q8n j m;have u:=z8E b σ.L;have q:q0R (z7P a b f σ.L)=q0R (delN FM.nm b σ.L):=by
  unfold z7P;rw[q9w];show f.da.length+_=_;omega
 refine⟨h.files ?_ ?_ ?_ ?_,q⟩
 ·rw[q];have:=h.used;omega
 ·exact q4K (q2f j) fun y d=>(mem_delN.1 (mem_delN.1 d).1).2
 ·intro y d
  rcases mem_insN.1 d with rfl|d
  ·exact h.sy f (q0K o).1
  ·exact h.sy y (mem_delN.1 (mem_delN.1 d).1).1
 ·unfold z7P;rw[q3A];have:=h.many;omega
def fbF(f:FM):List UInt8×List UInt8:=(f.nm,f.da)
structure Pl(σ:DM)(c s:Int)(l:List (List UInt8×List UInt8)):Prop where
 up:σ.down=false
 fine:σ.fail=false
 files:σ.L.map fbF=l
 cap:σ.cap=c
 st:σ.starts=s
def q1s(l:List (List UInt8×List UInt8)):Nat:=q6B (fun x:List UInt8×List UInt8=>x.2.length) l
section
variable {σ :DM}{c s:Int}{l:List (List UInt8×List UInt8)}{nm t:List UInt8}{x:List UInt8×List UInt8}
theorem q6q : ∀f:FM,Prod.fst (fbF f)=FM.nm f:=fun _=>rfl
theorem Pl.used(h:Pl σ c s l):q0R σ.L=q1s l:=by
 unfold q0R q1s q6B;rw[<-h.files,List.map_map]
 rfl
theorem Pl.free(h:Pl σ c s l):q4h σ=c-(q1s l:Int):=by unfold q4h;rw[h.cap,h.used]
theorem Pl.find(h:Pl σ c s l)(nm:List UInt8):q0H Prod.fst nm l=(q0H FM.nm nm σ.L).map fbF:=by rw[<-h.files];exact q2P q6q nm σ.L
theorem Pl.find_some(h:Pl σ c s l)(b:q0H Prod.fst nm l=some x): ∃f,q0H FM.nm nm σ.L=some f/\fbF f=x:=by
 rw[h.find] at b
 cases hq:q0H FM.nm nm σ.L with
 |none=>rw[hq] at b;cases b
 |some f=>rw[hq] at b;exact⟨f,rfl,Option.some.inj b⟩
theorem Pl.find_none(h:Pl σ c s l)(b:q0H Prod.fst nm l=none):q0H FM.nm nm σ.L=none:=by
 rw[h.find] at b
 cases hq:q0H FM.nm nm σ.L with
 |none=>rfl
 |some f=>rw[hq] at b;cases b
theorem Pl.ord(h:Pl σ c s l)(b:okD σ):q3g Prod.fst l:=by rw[<-h.files];exact(z4b q6q).2 b.ord
theorem Pl.names(h:Pl σ c s l):q1x σ=l.map Prod.fst:=by rw[<-h.files,List.map_map];rfl
theorem Pl.no(h:Pl σ c s l):q2M σ=false:=by unfold q2M;rw[h.fine];rfl
theorem Pl.tell(h:Pl σ c s l):Pl (q2r σ) c s l:=⟨h.up,h.fine,h.files,h.cap,h.st⟩
theorem Pl.size(h:Pl σ c s l)(b:q0H Prod.fst nm l=some x):q1l σ nm=((x.2.length:Int),0):=by
 obtain⟨f,h1,rfl⟩:=h.find_some b;unfold q1l;rw[κ (by rw[h.up];decide),h1]
 rfl
theorem Pl.sizeN(h:Pl σ c s l)(b:q0H Prod.fst nm l=none):q1l σ nm=(0,4):=by
 unfold q1l;rw[κ (by rw[h.up];decide),h.find_none b]
theorem Pl.read(h:Pl σ c s l)(b:q0H Prod.fst nm l=some x)(a n:Int)(i:0<=a)(j:0<=n)(d:a+n<=(x.2.length:Int)):q1y σ nm a n=((x.2.drop a.toNat).take n.toNat,0,q2r σ):=by
 obtain⟨f,h1,rfl⟩:=h.find_some b;unfold q1y;rw[κ (by rw[h.up];decide),h1];show(if 0<=a/\0<=n/\a<=(f.da.length:Int)/\n<=(f.da.length:Int)-a then _ else _)=_;have e:(fbF f).2=f.da:=rfl;rw[e] at d;rw[ξ (by omega)]
 rfl
theorem Pl.append(h:Pl σ c s l)(b:q0H Prod.fst nm l=some x)(d:(t.length:Int)<=c-(q1s l:Int)): ∃σ',q1L σ nm t=(0,σ')/\Pl σ' c s (q1X Prod.fst nm (fun x=>(x.1,x.2++t)) l):=by
 obtain⟨f,h1,rfl⟩:=h.find_some b;refine⟨q1m (z0R σ nm t),?_,?_⟩
 ·unfold q1L
  rw[κ (by rw[h.up];decide),h1,κ (by simp),κ (by rw[h.cap,h.used];omega),κ (by rw[h.no];decide)]
 ·exact⟨h.up,h.fine,by rw[<-h.files];exact z6Y (k:=FM.nm) (k':=Prod.fst) q6q nm (fun f=>{f with da:=f.da++t}) (fun x=>(x.1,x.2++t)) (fun _=>rfl) σ.L,h.cap,h.st⟩
theorem Pl.sync(h:Pl σ c s l)(b:q0H Prod.fst nm l=some x): ∃σ',q4n σ nm=(0,σ')/\Pl σ' c s l:=by
 obtain⟨f,h1,rfl⟩:=h.find_some b;refine⟨{q1m σ with L:=q1X FM.nm nm (fun f=>{f with sy:=f.da.length}) σ.L},?_,?_⟩
 ·unfold q4n
  rw[κ (by rw[h.up];decide),h1,κ (by simp),κ (by rw[h.no];decide)]
 ·refine⟨h.up,h.fine,?_,h.cap,h.st⟩
  rw[<-h.files];show(q1X FM.nm nm _ σ.L).map fbF=_;rw[z6Y (k:=FM.nm) (k':=Prod.fst) q6q nm (fun f=>{f with sy:=f.da.length}) id (fun _=>rfl) σ.L];unfold q1X
  conv=>rhs;rw[<-List.map_id (σ.L.map fbF)]
  exact List.map_congr_left fun y _=>by split<;>rfl
theorem Pl.create(h:Pl σ c s l)(b:q0H Prod.fst nm l=none)(hk:q2k nm=true)(hm:l.length<400): ∃σ',q0y σ nm=(0,σ')/\Pl σ' c s (q2F Prod.fst (nm,[]) l):=by
 refine⟨{q1m σ with L:=q2F FM.nm ⟨nm,[],0⟩ σ.L},?_,?_⟩
 ·unfold q0y
  have e:σ.L.length=l.length:=by rw[<-h.files,List.length_map]
  rw[κ (by rw[h.up];decide),κ (by rw[hk];decide),h.find_none b,κ (by simp),κ (by omega),κ (by rw[h.no];decide)]
 ·refine⟨h.up,h.fine,?_,h.cap,h.st⟩
  rw[<-h.files];exact q6v (k:=FM.nm) (k':=Prod.fst) q6q ⟨nm,[],0⟩ σ.L
end
section
variable {α :Type}{k:α->List UInt8}
theorem q5n(nm:List UInt8)(f:α->α)(a b:List α):q1X k nm f (a++b)=q1X k nm f a++q1X k nm f b:=by unfold q1X;simp
theorem q3H{nm:List UInt8}{f:α->α}{l:List α}(h: ∀y∈l,k y≠nm):q1X k nm f l=l:=q7L (q0f h)
theorem q0q{nm:List UInt8}{a b:List α}(h: ∀y∈a,k y≠nm):q0H k nm (a++b)=q0H k nm b:=by
 unfold q0H;rw[List.find?_append];have:List.find? (fun y=>k y==nm) a=none:=q0f h;rw[this];rfl
end
end
end Go.Proofs.YtjlcdfpbllobaaaGreatDoor
