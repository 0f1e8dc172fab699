/- Plain laws. -/
import Derived.Test.YteabhdclmodefaaGreatDoorG0CT
import Derived.Sort.KeysCollected
import Derived.Lib.Hide
set_option linter.unusedVariables false
set_option linter.unusedSimpArgs false
set_option maxRecDepth 100000
set_option maxHeartbeats 200000
namespace Go.Proofs.YteabhdclmodefaaGreatDoor
variable {a:List UInt8}
section
open Go.RowKit
theorem q5k : ∀a b:List UInt8,bytesBefore a b=decide (a<b)
 |[],[]=>by simp[bytesBefore]
 |[],b::s=>by simp[bytesBefore]
 |a::r,[]=>by simp[bytesBefore]
 | a::r,b::s=>by
  unfold bytesBefore;rw[q5k r s,Bool.eq_iff_iff];simp[List.cons_lt_cons_iff]
section gen
variable {α β:Type}(k:α->List UInt8)
def q2G(x:α):List α->List α
 |[]=>[x]
 |y::r=>if bytesBefore (k x) (k y) then x::y::r else y::q2G x r
def delN(nm:List UInt8)(l:List α):List α:=l.filter fun y=>!(k y==nm)
def q1Y(nm:List UInt8)(f:α->α)(l:List α):List α:=l.map fun y=>if k y==nm then f y else y
def q0H(nm:List UInt8)(l:List α):Option α:=l.find? fun y=>k y==nm
def q3X(l:List α):Prop:=l.Pairwise fun x y=>bytesBefore (k x) (k y)=true
variable {k}
theorem q3o(x:α): ∀l:List α,(q2G k x l).Perm (x::l)
 |[]=>List.Perm.refl _
 | y::r=>by
  unfold q2G
  split
  ·exact List.Perm.refl _
  ·exact(List.Perm.cons y (q3o x r)).trans (List.Perm.swap x y r)
theorem mem_insN{x y:α}{l:List α}:y∈q2G k x l↔y=x\/y∈l:=by rw[(q3o x l).mem_iff];simp
theorem q3A(x:α)(l:List α):(q2G k x l).length=l.length+1:=by rw[(q3o x l).length_eq];rfl
theorem q4E{x:α}: ∀{l:List α},q3X k l->(∀y∈l,k y≠k x)->q3X k (q2G k x l)
 |[],_,_=>by simp[q3X,q2G]
 | y :: r,h,hne=>by
  obtain⟨h1,h2⟩:=List.pairwise_cons.1 h;unfold q2G
  split
  ·rename_i d
   refine List.pairwise_cons.2 ⟨fun z b=>?_,h⟩;rcases List.mem_cons.1 b with rfl|b
   ·exact d
   ·exact WideShapes.bytes_trans _ _ _ d (h1 z b)
  ·rename_i d
   have i:bytesBefore (k y) (k x)=true:=by
    rcases WideAt.bytes_total _ _ (hne y (List.mem_cons_self)) with h|h
    ·exact h
    ·exact absurd h d
   refine List.pairwise_cons.2 ⟨fun z b=>?_,q4E h2 fun z b=>hne z (List.mem_cons_of_mem _ b)⟩;rcases mem_insN.1 b with rfl|b
   ·exact i
   ·exact h1 z b
theorem q2e{nm:List UInt8}{l:List α}(h:q3X k l):q3X k (delN k nm l):=h.filter _
theorem mem_delN{nm:List UInt8}{x:α}{l:List α}:x∈delN k nm l↔x∈l/\k x≠nm:=by simp[delN,List.mem_filter]
theorem z1s{nm:List UInt8}{f:α->α}{l:List α}(h:q3X k l)(i: ∀y,k y=nm->k (f y)=nm):q3X k (q1Y k nm f l):=by
 refine List.pairwise_map.2 (h.imp fun {x y} d=>?_);have e: ∀z,k (if k z==nm then f z else z)=k z:=fun z=>by
  split
  ·rename_i j
   have b:k z=nm:=by simpa using j
   rw[i z b,b]
  ·rfl
 rw[e,e];exact d
theorem q9h{nm:List UInt8}{f:α->α}(l:List α):(q1Y k nm f l).length=l.length:=by simp[q1Y]
theorem q0K{nm:List UInt8}{l:List α}{e:α}(h:q0H k nm l=some e):e∈l/\k e=nm:=⟨List.mem_of_find?_eq_some h,by simpa using List.find?_some h⟩
theorem q0k{nm:List UInt8}{l:List α}(h:q0H k nm l=none): ∀y∈l,k y≠nm:=fun y hy=>by simpa using List.find?_eq_none.1 h y hy
theorem q0f{nm:List UInt8}{l:List α}(h: ∀y∈l,k y≠nm):q0H k nm l=none:=List.find?_eq_none.2 fun y b=>by simpa using h y b
theorem z2s{l:List α}(h:q3X k l):l.Pairwise fun x y=>k x≠k y:=h.imp fun {x y} b e=>by rw[e,WideAt.bytes_irrefl] at b;cases b
theorem q7Q{l:List α}(h:q3X k l){x y:α}(j:x∈l)(o:y∈l)(e:k x=k y):x=y:=by
 have m:=z2s h;clear h
 induction l with
 |nil=>cases j
 | cons a r ih=>
  obtain⟨h1,h2⟩:=List.pairwise_cons.1 m;rcases List.mem_cons.1 j with ex|b<;>rcases List.mem_cons.1 o with i|d
  ·rw[ex,i]
  ·subst ex;exact absurd e (h1 y d)
  ·subst i;exact absurd e.symm (h1 x b)
  ·exact ih b d h2
theorem q4c{nm:List UInt8}{l:List α}(h:q3X k l){e:α}(he:e∈l)(b:k e=nm):q0H k nm l=some e:=by
 cases hf:q0H k nm l with
 |none=>exact absurd b (q0k hf e he)
 |some e'=>obtain⟨h1,h2⟩:=q0K hf;rw[q7Q h h1 he (h2.trans b.symm)]
theorem q6Y{nm:List UInt8}{l:List α}(h:q0H k nm l=none):delN k nm l=l:=List.filter_eq_self.2 fun y b=>by simpa using q0k h y b
theorem q6z{nm:List UInt8}{f:α->α}{l:List α}(h:q0H k nm l=none):q1Y k nm f l=l:=by
 unfold q1Y
 conv=>rhs;rw[<-List.map_id l]
 exact List.map_congr_left fun y b=>by rw[κ (by simpa using q0k h y b)];rfl
theorem q5U{nm:List UInt8}{f:α->α}{l:List α}(h:q3X k l){e:α}(i:q0H k nm l=some e){y:α}:y∈q1Y k nm f l↔y=f e\/(y∈l/\k y≠nm):=by
 obtain⟨h1,h2⟩:=q0K i;unfold q1Y;rw[List.mem_map]
 constructor
 ·rintro⟨z,d,rfl⟩
  by_cases b:k z=nm
  ·obtain rfl:=q7Q h d h1 (b.trans h2.symm)
   left;rw[ξ (by simpa using b)]
  ·right;rw[κ (by simpa using b)];exact⟨d,b⟩
 ·rintro(rfl|⟨j,b⟩)
  ·exact⟨e,h1,by rw[ξ (by simpa using h2)]⟩
  ·exact⟨y,j,by rw[κ (by simpa using b)]⟩
theorem z1Y{S:α->α->Prop}{nm:List UInt8}{f:α->α}{l:List α}(h:q3X k l)(q:l.Pairwise S){e:α}(r:q0H k nm l=some e)(h1: ∀y∈l,k y≠nm->S (f e) y/\S y (f e)):(q1Y k nm f l).Pairwise S:=by
 obtain⟨he,i⟩:=q0K r;refine List.pairwise_map.2 ((q.and (z2s h)).imp_of_mem fun {x y} m o ⟨u,j⟩=>?_);by_cases d:k x=nm
 ·have b:k y≠nm:=fun e=>j (d.trans e.symm)
  obtain rfl:=q7Q h m he (d.trans i.symm);rw[ξ (by simpa using d),κ (by simpa using b)];exact(h1 y o b).1
 ·rw [κ (by simpa using d)]
  by_cases b:k y=nm
  ·obtain rfl:=q7Q h o he (b.trans i.symm)
   rw[ξ (by simpa using b)];exact(h1 x m d).2
  ·rw[κ (by simpa using b)];exact u
section map
variable {k' :β->List UInt8}{h:α->β}(hk: ∀x,k' (h x)=k x)
include hk
theorem q6l(x:α): ∀l:List α,(q2G k x l).map h=q2G k' (h x) (l.map h)
 |[]=>rfl
 | y::r=>by
  unfold q2G;simp only[List.map_cons,hk]
  split
  ·rfl
  ·rw[List.map_cons,q6l x r]
theorem q6X(nm:List UInt8)(l:List α):(delN k nm l).map h=delN k' nm (l.map h):=by
 unfold delN;rw[List.filter_map];congr 1;exact List.filter_congr fun y _=>by simp[hk]
theorem z6H(nm:List UInt8)(f:α->α)(g:β->β)(b: ∀y,h (f y)=g (h y))(l:List α):(q1Y k nm f l).map h=q1Y k' nm g (l.map h):=by
 unfold q1Y;rw[List.map_map,List.map_map];refine List.map_congr_left fun y _=>?_
 simp only[Function.comp,hk];split<;>simp[b]
theorem z9k{nm:List UInt8}{f:α->α}{g:β->β}{l:List α}(m:q3X k l){e:α}(j:q0H k nm l=some e)(d:h (f e)=g (h e)):(q1Y k nm f l).map h=q1Y k' nm g (l.map h):=by
 obtain⟨he,b⟩:=q0K j;unfold q1Y;rw[List.map_map,List.map_map];refine List.map_congr_left fun y o=>?_
 simp only[Function.comp,hk]
 split
 ·rename_i q
  have i:k y=nm:=by simpa using q
  rw[q7Q m o he (i.trans b.symm)];exact d
 ·rfl
theorem q2Q(nm:List UInt8)(l:List α):q0H k' nm (l.map h)=(q0H k nm l).map h:=by
 unfold q0H;rw[List.find?_map];congr 2;funext y;simp[hk]
theorem z4N{l:List α}:q3X k' (l.map h)↔q3X k l:=by
 unfold q3X;rw[List.pairwise_map];simp only[hk]
end map
def q5r(s:α->Nat)(l:List α):Nat:=(l.map s).sum
theorem y1W(s:α->Nat)(x:α)(l:List α):q5r s (q2G k x l)=s x+q5r s l:=by
 unfold q5r;rw[((q3o x l).map s).sum_nat];simp
theorem q8P(s:α->Nat){nm:List UInt8}: ∀{l:List α},q3X k l-> ∀{e:α},q0H k nm l=some e->q5r s (delN k nm l)+s e=q5r s l
 |[],_,_,hf=>by simp[q0H] at hf
 | a :: r,h,e,hf=>by
  obtain⟨h1,h2⟩:=List.pairwise_cons.1 h;by_cases b:k a=nm
  ·have j:a=e:=by unfold q0H at hf;rw[List.find?_cons_of_pos (by simpa using b)] at hf;exact Option.some.inj hf
   subst j;have d:delN k nm (a::r)=r:=by
    unfold delN;rw[List.filter_cons_of_neg (by simp[b])];refine List.filter_eq_self.2 fun y o=>?_
    have:=h1 y o;simp only[Bool.not_eq_true',beq_eq_false_iff_ne];intro m;rw[m,<-b,WideAt.bytes_irrefl] at this
    cases this
   rw[d];simp[q5r];omega
  ·have i:q0H k nm r=some e:=by unfold q0H at hf⊢;rwa [List.find?_cons_of_neg (by simpa using b)] at hf
   have q:=q8P s h2 i;have d:delN k nm (a::r)=a::delN k nm r:=by unfold delN;rw[List.filter_cons_of_pos (by simpa using b)]
   rw[d];simp only[q5r,List.map_cons,List.sum_cons] at q⊢;omega
theorem q8R(s:α->Nat){nm:List UInt8}{f:α->α}: ∀{l:List α},q3X k l-> ∀{e:α},q0H k nm l=some e->q5r s (q1Y k nm f l)+s e=q5r s l+s (f e)
 |[],_,_,hf=>by simp[q0H] at hf
 | a ::r,h,e,hf=>by
  obtain⟨h1,h2⟩:=List.pairwise_cons.1 h;by_cases b:k a=nm
  ·have m:a=e:=by unfold q0H at hf;rw[List.find?_cons_of_pos (by simpa using b)] at hf;exact Option.some.inj hf
   subst m;have d:q1Y k nm f r=r:=q6z (q0f fun y o i=>by have:=h1 y o;rw[i,<-b,WideAt.bytes_irrefl] at this;cases this);have i:q1Y k nm f (a::r)=f a::q1Y k nm f r:=by unfold q1Y;rw[List.map_cons,ξ (by simpa using b)]
   rw[i,d];simp[q5r];omega
  ·have j:q0H k nm r=some e:=by unfold q0H at hf⊢;rwa [List.find?_cons_of_neg (by simpa using b)] at hf
   have q:=q8R s (f:=f) h2 j;have d:q1Y k nm f (a::r)=a::q1Y k nm f r:=by unfold q1Y;rw[List.map_cons,κ (by simpa using b)]
   rw[d];simp only[q5r,List.map_cons,List.sum_cons] at q⊢;omega
theorem q8Q(s:α->Nat): ∀{l:List α} {e:α},e∈l->s e<=q5r s l
 | a::r,e,h=>by
  rcases List.mem_cons.1 h with rfl|h
  ·simp[q5r]
  ·have:=q8Q s h;simp only[q5r,List.map_cons,List.sum_cons] at this⊢;omega
theorem q8h{nm:List UInt8}{l:List α}(h:q3X k l){e:α}(d:q0H k nm l=some e):(delN k nm l).length+1=l.length:=by
 have:=q8P (fun _=>1) h d;have b: ∀m:List α,q5r (fun _=>1) m=m.length:=fun m=>by unfold q5r;induction m with
  |nil=>rfl
  |cons a r ih=>simp only[List.map_cons,List.sum_cons,ih,χ];omega
 rw[b,b] at this;exact this
end gen
structure FM where
 nm:List UInt8
 da:List UInt8
 sy:Nat
structure DM where
 cap:Int
 L:List FM
 reads:Int
 starts:Int
 down:Bool
 fail:Bool
 left:Int
 keep:List Int
def q0P(L:List FM):Nat:=q5r (fun f=>f.da.length) L
def q2j(nm:List UInt8):Bool:=!nm.isEmpty&&decide (nm.length<=12)
structure okD(σ:DM):Prop where
 cap0:0<=σ.cap
 cap1:σ.cap<=1048576
 used:(q0P σ.L:Int)<=σ.cap
 ord:q3X FM.nm σ.L
 sy: ∀f∈σ.L,f.sy<=f.da.length
 many:σ.L.length<=400
 left:0<=σ.left
 idle:σ.fail=false->σ.left=0
 keep:σ.keep.length<=1000000
 left1:σ.left<=9223372036854775807
def q2L(σ:DM):Bool:=σ.fail&&decide (σ.left=0)
def q1p(σ:DM):DM:={σ with left:=max (σ.left-1) 0}
def q4n(f:FM)(more:Int):FM:={f with da:=f.da.take (f.sy+min (max more 0).toNat (f.da.length-f.sy)),sy:=f.sy+min (max more 0).toNat (f.da.length-f.sy)}
def q1v :List FM->List Int->List FM
 |[],_=>[]
 |f::r,ks=>q4n f (ks.headD 0)::q1v r ks.tail
def z5A(σ:DM)(ks:List Int):DM:={σ with L:=q1v σ.L ks,down:=true,fail:=false,left:=0,keep:=[]}
def q5M(σ:DM):DM:=z5A σ σ.keep
def upM(σ:DM):Int:=if σ.down then 61 else 0
def q0w(σ:DM)(nm:List UInt8):Int×DM:=
 if σ.down then(61,σ) else if !q2j nm then(2,σ) else if (q0H FM.nm nm σ.L).isSome then(62,σ) else if 400<=σ.L.length then(60,σ)
 else if q2L σ then(61,q5M σ) else(0,{q1p σ with L:=q2G FM.nm ⟨nm,[],0⟩ σ.L})
def z0E(σ:DM)(nm s:List UInt8):DM:={σ with L:=q1Y FM.nm nm (fun f=>{f with da:=f.da++s}) σ.L}
def q1L(σ:DM)(nm s:List UInt8):Int×DM:=
 if σ.down then(61,σ) else if (q0H FM.nm nm σ.L).isNone then(4,σ) else if σ.cap-(q0P σ.L:Int)<(s.length:Int) then(60,σ)
 else if q2L σ then(61,q5M (z0E σ nm s)) else(0,q1p (z0E σ nm s))
def q2r(σ:DM):DM:={σ with reads:=wrap64 (σ.reads+1)}
def q1z(σ:DM)(nm:List UInt8)(at_ n:Int):List UInt8×Int×DM:=
 if σ.down then([],61,σ) else match q0H FM.nm nm σ.L with
 |none=>([],4,q2r σ)
 |some f=>if 0<=at_/\0<=n/\at_<=(f.da.length:Int)/\n<=(f.da.length:Int)-at_ then((f.da.drop at_.toNat).take n.toNat,0,q2r σ) else([],2,q2r σ)
def q4i(σ:DM)(nm:List UInt8):Int×DM:=
 if σ.down then(61,σ) else if (q0H FM.nm nm σ.L).isNone then(4,σ) else if q2L σ then(61,q5M σ)
 else(0,{q1p σ with L:=q1Y FM.nm nm (fun f=>{f with sy:=f.da.length}) σ.L})
def z6x(a b:List UInt8)(f:FM)(L:List FM):List FM:=q2G FM.nm {f with nm:=b} (delN FM.nm a (delN FM.nm b L))
def q1n(σ:DM)(a b:List UInt8):Int×DM:=
 if σ.down then(61,σ) else match q0H FM.nm a σ.L with
 |none=>(4,σ)
 |some f=>if !q2j b then(2,σ) else if q2L σ then(61,q5M σ) else if a=b then(0,q1p σ) else(0,{q1p σ with L:=z6x a b f σ.L})
def q0V(σ:DM)(nm:List UInt8):Int×DM:=
 if σ.down then(61,σ) else if (q0H FM.nm nm σ.L).isNone then(4,σ) else if q2L σ then(61,q5M σ) else(0,{q1p σ with L:=delN FM.nm nm σ.L})
def q1o(σ:DM)(nm:List UInt8):Int×Int:=
 if σ.down then(0,61) else match q0H FM.nm nm σ.L with|none=>(0,4)|some f=>((f.da.length:Int),0)
def q1y(σ:DM):List (List UInt8):=σ.L.map FM.nm
def q4d(σ:DM):Int:=σ.cap-(q0P σ.L:Int)
def q6V(n:Nat)(f:FM):FM:={f with da:=f.da.take n,sy:=min f.sy (min n f.da.length)}
end
section
open Go.RowKit
def q5A(L:List FM)(xs:List Int)(i:Nat):List FM:=q1v (L.take i) xs++L.drop i
theorem q6U : ∀(L:List FM) (xs:List Int),(q1v L xs).length=L.length
 |[],_=>rfl
 |f::r,xs=>by simp[q1v,q6U r]
theorem z7o(f:FM)(x:Int):(q4n f x).nm=f.nm:=rfl
theorem q8e : ∀(L:List FM) (xs:List Int),(q1v L xs).map FM.nm=L.map FM.nm
 |[],_=>rfl
 |f::r,xs=>by simp[q1v,q8e r,z7o]
theorem z7s(L:List FM)(xs:List Int):q5A L xs 0=L:=by simp[q5A,q1v]
theorem y0M(L:List FM)(xs:List Int):q5A L xs L.length=q1v L xs:=by simp[q5A]
theorem z3t(L:List FM)(xs:List Int)(i:Nat):(q5A L xs i).map FM.nm=L.map FM.nm:=by
 unfold q5A;rw[List.map_append,q8e,<-List.map_append,List.take_append_drop]
theorem z5k{L b:List FM}(h:q3X FM.nm L)(e:b.map FM.nm=L.map FM.nm):q3X FM.nm b:=by
 have h1:q3X (fun x:List UInt8=>x) (L.map FM.nm):=(z4N (k:=FM.nm) (h:=FM.nm) fun x=>rfl).2 h;rw[<-e] at h1;exact(z4N (k:=FM.nm) (h:=FM.nm) fun x=>rfl).1 h1
theorem z8V(xs:List Int)(i:Nat):xs.tail.getD i 0=xs.getD (i+1) 0:=by
 cases xs<;>simp[δ]
theorem z6j(xs:List Int):xs.headD 0=xs.getD 0 0:=by cases xs<;>simp
theorem q8f : ∀(l:List FM) (f:FM) (xs:List Int),q1v (l++[f]) xs=q1v l xs++[q4n f (xs.getD l.length 0)]
 |[],f,xs=>by simp only[List.nil_append,q1v,List.length_nil,z6j]
 | a::r,f,xs=>by
  rw[List.cons_append,q1v,q1v,q8f r f xs.tail,z8V]
  rfl
theorem z4i{nm:List UInt8}{h:FM->FM}{a c:List FM}{f:FM}(d:f.nm=nm)(m:q3X FM.nm (a++f::c)):q1Y FM.nm nm h (a++f::c)=a++h f::c:=by
 have b:=z2s m;rw[List.pairwise_append] at b;obtain⟨_,h2,h3⟩:=b;have j:q1Y FM.nm nm h a=a:=q6z (q0f fun y i e=>h3 y i f (by simp) (e.trans d.symm));have hc:q1Y FM.nm nm h c=c:=q6z (q0f fun y i e=>(List.pairwise_cons.1 h2).1 y i (d.trans e.symm));unfold q1Y at j hc⊢;rw[List.map_append,List.map_cons,j,hc,ξ (by simpa using d)]
theorem z2U{L:List FM}(xs:List Int){i:Nat}(b:i<L.length)(o:q3X FM.nm L):
  q0H FM.nm L[i].nm (q5A L xs i)=some L[i]/\ ∀h:FM->FM,h L[i]=q4n L[i] (xs.getD i 0)->q1Y FM.nm L[i].nm h (q5A L xs i)=q5A L xs (i+1):=by
 have j:q5A L xs i=q1v (L.take i) xs++L[i]::L.drop (i+1):=by unfold q5A;rw[List.drop_eq_getElem_cons b]
 have d:q3X FM.nm (q5A L xs i):=z5k o (z3t L xs i);have hm:L[i]∈q5A L xs i:=by rw[j];exact List.mem_append_right _ List.mem_cons_self
 refine⟨q4c d hm rfl,fun h m=>?_⟩;rw[j] at d⊢;rw[z4i rfl d,m];unfold q5A;rw[List.take_succ_eq_append_getElem b,q8f,Θ,Nat.min_eq_left (Nat.le_of_lt b)];simp
theorem z7F{nm:List UInt8}{h b:FM->FM}{L:List FM}(hk: ∀y,(h y).nm=y.nm):q1Y FM.nm nm b (q1Y FM.nm nm h L)=q1Y FM.nm nm (fun y=>b (h y)) L:=by
 unfold q1Y;rw[List.map_map];refine List.map_congr_left fun y _=>?_
 simp only[Function.comp];by_cases e:(y.nm==nm)=true
 ·rw[ξ e,ξ (by rw[hk];exact e),ξ e]
 ·rw[κ e,κ e,κ e]
theorem z7n(f:FM)(x:Int):(q4n f x).da.length<=f.da.length:=by simp[q4n];omega
theorem z7p(f:FM)(x:Int)(h:f.sy<=f.da.length):(q4n f x).sy=(q4n f x).da.length:=by simp[q4n];omega
theorem q9i : ∀(L:List FM) (xs:List Int),q0P (q1v L xs)<=q0P L
 |[],_=>ι _
 | f::r,xs=>by
  have:=q9i r xs.tail;have:=z7n f (xs.headD 0);unfold q0P q5r at*;simp only[q1v,List.map_cons,List.sum_cons];omega
theorem q7t(a b:List FM):q0P (a++b)=q0P a+q0P b:=by simp[q0P,q5r]
theorem z7G(L:List FM)(xs:List Int)(i:Nat):q0P (q5A L xs i)<=q0P L:=by
 unfold q5A;have e:q0P L=q0P (L.take i)+q0P (L.drop i):=by rw[<-q7t,List.take_append_drop]
 rw[q7t,e];have:=q9i (L.take i) xs;omega
theorem z2S : ∀(L:List FM) (xs:List Int),(∀f∈L,f.sy<=f.da.length)-> ∀f∈q1v L xs,f.sy=f.da.length
 |[],_,_=>by simp[q1v]
 | a::r,xs,h=>by
  intro f b;rw[q1v] at b;rcases List.mem_cons.1 b with rfl|b
  ·exact z7p _ _ (h a (by simp))
  ·exact z2S r xs.tail (fun g d=>h g (by simp[d])) f b
theorem y0L{σ:DM}(h:okD σ)(xs:List Int):okD (z5A σ xs):=by
 refine⟨h.cap0,h.cap1,?_,z5k h.ord (q8e _ _),fun f b=>Nat.le_of_eq (z2S _ _ h.sy f b),?_,Int.le_refl _,fun _=>rfl,υ _,by show(0:Int)<=_;decide⟩
 ·have:=h.used
  have:=q9i σ.L xs;show(q0P (q1v σ.L xs):Int)<=σ.cap;omega
 ·show(q1v σ.L xs).length<=400
  rw[q6U];exact h.many
theorem z3T{L:List FM}{nm:List UInt8}{f:FM->FM}(d:q3X FM.nm L){e:FM}(b:q0H FM.nm nm L=some e):q0P (q1Y FM.nm nm f L)+e.da.length=q0P L+(f e).da.length:=q8R _ d b
theorem q9j{L:List FM}{nm:List UInt8}(d:q3X FM.nm L){e:FM}(b:q0H FM.nm nm L=some e):q0P (delN FM.nm nm L)+e.da.length=q0P L:=q8P _ d b
theorem q9k(x:FM)(L:List FM):q0P (q2G FM.nm x L)=x.da.length+q0P L:=y1W _ x L
theorem q9l{L:List FM}{e:FM}(h:e∈L):e.da.length<=q0P L:=q8Q (fun f:FM=>f.da.length) h
theorem okD.tick{σ:DM}(h:okD σ):okD (q1p σ):=
 ⟨h.cap0,h.cap1,h.used,h.ord,h.sy,h.many,(by show 0<=max (σ.left-1) 0;omega),(fun b=>by have:=h.idle b;show max (σ.left-1) 0=0;omega),h.keep,by have:=h.left1;show max (σ.left-1) 0<=_;omega⟩
theorem okD.sink{σ:DM}(h:okD σ):okD (q5M σ):=y0L h _
theorem okD.files{σ:DM}(h:okD σ){L:List FM}(i:(q0P L:Int)<=σ.cap)(b:q3X FM.nm L)(d: ∀f∈L,f.sy<=f.da.length)(hm:L.length<=400):okD {σ with L:=L}:=
 ⟨h.cap0,h.cap1,i,b,d,hm,h.left,h.idle,h.keep,h.left1⟩
theorem okD.upd{σ:DM}(h:okD σ){nm:List UInt8}{f:FM->FM}{e:FM}(d:q0H FM.nm nm σ.L=some e)(m:(q0P (q1Y FM.nm nm f σ.L):Int)<=σ.cap)(i: ∀y,(f y).nm=y.nm)(j:(f e).sy<=(f e).da.length):okD {σ with L:=q1Y FM.nm nm f σ.L}:=by
 refine h.files m (z1s h.ord fun y b=>by rw[i,b]) (fun y b=>?_) (by rw[q9h];exact h.many);rcases(q5U h.ord d).1 b with rfl|⟨b,_⟩
 ·exact j
 ·exact h.sy y b
theorem okD.app{σ:DM}(h:okD σ){nm s:List UInt8}{e:FM}(b:q0H FM.nm nm σ.L=some e)(d:(q0P σ.L:Int)+s.length<=σ.cap):okD (z0E σ nm s)/\q0P (z0E σ nm s).L=q0P σ.L+s.length:=by
 have h1:=z3T (f:=fun f:FM=>{f with da:=f.da++s}) h.ord b;have h2:=h.sy e (q0K b).1;have h3:({e with da:=e.da++s}:FM).da.length=e.da.length+s.length:=θ;have h4:q0P (q1Y FM.nm nm (fun f:FM=>{f with da:=f.da++s}) σ.L)=q0P σ.L+s.length:=by omega
 exact⟨h.upd b (by rw[h4];omega) (fun y=>rfl) (by show e.sy<=(e.da++s).length;rw[θ];omega),h4⟩
theorem okD.create{σ:DM}(h:okD σ){nm:List UInt8}(d:q0H FM.nm nm σ.L=none)(hm:σ.L.length<400):okD {σ with L:=q2G FM.nm ⟨nm,[],0⟩ σ.L}:=by
 refine h.files (by rw[q9k];have:=h.used;simpa using this) (q4E h.ord (q0k d)) (fun f b=>?_) (by rw[q3A];omega);rcases mem_insN.1 b with rfl|b
 ·exact ι _
 ·exact h.sy f b
theorem okD.tell{σ:DM}(h:okD σ):okD (q2r σ):=⟨h.cap0,h.cap1,h.used,h.ord,h.sy,h.many,h.left,h.idle,h.keep,h.left1⟩
theorem okD.sync{σ:DM}(h:okD σ){nm:List UInt8}{e:FM}(b:q0H FM.nm nm σ.L=some e):okD {σ with L:=q1Y FM.nm nm (fun f=>{f with sy:=f.da.length}) σ.L}/\q0P (q1Y FM.nm nm (fun f=>{f with sy:=f.da.length}) σ.L)=q0P σ.L:=by
 have h1:=z3T (f:=fun f:FM=>{f with sy:=f.da.length}) h.ord b;have h4:q0P (q1Y FM.nm nm (fun f:FM=>{f with sy:=f.da.length}) σ.L)=q0P σ.L:=by
  have:({e with sy:=e.da.length}:FM).da.length=e.da.length:=rfl;omega
 exact⟨h.upd b (by rw[h4];exact h.used) (fun y=>rfl) (ι _),h4⟩
theorem z7t(nm:List UInt8)(L:List FM):(delN FM.nm nm L).length<=L.length:=List.length_filter_le _ _
theorem q7u{L:List FM}(nm:List UInt8)(b:q3X FM.nm L):q0P (delN FM.nm nm L)<=q0P L:=by
 cases hf:q0H FM.nm nm L with
 |none=>rw[q6Y hf];exact ι _
 |some e=>have:=q9j b hf;omega
theorem okD.delete{σ:DM}(h:okD σ)(nm:List UInt8):okD {σ with L:=delN FM.nm nm σ.L}:=
 h.files (by have:=q7u nm h.ord;have:=h.used;omega) (q2e h.ord) (fun f b=>h.sy f (mem_delN.1 b).1) (by have:=z7t nm σ.L;have:=h.many;omega)
theorem z2Z{L:List FM}{b:List UInt8}(j:q3X FM.nm L){f:FM}(d:q0H FM.nm a L=some f)(i:a≠b):q0H FM.nm a (delN FM.nm b L)=some f:=
 q4c (q2e j) (mem_delN.2 ⟨(q0K d).1,fun e=>i ((q0K d).2.symm.trans e)⟩) (q0K d).2
theorem okD.rename{σ:DM}(h:okD σ){b:List UInt8}{f:FM}(o:q0H FM.nm a σ.L=some f)(i:a≠b):okD {σ with L:=z6x a b f σ.L}/\q0P (z6x a b f σ.L)=q0P (delN FM.nm b σ.L):=by
 have j:q3X FM.nm (delN FM.nm b σ.L):=q2e h.ord;have m:=z2Z h.ord o i;have v:=q9j j m;have B:=q7u b h.ord;have r:=q8h j m;have u:=z7t b σ.L;have q:q0P (z6x a b f σ.L)=q0P (delN FM.nm b σ.L):=by
  unfold z6x;rw[q9k];show f.da.length+_=_;omega
 refine⟨h.files ?_ ?_ ?_ ?_,q⟩
 ·rw[q];have:=h.used;omega
 ·exact q4E (q2e j) fun y d=>(mem_delN.1 (mem_delN.1 d).1).2
 ·intro y d
  rcases mem_insN.1 d with rfl|d
  ·exact h.sy f (q0K o).1
  ·exact h.sy y (mem_delN.1 (mem_delN.1 d).1).1
 ·unfold z6x;rw[q3A];have:=h.many;omega
def fbF(f:FM):List UInt8×List UInt8:=(f.nm,f.da)
structure Pl(σ:DM)(c s:Int)(l:List (List UInt8×List UInt8)):Prop where
 up:σ.down=false
 fine:σ.fail=false
 files:σ.L.map fbF=l
 cap:σ.cap=c
 st:σ.starts=s
def q1u(l:List (List UInt8×List UInt8)):Nat:=q5r (fun x:List UInt8×List UInt8=>x.2.length) l
section
variable {σ :DM}{c s:Int}{l:List (List UInt8×List UInt8)}{nm t:List UInt8}{x:List UInt8×List UInt8}
theorem q6g : ∀f:FM,Prod.fst (fbF f)=FM.nm f:=fun _=>rfl
theorem Pl.used(h:Pl σ c s l):q0P σ.L=q1u l:=by
 unfold q0P q1u q5r;rw[<-h.files,List.map_map]
 rfl
theorem Pl.free(h:Pl σ c s l):q4d σ=c-(q1u l:Int):=by unfold q4d;rw[h.cap,h.used]
theorem Pl.find(h:Pl σ c s l)(nm:List UInt8):q0H Prod.fst nm l=(q0H FM.nm nm σ.L).map fbF:=by rw[<-h.files];exact q2Q q6g nm σ.L
theorem Pl.find_some(h:Pl σ c s l)(b:q0H Prod.fst nm l=some x): ∃f,q0H FM.nm nm σ.L=some f/\fbF f=x:=by
 rw[h.find] at b
 cases hq:q0H FM.nm nm σ.L with
 |none=>rw[hq] at b;cases b
 |some f=>rw[hq] at b;exact⟨f,rfl,Option.some.inj b⟩
theorem Pl.find_none(h:Pl σ c s l)(b:q0H Prod.fst nm l=none):q0H FM.nm nm σ.L=none:=by
 rw[h.find] at b
 cases hq:q0H FM.nm nm σ.L with
 |none=>rfl
 |some f=>rw[hq] at b;cases b
theorem Pl.ord(h:Pl σ c s l)(b:okD σ):q3X Prod.fst l:=by rw[<-h.files];exact(z4N q6g).2 b.ord
theorem Pl.names(h:Pl σ c s l):q1y σ=l.map Prod.fst:=by rw[<-h.files,List.map_map];rfl
theorem Pl.no(h:Pl σ c s l):q2L σ=false:=by unfold q2L;rw[h.fine];rfl
theorem Pl.tell(h:Pl σ c s l):Pl (q2r σ) c s l:=⟨h.up,h.fine,h.files,h.cap,h.st⟩
theorem Pl.size(h:Pl σ c s l)(b:q0H Prod.fst nm l=some x):q1o σ nm=((x.2.length:Int),0):=by
 obtain⟨f,h1,rfl⟩:=h.find_some b;unfold q1o;rw[κ (by rw[h.up];decide),h1]
 rfl
theorem Pl.sizeN(h:Pl σ c s l)(b:q0H Prod.fst nm l=none):q1o σ nm=(0,4):=by
 unfold q1o;rw[κ (by rw[h.up];decide),h.find_none b]
theorem Pl.read(h:Pl σ c s l)(b:q0H Prod.fst nm l=some x)(a n:Int)(i:0<=a)(j:0<=n)(d:a+n<=(x.2.length:Int)):q1z σ nm a n=((x.2.drop a.toNat).take n.toNat,0,q2r σ):=by
 obtain⟨f,h1,rfl⟩:=h.find_some b;unfold q1z;rw[κ (by rw[h.up];decide),h1];show(if 0<=a/\0<=n/\a<=(f.da.length:Int)/\n<=(f.da.length:Int)-a then _ else _)=_;have e:(fbF f).2=f.da:=rfl;rw[e] at d;rw[ξ (by omega)]
 rfl
theorem Pl.append(h:Pl σ c s l)(b:q0H Prod.fst nm l=some x)(d:(t.length:Int)<=c-(q1u l:Int)): ∃σ',q1L σ nm t=(0,σ')/\Pl σ' c s (q1Y Prod.fst nm (fun x=>(x.1,x.2++t)) l):=by
 obtain⟨f,h1,rfl⟩:=h.find_some b;refine⟨q1p (z0E σ nm t),?_,?_⟩
 ·unfold q1L
  rw[κ (by rw[h.up];decide),h1,κ (by simp),κ (by rw[h.cap,h.used];omega),κ (by rw[h.no];decide)]
 ·exact⟨h.up,h.fine,by rw[<-h.files];exact z6H (k:=FM.nm) (k':=Prod.fst) q6g nm (fun f=>{f with da:=f.da++t}) (fun x=>(x.1,x.2++t)) (fun _=>rfl) σ.L,h.cap,h.st⟩
theorem Pl.sync(h:Pl σ c s l)(b:q0H Prod.fst nm l=some x): ∃σ',q4i σ nm=(0,σ')/\Pl σ' c s l:=by
 obtain⟨f,h1,rfl⟩:=h.find_some b;refine⟨{q1p σ with L:=q1Y FM.nm nm (fun f=>{f with sy:=f.da.length}) σ.L},?_,?_⟩
 ·unfold q4i
  rw[κ (by rw[h.up];decide),h1,κ (by simp),κ (by rw[h.no];decide)]
 ·refine⟨h.up,h.fine,?_,h.cap,h.st⟩
  rw[<-h.files];show(q1Y FM.nm nm _ σ.L).map fbF=_;rw[z6H (k:=FM.nm) (k':=Prod.fst) q6g nm (fun f=>{f with sy:=f.da.length}) id (fun _=>rfl) σ.L];unfold q1Y
  conv=>rhs;rw[<-List.map_id (σ.L.map fbF)]
  exact List.map_congr_left fun y _=>by split<;>rfl
theorem Pl.create(h:Pl σ c s l)(b:q0H Prod.fst nm l=none)(hk:q2j nm=true)(hm:l.length<400): ∃σ',q0w σ nm=(0,σ')/\Pl σ' c s (q2G Prod.fst (nm,[]) l):=by
 refine⟨{q1p σ with L:=q2G FM.nm ⟨nm,[],0⟩ σ.L},?_,?_⟩
 ·unfold q0w
  have e:σ.L.length=l.length:=by rw[<-h.files,List.length_map]
  rw[κ (by rw[h.up];decide),κ (by rw[hk];decide),h.find_none b,κ (by simp),κ (by omega),κ (by rw[h.no];decide)]
 ·refine⟨h.up,h.fine,?_,h.cap,h.st⟩
  rw[<-h.files];exact q6l (k:=FM.nm) (k':=Prod.fst) q6g ⟨nm,[],0⟩ σ.L
end
section
variable {α :Type}{k:α->List UInt8}
theorem q5d(nm:List UInt8)(f:α->α)(a b:List α):q1Y k nm f (a++b)=q1Y k nm f a++q1Y k nm f b:=by unfold q1Y;simp
theorem q3F{nm:List UInt8}{f:α->α}{l:List α}(h: ∀y∈l,k y≠nm):q1Y k nm f l=l:=q6z (q0f h)
theorem q0o{nm:List UInt8}{a b:List α}(h: ∀y∈a,k y≠nm):q0H k nm (a++b)=q0H k nm b:=by
 unfold q0H;rw[List.find?_append];have:List.find? (fun y=>k y==nm) a=none:=q0f h;rw[this];rfl
end
end
end Go.Proofs.YteabhdclmodefaaGreatDoor
