/- Plain laws. -/
import Derived.Test.YtjlcdfpbllobaaaGreatDoorG0CL
import Derived.Sort.KeysCollected
import Derived.Lib.Hide
set_option linter.unusedVariables false
set_option linter.unusedSimpArgs false
set_option maxRecDepth 100000
set_option maxHeartbeats 200000
namespace Go.Proofs.YtjlcdfpbllobaaaGreatDoor
variable {a:List UInt8}
section
open Go.RowKit
theorem q5s : ∀a b:List UInt8,bytesBefore a b=decide (a<b)
 |[],[]=>by simp[bytesBefore]
 |[],b::s=>by simp[bytesBefore]
 |a::r,[]=>by simp[bytesBefore]
 | a::r,b::s=>by
  unfold bytesBefore;rw[q5s r s,Bool.eq_iff_iff];simp[List.cons_lt_cons_iff]
section gen
variable {α β:Type}(k:α->List UInt8)
def q2G(x:α):List α->List α
 |[]=>[x]
 |y::r=>if bytesBefore (k x) (k y) then x::y::r else y::q2G x r
def delN(nm:List UInt8)(l:List α):List α:=l.filter fun y=>!(k y==nm)
def q1Z(nm:List UInt8)(f:α->α)(l:List α):List α:=l.map fun y=>if k y==nm then f y else y
def q0G(nm:List UInt8)(l:List α):Option α:=l.find? fun y=>k y==nm
def q3Z(l:List α):Prop:=l.Pairwise fun x y=>bytesBefore (k x) (k y)=true
variable {k}
theorem q3p(x:α): ∀l:List α,(q2G k x l).Perm (x::l)
 |[]=>List.Perm.refl _
 | y::r=>by
  unfold q2G
  split
  ·exact List.Perm.refl _
  ·exact(List.Perm.cons y (q3p x r)).trans (List.Perm.swap x y r)
theorem mem_insN{x y:α}{l:List α}:y∈q2G k x l↔y=x\/y∈l:=by rw[(q3p x l).mem_iff];simp
theorem q2y(x:α)(l:List α):(q2G k x l).length=l.length+1:=by rw[(q3p x l).length_eq];rfl
theorem q4E{x:α}: ∀{l:List α},q3Z k l->(∀y∈l,k y≠k x)->q3Z k (q2G k x l)
 |[],_,_=>by simp[q3Z,q2G]
 | y :: r,h,hne=>by
  obtain⟨j,m⟩:=List.pairwise_cons.1 h;unfold q2G
  split
  ·rename_i d
   refine List.pairwise_cons.2 ⟨fun z b=>?_,h⟩;rcases List.mem_cons.1 b with rfl|b
   ·exact d
   ·exact WideShapes.bytes_trans _ _ _ d (j z b)
  ·rename_i d
   have i:bytesBefore (k y) (k x)=true:=by
    rcases WideAt.bytes_total _ _ (hne y (List.mem_cons_self)) with h|h
    ·exact h
    ·exact absurd h d
   refine List.pairwise_cons.2 ⟨fun z b=>?_,q4E m fun z b=>hne z (List.mem_cons_of_mem _ b)⟩;rcases mem_insN.1 b with rfl|b
   ·exact i
   ·exact j z b
theorem q2c{nm:List UInt8}{l:List α}(h:q3Z k l):q3Z k (delN k nm l):=h.filter _
theorem mem_delN{nm:List UInt8}{x:α}{l:List α}:x∈delN k nm l↔x∈l/\k x≠nm:=by simp[delN,List.mem_filter]
theorem z1v{nm:List UInt8}{f:α->α}{l:List α}(h:q3Z k l)(i: ∀y,k y=nm->k (f y)=nm):q3Z k (q1Z k nm f l):=by
 refine List.pairwise_map.2 (h.imp fun {x y} d=>?_);have e: ∀z,k (if k z==nm then f z else z)=k z:=fun z=>by
  split
  ·rename_i j
   have b:k z=nm:=by simpa using j
   rw[i z b,b]
  ·rfl
 rw[e,e];exact d
theorem q9g{nm:List UInt8}{f:α->α}(l:List α):(q1Z k nm f l).length=l.length:=by simp[q1Z]
theorem q0L{nm:List UInt8}{l:List α}{e:α}(h:q0G k nm l=some e):e∈l/\k e=nm:=⟨List.mem_of_find?_eq_some h,by simpa using List.find?_some h⟩
theorem q0l{nm:List UInt8}{l:List α}(h:q0G k nm l=none): ∀y∈l,k y≠nm:=fun y hy=>by simpa using List.find?_eq_none.1 h y hy
theorem q0g{nm:List UInt8}{l:List α}(h: ∀y∈l,k y≠nm):q0G k nm l=none:=List.find?_eq_none.2 fun y b=>by simpa using h y b
theorem z2v{l:List α}(h:q3Z k l):l.Pairwise fun x y=>k x≠k y:=h.imp fun {x y} b e=>by rw[e,WideAt.bytes_irrefl] at b;cases b
theorem q7T{l:List α}(h:q3Z k l){x y:α}(m:x∈l)(u:y∈l)(e:k x=k y):x=y:=by
 have q:=z2v h;clear h
 induction l with
 |nil=>cases m
 | cons a r ih=>
  obtain⟨j,o⟩:=List.pairwise_cons.1 q;rcases List.mem_cons.1 m with ex|b<;>rcases List.mem_cons.1 u with i|d
  ·rw[ex,i]
  ·subst ex;exact absurd e (j y d)
  ·subst i;exact absurd e.symm (j x b)
  ·exact ih b d o
theorem q4b{nm:List UInt8}{l:List α}(h:q3Z k l){e:α}(he:e∈l)(b:k e=nm):q0G k nm l=some e:=by
 cases hf:q0G k nm l with
 |none=>exact absurd b (q0l hf e he)
 |some e'=>obtain⟨d,i⟩:=q0L hf;rw[q7T h d he (i.trans b.symm)]
theorem q6c{nm:List UInt8}{l:List α}(h:q0G k nm l=none):delN k nm l=l:=List.filter_eq_self.2 fun y b=>by simpa using q0l h y b
theorem q7E{nm:List UInt8}{f:α->α}{l:List α}(h:q0G k nm l=none):q1Z k nm f l=l:=by
 unfold q1Z
 conv=>rhs;rw[<-List.map_id l]
 exact List.map_congr_left fun y b=>by rw[κ (by simpa using q0l h y b)];rfl
theorem q5a{nm:List UInt8}{f:α->α}{l:List α}(h:q3Z k l){e:α}(m:q0G k nm l=some e){y:α}:y∈q1Z k nm f l↔y=f e\/(y∈l/\k y≠nm):=by
 obtain⟨d,i⟩:=q0L m;unfold q1Z;rw[List.mem_map]
 constructor
 ·rintro⟨z,j,rfl⟩
  by_cases b:k z=nm
  ·obtain rfl:=q7T h j d (b.trans i.symm)
   left;rw[ξ (by simpa using b)]
  ·right;rw[κ (by simpa using b)];exact⟨j,b⟩
 ·rintro(rfl|⟨o,b⟩)
  ·exact⟨e,d,by rw[ξ (by simpa using i)]⟩
  ·exact⟨y,o,by rw[κ (by simpa using b)]⟩
theorem z1Y{S:α->α->Prop}{nm:List UInt8}{f:α->α}{l:List α}(h:q3Z k l)(r:l.Pairwise S){e:α}(u:q0G k nm l=some e)(m: ∀y∈l,k y≠nm->S (f e) y/\S y (f e)):(q1Z k nm f l).Pairwise S:=by
 obtain⟨he,i⟩:=q0L u;refine List.pairwise_map.2 ((r.and (z2v h)).imp_of_mem fun {x y} o q ⟨v,j⟩=>?_);by_cases d:k x=nm
 ·have b:k y≠nm:=fun e=>j (d.trans e.symm)
  obtain rfl:=q7T h o he (d.trans i.symm);rw[ξ (by simpa using d),κ (by simpa using b)];exact(m y q b).1
 ·rw [κ (by simpa using d)]
  by_cases b:k y=nm
  ·obtain rfl:=q7T h q he (b.trans i.symm)
   rw[ξ (by simpa using b)];exact(m x o d).2
  ·rw[κ (by simpa using b)];exact v
section map
variable {k' :β->List UInt8}{h:α->β}(hk: ∀x,k' (h x)=k x)
include hk
theorem q6p(x:α): ∀l:List α,(q2G k x l).map h=q2G k' (h x) (l.map h)
 |[]=>rfl
 | y::r=>by
  unfold q2G;simp only[List.map_cons,hk]
  split
  ·rfl
  ·rw[List.map_cons,q6p x r]
theorem q6b(nm:List UInt8)(l:List α):(delN k nm l).map h=delN k' nm (l.map h):=by
 unfold delN;rw[List.filter_map];congr 1;exact List.filter_congr fun y _=>by simp[hk]
theorem z6I(nm:List UInt8)(f:α->α)(g:β->β)(b: ∀y,h (f y)=g (h y))(l:List α):(q1Z k nm f l).map h=q1Z k' nm g (l.map h):=by
 unfold q1Z;rw[List.map_map,List.map_map];refine List.map_congr_left fun y _=>?_
 simp only[Function.comp,hk];split<;>simp[b]
theorem z9v{nm:List UInt8}{f:α->α}{g:β->β}{l:List α}(m:q3Z k l){e:α}(j:q0G k nm l=some e)(d:h (f e)=g (h e)):(q1Z k nm f l).map h=q1Z k' nm g (l.map h):=by
 obtain⟨he,b⟩:=q0L j;unfold q1Z;rw[List.map_map,List.map_map];refine List.map_congr_left fun y o=>?_
 simp only[Function.comp,hk]
 split
 ·rename_i q
  have i:k y=nm:=by simpa using q
  rw[q7T m o he (i.trans b.symm)];exact d
 ·rfl
theorem q2R(nm:List UInt8)(l:List α):q0G k' nm (l.map h)=(q0G k nm l).map h:=by
 unfold q0G;rw[List.find?_map];congr 2;funext y;simp[hk]
theorem z4L{l:List α}:q3Z k' (l.map h)↔q3Z k l:=by
 unfold q3Z;rw[List.pairwise_map];simp only[hk]
end map
def q5z(s:α->Nat)(l:List α):Nat:=(l.map s).sum
theorem y1v(s:α->Nat)(x:α)(l:List α):q5z s (q2G k x l)=s x+q5z s l:=by
 unfold q5z;rw[((q3p x l).map s).sum_nat];simp
theorem q8M(s:α->Nat){nm:List UInt8}: ∀{l:List α},q3Z k l-> ∀{e:α},q0G k nm l=some e->q5z s (delN k nm l)+s e=q5z s l
 |[],_,_,hf=>by simp[q0G] at hf
 | a :: r,h,e,hf=>by
  obtain⟨o,q⟩:=List.pairwise_cons.1 h;by_cases b:k a=nm
  ·have j:a=e:=by unfold q0G at hf;rw[List.find?_cons_of_pos (by simpa using b)] at hf;exact Option.some.inj hf
   subst j;have d:delN k nm (a::r)=r:=by
    unfold delN;rw[List.filter_cons_of_neg (by simp[b])];refine List.filter_eq_self.2 fun y u=>?_
    have:=o y u;simp only[Bool.not_eq_true',beq_eq_false_iff_ne];intro m;rw[m,<-b,WideAt.bytes_irrefl] at this
    cases this
   rw[d];simp[q5z];omega
  ·have i:q0G k nm r=some e:=by unfold q0G at hf⊢;rwa [List.find?_cons_of_neg (by simpa using b)] at hf
   have v:=q8M s q i;have d:delN k nm (a::r)=a::delN k nm r:=by unfold delN;rw[List.filter_cons_of_pos (by simpa using b)]
   rw[d];simp only[q5z,List.map_cons,List.sum_cons] at v⊢;omega
theorem q8O(s:α->Nat){nm:List UInt8}{f:α->α}: ∀{l:List α},q3Z k l-> ∀{e:α},q0G k nm l=some e->q5z s (q1Z k nm f l)+s e=q5z s l+s (f e)
 |[],_,_,hf=>by simp[q0G] at hf
 | a ::r,h,e,hf=>by
  obtain⟨o,q⟩:=List.pairwise_cons.1 h;by_cases b:k a=nm
  ·have m:a=e:=by unfold q0G at hf;rw[List.find?_cons_of_pos (by simpa using b)] at hf;exact Option.some.inj hf
   subst m;have d:q1Z k nm f r=r:=q7E (q0g fun y u i=>by have:=o y u;rw[i,<-b,WideAt.bytes_irrefl] at this;cases this);have i:q1Z k nm f (a::r)=f a::q1Z k nm f r:=by unfold q1Z;rw[List.map_cons,ξ (by simpa using b)]
   rw[i,d];simp[q5z];omega
  ·have j:q0G k nm r=some e:=by unfold q0G at hf⊢;rwa [List.find?_cons_of_neg (by simpa using b)] at hf
   have v:=q8O s (f:=f) q j;have d:q1Z k nm f (a::r)=a::q1Z k nm f r:=by unfold q1Z;rw[List.map_cons,κ (by simpa using b)]
   rw[d];simp only[q5z,List.map_cons,List.sum_cons] at v⊢;omega
theorem q8N(s:α->Nat): ∀{l:List α} {e:α},e∈l->s e<=q5z s l
 | a::r,e,h=>by
  rcases List.mem_cons.1 h with rfl|h
  ·simp[q5z]
  ·have:=q8N s h;simp only[q5z,List.map_cons,List.sum_cons] at this⊢;omega
theorem q8h{nm:List UInt8}{l:List α}(h:q3Z k l){e:α}(d:q0G k nm l=some e):(delN k nm l).length+1=l.length:=by
 have:=q8M (fun _=>1) h d;have b: ∀m:List α,q5z (fun _=>1) m=m.length:=fun m=>by unfold q5z;induction m with
  |nil=>rfl
  |cons a r ih=>simp only[List.map_cons,List.sum_cons,ih,χ];omega
 rw[b,b] at this;exact this
end gen
structure FM where
 nm:List UInt8
 da:List UInt8
 sy:Nat
structure DM where
 cap:Int
 L:List FM
 reads:Int
 starts:Int
 down:Bool
 fail:Bool
 left:Int
 keep:List Int
def q0R(L:List FM):Nat:=q5z (fun f=>f.da.length) L
def q2h(nm:List UInt8):Bool:=!nm.isEmpty&&decide (nm.length<=12)
structure okD(σ:DM):Prop where
 cap0:0<=σ.cap
 cap1:σ.cap<=1048576
 used:(q0R σ.L:Int)<=σ.cap
 ord:q3Z FM.nm σ.L
 sy: ∀f∈σ.L,f.sy<=f.da.length
 many:σ.L.length<=400
 left:0<=σ.left
 idle:σ.fail=false->σ.left=0
 keep:σ.keep.length<=1000000
 left1:σ.left<=9223372036854775807
def q2M(σ:DM):Bool:=σ.fail&&decide (σ.left=0)
def q1m(σ:DM):DM:={σ with left:=max (σ.left-1) 0}
def q4s(f:FM)(more:Int):FM:={f with da:=f.da.take (f.sy+min (max more 0).toNat (f.da.length-f.sy)),sy:=f.sy+min (max more 0).toNat (f.da.length-f.sy)}
def q1r :List FM->List Int->List FM
 |[],_=>[]
 |f::r,ks=>q4s f (ks.headD 0)::q1r r ks.tail
def z4v(σ:DM)(ks:List Int):DM:={σ with L:=q1r σ.L ks,down:=true,fail:=false,left:=0,keep:=[]}
def q5R(σ:DM):DM:=z4v σ σ.keep
def upM(σ:DM):Int:=if σ.down then 61 else 0
def q0y(σ:DM)(nm:List UInt8):Int×DM:=
 if σ.down then(61,σ) else if !q2h nm then(2,σ) else if (q0G FM.nm nm σ.L).isSome then(62,σ) else if 400<=σ.L.length then(60,σ)
 else if q2M σ then(61,q5R σ) else(0,{q1m σ with L:=q2G FM.nm ⟨nm,[],0⟩ σ.L})
def z0C(σ:DM)(nm s:List UInt8):DM:={σ with L:=q1Z FM.nm nm (fun f=>{f with da:=f.da++s}) σ.L}
def q1L(σ:DM)(nm s:List UInt8):Int×DM:=
 if σ.down then(61,σ) else if (q0G FM.nm nm σ.L).isNone then(4,σ) else if σ.cap-(q0R σ.L:Int)<(s.length:Int) then(60,σ)
 else if q2M σ then(61,q5R (z0C σ nm s)) else(0,q1m (z0C σ nm s))
def q2p(σ:DM):DM:={σ with reads:=wrap64 (σ.reads+1)}
def q1w(σ:DM)(nm:List UInt8)(at_ n:Int):List UInt8×Int×DM:=
 if σ.down then([],61,σ) else match q0G FM.nm nm σ.L with
 |none=>([],4,q2p σ)
 |some f=>if 0<=at_/\0<=n/\at_<=(f.da.length:Int)/\n<=(f.da.length:Int)-at_ then((f.da.drop at_.toNat).take n.toNat,0,q2p σ) else([],2,q2p σ)
def q4k(σ:DM)(nm:List UInt8):Int×DM:=
 if σ.down then(61,σ) else if (q0G FM.nm nm σ.L).isNone then(4,σ) else if q2M σ then(61,q5R σ)
 else(0,{q1m σ with L:=q1Z FM.nm nm (fun f=>{f with sy:=f.da.length}) σ.L})
def z7A(a b:List UInt8)(f:FM)(L:List FM):List FM:=q2G FM.nm {f with nm:=b} (delN FM.nm a (delN FM.nm b L))
def q1k(σ:DM)(a b:List UInt8):Int×DM:=
 if σ.down then(61,σ) else match q0G FM.nm a σ.L with
 |none=>(4,σ)
 |some f=>if !q2h b then(2,σ) else if q2M σ then(61,q5R σ) else if a=b then(0,q1m σ) else(0,{q1m σ with L:=z7A a b f σ.L})
def q0V(σ:DM)(nm:List UInt8):Int×DM:=
 if σ.down then(61,σ) else if (q0G FM.nm nm σ.L).isNone then(4,σ) else if q2M σ then(61,q5R σ) else(0,{q1m σ with L:=delN FM.nm nm σ.L})
def q1l(σ:DM)(nm:List UInt8):Int×Int:=
 if σ.down then(0,61) else match q0G FM.nm nm σ.L with|none=>(0,4)|some f=>((f.da.length:Int),0)
def q1v(σ:DM):List (List UInt8):=σ.L.map FM.nm
def q4c(σ:DM):Int:=σ.cap-(q0R σ.L:Int)
def q6Z(n:Nat)(f:FM):FM:={f with da:=f.da.take n,sy:=min f.sy (min n f.da.length)}
end
section
open Go.RowKit
def q5E(L:List FM)(xs:List Int)(i:Nat):List FM:=q1r (L.take i) xs++L.drop i
theorem q6Y : ∀(L:List FM) (xs:List Int),(q1r L xs).length=L.length
 |[],_=>rfl
 |f::r,xs=>by simp[q1r,q6Y r]
theorem z7p(f:FM)(x:Int):(q4s f x).nm=f.nm:=rfl
theorem q8c : ∀(L:List FM) (xs:List Int),(q1r L xs).map FM.nm=L.map FM.nm
 |[],_=>rfl
 |f::r,xs=>by simp[q1r,q8c r,z7p]
theorem z7r(L:List FM)(xs:List Int):q5E L xs 0=L:=by simp[q5E,q1r]
theorem y0W(L:List FM)(xs:List Int):q5E L xs L.length=q1r L xs:=by simp[q5E]
theorem z3t(L:List FM)(xs:List Int)(i:Nat):(q5E L xs i).map FM.nm=L.map FM.nm:=by
 unfold q5E;rw[List.map_append,q8c,<-List.map_append,List.take_append_drop]
theorem z5l{L b:List FM}(h:q3Z FM.nm L)(e:b.map FM.nm=L.map FM.nm):q3Z FM.nm b:=by
 have d:q3Z (fun x:List UInt8=>x) (L.map FM.nm):=(z4L (k:=FM.nm) (h:=FM.nm) fun x=>rfl).2 h;rw[<-e] at d;exact(z4L (k:=FM.nm) (h:=FM.nm) fun x=>rfl).1 d
theorem z8T(xs:List Int)(i:Nat):xs.tail.getD i 0=xs.getD (i+1) 0:=by
 cases xs<;>simp[δ]
theorem z6k(xs:List Int):xs.headD 0=xs.getD 0 0:=by cases xs<;>simp
theorem q8d : ∀(l:List FM) (f:FM) (xs:List Int),q1r (l++[f]) xs=q1r l xs++[q4s f (xs.getD l.length 0)]
 |[],f,xs=>by simp only[List.nil_append,q1r,List.length_nil,z6k]
 | a::r,f,xs=>by
  rw[List.cons_append,q1r,q1r,q8d r f xs.tail,z8T]
  rfl
theorem z4h{nm:List UInt8}{h:FM->FM}{a c:List FM}{f:FM}(d:f.nm=nm)(q:q3Z FM.nm (a++f::c)):q1Z FM.nm nm h (a++f::c)=a++h f::c:=by
 have b:=z2v q;rw[List.pairwise_append] at b;obtain⟨_,m,o⟩:=b;have j:q1Z FM.nm nm h a=a:=q7E (q0g fun y i e=>o y i f (by simp) (e.trans d.symm));have hc:q1Z FM.nm nm h c=c:=q7E (q0g fun y i e=>(List.pairwise_cons.1 m).1 y i (d.trans e.symm));unfold q1Z at j hc⊢;rw[List.map_append,List.map_cons,j,hc,ξ (by simpa using d)]
theorem z2U{L:List FM}(xs:List Int){i:Nat}(b:i<L.length)(o:q3Z FM.nm L):
  q0G FM.nm L[i].nm (q5E L xs i)=some L[i]/\ ∀h:FM->FM,h L[i]=q4s L[i] (xs.getD i 0)->q1Z FM.nm L[i].nm h (q5E L xs i)=q5E L xs (i+1):=by
 have j:q5E L xs i=q1r (L.take i) xs++L[i]::L.drop (i+1):=by unfold q5E;rw[List.drop_eq_getElem_cons b]
 have d:q3Z FM.nm (q5E L xs i):=z5l o (z3t L xs i);have hm:L[i]∈q5E L xs i:=by rw[j];exact List.mem_append_right _ List.mem_cons_self
 refine⟨q4b d hm rfl,fun h m=>?_⟩;rw[j] at d⊢;rw[z4h rfl d,m];unfold q5E;rw[List.take_succ_eq_append_getElem b,q8d,Θ,Nat.min_eq_left (Nat.le_of_lt b)];simp
theorem z7J{nm:List UInt8}{h b:FM->FM}{L:List FM}(hk: ∀y,(h y).nm=y.nm):q1Z FM.nm nm b (q1Z FM.nm nm h L)=q1Z FM.nm nm (fun y=>b (h y)) L:=by
 unfold q1Z;rw[List.map_map];refine List.map_congr_left fun y _=>?_
 simp only[Function.comp];by_cases e:(y.nm==nm)=true
 ·rw[ξ e,ξ (by rw[hk];exact e),ξ e]
 ·rw[κ e,κ e,κ e]
theorem z7o(f:FM)(x:Int):(q4s f x).da.length<=f.da.length:=by simp[q4s];omega
theorem z7q(f:FM)(x:Int)(h:f.sy<=f.da.length):(q4s f x).sy=(q4s f x).da.length:=by simp[q4s];omega
theorem q9h : ∀(L:List FM) (xs:List Int),q0R (q1r L xs)<=q0R L
 |[],_=>ι _
 | f::r,xs=>by
  have:=q9h r xs.tail;have:=z7o f (xs.headD 0);unfold q0R q5z at*;simp only[q1r,List.map_cons,List.sum_cons];omega
theorem q7p(a b:List FM):q0R (a++b)=q0R a+q0R b:=by simp[q0R,q5z]
theorem z7K(L:List FM)(xs:List Int)(i:Nat):q0R (q5E L xs i)<=q0R L:=by
 unfold q5E;have e:q0R L=q0R (L.take i)+q0R (L.drop i):=by rw[<-q7p,List.take_append_drop]
 rw[q7p,e];have:=q9h (L.take i) xs;omega
theorem z2T : ∀(L:List FM) (xs:List Int),(∀f∈L,f.sy<=f.da.length)-> ∀f∈q1r L xs,f.sy=f.da.length
 |[],_,_=>by simp[q1r]
 | a::r,xs,h=>by
  intro f b;rw[q1r] at b;rcases List.mem_cons.1 b with rfl|b
  ·exact z7q _ _ (h a (by simp))
  ·exact z2T r xs.tail (fun g d=>h g (by simp[d])) f b
theorem y0V{σ:DM}(h:okD σ)(xs:List Int):okD (z4v σ xs):=by
 refine⟨h.cap0,h.cap1,?_,z5l h.ord (q8c _ _),fun f b=>Nat.le_of_eq (z2T _ _ h.sy f b),?_,Int.le_refl _,fun _=>rfl,υ _,by show(0:Int)<=_;decide⟩
 ·have:=h.used
  have:=q9h σ.L xs;show(q0R (q1r σ.L xs):Int)<=σ.cap;omega
 ·show(q1r σ.L xs).length<=400
  rw[q6Y];exact h.many
theorem z3V{L:List FM}{nm:List UInt8}{f:FM->FM}(d:q3Z FM.nm L){e:FM}(b:q0G FM.nm nm L=some e):q0R (q1Z FM.nm nm f L)+e.da.length=q0R L+(f e).da.length:=q8O _ d b
theorem q9i{L:List FM}{nm:List UInt8}(d:q3Z FM.nm L){e:FM}(b:q0G FM.nm nm L=some e):q0R (delN FM.nm nm L)+e.da.length=q0R L:=q8M _ d b
theorem q9j(x:FM)(L:List FM):q0R (q2G FM.nm x L)=x.da.length+q0R L:=y1v _ x L
theorem q9k{L:List FM}{e:FM}(h:e∈L):e.da.length<=q0R L:=q8N (fun f:FM=>f.da.length) h
theorem okD.tick{σ:DM}(h:okD σ):okD (q1m σ):=
 ⟨h.cap0,h.cap1,h.used,h.ord,h.sy,h.many,(by show 0<=max (σ.left-1) 0;omega),(fun b=>by have:=h.idle b;show max (σ.left-1) 0=0;omega),h.keep,by have:=h.left1;show max (σ.left-1) 0<=_;omega⟩
theorem okD.sink{σ:DM}(h:okD σ):okD (q5R σ):=y0V h _
theorem okD.files{σ:DM}(h:okD σ){L:List FM}(i:(q0R L:Int)<=σ.cap)(b:q3Z FM.nm L)(d: ∀f∈L,f.sy<=f.da.length)(hm:L.length<=400):okD {σ with L:=L}:=
 ⟨h.cap0,h.cap1,i,b,d,hm,h.left,h.idle,h.keep,h.left1⟩
theorem okD.upd{σ:DM}(h:okD σ){nm:List UInt8}{f:FM->FM}{e:FM}(d:q0G FM.nm nm σ.L=some e)(m:(q0R (q1Z FM.nm nm f σ.L):Int)<=σ.cap)(i: ∀y,(f y).nm=y.nm)(j:(f e).sy<=(f e).da.length):okD {σ with L:=q1Z FM.nm nm f σ.L}:=by
 refine h.files m (z1v h.ord fun y b=>by rw[i,b]) (fun y b=>?_) (by rw[q9g];exact h.many);rcases(q5a h.ord d).1 b with rfl|⟨b,_⟩
 ·exact j
 ·exact h.sy y b
theorem okD.app{σ:DM}(h:okD σ){nm s:List UInt8}{e:FM}(b:q0G FM.nm nm σ.L=some e)(o:(q0R σ.L:Int)+s.length<=σ.cap):okD (z0C σ nm s)/\q0R (z0C σ nm s).L=q0R σ.L+s.length:=by
 have i:=z3V (f:=fun f:FM=>{f with da:=f.da++s}) h.ord b;have j:=h.sy e (q0L b).1;have m:({e with da:=e.da++s}:FM).da.length=e.da.length+s.length:=θ;have d:q0R (q1Z FM.nm nm (fun f:FM=>{f with da:=f.da++s}) σ.L)=q0R σ.L+s.length:=by omega
 exact⟨h.upd b (by rw[d];omega) (fun y=>rfl) (by show e.sy<=(e.da++s).length;rw[θ];omega),d⟩
theorem okD.create{σ:DM}(h:okD σ){nm:List UInt8}(d:q0G FM.nm nm σ.L=none)(hm:σ.L.length<400):okD {σ with L:=q2G FM.nm ⟨nm,[],0⟩ σ.L}:=by
 refine h.files (by rw[q9j];have:=h.used;simpa using this) (q4E h.ord (q0l d)) (fun f b=>?_) (by rw[q2y];omega);rcases mem_insN.1 b with rfl|b
 ·exact ι _
 ·exact h.sy f b
theorem okD.tell{σ:DM}(h:okD σ):okD (q2p σ):=⟨h.cap0,h.cap1,h.used,h.ord,h.sy,h.many,h.left,h.idle,h.keep,h.left1⟩
theorem okD.sync{σ:DM}(h:okD σ){nm:List UInt8}{e:FM}(d:q0G FM.nm nm σ.L=some e):okD {σ with L:=q1Z FM.nm nm (fun f=>{f with sy:=f.da.length}) σ.L}/\q0R (q1Z FM.nm nm (fun f=>{f with sy:=f.da.length}) σ.L)=q0R σ.L:=by
 have i:=z3V (f:=fun f:FM=>{f with sy:=f.da.length}) h.ord d;have b:q0R (q1Z FM.nm nm (fun f:FM=>{f with sy:=f.da.length}) σ.L)=q0R σ.L:=by
  have:({e with sy:=e.da.length}:FM).da.length=e.da.length:=rfl;omega
 exact⟨h.upd d (by rw[b];exact h.used) (fun y=>rfl) (ι _),b⟩
theorem z7t(nm:List UInt8)(L:List FM):(delN FM.nm nm L).length<=L.length:=List.length_filter_le _ _
theorem q7q{L:List FM}(nm:List UInt8)(b:q3Z FM.nm L):q0R (delN FM.nm nm L)<=q0R L:=by
 cases hf:q0G FM.nm nm L with
 |none=>rw[q6c hf];exact ι _
 |some e=>have:=q9i b hf;omega
theorem okD.delete{σ:DM}(h:okD σ)(nm:List UInt8):okD {σ with L:=delN FM.nm nm σ.L}:=
 h.files (by have:=q7q nm h.ord;have:=h.used;omega) (q2c h.ord) (fun f b=>h.sy f (mem_delN.1 b).1) (by have:=z7t nm σ.L;have:=h.many;omega)
theorem z2Y{L:List FM}{b:List UInt8}(j:q3Z FM.nm L){f:FM}(d:q0G FM.nm a L=some f)(i:a≠b):q0G FM.nm a (delN FM.nm b L)=some f:=
 q4b (q2c j) (mem_delN.2 ⟨(q0L d).1,fun e=>i ((q0L d).2.symm.trans e)⟩) (q0L d).2
theorem okD.rename{σ:DM}(h:okD σ){b:List UInt8}{f:FM}(o:q0G FM.nm a σ.L=some f)(i:a≠b):okD {σ with L:=z7A a b f σ.L}/\q0R (z7A a b f σ.L)=q0R (delN FM.nm b σ.L):=by
 have j:q3Z FM.nm (delN FM.nm b σ.L):=q2c h.ord;have m:=z2Y h.ord o i;have v:=q9i j m;have B:=q7q b h.ord;have r:=q8h j m;have u:=z7t b σ.L;have q:q0R (z7A a b f σ.L)=q0R (delN FM.nm b σ.L):=by
  unfold z7A;rw[q9j];show f.da.length+_=_;omega
 refine⟨h.files ?_ ?_ ?_ ?_,q⟩
 ·rw[q];have:=h.used;omega
 ·exact q4E (q2c j) fun y d=>(mem_delN.1 (mem_delN.1 d).1).2
 ·intro y d
  rcases mem_insN.1 d with rfl|d
  ·exact h.sy f (q0L o).1
  ·exact h.sy y (mem_delN.1 (mem_delN.1 d).1).1
 ·unfold z7A;rw[q2y];have:=h.many;omega
def fbF(f:FM):List UInt8×List UInt8:=(f.nm,f.da)
structure Pl(σ:DM)(c s:Int)(l:List (List UInt8×List UInt8)):Prop where
 up:σ.down=false
 fine:σ.fail=false
 files:σ.L.map fbF=l
 cap:σ.cap=c
 st:σ.starts=s
def q1q(l:List (List UInt8×List UInt8)):Nat:=q5z (fun x:List UInt8×List UInt8=>x.2.length) l
section
variable {σ :DM}{c s:Int}{l:List (List UInt8×List UInt8)}{nm t:List UInt8}{x:List UInt8×List UInt8}
theorem q6j : ∀f:FM,Prod.fst (fbF f)=FM.nm f:=fun _=>rfl
theorem Pl.used(h:Pl σ c s l):q0R σ.L=q1q l:=by
 unfold q0R q1q q5z;rw[<-h.files,List.map_map]
 rfl
theorem Pl.free(h:Pl σ c s l):q4c σ=c-(q1q l:Int):=by unfold q4c;rw[h.cap,h.used]
theorem Pl.find(h:Pl σ c s l)(nm:List UInt8):q0G Prod.fst nm l=(q0G FM.nm nm σ.L).map fbF:=by rw[<-h.files];exact q2R q6j nm σ.L
theorem Pl.find_some(h:Pl σ c s l)(b:q0G Prod.fst nm l=some x): ∃f,q0G FM.nm nm σ.L=some f/\fbF f=x:=by
 rw[h.find] at b
 cases hq:q0G FM.nm nm σ.L with
 |none=>rw[hq] at b;cases b
 |some f=>rw[hq] at b;exact⟨f,rfl,Option.some.inj b⟩
theorem Pl.find_none(h:Pl σ c s l)(b:q0G Prod.fst nm l=none):q0G FM.nm nm σ.L=none:=by
 rw[h.find] at b
 cases hq:q0G FM.nm nm σ.L with
 |none=>rfl
 |some f=>rw[hq] at b;cases b
theorem Pl.ord(h:Pl σ c s l)(b:okD σ):q3Z Prod.fst l:=by rw[<-h.files];exact(z4L q6j).2 b.ord
theorem Pl.names(h:Pl σ c s l):q1v σ=l.map Prod.fst:=by rw[<-h.files,List.map_map];rfl
theorem Pl.no(h:Pl σ c s l):q2M σ=false:=by unfold q2M;rw[h.fine];rfl
theorem Pl.tell(h:Pl σ c s l):Pl (q2p σ) c s l:=⟨h.up,h.fine,h.files,h.cap,h.st⟩
theorem Pl.size(h:Pl σ c s l)(d:q0G Prod.fst nm l=some x):q1l σ nm=((x.2.length:Int),0):=by
 obtain⟨f,b,rfl⟩:=h.find_some d;unfold q1l;rw[κ (by rw[h.up];decide),b]
 rfl
theorem Pl.sizeN(h:Pl σ c s l)(b:q0G Prod.fst nm l=none):q1l σ nm=(0,4):=by
 unfold q1l;rw[κ (by rw[h.up];decide),h.find_none b]
theorem Pl.read(h:Pl σ c s l)(d:q0G Prod.fst nm l=some x)(a n:Int)(j:0<=a)(m:0<=n)(i:a+n<=(x.2.length:Int)):q1w σ nm a n=((x.2.drop a.toNat).take n.toNat,0,q2p σ):=by
 obtain⟨f,b,rfl⟩:=h.find_some d;unfold q1w;rw[κ (by rw[h.up];decide),b];show(if 0<=a/\0<=n/\a<=(f.da.length:Int)/\n<=(f.da.length:Int)-a then _ else _)=_;have e:(fbF f).2=f.da:=rfl;rw[e] at i;rw[ξ (by omega)]
 rfl
theorem Pl.append(h:Pl σ c s l)(d:q0G Prod.fst nm l=some x)(i:(t.length:Int)<=c-(q1q l:Int)): ∃σ',q1L σ nm t=(0,σ')/\Pl σ' c s (q1Z Prod.fst nm (fun x=>(x.1,x.2++t)) l):=by
 obtain⟨f,b,rfl⟩:=h.find_some d;refine⟨q1m (z0C σ nm t),?_,?_⟩
 ·unfold q1L
  rw[κ (by rw[h.up];decide),b,κ (by simp),κ (by rw[h.cap,h.used];omega),κ (by rw[h.no];decide)]
 ·exact⟨h.up,h.fine,by rw[<-h.files];exact z6I (k:=FM.nm) (k':=Prod.fst) q6j nm (fun f=>{f with da:=f.da++t}) (fun x=>(x.1,x.2++t)) (fun _=>rfl) σ.L,h.cap,h.st⟩
theorem Pl.sync(h:Pl σ c s l)(d:q0G Prod.fst nm l=some x): ∃σ',q4k σ nm=(0,σ')/\Pl σ' c s l:=by
 obtain⟨f,b,rfl⟩:=h.find_some d;refine⟨{q1m σ with L:=q1Z FM.nm nm (fun f=>{f with sy:=f.da.length}) σ.L},?_,?_⟩
 ·unfold q4k
  rw[κ (by rw[h.up];decide),b,κ (by simp),κ (by rw[h.no];decide)]
 ·refine⟨h.up,h.fine,?_,h.cap,h.st⟩
  rw[<-h.files];show(q1Z FM.nm nm _ σ.L).map fbF=_;rw[z6I (k:=FM.nm) (k':=Prod.fst) q6j nm (fun f=>{f with sy:=f.da.length}) id (fun _=>rfl) σ.L];unfold q1Z
  conv=>rhs;rw[<-List.map_id (σ.L.map fbF)]
  exact List.map_congr_left fun y _=>by split<;>rfl
theorem Pl.create(h:Pl σ c s l)(b:q0G Prod.fst nm l=none)(hk:q2h nm=true)(hm:l.length<400): ∃σ',q0y σ nm=(0,σ')/\Pl σ' c s (q2G Prod.fst (nm,[]) l):=by
 refine⟨{q1m σ with L:=q2G FM.nm ⟨nm,[],0⟩ σ.L},?_,?_⟩
 ·unfold q0y
  have e:σ.L.length=l.length:=by rw[<-h.files,List.length_map]
  rw[κ (by rw[h.up];decide),κ (by rw[hk];decide),h.find_none b,κ (by simp),κ (by omega),κ (by rw[h.no];decide)]
 ·refine⟨h.up,h.fine,?_,h.cap,h.st⟩
  rw[<-h.files];exact q6p (k:=FM.nm) (k':=Prod.fst) q6j ⟨nm,[],0⟩ σ.L
end
section
variable {α :Type}{k:α->List UInt8}
theorem q5k(nm:List UInt8)(f:α->α)(a b:List α):q1Z k nm f (a++b)=q1Z k nm f a++q1Z k nm f b:=by unfold q1Z;simp
theorem q3D{nm:List UInt8}{f:α->α}{l:List α}(h: ∀y∈l,k y≠nm):q1Z k nm f l=l:=q7E (q0g h)
theorem q0p{nm:List UInt8}{a b:List α}(h: ∀y∈a,k y≠nm):q0G k nm (a++b)=q0G k nm b:=by
 unfold q0G;rw[List.find?_append];have:List.find? (fun y=>k y==nm) a=none:=q0g h;rw[this];rfl
end
end
end Go.Proofs.YtjlcdfpbllobaaaGreatDoor
