/- Plain laws. -/
import Derived.Test.YtfiibpgoplcgkaaGreatDoorG0WN
import Derived.Sort.KeysCollected
import Derived.Lib.Hide
set_option linter.unusedVariables false
set_option linter.unusedSimpArgs false
set_option maxRecDepth 100000
set_option maxHeartbeats 200000
namespace Go.Proofs.YtfiibpgoplcgkaaGreatDoor
variable {a:List UInt8}
section
open Go.RowKit
theorem q4w : ∀a b:List UInt8,bytesBefore a b=decide (a<b)
 |[],[]=>by simp[bytesBefore]
 |[],b::s=>by simp[bytesBefore]
 |a::r,[]=>by simp[bytesBefore]
 | a::r,b::s=>by
  unfold bytesBefore;rw[q4w r s,Bool.eq_iff_iff];simp[List.cons_lt_cons_iff]
section gen
variable {α β:Type}(k:α->List UInt8)
def q1b(x:α):List α->List α
 |[]=>[x]
 |y::r=>if bytesBefore (k x) (k y) then x::y::r else y::q1b x r
def q1I(nm:List UInt8)(l:List α):List α:=l.filter fun y=>!(k y==nm)
def q1L(nm:List UInt8)(f:α->α)(l:List α):List α:=l.map fun y=>if k y==nm then f y else y
def q0E(nm:List UInt8)(l:List α):Option α:=l.find? fun y=>k y==nm
def q2K(l:List α):Prop:=l.Pairwise fun x y=>bytesBefore (k x) (k y)=true
variable {k}
theorem q3i(x:α): ∀l:List α,(q1b k x l).Perm (x::l)
 |[]=>List.Perm.refl _
 | y::r=>by
  unfold q1b
  split
  ·exact List.Perm.refl _
  ·exact(List.Perm.cons y (q3i x r)).trans (List.Perm.swap x y r)
theorem mem_insN{x y:α}{l:List α}:y∈q1b k x l↔y=x\/y∈l:=by rw[(q3i x l).mem_iff];simp
theorem q7O(x:α)(l:List α):(q1b k x l).length=l.length+1:=by rw[(q3i x l).length_eq];rfl
theorem q4h{x:α}: ∀{l:List α},q2K k l->(∀y∈l,k y≠k x)->q2K k (q1b k x l)
 |[],_,_=>by simp[q2K,q1b]
 | y :: r,h,hne=>by
  obtain⟨h1,h2⟩:=List.pairwise_cons.1 h;unfold q1b
  split
  ·rename_i d
   refine List.pairwise_cons.2 ⟨fun z b=>?_,h⟩;rcases List.mem_cons.1 b with rfl|b
   ·exact d
   ·exact WideShapes.bytes_trans _ _ _ d (h1 z b)
  ·rename_i d
   have i:bytesBefore (k y) (k x)=true:=by
    rcases WideAt.bytes_total _ _ (hne y (List.mem_cons_self)) with h|h
    ·exact h
    ·exact absurd h d
   refine List.pairwise_cons.2 ⟨fun z b=>?_,q4h h2 fun z b=>hne z (List.mem_cons_of_mem _ b)⟩;rcases mem_insN.1 b with rfl|b
   ·exact i
   ·exact h1 z b
theorem q2w{nm:List UInt8}{l:List α}(h:q2K k l):q2K k (q1I k nm l):=h.filter _
theorem mem_delN{nm:List UInt8}{x:α}{l:List α}:x∈q1I k nm l↔x∈l/\k x≠nm:=by simp[q1I,List.mem_filter]
theorem q9n{nm:List UInt8}{f:α->α}{l:List α}(h:q2K k l)(i: ∀y,k y=nm->k (f y)=nm):q2K k (q1L k nm f l):=by
 refine List.pairwise_map.2 (h.imp fun {x y} d=>?_);have e: ∀z,k (if k z==nm then f z else z)=k z:=fun z=>by
  split
  ·rename_i j
   have b:k z=nm:=by simpa using j
   rw[i z b,b]
  ·rfl
 rw[e,e];exact d
theorem q7i{nm:List UInt8}{f:α->α}(l:List α):(q1L k nm f l).length=l.length:=by simp[q1L]
theorem q0J{nm:List UInt8}{l:List α}{e:α}(h:q0E k nm l=some e):e∈l/\k e=nm:=⟨List.mem_of_find?_eq_some h,by simpa using List.find?_some h⟩
theorem q0o{nm:List UInt8}{l:List α}(h:q0E k nm l=none): ∀y∈l,k y≠nm:=fun y hy=>by simpa using List.find?_eq_none.1 h y hy
theorem q0R{nm:List UInt8}{l:List α}(h: ∀y∈l,k y≠nm):q0E k nm l=none:=List.find?_eq_none.2 fun y b=>by simpa using h y b
theorem q8X{l:List α}(h:q2K k l):l.Pairwise fun x y=>k x≠k y:=h.imp fun {x y} b e=>by rw[e,WideAt.bytes_irrefl] at b;cases b
theorem q6C{l:List α}(h:q2K k l){x y:α}(j:x∈l)(o:y∈l)(e:k x=k y):x=y:=by
 have m:=q8X h;clear h
 induction l with
 |nil=>cases j
 | cons a r ih=>
  obtain⟨h1,h2⟩:=List.pairwise_cons.1 m;rcases List.mem_cons.1 j with ex|b<;>rcases List.mem_cons.1 o with i|d
  ·rw[ex,i]
  ·subst ex;exact absurd e (h1 y d)
  ·subst i;exact absurd e.symm (h1 x b)
  ·exact ih b d h2
theorem q2x{nm:List UInt8}{l:List α}(h:q2K k l){e:α}(he:e∈l)(b:k e=nm):q0E k nm l=some e:=by
 cases hf:q0E k nm l with
 |none=>exact absurd b (q0o hf e he)
 |some e'=>obtain⟨h1,h2⟩:=q0J hf;rw[q6C h h1 he (h2.trans b.symm)]
theorem q5U{nm:List UInt8}{l:List α}(h:q0E k nm l=none):q1I k nm l=l:=List.filter_eq_self.2 fun y b=>by simpa using q0o h y b
theorem q5n{nm:List UInt8}{f:α->α}{l:List α}(h:q0E k nm l=none):q1L k nm f l=l:=by
 unfold q1L
 conv=>rhs;rw[<-List.map_id l]
 exact List.map_congr_left fun y b=>by rw[κ (by simpa using q0o h y b)];rfl
theorem q4i{nm:List UInt8}{f:α->α}{l:List α}(h:q2K k l){e:α}(i:q0E k nm l=some e){y:α}:y∈q1L k nm f l↔y=f e\/(y∈l/\k y≠nm):=by
 obtain⟨h1,h2⟩:=q0J i;unfold q1L;rw[List.mem_map]
 constructor
 ·rintro⟨z,d,rfl⟩
  by_cases b:k z=nm
  ·obtain rfl:=q6C h d h1 (b.trans h2.symm)
   left;rw[ξ (by simpa using b)]
  ·right;rw[κ (by simpa using b)];exact⟨d,b⟩
 ·rintro(rfl|⟨j,b⟩)
  ·exact⟨e,h1,by rw[ξ (by simpa using h2)]⟩
  ·exact⟨y,j,by rw[κ (by simpa using b)]⟩
theorem q9Y{S:α->α->Prop}{nm:List UInt8}{f:α->α}{l:List α}(h:q2K k l)(q:l.Pairwise S){e:α}(r:q0E k nm l=some e)(h1: ∀y∈l,k y≠nm->S (f e) y/\S y (f e)):(q1L k nm f l).Pairwise S:=by
 obtain⟨he,i⟩:=q0J r;refine List.pairwise_map.2 ((q.and (q8X h)).imp_of_mem fun {x y} m o ⟨u,j⟩=>?_);by_cases d:k x=nm
 ·have b:k y≠nm:=fun e=>j (d.trans e.symm)
  obtain rfl:=q6C h m he (d.trans i.symm);rw[ξ (by simpa using d),κ (by simpa using b)];exact(h1 y o b).1
 ·rw [κ (by simpa using d)]
  by_cases b:k y=nm
  ·obtain rfl:=q6C h o he (b.trans i.symm)
   rw[ξ (by simpa using b)];exact(h1 x m d).2
  ·rw[κ (by simpa using b)];exact u
section map
variable {k' :β->List UInt8}{h:α->β}(hk: ∀x,k' (h x)=k x)
include hk
theorem q5b(x:α): ∀l:List α,(q1b k x l).map h=q1b k' (h x) (l.map h)
 |[]=>rfl
 | y::r=>by
  unfold q1b;simp only[List.map_cons,hk]
  split
  ·rfl
  ·rw[List.map_cons,q5b x r]
theorem q5T(nm:List UInt8)(l:List α):(q1I k nm l).map h=q1I k' nm (l.map h):=by
 unfold q1I;rw[List.filter_map];congr 1;exact List.filter_congr fun y _=>by simp[hk]
theorem z3d(nm:List UInt8)(f:α->α)(g:β->β)(b: ∀y,h (f y)=g (h y))(l:List α):(q1L k nm f l).map h=q1L k' nm g (l.map h):=by
 unfold q1L;rw[List.map_map,List.map_map];refine List.map_congr_left fun y _=>?_
 simp only[Function.comp,hk];split<;>simp[b]
theorem z7A{nm:List UInt8}{f:α->α}{g:β->β}{l:List α}(m:q2K k l){e:α}(j:q0E k nm l=some e)(d:h (f e)=g (h e)):(q1L k nm f l).map h=q1L k' nm g (l.map h):=by
 obtain⟨he,b⟩:=q0J j;unfold q1L;rw[List.map_map,List.map_map];refine List.map_congr_left fun y o=>?_
 simp only[Function.comp,hk]
 split
 ·rename_i q
  have i:k y=nm:=by simpa using q
  rw[q6C m o he (i.trans b.symm)];exact d
 ·rfl
theorem q1o(nm:List UInt8)(l:List α):q0E k' nm (l.map h)=(q0E k nm l).map h:=by
 unfold q0E;rw[List.find?_map];congr 2;funext y;simp[hk]
theorem z1t{l:List α}:q2K k' (l.map h)↔q2K k l:=by
 unfold q2K;rw[List.pairwise_map];simp only[hk]
end map
def q4u(s:α->Nat)(l:List α):Nat:=(l.map s).sum
theorem z8h(s:α->Nat)(x:α)(l:List α):q4u s (q1b k x l)=s x+q4u s l:=by
 unfold q4u;rw[((q3i x l).map s).sum_nat];simp
theorem q9h(s:α->Nat){nm:List UInt8}: ∀{l:List α},q2K k l-> ∀{e:α},q0E k nm l=some e->q4u s (q1I k nm l)+s e=q4u s l
 |[],_,_,hf=>by simp[q0E] at hf
 | a :: r,h,e,hf=>by
  obtain⟨h1,h2⟩:=List.pairwise_cons.1 h;by_cases b:k a=nm
  ·have j:a=e:=by unfold q0E at hf;rw[List.find?_cons_of_pos (by simpa using b)] at hf;exact Option.some.inj hf
   subst j;have d:q1I k nm (a::r)=r:=by
    unfold q1I;rw[List.filter_cons_of_neg (by simp[b])];refine List.filter_eq_self.2 fun y o=>?_
    have:=h1 y o;simp only[Bool.not_eq_true',beq_eq_false_iff_ne];intro m;rw[m,<-b,WideAt.bytes_irrefl] at this
    cases this
   rw[d];simp[q4u];omega
  ·have i:q0E k nm r=some e:=by unfold q0E at hf⊢;rwa [List.find?_cons_of_neg (by simpa using b)] at hf
   have q:=q9h s h2 i;have d:q1I k nm (a::r)=a::q1I k nm r:=by unfold q1I;rw[List.filter_cons_of_pos (by simpa using b)]
   rw[d];simp only[q4u,List.map_cons,List.sum_cons] at q⊢;omega
theorem q6n(s:α->Nat){nm:List UInt8}{f:α->α}: ∀{l:List α},q2K k l-> ∀{e:α},q0E k nm l=some e->q4u s (q1L k nm f l)+s e=q4u s l+s (f e)
 |[],_,_,hf=>by simp[q0E] at hf
 | a ::r,h,e,hf=>by
  obtain⟨h1,h2⟩:=List.pairwise_cons.1 h;by_cases b:k a=nm
  ·have m:a=e:=by unfold q0E at hf;rw[List.find?_cons_of_pos (by simpa using b)] at hf;exact Option.some.inj hf
   subst m;have d:q1L k nm f r=r:=q5n (q0R fun y o i=>by have:=h1 y o;rw[i,<-b,WideAt.bytes_irrefl] at this;cases this);have i:q1L k nm f (a::r)=f a::q1L k nm f r:=by unfold q1L;rw[List.map_cons,ξ (by simpa using b)]
   rw[i,d];simp[q4u];omega
  ·have j:q0E k nm r=some e:=by unfold q0E at hf⊢;rwa [List.find?_cons_of_neg (by simpa using b)] at hf
   have q:=q6n s (f:=f) h2 j;have d:q1L k nm f (a::r)=a::q1L k nm f r:=by unfold q1L;rw[List.map_cons,κ (by simpa using b)]
   rw[d];simp only[q4u,List.map_cons,List.sum_cons] at q⊢;omega
theorem q6m(s:α->Nat): ∀{l:List α} {e:α},e∈l->s e<=q4u s l
 | a::r,e,h=>by
  rcases List.mem_cons.1 h with rfl|h
  ·simp[q4u]
  ·have:=q6m s h;simp only[q4u,List.map_cons,List.sum_cons] at this⊢;omega
theorem z1W{nm:List UInt8}{l:List α}(h:q2K k l){e:α}(d:q0E k nm l=some e):(q1I k nm l).length+1=l.length:=by
 have:=q9h (fun _=>1) h d;have b: ∀m:List α,q4u (fun _=>1) m=m.length:=fun m=>by unfold q4u;induction m with
  |nil=>rfl
  |cons a r ih=>simp only[List.map_cons,List.sum_cons,ih,χ];omega
 rw[b,b] at this;exact this
end gen
structure FM where
 nm:List UInt8
 da:List UInt8
 sy:Nat
structure DM where
 cap:Int
 L:List FM
 reads:Int
 starts:Int
 down:Bool
 fail:Bool
 left:Int
 keep:List Int
def q0O(L:List FM):Nat:=q4u (fun f=>f.da.length) L
def q2B(nm:List UInt8):Bool:=!nm.isEmpty&&decide (nm.length<=12)
structure okD(σ:DM):Prop where
 cap0:0<=σ.cap
 cap1:σ.cap<=1048576
 used:(q0O σ.L:Int)<=σ.cap
 ord:q2K FM.nm σ.L
 sy: ∀f∈σ.L,f.sy<=f.da.length
 many:σ.L.length<=400
 left:0<=σ.left
 idle:σ.fail=false->σ.left=0
 keep:σ.keep.length<=1000000
 left1:σ.left<=9223372036854775807
def q1j(σ:DM):Bool:=σ.fail&&decide (σ.left=0)
def q1Y(σ:DM):DM:={σ with left:=max (σ.left-1) 0}
def q2M(f:FM)(more:Int):FM:={f with da:=f.da.take (f.sy+min (max more 0).toNat (f.da.length-f.sy)),sy:=f.sy+min (max more 0).toNat (f.da.length-f.sy)}
def q0p :List FM->List Int->List FM
 |[],_=>[]
 |f::r,ks=>q2M f (ks.headD 0)::q0p r ks.tail
def q4x(σ:DM)(ks:List Int):DM:={σ with L:=q0p σ.L ks,down:=true,fail:=false,left:=0,keep:=[]}
def q4c(σ:DM):DM:=q4x σ σ.keep
def q1x(σ:DM)(nm:List UInt8):Int×DM:=
 if σ.down then(61,σ) else if !q2B nm then(2,σ) else if (q0E FM.nm nm σ.L).isSome then(62,σ) else if 400<=σ.L.length then(60,σ)
 else if q1j σ then(61,q4c σ) else(0,{q1Y σ with L:=q1b FM.nm ⟨nm,[],0⟩ σ.L})
def q8C(σ:DM)(nm s:List UInt8):DM:={σ with L:=q1L FM.nm nm (fun f=>{f with da:=f.da++s}) σ.L}
def q1V(σ:DM)(nm s:List UInt8):Int×DM:=
 if σ.down then(61,σ) else if (q0E FM.nm nm σ.L).isNone then(4,σ) else if σ.cap-(q0O σ.L:Int)<(s.length:Int) then(60,σ)
 else if q1j σ then(61,q4c (q8C σ nm s)) else(0,q1Y (q8C σ nm s))
def q2T(σ:DM):DM:={σ with reads:=wrap64 (σ.reads+1)}
def q1l(σ:DM)(nm:List UInt8)(at_ n:Int):List UInt8×Int×DM:=
 if σ.down then([],61,σ) else match q0E FM.nm nm σ.L with
 |none=>([],4,q2T σ)
 |some f=>if 0<=at_/\0<=n/\at_<=(f.da.length:Int)/\n<=(f.da.length:Int)-at_ then((f.da.drop at_.toNat).take n.toNat,0,q2T σ) else([],2,q2T σ)
def q4v(σ:DM)(nm:List UInt8):Int×DM:=
 if σ.down then(61,σ) else if (q0E FM.nm nm σ.L).isNone then(4,σ) else if q1j σ then(61,q4c σ)
 else(0,{q1Y σ with L:=q1L FM.nm nm (fun f=>{f with sy:=f.da.length}) σ.L})
def z4b(a b:List UInt8)(f:FM)(L:List FM):List FM:=q1b FM.nm {f with nm:=b} (q1I FM.nm a (q1I FM.nm b L))
def q1z(σ:DM)(a b:List UInt8):Int×DM:=
 if σ.down then(61,σ) else match q0E FM.nm a σ.L with
 |none=>(4,σ)
 |some f=>if !q2B b then(2,σ) else if q1j σ then(61,q4c σ) else if a=b then(0,q1Y σ) else(0,{q1Y σ with L:=z4b a b f σ.L})
def q1H(σ:DM)(nm:List UInt8):Int×DM:=
 if σ.down then(61,σ) else if (q0E FM.nm nm σ.L).isNone then(4,σ) else if q1j σ then(61,q4c σ) else(0,{q1Y σ with L:=q1I FM.nm nm σ.L})
def q1h(σ:DM)(nm:List UInt8):Int×Int:=
 if σ.down then(0,61) else match q0E FM.nm nm σ.L with|none=>(0,4)|some f=>((f.da.length:Int),0)
def q1k(σ:DM):List (List UInt8):=σ.L.map FM.nm
def z1d(σ:DM):Int:=σ.cap-(q0O σ.L:Int)
def q6L(σ:DM)(ks:List Int):Int×DM:=if σ.down then(61,σ) else(0,q4x σ ks)
def q6V(σ:DM):Int×DM:=if σ.down then(0,{σ with down:=false,starts:=wrap64 (σ.starts+1)}) else(2,σ)
def q5R(n:Nat)(f:FM):FM:={f with da:=f.da.take n,sy:=min f.sy (min n f.da.length)}
end
section
open Go.RowKit
def fbF(f:FM):List UInt8×List UInt8:=(f.nm,f.da)
structure Pl(σ:DM)(c s:Int)(l:List (List UInt8×List UInt8)):Prop where
 up:σ.down=false
 fine:σ.fail=false
 files:σ.L.map fbF=l
 cap:σ.cap=c
 st:σ.starts=s
def q1T(l:List (List UInt8×List UInt8)):Nat:=q4u (fun x:List UInt8×List UInt8=>x.2.length) l
section
variable {σ :DM}{c s:Int}{l:List (List UInt8×List UInt8)}{nm t:List UInt8}{x:List UInt8×List UInt8}
theorem q4z : ∀f:FM,Prod.fst (fbF f)=FM.nm f:=fun _=>rfl
theorem Pl.used(h:Pl σ c s l):q0O σ.L=q1T l:=by
 unfold q0O q1T q4u;rw[<-h.files,List.map_map]
 rfl
theorem Pl.free(h:Pl σ c s l):z1d σ=c-(q1T l:Int):=by unfold z1d;rw[h.cap,h.used]
theorem Pl.find(h:Pl σ c s l)(nm:List UInt8):q0E Prod.fst nm l=(q0E FM.nm nm σ.L).map fbF:=by rw[<-h.files];exact q1o q4z nm σ.L
theorem Pl.find_some(h:Pl σ c s l)(b:q0E Prod.fst nm l=some x): ∃f,q0E FM.nm nm σ.L=some f/\fbF f=x:=by
 rw[h.find] at b
 cases hq:q0E FM.nm nm σ.L with
 |none=>rw[hq] at b;cases b
 |some f=>rw[hq] at b;exact⟨f,rfl,Option.some.inj b⟩
theorem Pl.find_none(h:Pl σ c s l)(b:q0E Prod.fst nm l=none):q0E FM.nm nm σ.L=none:=by
 rw[h.find] at b
 cases hq:q0E FM.nm nm σ.L with
 |none=>rfl
 |some f=>rw[hq] at b;cases b
theorem Pl.ord(h:Pl σ c s l)(b:okD σ):q2K Prod.fst l:=by rw[<-h.files];exact(z1t q4z).2 b.ord
theorem Pl.names(h:Pl σ c s l):q1k σ=l.map Prod.fst:=by rw[<-h.files,List.map_map];rfl
theorem Pl.no(h:Pl σ c s l):q1j σ=false:=by unfold q1j;rw[h.fine];rfl
theorem Pl.tell(h:Pl σ c s l):Pl (q2T σ) c s l:=⟨h.up,h.fine,h.files,h.cap,h.st⟩
theorem Pl.size(h:Pl σ c s l)(b:q0E Prod.fst nm l=some x):q1h σ nm=((x.2.length:Int),0):=by
 obtain⟨f,h1,rfl⟩:=h.find_some b;unfold q1h;rw[κ (by rw[h.up];decide),h1]
 rfl
theorem Pl.sizeN(h:Pl σ c s l)(b:q0E Prod.fst nm l=none):q1h σ nm=(0,4):=by
 unfold q1h;rw[κ (by rw[h.up];decide),h.find_none b]
theorem Pl.read(h:Pl σ c s l)(b:q0E Prod.fst nm l=some x)(a n:Int)(i:0<=a)(j:0<=n)(d:a+n<=(x.2.length:Int)):q1l σ nm a n=((x.2.drop a.toNat).take n.toNat,0,q2T σ):=by
 obtain⟨f,h1,rfl⟩:=h.find_some b;unfold q1l;rw[κ (by rw[h.up];decide),h1];show(if 0<=a/\0<=n/\a<=(f.da.length:Int)/\n<=(f.da.length:Int)-a then _ else _)=_;have e:(fbF f).2=f.da:=rfl;rw[e] at d;rw[ξ (by omega)]
 rfl
theorem Pl.append(h:Pl σ c s l)(b:q0E Prod.fst nm l=some x)(d:(t.length:Int)<=c-(q1T l:Int)): ∃σ',q1V σ nm t=(0,σ')/\Pl σ' c s (q1L Prod.fst nm (fun x=>(x.1,x.2++t)) l):=by
 obtain⟨f,h1,rfl⟩:=h.find_some b;refine⟨q1Y (q8C σ nm t),?_,?_⟩
 ·unfold q1V
  rw[κ (by rw[h.up];decide),h1,κ (by simp),κ (by rw[h.cap,h.used];omega),κ (by rw[h.no];decide)]
 ·exact⟨h.up,h.fine,by rw[<-h.files];exact z3d (k:=FM.nm) (k':=Prod.fst) q4z nm (fun f=>{f with da:=f.da++t}) (fun x=>(x.1,x.2++t)) (fun _=>rfl) σ.L,h.cap,h.st⟩
theorem Pl.sync(h:Pl σ c s l)(b:q0E Prod.fst nm l=some x): ∃σ',q4v σ nm=(0,σ')/\Pl σ' c s l:=by
 obtain⟨f,h1,rfl⟩:=h.find_some b;refine⟨{q1Y σ with L:=q1L FM.nm nm (fun f=>{f with sy:=f.da.length}) σ.L},?_,?_⟩
 ·unfold q4v
  rw[κ (by rw[h.up];decide),h1,κ (by simp),κ (by rw[h.no];decide)]
 ·refine⟨h.up,h.fine,?_,h.cap,h.st⟩
  rw[<-h.files];show(q1L FM.nm nm _ σ.L).map fbF=_;rw[z3d (k:=FM.nm) (k':=Prod.fst) q4z nm (fun f=>{f with sy:=f.da.length}) id (fun _=>rfl) σ.L];unfold q1L
  conv=>rhs;rw[<-List.map_id (σ.L.map fbF)]
  exact List.map_congr_left fun y _=>by split<;>rfl
theorem Pl.create(h:Pl σ c s l)(b:q0E Prod.fst nm l=none)(hk:q2B nm=true)(hm:l.length<400): ∃σ',q1x σ nm=(0,σ')/\Pl σ' c s (q1b Prod.fst (nm,[]) l):=by
 refine⟨{q1Y σ with L:=q1b FM.nm ⟨nm,[],0⟩ σ.L},?_,?_⟩
 ·unfold q1x
  have e:σ.L.length=l.length:=by rw[<-h.files,List.length_map]
  rw[κ (by rw[h.up];decide),κ (by rw[hk];decide),h.find_none b,κ (by simp),κ (by omega),κ (by rw[h.no];decide)]
 ·refine⟨h.up,h.fine,?_,h.cap,h.st⟩
  rw[<-h.files];exact q5b (k:=FM.nm) (k':=Prod.fst) q4z ⟨nm,[],0⟩ σ.L
end
section
variable {α :Type}{k:α->List UInt8}
theorem q4r(nm:List UInt8)(f:α->α)(a b:List α):q1L k nm f (a++b)=q1L k nm f a++q1L k nm f b:=by unfold q1L;simp
theorem q2b{nm:List UInt8}{f:α->α}{l:List α}(h: ∀y∈l,k y≠nm):q1L k nm f l=l:=q5n (q0R h)
theorem q0P{nm:List UInt8}{a b:List α}(h: ∀y∈a,k y≠nm):q0E k nm (a++b)=q0E k nm b:=by
 unfold q0E;rw[List.find?_append];have:List.find? (fun y=>k y==nm) a=none:=q0R h;rw[this];rfl
end
def q4R(L:List FM)(xs:List Int)(i:Nat):List FM:=q0p (L.take i) xs++L.drop i
theorem q3q : ∀(L:List FM) (xs:List Int),(q0p L xs).length=L.length
 |[],_=>rfl
 |f::r,xs=>by simp[q0p,q3q r]
theorem q6z(f:FM)(x:Int):(q2M f x).nm=f.nm:=rfl
theorem q5Q : ∀(L:List FM) (xs:List Int),(q0p L xs).map FM.nm=L.map FM.nm
 |[],_=>rfl
 |f::r,xs=>by simp[q0p,q5Q r,q6z]
theorem z5O(L:List FM)(xs:List Int):q4R L xs 0=L:=by simp[q4R,q0p]
theorem z7Y(L:List FM)(xs:List Int):q4R L xs L.length=q0p L xs:=by simp[q4R]
theorem z1U(L:List FM)(xs:List Int)(i:Nat):(q4R L xs i).map FM.nm=L.map FM.nm:=by
 unfold q4R;rw[List.map_append,q5Q,<-List.map_append,List.take_append_drop]
theorem z3H{L b:List FM}(h:q2K FM.nm L)(e:b.map FM.nm=L.map FM.nm):q2K FM.nm b:=by
 have h1:q2K (fun x:List UInt8=>x) (L.map FM.nm):=(z1t (k:=FM.nm) (h:=FM.nm) fun x=>rfl).2 h;rw[<-e] at h1;exact(z1t (k:=FM.nm) (h:=FM.nm) fun x=>rfl).1 h1
theorem z5o(xs:List Int)(i:Nat):xs.tail.getD i 0=xs.getD (i+1) 0:=by
 cases xs<;>simp[δ]
theorem z4M(xs:List Int):xs.headD 0=xs.getD 0 0:=by cases xs<;>simp
theorem q7A : ∀(l:List FM) (f:FM) (xs:List Int),q0p (l++[f]) xs=q0p l xs++[q2M f (xs.getD l.length 0)]
 |[],f,xs=>by simp only[List.nil_append,q0p,List.length_nil,z4M]
 | a::r,f,xs=>by
  rw[List.cons_append,q0p,q0p,q7A r f xs.tail,z5o]
  rfl
theorem z2T{nm:List UInt8}{h:FM->FM}{a c:List FM}{f:FM}(d:f.nm=nm)(m:q2K FM.nm (a++f::c)):q1L FM.nm nm h (a++f::c)=a++h f::c:=by
 have b:=q8X m;rw[List.pairwise_append] at b;obtain⟨_,h2,h3⟩:=b;have j:q1L FM.nm nm h a=a:=q5n (q0R fun y i e=>h3 y i f (by simp) (e.trans d.symm));have hc:q1L FM.nm nm h c=c:=q5n (q0R fun y i e=>(List.pairwise_cons.1 h2).1 y i (d.trans e.symm));unfold q1L at j hc⊢;rw[List.map_append,List.map_cons,j,hc,ξ (by simpa using d)]
theorem z0G{L:List FM}(xs:List Int){i:Nat}(b:i<L.length)(o:q2K FM.nm L):
  q0E FM.nm L[i].nm (q4R L xs i)=some L[i]/\ ∀h:FM->FM,h L[i]=q2M L[i] (xs.getD i 0)->q1L FM.nm L[i].nm h (q4R L xs i)=q4R L xs (i+1):=by
 have j:q4R L xs i=q0p (L.take i) xs++L[i]::L.drop (i+1):=by unfold q4R;rw[List.drop_eq_getElem_cons b]
 have d:q2K FM.nm (q4R L xs i):=z3H o (z1U L xs i);have hm:L[i]∈q4R L xs i:=by rw[j];exact List.mem_append_right _ List.mem_cons_self
 refine⟨q2x d hm rfl,fun h m=>?_⟩;rw[j] at d⊢;rw[z2T rfl d,m];unfold q4R;rw[List.take_succ_eq_append_getElem b,q7A,Θ,Nat.min_eq_left (Nat.le_of_lt b)];simp
theorem z4m{nm:List UInt8}{h b:FM->FM}{L:List FM}(hk: ∀y,(h y).nm=y.nm):q1L FM.nm nm b (q1L FM.nm nm h L)=q1L FM.nm nm (fun y=>b (h y)) L:=by
 unfold q1L;rw[List.map_map];refine List.map_congr_left fun y _=>?_
 simp only[Function.comp];by_cases e:(y.nm==nm)=true
 ·rw[ξ e,ξ (by rw[hk];exact e),ξ e]
 ·rw[κ e,κ e,κ e]
theorem z0F(f:FM)(x:Int):(q2M f x).da.length<=f.da.length:=by simp[q2M];omega
theorem z5M(f:FM)(x:Int)(h:f.sy<=f.da.length):(q2M f x).sy=(q2M f x).da.length:=by simp[q2M];omega
theorem q7j : ∀(L:List FM) (xs:List Int),q0O (q0p L xs)<=q0O L
 |[],_=>ι _
 | f::r,xs=>by
  have:=q7j r xs.tail;have:=z0F f (xs.headD 0);unfold q0O q4u at*;simp only[q0p,List.map_cons,List.sum_cons];omega
theorem q6W(a b:List FM):q0O (a++b)=q0O a+q0O b:=by simp[q0O,q4u]
theorem z4n(L:List FM)(xs:List Int)(i:Nat):q0O (q4R L xs i)<=q0O L:=by
 unfold q4R;have e:q0O L=q0O (L.take i)+q0O (L.drop i):=by rw[<-q6W,List.take_append_drop]
 rw[q6W,e];have:=q7j (L.take i) xs;omega
theorem q7B : ∀(L:List FM) (xs:List Int),(∀f∈L,f.sy<=f.da.length)-> ∀f∈q0p L xs,f.sy=f.da.length
 |[],_,_=>by simp[q0p]
 | a::r,xs,h=>by
  intro f b;rw[q0p] at b;rcases List.mem_cons.1 b with rfl|b
  ·exact z5M _ _ (h a (by simp))
  ·exact q7B r xs.tail (fun g d=>h g (by simp[d])) f b
theorem z2e{σ:DM}(h:okD σ)(xs:List Int):okD (q4x σ xs):=by
 refine⟨h.cap0,h.cap1,?_,z3H h.ord (q5Q _ _),fun f b=>Nat.le_of_eq (q7B _ _ h.sy f b),?_,Int.le_refl _,fun _=>rfl,υ _,by show(0:Int)<=_;decide⟩
 ·have:=h.used
  have:=q7j σ.L xs;show(q0O (q0p σ.L xs):Int)<=σ.cap;omega
 ·show(q0p σ.L xs).length<=400
  rw[q3q];exact h.many
theorem z1A{L:List FM}{nm:List UInt8}{f:FM->FM}(d:q2K FM.nm L){e:FM}(b:q0E FM.nm nm L=some e):q0O (q1L FM.nm nm f L)+e.da.length=q0O L+(f e).da.length:=q6n _ d b
theorem q7k{L:List FM}{nm:List UInt8}(d:q2K FM.nm L){e:FM}(b:q0E FM.nm nm L=some e):q0O (q1I FM.nm nm L)+e.da.length=q0O L:=q9h _ d b
theorem q7l(x:FM)(L:List FM):q0O (q1b FM.nm x L)=x.da.length+q0O L:=z8h _ x L
theorem q7m{L:List FM}{e:FM}(h:e∈L):e.da.length<=q0O L:=q6m (fun f:FM=>f.da.length) h
theorem okD.tick{σ:DM}(h:okD σ):okD (q1Y σ):=
 ⟨h.cap0,h.cap1,h.used,h.ord,h.sy,h.many,(by show 0<=max (σ.left-1) 0;omega),(fun b=>by have:=h.idle b;show max (σ.left-1) 0=0;omega),h.keep,by have:=h.left1;show max (σ.left-1) 0<=_;omega⟩
theorem okD.sink{σ:DM}(h:okD σ):okD (q4c σ):=z2e h _
theorem okD.files{σ:DM}(h:okD σ){L:List FM}(i:(q0O L:Int)<=σ.cap)(b:q2K FM.nm L)(d: ∀f∈L,f.sy<=f.da.length)(hm:L.length<=400):okD {σ with L:=L}:=
 ⟨h.cap0,h.cap1,i,b,d,hm,h.left,h.idle,h.keep,h.left1⟩
theorem okD.upd{σ:DM}(h:okD σ){nm:List UInt8}{f:FM->FM}{e:FM}(d:q0E FM.nm nm σ.L=some e)(m:(q0O (q1L FM.nm nm f σ.L):Int)<=σ.cap)(i: ∀y,(f y).nm=y.nm)(j:(f e).sy<=(f e).da.length):okD {σ with L:=q1L FM.nm nm f σ.L}:=by
 refine h.files m (q9n h.ord fun y b=>by rw[i,b]) (fun y b=>?_) (by rw[q7i];exact h.many);rcases(q4i h.ord d).1 b with rfl|⟨b,_⟩
 ·exact j
 ·exact h.sy y b
theorem okD.app{σ:DM}(h:okD σ){nm s:List UInt8}{e:FM}(b:q0E FM.nm nm σ.L=some e)(d:(q0O σ.L:Int)+s.length<=σ.cap):okD (q8C σ nm s)/\q0O (q8C σ nm s).L=q0O σ.L+s.length:=by
 have h1:=z1A (f:=fun f:FM=>{f with da:=f.da++s}) h.ord b;have h2:=h.sy e (q0J b).1;have h3:({e with da:=e.da++s}:FM).da.length=e.da.length+s.length:=θ;have h4:q0O (q1L FM.nm nm (fun f:FM=>{f with da:=f.da++s}) σ.L)=q0O σ.L+s.length:=by omega
 exact⟨h.upd b (by rw[h4];omega) (fun y=>rfl) (by show e.sy<=(e.da++s).length;rw[θ];omega),h4⟩
theorem okD.create{σ:DM}(h:okD σ){nm:List UInt8}(d:q0E FM.nm nm σ.L=none)(hm:σ.L.length<400):okD {σ with L:=q1b FM.nm ⟨nm,[],0⟩ σ.L}:=by
 refine h.files (by rw[q7l];have:=h.used;simpa using this) (q4h h.ord (q0o d)) (fun f b=>?_) (by rw[q7O];omega);rcases mem_insN.1 b with rfl|b
 ·exact ι _
 ·exact h.sy f b
theorem okD.tell{σ:DM}(h:okD σ):okD (q2T σ):=⟨h.cap0,h.cap1,h.used,h.ord,h.sy,h.many,h.left,h.idle,h.keep,h.left1⟩
theorem okD.sync{σ:DM}(h:okD σ){nm:List UInt8}{e:FM}(b:q0E FM.nm nm σ.L=some e):okD {σ with L:=q1L FM.nm nm (fun f=>{f with sy:=f.da.length}) σ.L}/\q0O (q1L FM.nm nm (fun f=>{f with sy:=f.da.length}) σ.L)=q0O σ.L:=by
 have h1:=z1A (f:=fun f:FM=>{f with sy:=f.da.length}) h.ord b;have h4:q0O (q1L FM.nm nm (fun f:FM=>{f with sy:=f.da.length}) σ.L)=q0O σ.L:=by
  have:({e with sy:=e.da.length}:FM).da.length=e.da.length:=rfl;omega
 exact⟨h.upd b (by rw[h4];exact h.used) (fun y=>rfl) (ι _),h4⟩
theorem z5Q(nm:List UInt8)(L:List FM):(q1I FM.nm nm L).length<=L.length:=List.length_filter_le _ _
theorem q6X{L:List FM}(nm:List UInt8)(b:q2K FM.nm L):q0O (q1I FM.nm nm L)<=q0O L:=by
 cases hf:q0E FM.nm nm L with
 |none=>rw[q5U hf];exact ι _
 |some e=>have:=q7k b hf;omega
theorem okD.delete{σ:DM}(h:okD σ)(nm:List UInt8):okD {σ with L:=q1I FM.nm nm σ.L}:=
 h.files (by have:=q6X nm h.ord;have:=h.used;omega) (q2w h.ord) (fun f b=>h.sy f (mem_delN.1 b).1) (by have:=z5Q nm σ.L;have:=h.many;omega)
theorem z0P{L:List FM}{b:List UInt8}(j:q2K FM.nm L){f:FM}(d:q0E FM.nm a L=some f)(i:a≠b):q0E FM.nm a (q1I FM.nm b L)=some f:=
 q2x (q2w j) (mem_delN.2 ⟨(q0J d).1,fun e=>i ((q0J d).2.symm.trans e)⟩) (q0J d).2
theorem okD.rename{σ:DM}(h:okD σ){b:List UInt8}{f:FM}(o:q0E FM.nm a σ.L=some f)(i:a≠b):okD {σ with L:=z4b a b f σ.L}/\q0O (z4b a b f σ.L)=q0O (q1I FM.nm b σ.L):=by
 have j:q2K FM.nm (q1I FM.nm b σ.L):=q2w h.ord;have m:=z0P h.ord o i;have v:=q7k j m;have B:=q6X b h.ord;have r:=z1W j m;have u:=z5Q b σ.L;have q:q0O (z4b a b f σ.L)=q0O (q1I FM.nm b σ.L):=by
  unfold z4b;rw[q7l];show f.da.length+_=_;omega
 refine⟨h.files ?_ ?_ ?_ ?_,q⟩
 ·rw[q];have:=h.used;omega
 ·exact q4h (q2w j) fun y d=>(mem_delN.1 (mem_delN.1 d).1).2
 ·intro y d
  rcases mem_insN.1 d with rfl|d
  ·exact h.sy f (q0J o).1
  ·exact h.sy y (mem_delN.1 (mem_delN.1 d).1).1
 ·unfold z4b;rw[q7O];have:=h.many;omega
theorem okD.start{σ:DM}(h:okD σ)(k:Int):okD {σ with down:=false,starts:=k}:=⟨h.cap0,h.cap1,h.used,h.ord,h.sy,h.many,h.left,h.idle,h.keep,h.left1⟩
end
end Go.Proofs.YtfiibpgoplcgkaaGreatDoor
