/- Plain laws. -/
import Derived.Test.YtfiibpgoplcgkaaGreatDoorG0WS
import Derived.Sort.KeysCollected
import Derived.Lib.Hide
set_option linter.unusedVariables false
set_option linter.unusedSimpArgs false
set_option maxRecDepth 100000
set_option maxHeartbeats 200000
namespace Go.Proofs.YtfiibpgoplcgkaaGreatDoor
variable {a:List UInt8}
section
open Go.RowKit
theorem q5Y : ∀a b:List UInt8,bytesBefore a b=decide (a<b)
 |[],[]=>by simp[bytesBefore]
 |[],b::s=>by simp[bytesBefore]
 |a::r,[]=>by simp[bytesBefore]
 | a::r,b::s=>by
  unfold bytesBefore;rw[q5Y r s,Bool.eq_iff_iff];simp[List.cons_lt_cons_iff]
section gen
variable {α β:Type}(k:α->List UInt8)
def q1K(x:α):List α->List α
 |[]=>[x]
 |y::r=>if bytesBefore (k x) (k y) then x::y::r else y::q1K x r
def delN(nm:List UInt8)(l:List α):List α:=l.filter fun y=>!(k y==nm)
def q1T(nm:List UInt8)(f:α->α)(l:List α):List α:=l.map fun y=>if k y==nm then f y else y
def q0F(nm:List UInt8)(l:List α):Option α:=l.find? fun y=>k y==nm
def q2S(l:List α):Prop:=l.Pairwise fun x y=>bytesBefore (k x) (k y)=true
variable {k}
theorem q3j(x:α): ∀l:List α,(q1K k x l).Perm (x::l)
 |[]=>List.Perm.refl _
 | y::r=>by
  unfold q1K
  split
  ·exact List.Perm.refl _
  ·exact(List.Perm.cons y (q3j x r)).trans (List.Perm.swap x y r)
theorem mem_insN{x y:α}{l:List α}:y∈q1K k x l↔y=x\/y∈l:=by rw[(q3j x l).mem_iff];simp
theorem q2n(x:α)(l:List α):(q1K k x l).length=l.length+1:=by rw[(q3j x l).length_eq];rfl
theorem q2v{x:α}: ∀{l:List α},q2S k l->(∀y∈l,k y≠k x)->q2S k (q1K k x l)
 |[],_,_=>by simp[q2S,q1K]
 | y :: r,h,hne=>by
  obtain⟨h1,h2⟩:=List.pairwise_cons.1 h;unfold q1K
  split
  ·rename_i d
   refine List.pairwise_cons.2 ⟨fun z b=>?_,h⟩;rcases List.mem_cons.1 b with rfl|b
   ·exact d
   ·exact WideShapes.bytes_trans _ _ _ d (h1 z b)
  ·rename_i d
   have i:bytesBefore (k y) (k x)=true:=by
    rcases WideAt.bytes_total _ _ (hne y (List.mem_cons_self)) with h|h
    ·exact h
    ·exact absurd h d
   refine List.pairwise_cons.2 ⟨fun z b=>?_,q2v h2 fun z b=>hne z (List.mem_cons_of_mem _ b)⟩;rcases mem_insN.1 b with rfl|b
   ·exact i
   ·exact h1 z b
theorem q2H{nm:List UInt8}{l:List α}(h:q2S k l):q2S k (delN k nm l):=h.filter _
theorem mem_delN{nm:List UInt8}{x:α}{l:List α}:x∈delN k nm l↔x∈l/\k x≠nm:=by simp[delN,List.mem_filter]
theorem z1A{nm:List UInt8}{f:α->α}{l:List α}(h:q2S k l)(i: ∀y,k y=nm->k (f y)=nm):q2S k (q1T k nm f l):=by
 refine List.pairwise_map.2 (h.imp fun {x y} d=>?_);have e: ∀z,k (if k z==nm then f z else z)=k z:=fun z=>by
  split
  ·rename_i j
   have b:k z=nm:=by simpa using j
   rw[i z b,b]
  ·rfl
 rw[e,e];exact d
theorem q8o{nm:List UInt8}{f:α->α}(l:List α):(q1T k nm f l).length=l.length:=by simp[q1T]
theorem q0K{nm:List UInt8}{l:List α}{e:α}(h:q0F k nm l=some e):e∈l/\k e=nm:=⟨List.mem_of_find?_eq_some h,by simpa using List.find?_some h⟩
theorem q0U{nm:List UInt8}{l:List α}(h:q0F k nm l=none): ∀y∈l,k y≠nm:=fun y hy=>by simpa using List.find?_eq_none.1 h y hy
theorem q0W{nm:List UInt8}{l:List α}(h: ∀y∈l,k y≠nm):q0F k nm l=none:=List.find?_eq_none.2 fun y b=>by simpa using h y b
theorem q9f{l:List α}(h:q2S k l):l.Pairwise fun x y=>k x≠k y:=h.imp fun {x y} b e=>by rw[e,WideAt.bytes_irrefl] at b;cases b
theorem q6v{l:List α}(h:q2S k l){x y:α}(j:x∈l)(o:y∈l)(e:k x=k y):x=y:=by
 have m:=q9f h;clear h
 induction l with
 |nil=>cases j
 | cons a r ih=>
  obtain⟨h1,h2⟩:=List.pairwise_cons.1 m;rcases List.mem_cons.1 j with ex|b<;>rcases List.mem_cons.1 o with i|d
  ·rw[ex,i]
  ·subst ex;exact absurd e (h1 y d)
  ·subst i;exact absurd e.symm (h1 x b)
  ·exact ih b d h2
theorem q3Q{nm:List UInt8}{l:List α}(h:q2S k l){e:α}(he:e∈l)(b:k e=nm):q0F k nm l=some e:=by
 cases hf:q0F k nm l with
 |none=>exact absurd b (q0U hf e he)
 |some e'=>obtain⟨h1,h2⟩:=q0K hf;rw[q6v h h1 he (h2.trans b.symm)]
theorem q6K{nm:List UInt8}{l:List α}(h:q0F k nm l=none):delN k nm l=l:=List.filter_eq_self.2 fun y b=>by simpa using q0U h y b
theorem q6e{nm:List UInt8}{f:α->α}{l:List α}(h:q0F k nm l=none):q1T k nm f l=l:=by
 unfold q1T
 conv=>rhs;rw[<-List.map_id l]
 exact List.map_congr_left fun y b=>by rw[κ (by simpa using q0U h y b)];rfl
theorem q5N{nm:List UInt8}{f:α->α}{l:List α}(h:q2S k l){e:α}(i:q0F k nm l=some e){y:α}:y∈q1T k nm f l↔y=f e\/(y∈l/\k y≠nm):=by
 obtain⟨h1,h2⟩:=q0K i;unfold q1T;rw[List.mem_map]
 constructor
 ·rintro⟨z,d,rfl⟩
  by_cases b:k z=nm
  ·obtain rfl:=q6v h d h1 (b.trans h2.symm)
   left;rw[ξ (by simpa using b)]
  ·right;rw[κ (by simpa using b)];exact⟨d,b⟩
 ·rintro(rfl|⟨j,b⟩)
  ·exact⟨e,h1,by rw[ξ (by simpa using h2)]⟩
  ·exact⟨y,j,by rw[κ (by simpa using b)]⟩
theorem z0j{S:α->α->Prop}{nm:List UInt8}{f:α->α}{l:List α}(h:q2S k l)(q:l.Pairwise S){e:α}(r:q0F k nm l=some e)(h1: ∀y∈l,k y≠nm->S (f e) y/\S y (f e)):(q1T k nm f l).Pairwise S:=by
 obtain⟨he,i⟩:=q0K r;refine List.pairwise_map.2 ((q.and (q9f h)).imp_of_mem fun {x y} m o ⟨u,j⟩=>?_);by_cases d:k x=nm
 ·have b:k y≠nm:=fun e=>j (d.trans e.symm)
  obtain rfl:=q6v h m he (d.trans i.symm);rw[ξ (by simpa using d),κ (by simpa using b)];exact(h1 y o b).1
 ·rw [κ (by simpa using d)]
  by_cases b:k y=nm
  ·obtain rfl:=q6v h o he (b.trans i.symm)
   rw[ξ (by simpa using b)];exact(h1 x m d).2
  ·rw[κ (by simpa using b)];exact u
section map
variable {k' :β->List UInt8}{h:α->β}(hk: ∀x,k' (h x)=k x)
include hk
theorem q6R(x:α): ∀l:List α,(q1K k x l).map h=q1K k' (h x) (l.map h)
 |[]=>rfl
 | y::r=>by
  unfold q1K;simp only[List.map_cons,hk]
  split
  ·rfl
  ·rw[List.map_cons,q6R x r]
theorem q6J(nm:List UInt8)(l:List α):(delN k nm l).map h=delN k' nm (l.map h):=by
 unfold delN;rw[List.filter_map];congr 1;exact List.filter_congr fun y _=>by simp[hk]
theorem z5G(nm:List UInt8)(f:α->α)(g:β->β)(b: ∀y,h (f y)=g (h y))(l:List α):(q1T k nm f l).map h=q1T k' nm g (l.map h):=by
 unfold q1T;rw[List.map_map,List.map_map];refine List.map_congr_left fun y _=>?_
 simp only[Function.comp,hk];split<;>simp[b]
theorem z8w{nm:List UInt8}{f:α->α}{g:β->β}{l:List α}(m:q2S k l){e:α}(j:q0F k nm l=some e)(d:h (f e)=g (h e)):(q1T k nm f l).map h=q1T k' nm g (l.map h):=by
 obtain⟨he,b⟩:=q0K j;unfold q1T;rw[List.map_map,List.map_map];refine List.map_congr_left fun y o=>?_
 simp only[Function.comp,hk]
 split
 ·rename_i q
  have i:k y=nm:=by simpa using q
  rw[q6v m o he (i.trans b.symm)];exact d
 ·rfl
theorem q1z(nm:List UInt8)(l:List α):q0F k' nm (l.map h)=(q0F k nm l).map h:=by
 unfold q0F;rw[List.find?_map];congr 2;funext y;simp[hk]
theorem z3U{l:List α}:q2S k' (l.map h)↔q2S k l:=by
 unfold q2S;rw[List.pairwise_map];simp only[hk]
end map
def q5Q(s:α->Nat)(l:List α):Nat:=(l.map s).sum
theorem y0d(s:α->Nat)(x:α)(l:List α):q5Q s (q1K k x l)=s x+q5Q s l:=by
 unfold q5Q;rw[((q3j x l).map s).sum_nat];simp
theorem q7m(s:α->Nat){nm:List UInt8}: ∀{l:List α},q2S k l-> ∀{e:α},q0F k nm l=some e->q5Q s (delN k nm l)+s e=q5Q s l
 |[],_,_,hf=>by simp[q0F] at hf
 | a :: r,h,e,hf=>by
  obtain⟨h1,h2⟩:=List.pairwise_cons.1 h;by_cases b:k a=nm
  ·have j:a=e:=by unfold q0F at hf;rw[List.find?_cons_of_pos (by simpa using b)] at hf;exact Option.some.inj hf
   subst j;have d:delN k nm (a::r)=r:=by
    unfold delN;rw[List.filter_cons_of_neg (by simp[b])];refine List.filter_eq_self.2 fun y o=>?_
    have:=h1 y o;simp only[Bool.not_eq_true',beq_eq_false_iff_ne];intro m;rw[m,<-b,WideAt.bytes_irrefl] at this
    cases this
   rw[d];simp[q5Q];omega
  ·have i:q0F k nm r=some e:=by unfold q0F at hf⊢;rwa [List.find?_cons_of_neg (by simpa using b)] at hf
   have q:=q7m s h2 i;have d:delN k nm (a::r)=a::delN k nm r:=by unfold delN;rw[List.filter_cons_of_pos (by simpa using b)]
   rw[d];simp only[q5Q,List.map_cons,List.sum_cons] at q⊢;omega
theorem q7o(s:α->Nat){nm:List UInt8}{f:α->α}: ∀{l:List α},q2S k l-> ∀{e:α},q0F k nm l=some e->q5Q s (q1T k nm f l)+s e=q5Q s l+s (f e)
 |[],_,_,hf=>by simp[q0F] at hf
 | a ::r,h,e,hf=>by
  obtain⟨h1,h2⟩:=List.pairwise_cons.1 h;by_cases b:k a=nm
  ·have m:a=e:=by unfold q0F at hf;rw[List.find?_cons_of_pos (by simpa using b)] at hf;exact Option.some.inj hf
   subst m;have d:q1T k nm f r=r:=q6e (q0W fun y o i=>by have:=h1 y o;rw[i,<-b,WideAt.bytes_irrefl] at this;cases this);have i:q1T k nm f (a::r)=f a::q1T k nm f r:=by unfold q1T;rw[List.map_cons,ξ (by simpa using b)]
   rw[i,d];simp[q5Q];omega
  ·have j:q0F k nm r=some e:=by unfold q0F at hf⊢;rwa [List.find?_cons_of_neg (by simpa using b)] at hf
   have q:=q7o s (f:=f) h2 j;have d:q1T k nm f (a::r)=a::q1T k nm f r:=by unfold q1T;rw[List.map_cons,κ (by simpa using b)]
   rw[d];simp only[q5Q,List.map_cons,List.sum_cons] at q⊢;omega
theorem q7n(s:α->Nat): ∀{l:List α} {e:α},e∈l->s e<=q5Q s l
 | a::r,e,h=>by
  rcases List.mem_cons.1 h with rfl|h
  ·simp[q5Q]
  ·have:=q7n s h;simp only[q5Q,List.map_cons,List.sum_cons] at this⊢;omega
theorem q8G{nm:List UInt8}{l:List α}(h:q2S k l){e:α}(d:q0F k nm l=some e):(delN k nm l).length+1=l.length:=by
 have:=q7m (fun _=>1) h d;have b: ∀m:List α,q5Q (fun _=>1) m=m.length:=fun m=>by unfold q5Q;induction m with
  |nil=>rfl
  |cons a r ih=>simp only[List.map_cons,List.sum_cons,ih,χ];omega
 rw[b,b] at this;exact this
end gen
structure FM where
 nm:List UInt8
 da:List UInt8
 sy:Nat
structure DM where
 cap:Int
 L:List FM
 reads:Int
 starts:Int
 down:Bool
 fail:Bool
 left:Int
 keep:List Int
def q0S(L:List FM):Nat:=q5Q (fun f=>f.da.length) L
def q1t(nm:List UInt8):Bool:=!nm.isEmpty&&decide (nm.length<=12)
structure okD(σ:DM):Prop where
 cap0:0<=σ.cap
 cap1:σ.cap<=1048576
 used:(q0S σ.L:Int)<=σ.cap
 ord:q2S FM.nm σ.L
 sy: ∀f∈σ.L,f.sy<=f.da.length
 many:σ.L.length<=400
 left:0<=σ.left
 idle:σ.fail=false->σ.left=0
 keep:σ.keep.length<=1000000
 left1:σ.left<=9223372036854775807
def q1r(σ:DM):Bool:=σ.fail&&decide (σ.left=0)
def q0w(σ:DM):DM:={σ with left:=max (σ.left-1) 0}
def q2Z(f:FM)(more:Int):FM:={f with da:=f.da.take (f.sy+min (max more 0).toNat (f.da.length-f.sy)),sy:=f.sy+min (max more 0).toNat (f.da.length-f.sy)}
def q0x :List FM->List Int->List FM
 |[],_=>[]
 |f::r,ks=>q2Z f (ks.headD 0)::q0x r ks.tail
def q5a(σ:DM)(ks:List Int):DM:={σ with L:=q0x σ.L ks,down:=true,fail:=false,left:=0,keep:=[]}
def q5G(σ:DM):DM:=q5a σ σ.keep
def upM(σ:DM):Int:=if σ.down then 61 else 0
def q0h(σ:DM)(nm:List UInt8):Int×DM:=
 if σ.down then(61,σ) else if !q1t nm then(2,σ) else if (q0F FM.nm nm σ.L).isSome then(62,σ) else if 400<=σ.L.length then(60,σ)
 else if q1r σ then(61,q5G σ) else(0,{q0w σ with L:=q1K FM.nm ⟨nm,[],0⟩ σ.L})
def q6i(σ:DM)(nm s:List UInt8):DM:={σ with L:=q1T FM.nm nm (fun f=>{f with da:=f.da++s}) σ.L}
def q0m(σ:DM)(nm s:List UInt8):Int×DM:=
 if σ.down then(61,σ) else if (q0F FM.nm nm σ.L).isNone then(4,σ) else if σ.cap-(q0S σ.L:Int)<(s.length:Int) then(60,σ)
 else if q1r σ then(61,q5G (q6i σ nm s)) else(0,q0w (q6i σ nm s))
def q2h(σ:DM):DM:={σ with reads:=wrap64 (σ.reads+1)}
def q1k(σ:DM)(nm:List UInt8)(at_ n:Int):List UInt8×Int×DM:=
 if σ.down then([],61,σ) else match q0F FM.nm nm σ.L with
 |none=>([],4,q2h σ)
 |some f=>if 0<=at_/\0<=n/\at_<=(f.da.length:Int)/\n<=(f.da.length:Int)-at_ then((f.da.drop at_.toNat).take n.toNat,0,q2h σ) else([],2,q2h σ)
def q3K(σ:DM)(nm:List UInt8):Int×DM:=
 if σ.down then(61,σ) else if (q0F FM.nm nm σ.L).isNone then(4,σ) else if q1r σ then(61,q5G σ)
 else(0,{q0w σ with L:=q1T FM.nm nm (fun f=>{f with sy:=f.da.length}) σ.L})
def z6C(a b:List UInt8)(f:FM)(L:List FM):List FM:=q1K FM.nm {f with nm:=b} (delN FM.nm a (delN FM.nm b L))
def q1P(σ:DM)(a b:List UInt8):Int×DM:=
 if σ.down then(61,σ) else match q0F FM.nm a σ.L with
 |none=>(4,σ)
 |some f=>if !q1t b then(2,σ) else if q1r σ then(61,q5G σ) else if a=b then(0,q0w σ) else(0,{q0w σ with L:=z6C a b f σ.L})
def q0V(σ:DM)(nm:List UInt8):Int×DM:=
 if σ.down then(61,σ) else if (q0F FM.nm nm σ.L).isNone then(4,σ) else if q1r σ then(61,q5G σ) else(0,{q0w σ with L:=delN FM.nm nm σ.L})
def q1g(σ:DM)(nm:List UInt8):Int×Int:=
 if σ.down then(0,61) else match q0F FM.nm nm σ.L with|none=>(0,4)|some f=>((f.da.length:Int),0)
def q1s(σ:DM):List (List UInt8):=σ.L.map FM.nm
def q4J(σ:DM):Int:=σ.cap-(q0S σ.L:Int)
def q7F(σ:DM)(ks:List Int):Int×DM:=if σ.down then(61,σ) else(0,q5a σ ks)
def q7R(σ:DM):Int×DM:=if σ.down then(0,{σ with down:=false,starts:=wrap64 (σ.starts+1)}) else(2,σ)
def q6H(n:Nat)(f:FM):FM:={f with da:=f.da.take n,sy:=min f.sy (min n f.da.length)}
end
section
open Go.RowKit
def fbF(f:FM):List UInt8×List UInt8:=(f.nm,f.da)
structure Pl(σ:DM)(c s:Int)(l:List (List UInt8×List UInt8)):Prop where
 up:σ.down=false
 fine:σ.fail=false
 files:σ.L.map fbF=l
 cap:σ.cap=c
 st:σ.starts=s
def q1R(l:List (List UInt8×List UInt8)):Nat:=q5Q (fun x:List UInt8×List UInt8=>x.2.length) l
section
variable {σ :DM}{c s:Int}{l:List (List UInt8×List UInt8)}{nm t:List UInt8}{x:List UInt8×List UInt8}
theorem q5c : ∀f:FM,Prod.fst (fbF f)=FM.nm f:=fun _=>rfl
theorem Pl.used(h:Pl σ c s l):q0S σ.L=q1R l:=by
 unfold q0S q1R q5Q;rw[<-h.files,List.map_map]
 rfl
theorem Pl.free(h:Pl σ c s l):q4J σ=c-(q1R l:Int):=by unfold q4J;rw[h.cap,h.used]
theorem Pl.find(h:Pl σ c s l)(nm:List UInt8):q0F Prod.fst nm l=(q0F FM.nm nm σ.L).map fbF:=by rw[<-h.files];exact q1z q5c nm σ.L
theorem Pl.find_some(h:Pl σ c s l)(b:q0F Prod.fst nm l=some x): ∃f,q0F FM.nm nm σ.L=some f/\fbF f=x:=by
 rw[h.find] at b
 cases hq:q0F FM.nm nm σ.L with
 |none=>rw[hq] at b;cases b
 |some f=>rw[hq] at b;exact⟨f,rfl,Option.some.inj b⟩
theorem Pl.find_none(h:Pl σ c s l)(b:q0F Prod.fst nm l=none):q0F FM.nm nm σ.L=none:=by
 rw[h.find] at b
 cases hq:q0F FM.nm nm σ.L with
 |none=>rfl
 |some f=>rw[hq] at b;cases b
theorem Pl.ord(h:Pl σ c s l)(b:okD σ):q2S Prod.fst l:=by rw[<-h.files];exact(z3U q5c).2 b.ord
theorem Pl.names(h:Pl σ c s l):q1s σ=l.map Prod.fst:=by rw[<-h.files,List.map_map];rfl
theorem Pl.no(h:Pl σ c s l):q1r σ=false:=by unfold q1r;rw[h.fine];rfl
theorem Pl.tell(h:Pl σ c s l):Pl (q2h σ) c s l:=⟨h.up,h.fine,h.files,h.cap,h.st⟩
theorem Pl.size(h:Pl σ c s l)(b:q0F Prod.fst nm l=some x):q1g σ nm=((x.2.length:Int),0):=by
 obtain⟨f,h1,rfl⟩:=h.find_some b;unfold q1g;rw[κ (by rw[h.up];decide),h1]
 rfl
theorem Pl.sizeN(h:Pl σ c s l)(b:q0F Prod.fst nm l=none):q1g σ nm=(0,4):=by
 unfold q1g;rw[κ (by rw[h.up];decide),h.find_none b]
theorem Pl.read(h:Pl σ c s l)(b:q0F Prod.fst nm l=some x)(a n:Int)(i:0<=a)(j:0<=n)(d:a+n<=(x.2.length:Int)):q1k σ nm a n=((x.2.drop a.toNat).take n.toNat,0,q2h σ):=by
 obtain⟨f,h1,rfl⟩:=h.find_some b;unfold q1k;rw[κ (by rw[h.up];decide),h1];show(if 0<=a/\0<=n/\a<=(f.da.length:Int)/\n<=(f.da.length:Int)-a then _ else _)=_;have e:(fbF f).2=f.da:=rfl;rw[e] at d;rw[ξ (by omega)]
 rfl
theorem Pl.append(h:Pl σ c s l)(b:q0F Prod.fst nm l=some x)(d:(t.length:Int)<=c-(q1R l:Int)): ∃σ',q0m σ nm t=(0,σ')/\Pl σ' c s (q1T Prod.fst nm (fun x=>(x.1,x.2++t)) l):=by
 obtain⟨f,h1,rfl⟩:=h.find_some b;refine⟨q0w (q6i σ nm t),?_,?_⟩
 ·unfold q0m
  rw[κ (by rw[h.up];decide),h1,κ (by simp),κ (by rw[h.cap,h.used];omega),κ (by rw[h.no];decide)]
 ·exact⟨h.up,h.fine,by rw[<-h.files];exact z5G (k:=FM.nm) (k':=Prod.fst) q5c nm (fun f=>{f with da:=f.da++t}) (fun x=>(x.1,x.2++t)) (fun _=>rfl) σ.L,h.cap,h.st⟩
theorem Pl.sync(h:Pl σ c s l)(b:q0F Prod.fst nm l=some x): ∃σ',q3K σ nm=(0,σ')/\Pl σ' c s l:=by
 obtain⟨f,h1,rfl⟩:=h.find_some b;refine⟨{q0w σ with L:=q1T FM.nm nm (fun f=>{f with sy:=f.da.length}) σ.L},?_,?_⟩
 ·unfold q3K
  rw[κ (by rw[h.up];decide),h1,κ (by simp),κ (by rw[h.no];decide)]
 ·refine⟨h.up,h.fine,?_,h.cap,h.st⟩
  rw[<-h.files];show(q1T FM.nm nm _ σ.L).map fbF=_;rw[z5G (k:=FM.nm) (k':=Prod.fst) q5c nm (fun f=>{f with sy:=f.da.length}) id (fun _=>rfl) σ.L];unfold q1T
  conv=>rhs;rw[<-List.map_id (σ.L.map fbF)]
  exact List.map_congr_left fun y _=>by split<;>rfl
theorem Pl.create(h:Pl σ c s l)(b:q0F Prod.fst nm l=none)(hk:q1t nm=true)(hm:l.length<400): ∃σ',q0h σ nm=(0,σ')/\Pl σ' c s (q1K Prod.fst (nm,[]) l):=by
 refine⟨{q0w σ with L:=q1K FM.nm ⟨nm,[],0⟩ σ.L},?_,?_⟩
 ·unfold q0h
  have e:σ.L.length=l.length:=by rw[<-h.files,List.length_map]
  rw[κ (by rw[h.up];decide),κ (by rw[hk];decide),h.find_none b,κ (by simp),κ (by omega),κ (by rw[h.no];decide)]
 ·refine⟨h.up,h.fine,?_,h.cap,h.st⟩
  rw[<-h.files];exact q6R (k:=FM.nm) (k':=Prod.fst) q5c ⟨nm,[],0⟩ σ.L
end
section
variable {α :Type}{k:α->List UInt8}
theorem q5U(nm:List UInt8)(f:α->α)(a b:List α):q1T k nm f (a++b)=q1T k nm f a++q1T k nm f b:=by unfold q1T;simp
theorem q2r{nm:List UInt8}{f:α->α}{l:List α}(h: ∀y∈l,k y≠nm):q1T k nm f l=l:=q6e (q0W h)
theorem q0T{nm:List UInt8}{a b:List α}(h: ∀y∈a,k y≠nm):q0F k nm (a++b)=q0F k nm b:=by
 unfold q0F;rw[List.find?_append];have:List.find? (fun y=>k y==nm) a=none:=q0W h;rw[this];rfl
end
def q4v(L:List FM)(xs:List Int)(i:Nat):List FM:=q0x (L.take i) xs++L.drop i
theorem q4U : ∀(L:List FM) (xs:List Int),(q0x L xs).length=L.length
 |[],_=>rfl
 |f::r,xs=>by simp[q0x,q4U r]
theorem q8C(f:FM)(x:Int):(q2Z f x).nm=f.nm:=rfl
theorem q6G : ∀(L:List FM) (xs:List Int),(q0x L xs).map FM.nm=L.map FM.nm
 |[],_=>rfl
 |f::r,xs=>by simp[q0x,q6G r,q8C]
theorem z6w(L:List FM)(xs:List Int):q4v L xs 0=L:=by simp[q4v,q0x]
theorem z9V(L:List FM)(xs:List Int):q4v L xs L.length=q0x L xs:=by simp[q4v]
theorem z2x(L:List FM)(xs:List Int)(i:Nat):(q4v L xs i).map FM.nm=L.map FM.nm:=by
 unfold q4v;rw[List.map_append,q6G,<-List.map_append,List.take_append_drop]
theorem z4i{L b:List FM}(h:q2S FM.nm L)(e:b.map FM.nm=L.map FM.nm):q2S FM.nm b:=by
 have h1:q2S (fun x:List UInt8=>x) (L.map FM.nm):=(z3U (k:=FM.nm) (h:=FM.nm) fun x=>rfl).2 h;rw[<-e] at h1;exact(z3U (k:=FM.nm) (h:=FM.nm) fun x=>rfl).1 h1
theorem z7b(xs:List Int)(i:Nat):xs.tail.getD i 0=xs.getD (i+1) 0:=by
 cases xs<;>simp[δ]
theorem z5o(xs:List Int):xs.headD 0=xs.getD 0 0:=by cases xs<;>simp
theorem q8D : ∀(l:List FM) (f:FM) (xs:List Int),q0x (l++[f]) xs=q0x l xs++[q2Z f (xs.getD l.length 0)]
 |[],f,xs=>by simp only[List.nil_append,q0x,List.length_nil,z5o]
 | a::r,f,xs=>by
  rw[List.cons_append,q0x,q0x,q8D r f xs.tail,z7b]
  rfl
theorem z3q{nm:List UInt8}{h:FM->FM}{a c:List FM}{f:FM}(d:f.nm=nm)(m:q2S FM.nm (a++f::c)):q1T FM.nm nm h (a++f::c)=a++h f::c:=by
 have b:=q9f m;rw[List.pairwise_append] at b;obtain⟨_,h2,h3⟩:=b;have j:q1T FM.nm nm h a=a:=q6e (q0W fun y i e=>h3 y i f (by simp) (e.trans d.symm));have hc:q1T FM.nm nm h c=c:=q6e (q0W fun y i e=>(List.pairwise_cons.1 h2).1 y i (d.trans e.symm));unfold q1T at j hc⊢;rw[List.map_append,List.map_cons,j,hc,ξ (by simpa using d)]
theorem z1X{L:List FM}(xs:List Int){i:Nat}(b:i<L.length)(o:q2S FM.nm L):
  q0F FM.nm L[i].nm (q4v L xs i)=some L[i]/\ ∀h:FM->FM,h L[i]=q2Z L[i] (xs.getD i 0)->q1T FM.nm L[i].nm h (q4v L xs i)=q4v L xs (i+1):=by
 have j:q4v L xs i=q0x (L.take i) xs++L[i]::L.drop (i+1):=by unfold q4v;rw[List.drop_eq_getElem_cons b]
 have d:q2S FM.nm (q4v L xs i):=z4i o (z2x L xs i);have hm:L[i]∈q4v L xs i:=by rw[j];exact List.mem_append_right _ List.mem_cons_self
 refine⟨q3Q d hm rfl,fun h m=>?_⟩;rw[j] at d⊢;rw[z3q rfl d,m];unfold q4v;rw[List.take_succ_eq_append_getElem b,q8D,Θ,Nat.min_eq_left (Nat.le_of_lt b)];simp
theorem z6Q{nm:List UInt8}{h b:FM->FM}{L:List FM}(hk: ∀y,(h y).nm=y.nm):q1T FM.nm nm b (q1T FM.nm nm h L)=q1T FM.nm nm (fun y=>b (h y)) L:=by
 unfold q1T;rw[List.map_map];refine List.map_congr_left fun y _=>?_
 simp only[Function.comp];by_cases e:(y.nm==nm)=true
 ·rw[ξ e,ξ (by rw[hk];exact e),ξ e]
 ·rw[κ e,κ e,κ e]
theorem z1W(f:FM)(x:Int):(q2Z f x).da.length<=f.da.length:=by simp[q2Z];omega
theorem z6u(f:FM)(x:Int)(h:f.sy<=f.da.length):(q2Z f x).sy=(q2Z f x).da.length:=by simp[q2Z];omega
theorem q8p : ∀(L:List FM) (xs:List Int),q0S (q0x L xs)<=q0S L
 |[],_=>ι _
 | f::r,xs=>by
  have:=q8p r xs.tail;have:=z1W f (xs.headD 0);unfold q0S q5Q at*;simp only[q0x,List.map_cons,List.sum_cons];omega
theorem q7S(a b:List FM):q0S (a++b)=q0S a+q0S b:=by simp[q0S,q5Q]
theorem z6R(L:List FM)(xs:List Int)(i:Nat):q0S (q4v L xs i)<=q0S L:=by
 unfold q4v;have e:q0S L=q0S (L.take i)+q0S (L.drop i):=by rw[<-q7S,List.take_append_drop]
 rw[q7S,e];have:=q8p (L.take i) xs;omega
theorem q8E : ∀(L:List FM) (xs:List Int),(∀f∈L,f.sy<=f.da.length)-> ∀f∈q0x L xs,f.sy=f.da.length
 |[],_,_=>by simp[q0x]
 | a::r,xs,h=>by
  intro f b;rw[q0x] at b;rcases List.mem_cons.1 b with rfl|b
  ·exact z6u _ _ (h a (by simp))
  ·exact q8E r xs.tail (fun g d=>h g (by simp[d])) f b
theorem z4E{σ:DM}(h:okD σ)(xs:List Int):okD (q5a σ xs):=by
 refine⟨h.cap0,h.cap1,?_,z4i h.ord (q6G _ _),fun f b=>Nat.le_of_eq (q8E _ _ h.sy f b),?_,Int.le_refl _,fun _=>rfl,υ _,by show(0:Int)<=_;decide⟩
 ·have:=h.used
  have:=q8p σ.L xs;show(q0S (q0x σ.L xs):Int)<=σ.cap;omega
 ·show(q0x σ.L xs).length<=400
  rw[q4U];exact h.many
theorem z2V{L:List FM}{nm:List UInt8}{f:FM->FM}(d:q2S FM.nm L){e:FM}(b:q0F FM.nm nm L=some e):q0S (q1T FM.nm nm f L)+e.da.length=q0S L+(f e).da.length:=q7o _ d b
theorem q8q{L:List FM}{nm:List UInt8}(d:q2S FM.nm L){e:FM}(b:q0F FM.nm nm L=some e):q0S (delN FM.nm nm L)+e.da.length=q0S L:=q7m _ d b
theorem q8r(x:FM)(L:List FM):q0S (q1K FM.nm x L)=x.da.length+q0S L:=y0d _ x L
theorem q8s{L:List FM}{e:FM}(h:e∈L):e.da.length<=q0S L:=q7n (fun f:FM=>f.da.length) h
theorem okD.tick{σ:DM}(h:okD σ):okD (q0w σ):=
 ⟨h.cap0,h.cap1,h.used,h.ord,h.sy,h.many,(by show 0<=max (σ.left-1) 0;omega),(fun b=>by have:=h.idle b;show max (σ.left-1) 0=0;omega),h.keep,by have:=h.left1;show max (σ.left-1) 0<=_;omega⟩
theorem okD.sink{σ:DM}(h:okD σ):okD (q5G σ):=z4E h _
theorem okD.files{σ:DM}(h:okD σ){L:List FM}(i:(q0S L:Int)<=σ.cap)(b:q2S FM.nm L)(d: ∀f∈L,f.sy<=f.da.length)(hm:L.length<=400):okD {σ with L:=L}:=
 ⟨h.cap0,h.cap1,i,b,d,hm,h.left,h.idle,h.keep,h.left1⟩
theorem okD.upd{σ:DM}(h:okD σ){nm:List UInt8}{f:FM->FM}{e:FM}(d:q0F FM.nm nm σ.L=some e)(m:(q0S (q1T FM.nm nm f σ.L):Int)<=σ.cap)(i: ∀y,(f y).nm=y.nm)(j:(f e).sy<=(f e).da.length):okD {σ with L:=q1T FM.nm nm f σ.L}:=by
 refine h.files m (z1A h.ord fun y b=>by rw[i,b]) (fun y b=>?_) (by rw[q8o];exact h.many);rcases(q5N h.ord d).1 b with rfl|⟨b,_⟩
 ·exact j
 ·exact h.sy y b
theorem okD.app{σ:DM}(h:okD σ){nm s:List UInt8}{e:FM}(b:q0F FM.nm nm σ.L=some e)(d:(q0S σ.L:Int)+s.length<=σ.cap):okD (q6i σ nm s)/\q0S (q6i σ nm s).L=q0S σ.L+s.length:=by
 have h1:=z2V (f:=fun f:FM=>{f with da:=f.da++s}) h.ord b;have h2:=h.sy e (q0K b).1;have h3:({e with da:=e.da++s}:FM).da.length=e.da.length+s.length:=θ;have h4:q0S (q1T FM.nm nm (fun f:FM=>{f with da:=f.da++s}) σ.L)=q0S σ.L+s.length:=by omega
 exact⟨h.upd b (by rw[h4];omega) (fun y=>rfl) (by show e.sy<=(e.da++s).length;rw[θ];omega),h4⟩
theorem okD.create{σ:DM}(h:okD σ){nm:List UInt8}(d:q0F FM.nm nm σ.L=none)(hm:σ.L.length<400):okD {σ with L:=q1K FM.nm ⟨nm,[],0⟩ σ.L}:=by
 refine h.files (by rw[q8r];have:=h.used;simpa using this) (q2v h.ord (q0U d)) (fun f b=>?_) (by rw[q2n];omega);rcases mem_insN.1 b with rfl|b
 ·exact ι _
 ·exact h.sy f b
theorem okD.tell{σ:DM}(h:okD σ):okD (q2h σ):=⟨h.cap0,h.cap1,h.used,h.ord,h.sy,h.many,h.left,h.idle,h.keep,h.left1⟩
theorem okD.sync{σ:DM}(h:okD σ){nm:List UInt8}{e:FM}(b:q0F FM.nm nm σ.L=some e):okD {σ with L:=q1T FM.nm nm (fun f=>{f with sy:=f.da.length}) σ.L}/\q0S (q1T FM.nm nm (fun f=>{f with sy:=f.da.length}) σ.L)=q0S σ.L:=by
 have h1:=z2V (f:=fun f:FM=>{f with sy:=f.da.length}) h.ord b;have h4:q0S (q1T FM.nm nm (fun f:FM=>{f with sy:=f.da.length}) σ.L)=q0S σ.L:=by
  have:({e with sy:=e.da.length}:FM).da.length=e.da.length:=rfl;omega
 exact⟨h.upd b (by rw[h4];exact h.used) (fun y=>rfl) (ι _),h4⟩
theorem z6x(nm:List UInt8)(L:List FM):(delN FM.nm nm L).length<=L.length:=List.length_filter_le _ _
theorem q7T{L:List FM}(nm:List UInt8)(b:q2S FM.nm L):q0S (delN FM.nm nm L)<=q0S L:=by
 cases hf:q0F FM.nm nm L with
 |none=>rw[q6K hf];exact ι _
 |some e=>have:=q8q b hf;omega
theorem okD.delete{σ:DM}(h:okD σ)(nm:List UInt8):okD {σ with L:=delN FM.nm nm σ.L}:=
 h.files (by have:=q7T nm h.ord;have:=h.used;omega) (q2H h.ord) (fun f b=>h.sy f (mem_delN.1 b).1) (by have:=z6x nm σ.L;have:=h.many;omega)
theorem z1h{L:List FM}{b:List UInt8}(j:q2S FM.nm L){f:FM}(d:q0F FM.nm a L=some f)(i:a≠b):q0F FM.nm a (delN FM.nm b L)=some f:=
 q3Q (q2H j) (mem_delN.2 ⟨(q0K d).1,fun e=>i ((q0K d).2.symm.trans e)⟩) (q0K d).2
theorem okD.rename{σ:DM}(h:okD σ){b:List UInt8}{f:FM}(o:q0F FM.nm a σ.L=some f)(i:a≠b):okD {σ with L:=z6C a b f σ.L}/\q0S (z6C a b f σ.L)=q0S (delN FM.nm b σ.L):=by
 have j:q2S FM.nm (delN FM.nm b σ.L):=q2H h.ord;have m:=z1h h.ord o i;have v:=q8q j m;have B:=q7T b h.ord;have r:=q8G j m;have u:=z6x b σ.L;have q:q0S (z6C a b f σ.L)=q0S (delN FM.nm b σ.L):=by
  unfold z6C;rw[q8r];show f.da.length+_=_;omega
 refine⟨h.files ?_ ?_ ?_ ?_,q⟩
 ·rw[q];have:=h.used;omega
 ·exact q2v (q2H j) fun y d=>(mem_delN.1 (mem_delN.1 d).1).2
 ·intro y d
  rcases mem_insN.1 d with rfl|d
  ·exact h.sy f (q0K o).1
  ·exact h.sy y (mem_delN.1 (mem_delN.1 d).1).1
 ·unfold z6C;rw[q2n];have:=h.many;omega
theorem okD.start{σ:DM}(h:okD σ)(k:Int):okD {σ with down:=false,starts:=k}:=⟨h.cap0,h.cap1,h.used,h.ord,h.sy,h.many,h.left,h.idle,h.keep,h.left1⟩
end
end Go.Proofs.YtfiibpgoplcgkaaGreatDoor
