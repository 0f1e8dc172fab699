/- Plain laws. -/
import Derived.Test.YtjigghjfcbbkiaaGreatDoorG0SN
import Derived.Sort.KeysCollected
import Derived.Lib.Hide
set_option linter.unusedVariables false
set_option linter.unusedSimpArgs false
set_option maxRecDepth 100000
set_option maxHeartbeats 200000
namespace Go.Proofs.YtjigghjfcbbkiaaGreatDoor
section
open Go.RowKit
theorem q4c : ∀a b:List UInt8,bytesBefore a b=decide (a<b)
 |[],[]=>by simp[bytesBefore]
 |[],b::s=>by simp[bytesBefore]
 |a::r,[]=>by simp[bytesBefore]
 | a::r,b::s=>by
  unfold bytesBefore;rw[q4c r s,Bool.eq_iff_iff];simp[List.cons_lt_cons_iff]
section gen
variable {α β:Type}(k:α->List UInt8)
def q3f(x:α):List α->List α
 |[]=>[x]
 |y::r=>if bytesBefore (k x) (k y) then x::y::r else y::q3f x r
def q2n(nm:List UInt8)(l:List α):List α:=l.filter fun y=>!(k y==nm)
def q1N(nm:List UInt8)(f:α->α)(l:List α):List α:=l.map fun y=>if k y==nm then f y else y
def q0F(nm:List UInt8)(l:List α):Option α:=l.find? fun y=>k y==nm
def q3F(l:List α):Prop:=l.Pairwise fun x y=>bytesBefore (k x) (k y)=true
variable {k}
theorem q4C(x:α): ∀l:List α,(q3f k x l).Perm (x::l)
 |[]=>List.Perm.refl _
 | y::r=>by
  unfold q3f
  split
  ·exact List.Perm.refl _
  ·exact(List.Perm.cons y (q4C x r)).trans (List.Perm.swap x y r)
theorem mem_insN{x y:α}{l:List α}:y∈q3f k x l↔y=x\/y∈l:=by rw[(q4C x l).mem_iff];simp
theorem z1C(x:α)(l:List α):(q3f k x l).length=l.length+1:=by rw[(q4C x l).length_eq];rfl
theorem q8q{x:α}: ∀{l:List α},q3F k l->(∀y∈l,k y≠k x)->q3F k (q3f k x l)
 |[],_,_=>by simp[q3F,q3f]
 | y :: r,h,hne=>by
  obtain⟨j,m⟩:=List.pairwise_cons.1 h;unfold q3f
  split
  ·rename_i d
   refine List.pairwise_cons.2 ⟨fun z b=>?_,h⟩;rcases List.mem_cons.1 b with rfl|b
   ·exact d
   ·exact WideShapes.bytes_trans _ _ _ d (j z b)
  ·rename_i d
   have i:bytesBefore (k y) (k x)=true:=by
    rcases WideAt.bytes_total _ _ (hne y (List.mem_cons_self)) with h|h
    ·exact h
    ·exact absurd h d
   refine List.pairwise_cons.2 ⟨fun z b=>?_,q8q m fun z b=>hne z (List.mem_cons_of_mem _ b)⟩;rcases mem_insN.1 b with rfl|b
   ·exact i
   ·exact j z b
theorem q8b{nm:List UInt8}{l:List α}(h:q3F k l):q3F k (q2n k nm l):=h.filter _
theorem mem_delN{nm:List UInt8}{x:α}{l:List α}:x∈q2n k nm l↔x∈l/\k x≠nm:=by simp[q2n,List.mem_filter]
theorem q9N{nm:List UInt8}{f:α->α}{l:List α}(h:q3F k l)(i: ∀y,k y=nm->k (f y)=nm):q3F k (q1N k nm f l):=by
 refine List.pairwise_map.2 (h.imp fun {x y} d=>?_);have e: ∀z,k (if k z==nm then f z else z)=k z:=fun z=>by
  split
  ·rename_i j
   have b:k z=nm:=by simpa using j
   rw[i z b,b]
  ·rfl
 rw[e,e];exact d
theorem q7R{nm:List UInt8}{f:α->α}(l:List α):(q1N k nm f l).length=l.length:=by simp[q1N]
theorem q0M{nm:List UInt8}{l:List α}{e:α}(h:q0F k nm l=some e):e∈l/\k e=nm:=⟨List.mem_of_find?_eq_some h,by simpa using List.find?_some h⟩
theorem q1t{nm:List UInt8}{l:List α}(h:q0F k nm l=none): ∀y∈l,k y≠nm:=fun y hy=>by simpa using List.find?_eq_none.1 h y hy
theorem q0V{nm:List UInt8}{l:List α}(h: ∀y∈l,k y≠nm):q0F k nm l=none:=List.find?_eq_none.2 fun y b=>by simpa using h y b
theorem z0D{l:List α}(h:q3F k l):l.Pairwise fun x y=>k x≠k y:=h.imp fun {x y} b e=>by rw[e,WideAt.bytes_irrefl] at b;cases b
theorem q5f{l:List α}(h:q3F k l){x y:α}(m:x∈l)(u:y∈l)(e:k x=k y):x=y:=by
 have q:=z0D h;clear h
 induction l with
 |nil=>cases m
 | cons a r ih=>
  obtain⟨j,o⟩:=List.pairwise_cons.1 q;rcases List.mem_cons.1 m with ex|b<;>rcases List.mem_cons.1 u with i|d
  ·rw[ex,i]
  ·subst ex;exact absurd e (j y d)
  ·subst i;exact absurd e.symm (j x b)
  ·exact ih b d o
theorem q5H{nm:List UInt8}{l:List α}(h:q3F k l){e:α}(he:e∈l)(b:k e=nm):q0F k nm l=some e:=by
 cases hf:q0F k nm l with
 |none=>exact absurd b (q1t hf e he)
 |some e'=>obtain⟨d,i⟩:=q0M hf;rw[q5f h d he (i.trans b.symm)]
theorem q5C{nm:List UInt8}{l:List α}(h:q0F k nm l=none):q2n k nm l=l:=List.filter_eq_self.2 fun y b=>by simpa using q1t h y b
theorem q5W{nm:List UInt8}{f:α->α}{l:List α}(h:q0F k nm l=none):q1N k nm f l=l:=by
 unfold q1N
 conv=>rhs;rw[<-List.map_id l]
 exact List.map_congr_left fun y b=>by rw[κ (by simpa using q1t h y b)];rfl
theorem q4M{nm:List UInt8}{f:α->α}{l:List α}(h:q3F k l){e:α}(m:q0F k nm l=some e){y:α}:y∈q1N k nm f l↔y=f e\/(y∈l/\k y≠nm):=by
 obtain⟨d,i⟩:=q0M m;unfold q1N;rw[List.mem_map]
 constructor
 ·rintro⟨z,j,rfl⟩
  by_cases b:k z=nm
  ·obtain rfl:=q5f h j d (b.trans i.symm)
   left;rw[ξ (by simpa using b)]
  ·right;rw[κ (by simpa using b)];exact⟨j,b⟩
 ·rintro(rfl|⟨o,b⟩)
  ·exact⟨e,d,by rw[ξ (by simpa using i)]⟩
  ·exact⟨y,o,by rw[κ (by simpa using b)]⟩
theorem q8y{S:α->α->Prop}{nm:List UInt8}{f:α->α}{l:List α}(h:q3F k l)(r:l.Pairwise S){e:α}(u:q0F k nm l=some e)(m: ∀y∈l,k y≠nm->S (f e) y/\S y (f e)):(q1N k nm f l).Pairwise S:=by
 obtain⟨he,i⟩:=q0M u;refine List.pairwise_map.2 ((r.and (z0D h)).imp_of_mem fun {x y} o q ⟨v,j⟩=>?_);by_cases d:k x=nm
 ·have b:k y≠nm:=fun e=>j (d.trans e.symm)
  obtain rfl:=q5f h o he (d.trans i.symm);rw[ξ (by simpa using d),κ (by simpa using b)];exact(m y q b).1
 ·rw [κ (by simpa using d)]
  by_cases b:k y=nm
  ·obtain rfl:=q5f h q he (b.trans i.symm)
   rw[ξ (by simpa using b)];exact(m x o d).2
  ·rw[κ (by simpa using b)];exact v
section map
variable {k' :β->List UInt8}{h:α->β}(hk: ∀x,k' (h x)=k x)
include hk
theorem q8p(x:α): ∀l:List α,(q3f k x l).map h=q3f k' (h x) (l.map h)
 |[]=>rfl
 | y::r=>by
  unfold q3f;simp only[List.map_cons,hk]
  split
  ·rfl
  ·rw[List.map_cons,q8p x r]
theorem z2I(nm:List UInt8)(l:List α):(q2n k nm l).map h=q2n k' nm (l.map h):=by
 unfold q2n;rw[List.filter_map];congr 1;exact List.filter_congr fun y _=>by simp[hk]
theorem z3F(nm:List UInt8)(f:α->α)(g:β->β)(b: ∀y,h (f y)=g (h y))(l:List α):(q1N k nm f l).map h=q1N k' nm g (l.map h):=by
 unfold q1N;rw[List.map_map,List.map_map];refine List.map_congr_left fun y _=>?_
 simp only[Function.comp,hk];split<;>simp[b]
theorem z6S{nm:List UInt8}{f:α->α}{g:β->β}{l:List α}(m:q3F k l){e:α}(j:q0F k nm l=some e)(d:h (f e)=g (h e)):(q1N k nm f l).map h=q1N k' nm g (l.map h):=by
 obtain⟨he,b⟩:=q0M j;unfold q1N;rw[List.map_map,List.map_map];refine List.map_congr_left fun y o=>?_
 simp only[Function.comp,hk]
 split
 ·rename_i q
  have i:k y=nm:=by simpa using q
  rw[q5f m o he (i.trans b.symm)];exact d
 ·rfl
theorem q1k(nm:List UInt8)(l:List α):q0F k' nm (l.map h)=(q0F k nm l).map h:=by
 unfold q0F;rw[List.find?_map];congr 2;funext y;simp[hk]
theorem z1S{l:List α}:q3F k' (l.map h)↔q3F k l:=by
 unfold q3F;rw[List.pairwise_map];simp only[hk]
end map
def q5X(s:α->Nat)(l:List α):Nat:=(l.map s).sum
theorem z8C(s:α->Nat)(x:α)(l:List α):q5X s (q3f k x l)=s x+q5X s l:=by
 unfold q5X;rw[((q4C x l).map s).sum_nat];simp
theorem z3A(s:α->Nat){nm:List UInt8}: ∀{l:List α},q3F k l-> ∀{e:α},q0F k nm l=some e->q5X s (q2n k nm l)+s e=q5X s l
 |[],_,_,hf=>by simp[q0F] at hf
 | a :: r,h,e,hf=>by
  obtain⟨o,q⟩:=List.pairwise_cons.1 h;by_cases b:k a=nm
  ·have j:a=e:=by unfold q0F at hf;rw[List.find?_cons_of_pos (by simpa using b)] at hf;exact Option.some.inj hf
   subst j;have d:q2n k nm (a::r)=r:=by
    unfold q2n;rw[List.filter_cons_of_neg (by simp[b])];refine List.filter_eq_self.2 fun y u=>?_
    have:=o y u;simp only[Bool.not_eq_true',beq_eq_false_iff_ne];intro m;rw[m,<-b,WideAt.bytes_irrefl] at this
    cases this
   rw[d];simp[q5X];omega
  ·have i:q0F k nm r=some e:=by unfold q0F at hf⊢;rwa [List.find?_cons_of_neg (by simpa using b)] at hf
   have v:=z3A s q i;have d:q2n k nm (a::r)=a::q2n k nm r:=by unfold q2n;rw[List.filter_cons_of_pos (by simpa using b)]
   rw[d];simp only[q5X,List.map_cons,List.sum_cons] at v⊢;omega
theorem q6Q(s:α->Nat){nm:List UInt8}{f:α->α}: ∀{l:List α},q3F k l-> ∀{e:α},q0F k nm l=some e->q5X s (q1N k nm f l)+s e=q5X s l+s (f e)
 |[],_,_,hf=>by simp[q0F] at hf
 | a ::r,h,e,hf=>by
  obtain⟨o,q⟩:=List.pairwise_cons.1 h;by_cases b:k a=nm
  ·have m:a=e:=by unfold q0F at hf;rw[List.find?_cons_of_pos (by simpa using b)] at hf;exact Option.some.inj hf
   subst m;have d:q1N k nm f r=r:=q5W (q0V fun y u i=>by have:=o y u;rw[i,<-b,WideAt.bytes_irrefl] at this;cases this);have i:q1N k nm f (a::r)=f a::q1N k nm f r:=by unfold q1N;rw[List.map_cons,ξ (by simpa using b)]
   rw[i,d];simp[q5X];omega
  ·have j:q0F k nm r=some e:=by unfold q0F at hf⊢;rwa [List.find?_cons_of_neg (by simpa using b)] at hf
   have v:=q6Q s (f:=f) q j;have d:q1N k nm f (a::r)=a::q1N k nm f r:=by unfold q1N;rw[List.map_cons,κ (by simpa using b)]
   rw[d];simp only[q5X,List.map_cons,List.sum_cons] at v⊢;omega
theorem q6P(s:α->Nat): ∀{l:List α} {e:α},e∈l->s e<=q5X s l
 | a::r,e,h=>by
  rcases List.mem_cons.1 h with rfl|h
  ·simp[q5X]
  ·have:=q6P s h;simp only[q5X,List.map_cons,List.sum_cons] at this⊢;omega
end gen
structure FM where
 nm:List UInt8
 da:List UInt8
 sy:Nat
structure DM where
 cap:Int
 L:List FM
 reads:Int
 starts:Int
 down:Bool
 fail:Bool
 left:Int
 keep:List Int
def q0N(L:List FM):Nat:=q5X (fun f=>f.da.length) L
def q3m(nm:List UInt8):Bool:=!nm.isEmpty&&decide (nm.length<=12)
structure okD(σ:DM):Prop where
 cap0:0<=σ.cap
 cap1:σ.cap<=1048576
 used:(q0N σ.L:Int)<=σ.cap
 ord:q3F FM.nm σ.L
 sy: ∀f∈σ.L,f.sy<=f.da.length
 many:σ.L.length<=400
 left:0<=σ.left
 idle:σ.fail=false->σ.left=0
 keep:σ.keep.length<=1000000
 left1:σ.left<=9223372036854775807
def q1z(σ:DM):Bool:=σ.fail&&decide (σ.left=0)
def q2a(σ:DM):DM:={σ with left:=max (σ.left-1) 0}
def q3l(f:FM)(more:Int):FM:={f with da:=f.da.take (f.sy+min (max more 0).toNat (f.da.length-f.sy)),sy:=f.sy+min (max more 0).toNat (f.da.length-f.sy)}
def q1Y :List FM->List Int->List FM
 |[],_=>[]
 |f::r,ks=>q3l f (ks.headD 0)::q1Y r ks.tail
def z2G(σ:DM)(ks:List Int):DM:={σ with L:=q1Y σ.L ks,down:=true,fail:=false,left:=0,keep:=[]}
def q5S(σ:DM):DM:=z2G σ σ.keep
def q1x(σ:DM)(nm:List UInt8):Int×DM:=
 if σ.down then(61,σ) else if !q3m nm then(2,σ) else if (q0F FM.nm nm σ.L).isSome then(62,σ) else if 400<=σ.L.length then(60,σ)
 else if q1z σ then(61,q5S σ) else(0,{q2a σ with L:=q3f FM.nm ⟨nm,[],0⟩ σ.L})
def q7j(σ:DM)(nm s:List UInt8):DM:={σ with L:=q1N FM.nm nm (fun f=>{f with da:=f.da++s}) σ.L}
def q1v(σ:DM)(nm s:List UInt8):Int×DM:=
 if σ.down then(61,σ) else if (q0F FM.nm nm σ.L).isNone then(4,σ) else if σ.cap-(q0N σ.L:Int)<(s.length:Int) then(60,σ)
 else if q1z σ then(61,q5S (q7j σ nm s)) else(0,q2a (q7j σ nm s))
def q2P(σ:DM):DM:={σ with reads:=wrap64 (σ.reads+1)}
def q1b(σ:DM)(nm:List UInt8)(at_ n:Int):List UInt8×Int×DM:=
 if σ.down then([],61,σ) else match q0F FM.nm nm σ.L with
 |none=>([],4,q2P σ)
 |some f=>if 0<=at_/\0<=n/\at_<=(f.da.length:Int)/\n<=(f.da.length:Int)-at_ then((f.da.drop at_.toNat).take n.toNat,0,q2P σ) else([],2,q2P σ)
def q6E(σ:DM)(nm:List UInt8):Int×DM:=
 if σ.down then(61,σ) else if (q0F FM.nm nm σ.L).isNone then(4,σ) else if q1z σ then(61,q5S σ)
 else(0,{q2a σ with L:=q1N FM.nm nm (fun f=>{f with sy:=f.da.length}) σ.L})
def q1R(σ:DM)(nm:List UInt8):Int×DM:=
 if σ.down then(61,σ) else if (q0F FM.nm nm σ.L).isNone then(4,σ) else if q1z σ then(61,q5S σ) else(0,{q2a σ with L:=q2n FM.nm nm σ.L})
def q1X(σ:DM)(nm:List UInt8):Int×Int:=
 if σ.down then(0,61) else match q0F FM.nm nm σ.L with|none=>(0,4)|some f=>((f.da.length:Int),0)
def q1a(σ:DM):List (List UInt8):=σ.L.map FM.nm
def z0y(σ:DM):Int:=σ.cap-(q0N σ.L:Int)
def q4z(n:Nat)(f:FM):FM:={f with da:=f.da.take n,sy:=min f.sy (min n f.da.length)}
end
section
open Go.RowKit
def fbF(f:FM):List UInt8×List UInt8:=(f.nm,f.da)
structure Pl(σ:DM)(c s:Int)(l:List (List UInt8×List UInt8)):Prop where
 up:σ.down=false
 fine:σ.fail=false
 files:σ.L.map fbF=l
 cap:σ.cap=c
 st:σ.starts=s
def q2Q(l:List (List UInt8×List UInt8)):Nat:=q5X (fun x:List UInt8×List UInt8=>x.2.length) l
section
variable {σ :DM}{c s:Int}{l:List (List UInt8×List UInt8)}{nm t:List UInt8}{x:List UInt8×List UInt8}
theorem q7p : ∀f:FM,Prod.fst (fbF f)=FM.nm f:=fun _=>rfl
theorem Pl.used(h:Pl σ c s l):q0N σ.L=q2Q l:=by
 unfold q0N q2Q q5X;rw[<-h.files,List.map_map]
 rfl
theorem Pl.free(h:Pl σ c s l):z0y σ=c-(q2Q l:Int):=by unfold z0y;rw[h.cap,h.used]
theorem Pl.find(h:Pl σ c s l)(nm:List UInt8):q0F Prod.fst nm l=(q0F FM.nm nm σ.L).map fbF:=by rw[<-h.files];exact q1k q7p nm σ.L
theorem Pl.find_some(h:Pl σ c s l)(b:q0F Prod.fst nm l=some x): ∃f,q0F FM.nm nm σ.L=some f/\fbF f=x:=by
 rw[h.find] at b
 cases hq:q0F FM.nm nm σ.L with
 |none=>rw[hq] at b;cases b
 |some f=>rw[hq] at b;exact⟨f,rfl,Option.some.inj b⟩
theorem Pl.find_none(h:Pl σ c s l)(b:q0F Prod.fst nm l=none):q0F FM.nm nm σ.L=none:=by
 rw[h.find] at b
 cases hq:q0F FM.nm nm σ.L with
 |none=>rfl
 |some f=>rw[hq] at b;cases b
theorem Pl.ord(h:Pl σ c s l)(b:okD σ):q3F Prod.fst l:=by rw[<-h.files];exact(z1S q7p).2 b.ord
theorem Pl.names(h:Pl σ c s l):q1a σ=l.map Prod.fst:=by rw[<-h.files,List.map_map];rfl
theorem Pl.no(h:Pl σ c s l):q1z σ=false:=by unfold q1z;rw[h.fine];rfl
theorem Pl.tell(h:Pl σ c s l):Pl (q2P σ) c s l:=⟨h.up,h.fine,h.files,h.cap,h.st⟩
theorem Pl.size(h:Pl σ c s l)(d:q0F Prod.fst nm l=some x):q1X σ nm=((x.2.length:Int),0):=by
 obtain⟨f,b,rfl⟩:=h.find_some d;unfold q1X;rw[κ (by rw[h.up];decide),b]
 rfl
theorem Pl.sizeN(h:Pl σ c s l)(b:q0F Prod.fst nm l=none):q1X σ nm=(0,4):=by
 unfold q1X;rw[κ (by rw[h.up];decide),h.find_none b]
theorem Pl.read(h:Pl σ c s l)(d:q0F Prod.fst nm l=some x)(a n:Int)(j:0<=a)(m:0<=n)(i:a+n<=(x.2.length:Int)):q1b σ nm a n=((x.2.drop a.toNat).take n.toNat,0,q2P σ):=by
 obtain⟨f,b,rfl⟩:=h.find_some d;unfold q1b;rw[κ (by rw[h.up];decide),b];show(if 0<=a/\0<=n/\a<=(f.da.length:Int)/\n<=(f.da.length:Int)-a then _ else _)=_;have e:(fbF f).2=f.da:=rfl;rw[e] at i;rw[ξ (by omega)]
 rfl
theorem Pl.append(h:Pl σ c s l)(d:q0F Prod.fst nm l=some x)(i:(t.length:Int)<=c-(q2Q l:Int)): ∃σ',q1v σ nm t=(0,σ')/\Pl σ' c s (q1N Prod.fst nm (fun x=>(x.1,x.2++t)) l):=by
 obtain⟨f,b,rfl⟩:=h.find_some d;refine⟨q2a (q7j σ nm t),?_,?_⟩
 ·unfold q1v
  rw[κ (by rw[h.up];decide),b,κ (by simp),κ (by rw[h.cap,h.used];omega),κ (by rw[h.no];decide)]
 ·exact⟨h.up,h.fine,by rw[<-h.files];exact z3F (k:=FM.nm) (k':=Prod.fst) q7p nm (fun f=>{f with da:=f.da++t}) (fun x=>(x.1,x.2++t)) (fun _=>rfl) σ.L,h.cap,h.st⟩
theorem Pl.sync(h:Pl σ c s l)(d:q0F Prod.fst nm l=some x): ∃σ',q6E σ nm=(0,σ')/\Pl σ' c s l:=by
 obtain⟨f,b,rfl⟩:=h.find_some d;refine⟨{q2a σ with L:=q1N FM.nm nm (fun f=>{f with sy:=f.da.length}) σ.L},?_,?_⟩
 ·unfold q6E
  rw[κ (by rw[h.up];decide),b,κ (by simp),κ (by rw[h.no];decide)]
 ·refine⟨h.up,h.fine,?_,h.cap,h.st⟩
  rw[<-h.files];show(q1N FM.nm nm _ σ.L).map fbF=_;rw[z3F (k:=FM.nm) (k':=Prod.fst) q7p nm (fun f=>{f with sy:=f.da.length}) id (fun _=>rfl) σ.L];unfold q1N
  conv=>rhs;rw[<-List.map_id (σ.L.map fbF)]
  exact List.map_congr_left fun y _=>by split<;>rfl
theorem Pl.create(h:Pl σ c s l)(b:q0F Prod.fst nm l=none)(hk:q3m nm=true)(hm:l.length<400): ∃σ',q1x σ nm=(0,σ')/\Pl σ' c s (q3f Prod.fst (nm,[]) l):=by
 refine⟨{q2a σ with L:=q3f FM.nm ⟨nm,[],0⟩ σ.L},?_,?_⟩
 ·unfold q1x
  have e:σ.L.length=l.length:=by rw[<-h.files,List.length_map]
  rw[κ (by rw[h.up];decide),κ (by rw[hk];decide),h.find_none b,κ (by simp),κ (by omega),κ (by rw[h.no];decide)]
 ·refine⟨h.up,h.fine,?_,h.cap,h.st⟩
  rw[<-h.files];exact q8p (k:=FM.nm) (k':=Prod.fst) q7p ⟨nm,[],0⟩ σ.L
end
section
variable {α :Type}{k:α->List UInt8}
theorem q4Y(nm:List UInt8)(f:α->α)(a b:List α):q1N k nm f (a++b)=q1N k nm f a++q1N k nm f b:=by unfold q1N;simp
theorem q2v{nm:List UInt8}{f:α->α}{l:List α}(h: ∀y∈l,k y≠nm):q1N k nm f l=l:=q5W (q0V h)
theorem q0Y{nm:List UInt8}{a b:List α}(h: ∀y∈a,k y≠nm):q0F k nm (a++b)=q0F k nm b:=by
 unfold q0F;rw[List.find?_append];have:List.find? (fun y=>k y==nm) a=none:=q0V h;rw[this];rfl
end
def q3y(L:List FM)(xs:List Int)(i:Nat):List FM:=q1Y (L.take i) xs++L.drop i
theorem q4y : ∀(L:List FM) (xs:List Int),(q1Y L xs).length=L.length
 |[],_=>rfl
 |f::r,xs=>by simp[q1Y,q4y r]
theorem z4f(f:FM)(x:Int):(q3l f x).nm=f.nm:=rfl
theorem q6a : ∀(L:List FM) (xs:List Int),(q1Y L xs).map FM.nm=L.map FM.nm
 |[],_=>rfl
 |f::r,xs=>by simp[q1Y,q6a r,z4f]
theorem z4h(L:List FM)(b:List Int):q3y L b 0=L:=by simp[q3y,q1Y]
theorem z6s(L:List FM)(b:List Int):q3y L b L.length=q1Y L b:=by simp[q3y]
theorem z0r(L:List FM)(b:List Int)(i:Nat):(q3y L b i).map FM.nm=L.map FM.nm:=by
 unfold q3y;rw[List.map_append,q6a,<-List.map_append,List.take_append_drop]
theorem z2j{L b:List FM}(h:q3F FM.nm L)(e:b.map FM.nm=L.map FM.nm):q3F FM.nm b:=by
 have d:q3F (fun x:List UInt8=>x) (L.map FM.nm):=(z1S (k:=FM.nm) (h:=FM.nm) fun x=>rfl).2 h;rw[<-e] at d;exact(z1S (k:=FM.nm) (h:=FM.nm) fun x=>rfl).1 d
theorem z5F(b:List Int)(i:Nat):b.tail.getD i 0=b.getD (i+1) 0:=by
 cases b<;>simp[δ]
theorem z3g(b:List Int):b.headD 0=b.getD 0 0:=by cases b<;>simp
theorem q6b : ∀(l:List FM) (f:FM) (xs:List Int),q1Y (l++[f]) xs=q1Y l xs++[q3l f (xs.getD l.length 0)]
 |[],f,xs=>by simp only[List.nil_append,q1Y,List.length_nil,z3g]
 | a::r,f,xs=>by
  rw[List.cons_append,q1Y,q1Y,q6b r f xs.tail,z5F]
  rfl
theorem z1t{nm:List UInt8}{h:FM->FM}{a c:List FM}{f:FM}(d:f.nm=nm)(q:q3F FM.nm (a++f::c)):q1N FM.nm nm h (a++f::c)=a++h f::c:=by
 have b:=z0D q;rw[List.pairwise_append] at b;obtain⟨_,m,o⟩:=b;have j:q1N FM.nm nm h a=a:=q5W (q0V fun y i e=>o y i f (by simp) (e.trans d.symm));have hc:q1N FM.nm nm h c=c:=q5W (q0V fun y i e=>(List.pairwise_cons.1 m).1 y i (d.trans e.symm));unfold q1N at j hc⊢;rw[List.map_append,List.map_cons,j,hc,ξ (by simpa using d)]
theorem q9d{L:List FM}(b:List Int){i:Nat}(d:i<L.length)(q:q3F FM.nm L):
  q0F FM.nm L[i].nm (q3y L b i)=some L[i]/\ ∀h:FM->FM,h L[i]=q3l L[i] (b.getD i 0)->q1N FM.nm L[i].nm h (q3y L b i)=q3y L b (i+1):=by
 have m:q3y L b i=q1Y (L.take i) b++L[i]::L.drop (i+1):=by unfold q3y;rw[List.drop_eq_getElem_cons d]
 have j:q3F FM.nm (q3y L b i):=z2j q (z0r L b i);have hm:L[i]∈q3y L b i:=by rw[m];exact List.mem_append_right _ List.mem_cons_self
 refine⟨q5H j hm rfl,fun h o=>?_⟩;rw[m] at j⊢;rw[z1t rfl j,o];unfold q3y;rw[List.take_succ_eq_append_getElem d,q6b,Θ,Nat.min_eq_left (Nat.le_of_lt d)];simp
theorem z4H{nm:List UInt8}{h b:FM->FM}{L:List FM}(hk: ∀y,(h y).nm=y.nm):q1N FM.nm nm b (q1N FM.nm nm h L)=q1N FM.nm nm (fun y=>b (h y)) L:=by
 unfold q1N;rw[List.map_map];refine List.map_congr_left fun y _=>?_
 simp only[Function.comp];by_cases e:(y.nm==nm)=true
 ·rw[ξ e,ξ (by rw[hk];exact e),ξ e]
 ·rw[κ e,κ e,κ e]
theorem z4e(f:FM)(x:Int):(q3l f x).da.length<=f.da.length:=by simp[q3l];omega
theorem z4g(f:FM)(x:Int)(h:f.sy<=f.da.length):(q3l f x).sy=(q3l f x).da.length:=by simp[q3l];omega
theorem q7S : ∀(L:List FM) (xs:List Int),q0N (q1Y L xs)<=q0N L
 |[],_=>ι _
 | f::r,xs=>by
  have:=q7S r xs.tail;have:=z4e f (xs.headD 0);unfold q0N q5X at*;simp only[q1Y,List.map_cons,List.sum_cons];omega
theorem q5x(a b:List FM):q0N (a++b)=q0N a+q0N b:=by simp[q0N,q5X]
theorem z4I(L:List FM)(b:List Int)(i:Nat):q0N (q3y L b i)<=q0N L:=by
 unfold q3y;have e:q0N L=q0N (L.take i)+q0N (L.drop i):=by rw[<-q5x,List.take_append_drop]
 rw[q5x,e];have:=q7S (L.take i) b;omega
theorem q9c : ∀(L:List FM) (xs:List Int),(∀f∈L,f.sy<=f.da.length)-> ∀f∈q1Y L xs,f.sy=f.da.length
 |[],_,_=>by simp[q1Y]
 | a::r,xs,h=>by
  intro f b;rw[q1Y] at b;rcases List.mem_cons.1 b with rfl|b
  ·exact z4g _ _ (h a (by simp))
  ·exact q9c r xs.tail (fun g d=>h g (by simp[d])) f b
theorem z6q{σ:DM}(h:okD σ)(b:List Int):okD (z2G σ b):=by
 refine⟨h.cap0,h.cap1,?_,z2j h.ord (q6a _ _),fun f d=>Nat.le_of_eq (q9c _ _ h.sy f d),?_,Int.le_refl _,fun _=>rfl,υ _,by show(0:Int)<=_;decide⟩
 ·have:=h.used
  have:=q7S σ.L b;show(q0N (q1Y σ.L b):Int)<=σ.cap;omega
 ·show(q1Y σ.L b).length<=400
  rw[q4y];exact h.many
theorem z0X{L:List FM}{nm:List UInt8}{f:FM->FM}(d:q3F FM.nm L){e:FM}(b:q0F FM.nm nm L=some e):q0N (q1N FM.nm nm f L)+e.da.length=q0N L+(f e).da.length:=q6Q _ d b
theorem z0U{L:List FM}{nm:List UInt8}(d:q3F FM.nm L){e:FM}(b:q0F FM.nm nm L=some e):q0N (q2n FM.nm nm L)+e.da.length=q0N L:=z3A _ d b
theorem z0W(x:FM)(L:List FM):q0N (q3f FM.nm x L)=x.da.length+q0N L:=z8C _ x L
theorem q7T{L:List FM}{e:FM}(h:e∈L):e.da.length<=q0N L:=q6P (fun f:FM=>f.da.length) h
theorem okD.tick{σ:DM}(h:okD σ):okD (q2a σ):=
 ⟨h.cap0,h.cap1,h.used,h.ord,h.sy,h.many,(by show 0<=max (σ.left-1) 0;omega),(fun b=>by have:=h.idle b;show max (σ.left-1) 0=0;omega),h.keep,by have:=h.left1;show max (σ.left-1) 0<=_;omega⟩
theorem okD.sink{σ:DM}(h:okD σ):okD (q5S σ):=z6q h _
theorem okD.files{σ:DM}(h:okD σ){L:List FM}(i:(q0N L:Int)<=σ.cap)(b:q3F FM.nm L)(d: ∀f∈L,f.sy<=f.da.length)(hm:L.length<=400):okD {σ with L:=L}:=
 ⟨h.cap0,h.cap1,i,b,d,hm,h.left,h.idle,h.keep,h.left1⟩
theorem okD.upd{σ:DM}(h:okD σ){nm:List UInt8}{f:FM->FM}{e:FM}(d:q0F FM.nm nm σ.L=some e)(m:(q0N (q1N FM.nm nm f σ.L):Int)<=σ.cap)(i: ∀y,(f y).nm=y.nm)(j:(f e).sy<=(f e).da.length):okD {σ with L:=q1N FM.nm nm f σ.L}:=by
 refine h.files m (q9N h.ord fun y b=>by rw[i,b]) (fun y b=>?_) (by rw[q7R];exact h.many);rcases(q4M h.ord d).1 b with rfl|⟨b,_⟩
 ·exact j
 ·exact h.sy y b
theorem okD.app{σ:DM}(h:okD σ){nm s:List UInt8}{e:FM}(b:q0F FM.nm nm σ.L=some e)(o:(q0N σ.L:Int)+s.length<=σ.cap):okD (q7j σ nm s)/\q0N (q7j σ nm s).L=q0N σ.L+s.length:=by
 have i:=z0X (f:=fun f:FM=>{f with da:=f.da++s}) h.ord b;have j:=h.sy e (q0M b).1;have m:({e with da:=e.da++s}:FM).da.length=e.da.length+s.length:=θ;have d:q0N (q1N FM.nm nm (fun f:FM=>{f with da:=f.da++s}) σ.L)=q0N σ.L+s.length:=by omega
 exact⟨h.upd b (by rw[d];omega) (fun y=>rfl) (by show e.sy<=(e.da++s).length;rw[θ];omega),d⟩
theorem okD.create{σ:DM}(h:okD σ){nm:List UInt8}(d:q0F FM.nm nm σ.L=none)(hm:σ.L.length<400):okD {σ with L:=q3f FM.nm ⟨nm,[],0⟩ σ.L}:=by
 refine h.files (by rw[z0W];have:=h.used;simpa using this) (q8q h.ord (q1t d)) (fun f b=>?_) (by rw[z1C];omega);rcases mem_insN.1 b with rfl|b
 ·exact ι _
 ·exact h.sy f b
theorem okD.tell{σ:DM}(h:okD σ):okD (q2P σ):=⟨h.cap0,h.cap1,h.used,h.ord,h.sy,h.many,h.left,h.idle,h.keep,h.left1⟩
theorem okD.sync{σ:DM}(h:okD σ){nm:List UInt8}{e:FM}(d:q0F FM.nm nm σ.L=some e):okD {σ with L:=q1N FM.nm nm (fun f=>{f with sy:=f.da.length}) σ.L}/\q0N (q1N FM.nm nm (fun f=>{f with sy:=f.da.length}) σ.L)=q0N σ.L:=by
 have i:=z0X (f:=fun f:FM=>{f with sy:=f.da.length}) h.ord d;have b:q0N (q1N FM.nm nm (fun f:FM=>{f with sy:=f.da.length}) σ.L)=q0N σ.L:=by
  have:({e with sy:=e.da.length}:FM).da.length=e.da.length:=rfl;omega
 exact⟨h.upd d (by rw[b];exact h.used) (fun y=>rfl) (ι _),b⟩
theorem z8m(nm:List UInt8)(L:List FM):(q2n FM.nm nm L).length<=L.length:=List.length_filter_le _ _
theorem z0V{L:List FM}(nm:List UInt8)(b:q3F FM.nm L):q0N (q2n FM.nm nm L)<=q0N L:=by
 cases hf:q0F FM.nm nm L with
 |none=>rw[q5C hf];exact ι _
 |some e=>have:=z0U b hf;omega
theorem okD.delete{σ:DM}(h:okD σ)(nm:List UInt8):okD {σ with L:=q2n FM.nm nm σ.L}:=
 h.files (by have:=z0V nm h.ord;have:=h.used;omega) (q8b h.ord) (fun f b=>h.sy f (mem_delN.1 b).1) (by have:=z8m nm σ.L;have:=h.many;omega)
end
end Go.Proofs.YtjigghjfcbbkiaaGreatDoor
