/- Plain laws. -/
import Derived.Test.YtfiibpgoplcgkaaGreatDoorG0SA
import Derived.Sort.KeysCollected
import Derived.Lib.Hide
set_option linter.unusedVariables false
set_option linter.unusedSimpArgs false
set_option maxRecDepth 100000
set_option maxHeartbeats 200000
namespace Go.Proofs.YtfiibpgoplcgkaaGreatDoor
variable {a:List UInt8}
section
open Go.RowKit
theorem q5K : ∀a b:List UInt8,bytesBefore a b=decide (a<b)
 |[],[]=>by simp[bytesBefore]
 |[],b::s=>by simp[bytesBefore]
 |a::r,[]=>by simp[bytesBefore]
 | a::r,b::s=>by
  unfold bytesBefore;rw[q5K r s,Bool.eq_iff_iff];simp[List.cons_lt_cons_iff]
section gen
variable {α β:Type}(k:α->List UInt8)
def q1e(x:α):List α->List α
 |[]=>[x]
 |y::r=>if bytesBefore (k x) (k y) then x::y::r else y::q1e x r
def q1M(nm:List UInt8)(l:List α):List α:=l.filter fun y=>!(k y==nm)
def q1P(nm:List UInt8)(f:α->α)(l:List α):List α:=l.map fun y=>if k y==nm then f y else y
def q0F(nm:List UInt8)(l:List α):Option α:=l.find? fun y=>k y==nm
def q2Q(l:List α):Prop:=l.Pairwise fun x y=>bytesBefore (k x) (k y)=true
variable {k}
theorem q3r(x:α): ∀l:List α,(q1e k x l).Perm (x::l)
 |[]=>List.Perm.refl _
 | y::r=>by
  unfold q1e
  split
  ·exact List.Perm.refl _
  ·exact(List.Perm.cons y (q3r x r)).trans (List.Perm.swap x y r)
theorem mem_insN{x y:α}{l:List α}:y∈q1e k x l↔y=x\/y∈l:=by rw[(q3r x l).mem_iff];simp
theorem q7n(x:α)(l:List α):(q1e k x l).length=l.length+1:=by rw[(q3r x l).length_eq];rfl
theorem q4s{x:α}: ∀{l:List α},q2Q k l->(∀y∈l,k y≠k x)->q2Q k (q1e k x l)
 |[],_,_=>by simp[q2Q,q1e]
 | y :: r,h,hne=>by
  obtain⟨j,m⟩:=List.pairwise_cons.1 h;unfold q1e
  split
  ·rename_i d
   refine List.pairwise_cons.2 ⟨fun z b=>?_,h⟩;rcases List.mem_cons.1 b with rfl|b
   ·exact d
   ·exact WideShapes.bytes_trans _ _ _ d (j z b)
  ·rename_i d
   have i:bytesBefore (k y) (k x)=true:=by
    rcases WideAt.bytes_total _ _ (hne y (List.mem_cons_self)) with h|h
    ·exact h
    ·exact absurd h d
   refine List.pairwise_cons.2 ⟨fun z b=>?_,q4s m fun z b=>hne z (List.mem_cons_of_mem _ b)⟩;rcases mem_insN.1 b with rfl|b
   ·exact i
   ·exact j z b
theorem q3D{nm:List UInt8}{l:List α}(h:q2Q k l):q2Q k (q1M k nm l):=h.filter _
theorem mem_delN{nm:List UInt8}{x:α}{l:List α}:x∈q1M k nm l↔x∈l/\k x≠nm:=by simp[q1M,List.mem_filter]
theorem z0U{nm:List UInt8}{f:α->α}{l:List α}(h:q2Q k l)(i: ∀y,k y=nm->k (f y)=nm):q2Q k (q1P k nm f l):=by
 refine List.pairwise_map.2 (h.imp fun {x y} d=>?_);have e: ∀z,k (if k z==nm then f z else z)=k z:=fun z=>by
  split
  ·rename_i j
   have b:k z=nm:=by simpa using j
   rw[i z b,b]
  ·rfl
 rw[e,e];exact d
theorem q8K{nm:List UInt8}{f:α->α}(l:List α):(q1P k nm f l).length=l.length:=by simp[q1P]
theorem q0J{nm:List UInt8}{l:List α}{e:α}(h:q0F k nm l=some e):e∈l/\k e=nm:=⟨List.mem_of_find?_eq_some h,by simpa using List.find?_some h⟩
theorem q0r{nm:List UInt8}{l:List α}(h:q0F k nm l=none): ∀y∈l,k y≠nm:=fun y hy=>by simpa using List.find?_eq_none.1 h y hy
theorem q0S{nm:List UInt8}{l:List α}(h: ∀y∈l,k y≠nm):q0F k nm l=none:=List.find?_eq_none.2 fun y b=>by simpa using h y b
theorem q8x{l:List α}(h:q2Q k l):l.Pairwise fun x y=>k x≠k y:=h.imp fun {x y} b e=>by rw[e,WideAt.bytes_irrefl] at b;cases b
theorem q6Y{l:List α}(h:q2Q k l){x y:α}(m:x∈l)(u:y∈l)(e:k x=k y):x=y:=by
 have q:=q8x h;clear h
 induction l with
 |nil=>cases m
 | cons a r ih=>
  obtain⟨j,o⟩:=List.pairwise_cons.1 q;rcases List.mem_cons.1 m with ex|b<;>rcases List.mem_cons.1 u with i|d
  ·rw[ex,i]
  ·subst ex;exact absurd e (j y d)
  ·subst i;exact absurd e.symm (j x b)
  ·exact ih b d o
theorem q3F{nm:List UInt8}{l:List α}(h:q2Q k l){e:α}(he:e∈l)(b:k e=nm):q0F k nm l=some e:=by
 cases hf:q0F k nm l with
 |none=>exact absurd b (q0r hf e he)
 |some e'=>obtain⟨d,i⟩:=q0J hf;rw[q6Y h d he (i.trans b.symm)]
theorem q5l{nm:List UInt8}{l:List α}(h:q0F k nm l=none):q1M k nm l=l:=List.filter_eq_self.2 fun y b=>by simpa using q0r h y b
theorem q6G{nm:List UInt8}{f:α->α}{l:List α}(h:q0F k nm l=none):q1P k nm f l=l:=by
 unfold q1P
 conv=>rhs;rw[<-List.map_id l]
 exact List.map_congr_left fun y b=>by rw[κ (by simpa using q0r h y b)];rfl
theorem q4t{nm:List UInt8}{f:α->α}{l:List α}(h:q2Q k l){e:α}(m:q0F k nm l=some e){y:α}:y∈q1P k nm f l↔y=f e\/(y∈l/\k y≠nm):=by
 obtain⟨d,i⟩:=q0J m;unfold q1P;rw[List.mem_map]
 constructor
 ·rintro⟨z,j,rfl⟩
  by_cases b:k z=nm
  ·obtain rfl:=q6Y h j d (b.trans i.symm)
   left;rw[ξ (by simpa using b)]
  ·right;rw[κ (by simpa using b)];exact⟨j,b⟩
 ·rintro(rfl|⟨o,b⟩)
  ·exact⟨e,d,by rw[ξ (by simpa using i)]⟩
  ·exact⟨y,o,by rw[κ (by simpa using b)]⟩
theorem z0A{S:α->α->Prop}{nm:List UInt8}{f:α->α}{l:List α}(h:q2Q k l)(r:l.Pairwise S){e:α}(u:q0F k nm l=some e)(m: ∀y∈l,k y≠nm->S (f e) y/\S y (f e)):(q1P k nm f l).Pairwise S:=by
 obtain⟨he,i⟩:=q0J u;refine List.pairwise_map.2 ((r.and (q8x h)).imp_of_mem fun {x y} o q ⟨v,j⟩=>?_);by_cases d:k x=nm
 ·have b:k y≠nm:=fun e=>j (d.trans e.symm)
  obtain rfl:=q6Y h o he (d.trans i.symm);rw[ξ (by simpa using d),κ (by simpa using b)];exact(m y q b).1
 ·rw [κ (by simpa using d)]
  by_cases b:k y=nm
  ·obtain rfl:=q6Y h q he (b.trans i.symm)
   rw[ξ (by simpa using b)];exact(m x o d).2
  ·rw[κ (by simpa using b)];exact v
section map
variable {k' :β->List UInt8}{h:α->β}(hk: ∀x,k' (h x)=k x)
include hk
theorem q5u(x:α): ∀l:List α,(q1e k x l).map h=q1e k' (h x) (l.map h)
 |[]=>rfl
 | y::r=>by
  unfold q1e;simp only[List.map_cons,hk]
  split
  ·rfl
  ·rw[List.map_cons,q5u x r]
theorem q5k(nm:List UInt8)(l:List α):(q1M k nm l).map h=q1M k' nm (l.map h):=by
 unfold q1M;rw[List.filter_map];congr 1;exact List.filter_congr fun y _=>by simp[hk]
theorem z4S(nm:List UInt8)(f:α->α)(g:β->β)(b: ∀y,h (f y)=g (h y))(l:List α):(q1P k nm f l).map h=q1P k' nm g (l.map h):=by
 unfold q1P;rw[List.map_map,List.map_map];refine List.map_congr_left fun y _=>?_
 simp only[Function.comp,hk];split<;>simp[b]
theorem z8B{nm:List UInt8}{f:α->α}{g:β->β}{l:List α}(m:q2Q k l){e:α}(j:q0F k nm l=some e)(d:h (f e)=g (h e)):(q1P k nm f l).map h=q1P k' nm g (l.map h):=by
 obtain⟨he,b⟩:=q0J j;unfold q1P;rw[List.map_map,List.map_map];refine List.map_congr_left fun y o=>?_
 simp only[Function.comp,hk]
 split
 ·rename_i q
  have i:k y=nm:=by simpa using q
  rw[q6Y m o he (i.trans b.symm)];exact d
 ·rfl
theorem q1t(nm:List UInt8)(l:List α):q0F k' nm (l.map h)=(q0F k nm l).map h:=by
 unfold q0F;rw[List.find?_map];congr 2;funext y;simp[hk]
theorem z2c{l:List α}:q2Q k' (l.map h)↔q2Q k l:=by
 unfold q2Q;rw[List.pairwise_map];simp only[hk]
end map
def q5I(s:α->Nat)(l:List α):Nat:=(l.map s).sum
theorem z9l(s:α->Nat)(x:α)(l:List α):q5I s (q1e k x l)=s x+q5I s l:=by
 unfold q5I;rw[((q3r x l).map s).sum_nat];simp
theorem z0O(s:α->Nat){nm:List UInt8}: ∀{l:List α},q2Q k l-> ∀{e:α},q0F k nm l=some e->q5I s (q1M k nm l)+s e=q5I s l
 |[],_,_,hf=>by simp[q0F] at hf
 | a :: r,h,e,hf=>by
  obtain⟨o,q⟩:=List.pairwise_cons.1 h;by_cases b:k a=nm
  ·have j:a=e:=by unfold q0F at hf;rw[List.find?_cons_of_pos (by simpa using b)] at hf;exact Option.some.inj hf
   subst j;have d:q1M k nm (a::r)=r:=by
    unfold q1M;rw[List.filter_cons_of_neg (by simp[b])];refine List.filter_eq_self.2 fun y u=>?_
    have:=o y u;simp only[Bool.not_eq_true',beq_eq_false_iff_ne];intro m;rw[m,<-b,WideAt.bytes_irrefl] at this
    cases this
   rw[d];simp[q5I];omega
  ·have i:q0F k nm r=some e:=by unfold q0F at hf⊢;rwa [List.find?_cons_of_neg (by simpa using b)] at hf
   have v:=z0O s q i;have d:q1M k nm (a::r)=a::q1M k nm r:=by unfold q1M;rw[List.filter_cons_of_pos (by simpa using b)]
   rw[d];simp only[q5I,List.map_cons,List.sum_cons] at v⊢;omega
theorem q7I(s:α->Nat){nm:List UInt8}{f:α->α}: ∀{l:List α},q2Q k l-> ∀{e:α},q0F k nm l=some e->q5I s (q1P k nm f l)+s e=q5I s l+s (f e)
 |[],_,_,hf=>by simp[q0F] at hf
 | a ::r,h,e,hf=>by
  obtain⟨o,q⟩:=List.pairwise_cons.1 h;by_cases b:k a=nm
  ·have m:a=e:=by unfold q0F at hf;rw[List.find?_cons_of_pos (by simpa using b)] at hf;exact Option.some.inj hf
   subst m;have d:q1P k nm f r=r:=q6G (q0S fun y u i=>by have:=o y u;rw[i,<-b,WideAt.bytes_irrefl] at this;cases this);have i:q1P k nm f (a::r)=f a::q1P k nm f r:=by unfold q1P;rw[List.map_cons,ξ (by simpa using b)]
   rw[i,d];simp[q5I];omega
  ·have j:q0F k nm r=some e:=by unfold q0F at hf⊢;rwa [List.find?_cons_of_neg (by simpa using b)] at hf
   have v:=q7I s (f:=f) q j;have d:q1P k nm f (a::r)=a::q1P k nm f r:=by unfold q1P;rw[List.map_cons,κ (by simpa using b)]
   rw[d];simp only[q5I,List.map_cons,List.sum_cons] at v⊢;omega
theorem q7H(s:α->Nat): ∀{l:List α} {e:α},e∈l->s e<=q5I s l
 | a::r,e,h=>by
  rcases List.mem_cons.1 h with rfl|h
  ·simp[q5I]
  ·have:=q7H s h;simp only[q5I,List.map_cons,List.sum_cons] at this⊢;omega
theorem z2G{nm:List UInt8}{l:List α}(h:q2Q k l){e:α}(d:q0F k nm l=some e):(q1M k nm l).length+1=l.length:=by
 have:=z0O (fun _=>1) h d;have b: ∀m:List α,q5I (fun _=>1) m=m.length:=fun m=>by unfold q5I;induction m with
  |nil=>rfl
  |cons a r ih=>simp only[List.map_cons,List.sum_cons,ih,χ];omega
 rw[b,b] at this;exact this
end gen
structure FM where
 nm:List UInt8
 da:List UInt8
 sy:Nat
structure DM where
 cap:Int
 L:List FM
 reads:Int
 starts:Int
 down:Bool
 fail:Bool
 left:Int
 keep:List Int
def q0P(L:List FM):Nat:=q5I (fun f=>f.da.length) L
def q2G(nm:List UInt8):Bool:=!nm.isEmpty&&decide (nm.length<=12)
structure okD(σ:DM):Prop where
 cap0:0<=σ.cap
 cap1:σ.cap<=1048576
 used:(q0P σ.L:Int)<=σ.cap
 ord:q2Q FM.nm σ.L
 sy: ∀f∈σ.L,f.sy<=f.da.length
 many:σ.L.length<=400
 left:0<=σ.left
 idle:σ.fail=false->σ.left=0
 keep:σ.keep.length<=1000000
 left1:σ.left<=9223372036854775807
def q1p(σ:DM):Bool:=σ.fail&&decide (σ.left=0)
def q1c(σ:DM):DM:={σ with left:=max (σ.left-1) 0}
def q2S(f:FM)(more:Int):FM:={f with da:=f.da.take (f.sy+min (max more 0).toNat (f.da.length-f.sy)),sy:=f.sy+min (max more 0).toNat (f.da.length-f.sy)}
def q0s :List FM->List Int->List FM
 |[],_=>[]
 |f::r,ks=>q2S f (ks.headD 0)::q0s r ks.tail
def q5L(σ:DM)(ks:List Int):DM:={σ with L:=q0s σ.L ks,down:=true,fail:=false,left:=0,keep:=[]}
def q4m(σ:DM):DM:=q5L σ σ.keep
def q2C(σ:DM)(nm:List UInt8):Int×DM:=
 if σ.down then(61,σ) else if !q2G nm then(2,σ) else if (q0F FM.nm nm σ.L).isSome then(62,σ) else if 400<=σ.L.length then(60,σ)
 else if q1p σ then(61,q4m σ) else(0,{q1c σ with L:=q1e FM.nm ⟨nm,[],0⟩ σ.L})
def q8c(σ:DM)(nm s:List UInt8):DM:={σ with L:=q1P FM.nm nm (fun f=>{f with da:=f.da++s}) σ.L}
def q1a(σ:DM)(nm s:List UInt8):Int×DM:=
 if σ.down then(61,σ) else if (q0F FM.nm nm σ.L).isNone then(4,σ) else if σ.cap-(q0P σ.L:Int)<(s.length:Int) then(60,σ)
 else if q1p σ then(61,q4m (q8c σ nm s)) else(0,q1c (q8c σ nm s))
def q2Z(σ:DM):DM:={σ with reads:=wrap64 (σ.reads+1)}
def q1r(σ:DM)(nm:List UInt8)(at_ n:Int):List UInt8×Int×DM:=
 if σ.down then([],61,σ) else match q0F FM.nm nm σ.L with
 |none=>([],4,q2Z σ)
 |some f=>if 0<=at_/\0<=n/\at_<=(f.da.length:Int)/\n<=(f.da.length:Int)-at_ then((f.da.drop at_.toNat).take n.toNat,0,q2Z σ) else([],2,q2Z σ)
def q5J(σ:DM)(nm:List UInt8):Int×DM:=
 if σ.down then(61,σ) else if (q0F FM.nm nm σ.L).isNone then(4,σ) else if q1p σ then(61,q4m σ)
 else(0,{q1c σ with L:=q1P FM.nm nm (fun f=>{f with sy:=f.da.length}) σ.L})
def z5O(a b:List UInt8)(f:FM)(L:List FM):List FM:=q1e FM.nm {f with nm:=b} (q1M FM.nm a (q1M FM.nm b L))
def q2E(σ:DM)(a b:List UInt8):Int×DM:=
 if σ.down then(61,σ) else match q0F FM.nm a σ.L with
 |none=>(4,σ)
 |some f=>if !q2G b then(2,σ) else if q1p σ then(61,q4m σ) else if a=b then(0,q1c σ) else(0,{q1c σ with L:=z5O a b f σ.L})
def q1L(σ:DM)(nm:List UInt8):Int×DM:=
 if σ.down then(61,σ) else if (q0F FM.nm nm σ.L).isNone then(4,σ) else if q1p σ then(61,q4m σ) else(0,{q1c σ with L:=q1M FM.nm nm σ.L})
def q1m(σ:DM)(nm:List UInt8):Int×Int:=
 if σ.down then(0,61) else match q0F FM.nm nm σ.L with|none=>(0,4)|some f=>((f.da.length:Int),0)
def q1q(σ:DM):List (List UInt8):=σ.L.map FM.nm
def z2M(σ:DM):Int:=σ.cap-(q0P σ.L:Int)
def q6g(σ:DM)(ks:List Int):Int×DM:=if σ.down then(61,σ) else(0,q5L σ ks)
def q6q(σ:DM):Int×DM:=if σ.down then(0,{σ with down:=false,starts:=wrap64 (σ.starts+1)}) else(2,σ)
def q5i(n:Nat)(f:FM):FM:={f with da:=f.da.take n,sy:=min f.sy (min n f.da.length)}
end
section
open Go.RowKit
def fbF(f:FM):List UInt8×List UInt8:=(f.nm,f.da)
structure Pl(σ:DM)(c s:Int)(l:List (List UInt8×List UInt8)):Prop where
 up:σ.down=false
 fine:σ.fail=false
 files:σ.L.map fbF=l
 cap:σ.cap=c
 st:σ.starts=s
def q1X(l:List (List UInt8×List UInt8)):Nat:=q5I (fun x:List UInt8×List UInt8=>x.2.length) l
section
variable {σ :DM}{c s:Int}{l:List (List UInt8×List UInt8)}{nm t:List UInt8}{x:List UInt8×List UInt8}
theorem q5O : ∀f:FM,Prod.fst (fbF f)=FM.nm f:=fun _=>rfl
theorem Pl.used(h:Pl σ c s l):q0P σ.L=q1X l:=by
 unfold q0P q1X q5I;rw[<-h.files,List.map_map]
 rfl
theorem Pl.free(h:Pl σ c s l):z2M σ=c-(q1X l:Int):=by unfold z2M;rw[h.cap,h.used]
theorem Pl.find(h:Pl σ c s l)(nm:List UInt8):q0F Prod.fst nm l=(q0F FM.nm nm σ.L).map fbF:=by rw[<-h.files];exact q1t q5O nm σ.L
theorem Pl.find_some(h:Pl σ c s l)(b:q0F Prod.fst nm l=some x): ∃f,q0F FM.nm nm σ.L=some f/\fbF f=x:=by
 rw[h.find] at b
 cases hq:q0F FM.nm nm σ.L with
 |none=>rw[hq] at b;cases b
 |some f=>rw[hq] at b;exact⟨f,rfl,Option.some.inj b⟩
theorem Pl.find_none(h:Pl σ c s l)(b:q0F Prod.fst nm l=none):q0F FM.nm nm σ.L=none:=by
 rw[h.find] at b
 cases hq:q0F FM.nm nm σ.L with
 |none=>rfl
 |some f=>rw[hq] at b;cases b
theorem Pl.ord(h:Pl σ c s l)(b:okD σ):q2Q Prod.fst l:=by rw[<-h.files];exact(z2c q5O).2 b.ord
theorem Pl.names(h:Pl σ c s l):q1q σ=l.map Prod.fst:=by rw[<-h.files,List.map_map];rfl
theorem Pl.no(h:Pl σ c s l):q1p σ=false:=by unfold q1p;rw[h.fine];rfl
theorem Pl.tell(h:Pl σ c s l):Pl (q2Z σ) c s l:=⟨h.up,h.fine,h.files,h.cap,h.st⟩
theorem Pl.size(h:Pl σ c s l)(d:q0F Prod.fst nm l=some x):q1m σ nm=((x.2.length:Int),0):=by
 obtain⟨f,b,rfl⟩:=h.find_some d;unfold q1m;rw[κ (by rw[h.up];decide),b]
 rfl
theorem Pl.sizeN(h:Pl σ c s l)(b:q0F Prod.fst nm l=none):q1m σ nm=(0,4):=by
 unfold q1m;rw[κ (by rw[h.up];decide),h.find_none b]
theorem Pl.read(h:Pl σ c s l)(d:q0F Prod.fst nm l=some x)(a n:Int)(j:0<=a)(m:0<=n)(i:a+n<=(x.2.length:Int)):q1r σ nm a n=((x.2.drop a.toNat).take n.toNat,0,q2Z σ):=by
 obtain⟨f,b,rfl⟩:=h.find_some d;unfold q1r;rw[κ (by rw[h.up];decide),b];show(if 0<=a/\0<=n/\a<=(f.da.length:Int)/\n<=(f.da.length:Int)-a then _ else _)=_;have e:(fbF f).2=f.da:=rfl;rw[e] at i;rw[ξ (by omega)]
 rfl
theorem Pl.append(h:Pl σ c s l)(d:q0F Prod.fst nm l=some x)(i:(t.length:Int)<=c-(q1X l:Int)): ∃σ',q1a σ nm t=(0,σ')/\Pl σ' c s (q1P Prod.fst nm (fun x=>(x.1,x.2++t)) l):=by
 obtain⟨f,b,rfl⟩:=h.find_some d;refine⟨q1c (q8c σ nm t),?_,?_⟩
 ·unfold q1a
  rw[κ (by rw[h.up];decide),b,κ (by simp),κ (by rw[h.cap,h.used];omega),κ (by rw[h.no];decide)]
 ·exact⟨h.up,h.fine,by rw[<-h.files];exact z4S (k:=FM.nm) (k':=Prod.fst) q5O nm (fun f=>{f with da:=f.da++t}) (fun x=>(x.1,x.2++t)) (fun _=>rfl) σ.L,h.cap,h.st⟩
theorem Pl.sync(h:Pl σ c s l)(d:q0F Prod.fst nm l=some x): ∃σ',q5J σ nm=(0,σ')/\Pl σ' c s l:=by
 obtain⟨f,b,rfl⟩:=h.find_some d;refine⟨{q1c σ with L:=q1P FM.nm nm (fun f=>{f with sy:=f.da.length}) σ.L},?_,?_⟩
 ·unfold q5J
  rw[κ (by rw[h.up];decide),b,κ (by simp),κ (by rw[h.no];decide)]
 ·refine⟨h.up,h.fine,?_,h.cap,h.st⟩
  rw[<-h.files];show(q1P FM.nm nm _ σ.L).map fbF=_;rw[z4S (k:=FM.nm) (k':=Prod.fst) q5O nm (fun f=>{f with sy:=f.da.length}) id (fun _=>rfl) σ.L];unfold q1P
  conv=>rhs;rw[<-List.map_id (σ.L.map fbF)]
  exact List.map_congr_left fun y _=>by split<;>rfl
theorem Pl.create(h:Pl σ c s l)(b:q0F Prod.fst nm l=none)(hk:q2G nm=true)(hm:l.length<400): ∃σ',q2C σ nm=(0,σ')/\Pl σ' c s (q1e Prod.fst (nm,[]) l):=by
 refine⟨{q1c σ with L:=q1e FM.nm ⟨nm,[],0⟩ σ.L},?_,?_⟩
 ·unfold q2C
  have e:σ.L.length=l.length:=by rw[<-h.files,List.length_map]
  rw[κ (by rw[h.up];decide),κ (by rw[hk];decide),h.find_none b,κ (by simp),κ (by omega),κ (by rw[h.no];decide)]
 ·refine⟨h.up,h.fine,?_,h.cap,h.st⟩
  rw[<-h.files];exact q5u (k:=FM.nm) (k':=Prod.fst) q5O ⟨nm,[],0⟩ σ.L
end
section
variable {α :Type}{k:α->List UInt8}
theorem q5E(nm:List UInt8)(f:α->α)(a b:List α):q1P k nm f (a++b)=q1P k nm f a++q1P k nm f b:=by unfold q1P;simp
theorem q2i{nm:List UInt8}{f:α->α}{l:List α}(h: ∀y∈l,k y≠nm):q1P k nm f l=l:=q6G (q0S h)
theorem q0Q{nm:List UInt8}{a b:List α}(h: ∀y∈a,k y≠nm):q0F k nm (a++b)=q0F k nm b:=by
 unfold q0F;rw[List.find?_append];have:List.find? (fun y=>k y==nm) a=none:=q0S h;rw[this];rfl
end
def q4a(L:List FM)(xs:List Int)(i:Nat):List FM:=q0s (L.take i) xs++L.drop i
theorem q4A : ∀(L:List FM) (xs:List Int),(q0s L xs).length=L.length
 |[],_=>rfl
 |f::r,xs=>by simp[q0s,q4A r]
theorem q7V(f:FM)(x:Int):(q2S f x).nm=f.nm:=rfl
theorem q5h : ∀(L:List FM) (xs:List Int),(q0s L xs).map FM.nm=L.map FM.nm
 |[],_=>rfl
 |f::r,xs=>by simp[q0s,q5h r,q7V]
theorem z6H(L:List FM)(b:List Int):q4a L b 0=L:=by simp[q4a,q0s]
theorem z8Y(L:List FM)(b:List Int):q4a L b L.length=q0s L b:=by simp[q4a]
theorem z2E(L:List FM)(b:List Int)(i:Nat):(q4a L b i).map FM.nm=L.map FM.nm:=by
 unfold q4a;rw[List.map_append,q5h,<-List.map_append,List.take_append_drop]
theorem z3u{L b:List FM}(h:q2Q FM.nm L)(e:b.map FM.nm=L.map FM.nm):q2Q FM.nm b:=by
 have d:q2Q (fun x:List UInt8=>x) (L.map FM.nm):=(z2c (k:=FM.nm) (h:=FM.nm) fun x=>rfl).2 h;rw[<-e] at d;exact(z2c (k:=FM.nm) (h:=FM.nm) fun x=>rfl).1 d
theorem z6g(b:List Int)(i:Nat):b.tail.getD i 0=b.getD (i+1) 0:=by
 cases b<;>simp[δ]
theorem z4z(b:List Int):b.headD 0=b.getD 0 0:=by cases b<;>simp
theorem q7W : ∀(l:List FM) (f:FM) (xs:List Int),q0s (l++[f]) xs=q0s l xs++[q2S f (xs.getD l.length 0)]
 |[],f,xs=>by simp only[List.nil_append,q0s,List.length_nil,z4z]
 | a::r,f,xs=>by
  rw[List.cons_append,q0s,q0s,q7W r f xs.tail,z6g]
  rfl
theorem z3F{nm:List UInt8}{h:FM->FM}{a c:List FM}{f:FM}(d:f.nm=nm)(q:q2Q FM.nm (a++f::c)):q1P FM.nm nm h (a++f::c)=a++h f::c:=by
 have b:=q8x q;rw[List.pairwise_append] at b;obtain⟨_,m,o⟩:=b;have j:q1P FM.nm nm h a=a:=q6G (q0S fun y i e=>o y i f (by simp) (e.trans d.symm));have hc:q1P FM.nm nm h c=c:=q6G (q0S fun y i e=>(List.pairwise_cons.1 m).1 y i (d.trans e.symm));unfold q1P at j hc⊢;rw[List.map_append,List.map_cons,j,hc,ξ (by simpa using d)]
theorem z0l{L:List FM}(b:List Int){i:Nat}(d:i<L.length)(q:q2Q FM.nm L):
  q0F FM.nm L[i].nm (q4a L b i)=some L[i]/\ ∀h:FM->FM,h L[i]=q2S L[i] (b.getD i 0)->q1P FM.nm L[i].nm h (q4a L b i)=q4a L b (i+1):=by
 have m:q4a L b i=q0s (L.take i) b++L[i]::L.drop (i+1):=by unfold q4a;rw[List.drop_eq_getElem_cons d]
 have j:q2Q FM.nm (q4a L b i):=z3u q (z2E L b i);have hm:L[i]∈q4a L b i:=by rw[m];exact List.mem_append_right _ List.mem_cons_self
 refine⟨q3F j hm rfl,fun h o=>?_⟩;rw[m] at j⊢;rw[z3F rfl j,o];unfold q4a;rw[List.take_succ_eq_append_getElem d,q7W,Θ,Nat.min_eq_left (Nat.le_of_lt d)];simp
theorem z5b{nm:List UInt8}{h b:FM->FM}{L:List FM}(hk: ∀y,(h y).nm=y.nm):q1P FM.nm nm b (q1P FM.nm nm h L)=q1P FM.nm nm (fun y=>b (h y)) L:=by
 unfold q1P;rw[List.map_map];refine List.map_congr_left fun y _=>?_
 simp only[Function.comp];by_cases e:(y.nm==nm)=true
 ·rw[ξ e,ξ (by rw[hk];exact e),ξ e]
 ·rw[κ e,κ e,κ e]
theorem z0k(f:FM)(x:Int):(q2S f x).da.length<=f.da.length:=by simp[q2S];omega
theorem z6G(f:FM)(x:Int)(h:f.sy<=f.da.length):(q2S f x).sy=(q2S f x).da.length:=by simp[q2S];omega
theorem q8L : ∀(L:List FM) (xs:List Int),q0P (q0s L xs)<=q0P L
 |[],_=>ι _
 | f::r,xs=>by
  have:=q8L r xs.tail;have:=z0k f (xs.headD 0);unfold q0P q5I at*;simp only[q0s,List.map_cons,List.sum_cons];omega
theorem q6s(a b:List FM):q0P (a++b)=q0P a+q0P b:=by simp[q0P,q5I]
theorem z5c(L:List FM)(b:List Int)(i:Nat):q0P (q4a L b i)<=q0P L:=by
 unfold q4a;have e:q0P L=q0P (L.take i)+q0P (L.drop i):=by rw[<-q6s,List.take_append_drop]
 rw[q6s,e];have:=q8L (L.take i) b;omega
theorem q7X : ∀(L:List FM) (xs:List Int),(∀f∈L,f.sy<=f.da.length)-> ∀f∈q0s L xs,f.sy=f.da.length
 |[],_,_=>by simp[q0s]
 | a::r,xs,h=>by
  intro f b;rw[q0s] at b;rcases List.mem_cons.1 b with rfl|b
  ·exact z6G _ _ (h a (by simp))
  ·exact q7X r xs.tail (fun g d=>h g (by simp[d])) f b
theorem z3R{σ:DM}(h:okD σ)(b:List Int):okD (q5L σ b):=by
 refine⟨h.cap0,h.cap1,?_,z3u h.ord (q5h _ _),fun f d=>Nat.le_of_eq (q7X _ _ h.sy f d),?_,Int.le_refl _,fun _=>rfl,υ _,by show(0:Int)<=_;decide⟩
 ·have:=h.used
  have:=q8L σ.L b;show(q0P (q0s σ.L b):Int)<=σ.cap;omega
 ·show(q0s σ.L b).length<=400
  rw[q4A];exact h.many
theorem z1i{L:List FM}{nm:List UInt8}{f:FM->FM}(d:q2Q FM.nm L){e:FM}(b:q0F FM.nm nm L=some e):q0P (q1P FM.nm nm f L)+e.da.length=q0P L+(f e).da.length:=q7I _ d b
theorem q8M{L:List FM}{nm:List UInt8}(d:q2Q FM.nm L){e:FM}(b:q0F FM.nm nm L=some e):q0P (q1M FM.nm nm L)+e.da.length=q0P L:=z0O _ d b
theorem q8N(x:FM)(L:List FM):q0P (q1e FM.nm x L)=x.da.length+q0P L:=z9l _ x L
theorem q8O{L:List FM}{e:FM}(h:e∈L):e.da.length<=q0P L:=q7H (fun f:FM=>f.da.length) h
theorem okD.tick{σ:DM}(h:okD σ):okD (q1c σ):=
 ⟨h.cap0,h.cap1,h.used,h.ord,h.sy,h.many,(by show 0<=max (σ.left-1) 0;omega),(fun b=>by have:=h.idle b;show max (σ.left-1) 0=0;omega),h.keep,by have:=h.left1;show max (σ.left-1) 0<=_;omega⟩
theorem okD.sink{σ:DM}(h:okD σ):okD (q4m σ):=z3R h _
theorem okD.files{σ:DM}(h:okD σ){L:List FM}(i:(q0P L:Int)<=σ.cap)(b:q2Q FM.nm L)(d: ∀f∈L,f.sy<=f.da.length)(hm:L.length<=400):okD {σ with L:=L}:=
 ⟨h.cap0,h.cap1,i,b,d,hm,h.left,h.idle,h.keep,h.left1⟩
theorem okD.upd{σ:DM}(h:okD σ){nm:List UInt8}{f:FM->FM}{e:FM}(d:q0F FM.nm nm σ.L=some e)(m:(q0P (q1P FM.nm nm f σ.L):Int)<=σ.cap)(i: ∀y,(f y).nm=y.nm)(j:(f e).sy<=(f e).da.length):okD {σ with L:=q1P FM.nm nm f σ.L}:=by
 refine h.files m (z0U h.ord fun y b=>by rw[i,b]) (fun y b=>?_) (by rw[q8K];exact h.many);rcases(q4t h.ord d).1 b with rfl|⟨b,_⟩
 ·exact j
 ·exact h.sy y b
theorem okD.app{σ:DM}(h:okD σ){nm s:List UInt8}{e:FM}(b:q0F FM.nm nm σ.L=some e)(o:(q0P σ.L:Int)+s.length<=σ.cap):okD (q8c σ nm s)/\q0P (q8c σ nm s).L=q0P σ.L+s.length:=by
 have i:=z1i (f:=fun f:FM=>{f with da:=f.da++s}) h.ord b;have j:=h.sy e (q0J b).1;have m:({e with da:=e.da++s}:FM).da.length=e.da.length+s.length:=θ;have d:q0P (q1P FM.nm nm (fun f:FM=>{f with da:=f.da++s}) σ.L)=q0P σ.L+s.length:=by omega
 exact⟨h.upd b (by rw[d];omega) (fun y=>rfl) (by show e.sy<=(e.da++s).length;rw[θ];omega),d⟩
theorem okD.create{σ:DM}(h:okD σ){nm:List UInt8}(d:q0F FM.nm nm σ.L=none)(hm:σ.L.length<400):okD {σ with L:=q1e FM.nm ⟨nm,[],0⟩ σ.L}:=by
 refine h.files (by rw[q8N];have:=h.used;simpa using this) (q4s h.ord (q0r d)) (fun f b=>?_) (by rw[q7n];omega);rcases mem_insN.1 b with rfl|b
 ·exact ι _
 ·exact h.sy f b
theorem okD.tell{σ:DM}(h:okD σ):okD (q2Z σ):=⟨h.cap0,h.cap1,h.used,h.ord,h.sy,h.many,h.left,h.idle,h.keep,h.left1⟩
theorem okD.sync{σ:DM}(h:okD σ){nm:List UInt8}{e:FM}(d:q0F FM.nm nm σ.L=some e):okD {σ with L:=q1P FM.nm nm (fun f=>{f with sy:=f.da.length}) σ.L}/\q0P (q1P FM.nm nm (fun f=>{f with sy:=f.da.length}) σ.L)=q0P σ.L:=by
 have i:=z1i (f:=fun f:FM=>{f with sy:=f.da.length}) h.ord d;have b:q0P (q1P FM.nm nm (fun f:FM=>{f with sy:=f.da.length}) σ.L)=q0P σ.L:=by
  have:({e with sy:=e.da.length}:FM).da.length=e.da.length:=rfl;omega
 exact⟨h.upd d (by rw[b];exact h.used) (fun y=>rfl) (ι _),b⟩
theorem z6J(nm:List UInt8)(L:List FM):(q1M FM.nm nm L).length<=L.length:=List.length_filter_le _ _
theorem q6t{L:List FM}(nm:List UInt8)(b:q2Q FM.nm L):q0P (q1M FM.nm nm L)<=q0P L:=by
 cases hf:q0F FM.nm nm L with
 |none=>rw[q5l hf];exact ι _
 |some e=>have:=q8M b hf;omega
theorem okD.delete{σ:DM}(h:okD σ)(nm:List UInt8):okD {σ with L:=q1M FM.nm nm σ.L}:=
 h.files (by have:=q6t nm h.ord;have:=h.used;omega) (q3D h.ord) (fun f b=>h.sy f (mem_delN.1 b).1) (by have:=z6J nm σ.L;have:=h.many;omega)
theorem z0v{L:List FM}{b:List UInt8}(j:q2Q FM.nm L){f:FM}(d:q0F FM.nm a L=some f)(i:a≠b):q0F FM.nm a (q1M FM.nm b L)=some f:=
 q3F (q3D j) (mem_delN.2 ⟨(q0J d).1,fun e=>i ((q0J d).2.symm.trans e)⟩) (q0J d).2
theorem okD.rename{σ:DM}(h:okD σ){b:List UInt8}{f:FM}(o:q0F FM.nm a σ.L=some f)(i:a≠b):okD {σ with L:=z5O a b f σ.L}/\q0P (z5O a b f σ.L)=q0P (q1M FM.nm b σ.L):=by
 have j:q2Q FM.nm (q1M FM.nm b σ.L):=q3D h.ord;have m:=z0v h.ord o i;have v:=q8M j m;have B:=q6t b h.ord;have r:=z2G j m;have u:=z6J b σ.L;have q:q0P (z5O a b f σ.L)=q0P (q1M FM.nm b σ.L):=by
  unfold z5O;rw[q8N];show f.da.length+_=_;omega
 refine⟨h.files ?_ ?_ ?_ ?_,q⟩
 ·rw[q];have:=h.used;omega
 ·exact q4s (q3D j) fun y d=>(mem_delN.1 (mem_delN.1 d).1).2
 ·intro y d
  rcases mem_insN.1 d with rfl|d
  ·exact h.sy f (q0J o).1
  ·exact h.sy y (mem_delN.1 (mem_delN.1 d).1).1
 ·unfold z5O;rw[q7n];have:=h.many;omega
theorem okD.start{σ:DM}(h:okD σ)(k:Int):okD {σ with down:=false,starts:=k}:=⟨h.cap0,h.cap1,h.used,h.ord,h.sy,h.many,h.left,h.idle,h.keep,h.left1⟩
end
end Go.Proofs.YtfiibpgoplcgkaaGreatDoor
