/- Walks. -/
import Derived.Test.YteabhdclmodefaaGreatDoorG30CX
import Derived.Test.YteabhdclmodefaaGreatDoorG31CX
import Derived.WideKeyEntry
import Derived.Test.YteabhdclmodefaaGreatDoorG25CX
set_option linter.unusedVariables false
set_option linter.unusedSimpArgs false
set_option maxRecDepth 100000
set_option maxHeartbeats 12800000
namespace Go.Proofs.YteabhdclmodefaaGreatDoor
variable {τ:DM}{e:TE}{u' cnt' k cap:Nat}{α:Type}{bs:List Bt}{r:List UInt8}{ao:Option Addr}{W':World}
section
open Go.RowKit Go.Maps
def Man.S(m:Man):List UInt8:=(q3M m.nx m.ck m.sd m.L).1
theorem z3d{c:Int}(h:c≠0):q2I c≠0:=by
 rcases z3e c with e|e<;>rw[e]
 ·exact h
 ·decide
theorem z8E{σ:DM}{n e:Int}(h:q5b σ n=(none,e,τ)):e≠0:=by
 unfold q5b at h
 split at h
 ·next h1=>injection h with _ h2;injection h2 with h2 _;rw[<-h2];exact z3d h1
 ·split at h
  ·injection h with _ h2;injection h2 with h2 _;rw[<-h2];decide
  ·split at h
   ·injection h with _ h2;injection h2 with h2 _;rw[<-h2];decide
   ·injection h with h1 _;cases h1
theorem z4J{σ:DM}{n e:Int}{L:List En}(h:q5b σ n=(some L,e,τ)):e=0:=by
 unfold q5b at h
 split at h
 ·injection h with h1 _;cases h1
 ·split at h
  ·injection h with h1 _;cases h1
  ·split at h
   ·injection h with h1 _;cases h1
   ·injection h with _ h2;injection h2 with h2 _;exact h2.symm
end
section
open Go.RowKit
abbrev Fls :=List UInt8->Option (List UInt8)
def z9D(φ:Fls)(nm:List UInt8):Fls:=fun x=>if x=nm then none else φ x
def Fl(σ:DM)(c s:Int)(φ:Fls)(u cnt:Nat):Prop:= ∃l,Pl σ c s l/\q3L Prod.fst l/\(∀nm,(q0I Prod.fst nm l).map Prod.snd=φ nm)/\q2Y l<=u/\l.length<=cnt
section
variable {σ :DM}{c s:Int}{l:List (List UInt8×List UInt8)}{nm t a b:List UInt8}{x:List UInt8×List UInt8}{φ:Fls}{u cnt:Nat}
theorem Pl.delete(h:Pl σ c s l)(d:q0I Prod.fst nm l=some x): ∃σ',q1a σ nm=(0,σ')/\Pl σ' c s (q2t Prod.fst nm l):=by
 obtain⟨f,h1,rfl⟩:=h.find_some d;refine⟨{q2i σ with L:=q2t FM.nm nm σ.L},?_,h.up,h.fine,?_,h.cap,h.st⟩
 ·unfold q1a
  rw[κ (by rw[h.up];decide),h1,κ (by simp),κ (by rw[h.no];decide)]
 ·rw[<-h.files]
  exact z2W (k:=FM.nm) (k':=Prod.fst) q8G nm σ.L
theorem Pl.deleteN(h:Pl σ c s l)(d:q0I Prod.fst nm l=none):q1a σ nm=(4,σ):=by
 unfold q1a;rw[κ (by rw[h.up];decide),h.find_none d,ξ (by simp)]
theorem q8v(nm:List UInt8)(l:List (List UInt8×List UInt8)):q0I Prod.fst nm (q2t Prod.fst nm l)=none:=q0X fun y d=>(mem_delN.1 d).2
theorem z5V{nm d:List UInt8}(l:List (List UInt8×List UInt8))(i:nm≠d):q0I Prod.fst nm (q2t Prod.fst d l)=q0I Prod.fst nm l:=by
 unfold q0I q2t;rw[List.find?_filter]
 congr 1
 funext y
 by_cases j:y.1=nm
 ·have h1:(y.1==nm)=true:=by simpa using j
  have h2:(y.1==d)=false:=by rw[j];simpa using i
  rw[h1,h2];rfl
 ·have h1:(y.1==nm)=false:=by simpa using j
  rw[h1];simp
theorem z6i(nm:List UInt8)(l:List (List UInt8×List UInt8)):q2Y (q2t Prod.fst nm l)<=q2Y l:=by
 unfold q2Y q5k q2t
 induction l with
 |nil=>exact ι _
 | cons y r ih=>
  rw[List.filter_cons]
  split
  ·simp only[List.map_cons,List.sum_cons];omega
  ·simp only[List.map_cons,List.sum_cons];omega
theorem z9F(nm:List UInt8)(l:List (List UInt8×List UInt8)):(q2t Prod.fst nm l).length<=l.length:=List.length_filter_le _ _
theorem Fl.find(d: ∀nm,(q0I Prod.fst nm l).map Prod.snd=φ nm)(h:φ nm=some t):q0I Prod.fst nm l=some (nm,t):=by
 have h1:=d nm;rw[h] at h1
 cases hf:q0I Prod.fst nm l with
 |none=>rw[hf] at h1;cases h1
 | some y=>
  rw[hf] at h1;have h2:=(q0O hf).2;injection h1 with h1;rw[<-h1,<-h2]
theorem Fl.noFind(d: ∀nm,(q0I Prod.fst nm l).map Prod.snd=φ nm)(h:φ nm=none):q0I Prod.fst nm l=none:=by
 have h1:=d nm;rw[h] at h1
 cases hf:q0I Prod.fst nm l with
 |none=>rfl
 |some y=>rw[hf] at h1;cases h1
theorem Fl.cut(i: ∀nm,(q0I Prod.fst nm l).map Prod.snd=φ nm)(nm:List UInt8): ∀x,(q0I Prod.fst x (q2t Prod.fst nm l)).map Prod.snd=z9D φ nm x:=fun x=>by
 unfold z9D;by_cases d:x=nm
 ·subst d;rw[ξ rfl,q8v];rfl
 ·rw[κ d,z5V l d];exact i x
theorem Fl.up(h:Fl σ c s φ u cnt):σ.down=false:=by obtain⟨l,h1,_⟩:=h;exact h1.up
theorem Fl.mono(h:Fl σ c s φ u cnt)(h1:u<=u')(h2:cnt<=cnt'):Fl σ c s φ u' cnt':=by
 obtain⟨l,d,i,j,m,o⟩:=h;exact⟨l,d,i,j,by omega,by omega⟩
theorem Fl.tell(h:Fl σ c s φ u cnt):Fl (q2X σ) c s φ u cnt:=by
 obtain⟨l,d,i,j,m,o⟩:=h;exact⟨l,d.tell,i,j,m,o⟩
theorem Fl.tells : ∀(k:Nat) {σ:DM},Fl σ c s φ u cnt->Fl (tellN k σ) c s φ u cnt
 |0,_,h=>h
 |k+1,σ,h=>by rw[q1r];exact Fl.tells k h.tell
theorem Fl.del(h:Fl σ c s φ u cnt)(q:φ nm=some t): ∃σ',q1a σ nm=(0,σ')/\Fl σ' c s (z9D φ nm) u cnt:=by
 obtain⟨l,i,j,d,m,o⟩:=h;obtain⟨σ',e,p⟩:=i.delete (Fl.find d q);exact⟨σ',e,_,p,q8r j,Fl.cut d nm,Ω (z6i nm l) m,Ω (z9F nm l) o⟩
theorem Fl.wl(h:Fl σ c s φ u cnt){n:Int}{L:List En}(j:φ (q0E 116 n)=some (q8c L)):Wl σ n L:=by
 obtain⟨l,d,m,i,o,q⟩:=h;exact d.wl (Fl.find i j)
end
end
section
open Go.RowKit Go.Maps
theorem q5j{P:Program}{id:Nat}{Q:Exit->Act->World->Prop}{a:Act}{w:World}{l:List Oper}(n:Nat)(hm:P.follows .mixedOrders=true)(i:Region.lexTailB .any l.toArray n=true)
  (h:wpStill P l.toArray w.drew (fun d=>wpList P l.toArray Q (l.drop n) d w.drew) (l.take n) a):(Code.region id l.toArray true).wp P Q a w:=
 wp_region_still_tail n hm i h
section
variable {wb w w1 w2:World}{g gx gm gt:Nat}{st st1:IxSt}{F Y Y1 K K' V:Nat->Prop}{σ σ1:DM}
end
section
variable {wb w w1 w2:World}{g gx gm gt:Nat}{st st1:IxSt}{F Y Y1 K K' V:Nat->Prop}{σ σ1:DM}
end
section
variable {wb w0 w W W1 w1 w2:World}{g gx gm gt B:Nat}{st st1:IxSt}{F Y Y1 K K' V T:Nat->Prop}{σ σ1:DM}{va v v1 v2 vm:Value}{vs:List Value}{ns:List Int}{acc:List (List En)}{M L:List En}
end
end
section
open Go.RowKit
theorem q9Y : ∀{a b:List En},q0z a->q0z b->(∀x∈a,x∈b)->a.Sublist b
 |[],b,_,_,_=>List.nil_sublist b
 |x::a,[],_,_,h=>absurd (h x (.head _)) (by simp)
 | x :: a,y::b,ha,hb,h=>by
  obtain⟨h1,h2⟩:=List.pairwise_cons.1 ha;obtain⟨h3,h4⟩:=List.pairwise_cons.1 hb;rcases List.mem_cons.1 (h x (.head _)) with e|o
  ·subst e
   refine(q9Y h2 h4 fun z i=>?_).cons_cons x;rcases List.mem_cons.1 (h z (.tail _ i)) with e|d
   ·have:=h1 z i
    rw[e,q0a] at this;cases this
   ·exact d
  ·refine(q9Y ha h4 fun z i=>?_).cons y
   rcases List.mem_cons.1 (h z i) with e|d
   ·rcases List.mem_cons.1 i with q|j
    ·rw[q];exact o
    ·have m:=h1 z j
     have D:=h3 x o;rw[e] at m;have:=q1N m D;rw[q0a] at this;cases this
   ·exact d
theorem q4S{a b:List En}(d:q0z a)(i:q0z b)(h: ∀x∈a,x∈b):a.length<=b.length:=(q9Y d i h).length_le
def TL(st:IxSt)(n:Int):List En:=match st.t n with|some e=>e.L|none=>[]
theorem q3S{st:IxSt}{n:Int}(h:st.t n=some e):TL st n=e.L:=by unfold TL;rw[h]
structure PInv(st:IxSt)(σ:DM)(c s:Int)(φ:Fls)(u cnt:Nat)(B:List En):Prop where
 fl:Fl σ c s φ u cnt
 man:st.m.ok
 full:st.full
 tb: ∀n e,st.t n=some e->n∈st.m.L.flatten/\φ (q0E 116 n)=some (q8c e.L)/\(∃y,φ (q0E 98 n)=some y)/\okM e.L/\ ∀x∈e.L,e.may x.1=true
 only: ∀nm,φ nm≠none->nm=mapN\/(∃n∈st.m.L.flatten,nm=q0E 116 n\/nm=q0E 98 n)\/ ∃k:Nat,k<=999999/\nm=q0E 99 (k:Int)
 okw:okM st.w
 okB:okM B
 mem: ∀x,x∈B↔x∈st.w\/ ∃n e,st.t n=some e/\x∈e.L
section
variable {st :IxSt}{σ σ':DM}{c s:Int}{φ:Fls}{u cnt:Nat}{B:List En}
theorem PInv.range(h:PInv st σ c s φ u cnt B){n:Int}(i:n∈st.m.L.flatten):0<=n/\n<=999999/\n<st.m.nx:=by
 have d:=Man.bounds h.man;have:=d.2.2.2.1 n i;omega
theorem PInv.tell(h:PInv st σ c s φ u cnt B)(k:Nat):PInv st (tellN k σ) c s φ u cnt B:=⟨Fl.tells k h.fl,h.man,h.full,h.tb,h.only,h.okw,h.okB,h.mem⟩
theorem PInv.mono(h:PInv st σ c s φ u cnt B)(h1:u<=u')(h2:cnt<=cnt'):PInv st σ c s φ u' cnt' B:=⟨h.fl.mono h1 h2,h.man,h.full,h.tb,h.only,h.okw,h.okB,h.mem⟩
theorem PInv.wlen(h:PInv st σ c s φ u cnt B):st.w.length<=B.length:=q4S h.okw.sort h.okB.sort fun x d=>(h.mem x).2 (.inl d)
theorem PInv.tlen(h:PInv st σ c s φ u cnt B){n:Int}(he:st.t n=some e):e.L.length<=B.length:=q4S (h.tb n e he).2.2.2.1.sort h.okB.sort fun x d=>(h.mem x).2 (.inr ⟨n,e,he,d⟩)
theorem PInv.wl(h:PInv st σ c s φ u cnt B){n:Int}(he:st.t n=some e):Wl σ n e.L:=h.fl.wl (h.tb n e he).2.1
theorem PInv.add(h:PInv st σ c s φ u cnt B){x:En}(d:q3Q x=true)(i:B.length<50000):PInv {st with w:=q3X x st.w} σ c s φ u cnt (q3X x B):=by
 have j:=h.wlen;refine⟨h.fl,h.man,h.full,h.tb,h.only,h.okw.add d (by omega),h.okB.add d i,fun y=>?_⟩;show y∈q3X x B↔y∈q3X x st.w\/_;rw[mem_addE,mem_addE,h.mem y]
 constructor
 ·rintro(h1|h1|h1)
  ·exact .inl (.inl h1)
  ·exact .inl (.inr h1)
  ·exact .inr h1
 ·rintro((h1|h1)|h1)
  ·exact .inl h1
  ·exact .inr (.inl h1)
  ·exact .inr (.inr h1)
theorem z0a(h:PInv st σ c s φ u cnt B)(x a b:Int): ∀(ns:List Int) (acc:List (List En)) (k0:Nat),(∀n∈ns,n∈st.m.L.flatten)->
  ∃k,q3V st x (max a 0) (min b 1073741824) (tellN k0 σ) ns acc=(acc++ns.map (fun n=>q0r (TL st n) x (max a 0) (min b 1073741824)),0,tellN k σ)
 |[],acc,k0,_=>⟨k0,by rw[q3V];simp⟩
 | n::ns,acc,k0,hn=>by
  obtain⟨e,he⟩:=h.full n (hn n (by simp));have d:=h.tb n e he;obtain⟨k,_,_,i⟩:=z6H ((h.wl he).tellN k0) d.2.2.2.1.sort d.2.2.2.1.ok d.2.2.2.2 x (max a 0) (min b 1073741824);rw[show max (max a 0) 0=max a 0 by omega,show min (min b 1073741824) 1073741824=min b 1073741824 by omega,q3J] at i;obtain⟨o,h2⟩:=z0a h x a b ns (acc++[q0r e.L x (max a 0) (min b 1073741824)]) (k0+k) (fun y j=>hn y (by simp[j]));refine⟨o,?_⟩;rw[q3V,he];simp only;rw[i];simp only;rw[κ (fun h=>h rfl),h2,List.map_cons,q3S he,List.append_assoc]
  rfl
theorem mem_range{L:List En}{x a b:Int}{y:En}:y∈q0r L x a b↔y∈L/\y.1=x/\a<=y.2.1/\y.2.1<=b:=by
 unfold q0r;rw[List.mem_filter];simp only[Ξ,Φ]
 constructor
 ·rintro⟨h1,⟨h2,h3⟩,h4⟩;exact⟨h1,h2,h3,h4⟩
 ·rintro⟨h1,h2,h3,h4⟩;exact⟨h1,⟨h2,h3⟩,h4⟩
theorem q4Z{L:List En}(h:q0z L)(x a b:Int):q0z (q0r L x a b):=h.filter _
theorem z9u(h:PInv st σ c s φ u cnt B)(n:Int):q0z (TL st n)/\(∀x∈TL st n,q3Q x=true)/\(TL st n).length<=B.length:=by
 unfold TL
 cases he:st.t n with
 |none=>exact⟨List.Pairwise.nil,fun x d=>by simp at d,υ _⟩
 |some e=>exact⟨(h.tb n e he).2.2.2.1.sort,(h.tb n e he).2.2.2.1.ok,h.tlen he⟩
theorem z7f{L:List (List En)}(h: ∀l∈L,l.length<=k):L.flatten.length<=L.length*k:=by
 induction L with
 |nil=>simp
 | cons a r ih=>
  rw[List.flatten_cons,θ,χ,Nat.add_mul];have h1:=h a (by simp);have h2:=ih fun l d=>h l (by simp[d])
  omega
theorem PInv.rangeIs(h:PInv st σ c s φ u cnt B)(x a b:Int): ∃k R,q3V st x (max a 0) (min b 1073741824) σ st.m.L.flatten [q0r st.w x (max a 0) (min b 1073741824)]=(R,0,tellN k σ)/\(∀L∈R,q0z L)/\R.flatten.length<=41*B.length/\q2j R=q0r B x (max a 0) (min b 1073741824):=by
 obtain⟨k,e⟩:=z0a h x a b st.m.L.flatten [q0r st.w x (max a 0) (min b 1073741824)] 0 (fun n j=>j);have o: ∀L∈[q0r st.w x (max a 0) (min b 1073741824)]++st.m.L.flatten.map (fun n=>q0r (TL st n) x (max a 0) (min b 1073741824)),q0z L/\L.length<=B.length:=fun L d=>by
  rcases List.mem_append.1 d with d|d
  ·rw[List.mem_singleton.1 d]
   exact⟨q4Z h.okw.sort _ _ _,Ω (List.length_filter_le _ _) h.wlen⟩
  ·obtain⟨n,j,rfl⟩:=List.mem_map.1 d
   have:=z9u h n;exact⟨q4Z this.1 _ _ _,Ω (List.length_filter_le _ _) this.2.2⟩
 refine⟨k,_,e,fun L d=>(o L d).1,?_,?_⟩
 ·have h1:=z7f fun l q=>(o l q).2
  rw[θ,List.length_map] at h1;have h2:=(Man.bounds h.man).2.1;simp only[χ,List.length_nil] at h1;have:(0+1+st.m.L.flatten.length)*B.length<=41*B.length:=Nat.mul_le_mul_right _ (by omega);omega
 ·refine q5t (q4h _) (q4Z h.okB.sort _ _ _) fun y=>?_
  rw[mem_union,mem_range,h.mem y]
  constructor
  ·rintro⟨L,d,i⟩
   rcases List.mem_append.1 d with d|d
   ·rw[List.mem_singleton.1 d,mem_range] at i
    exact⟨.inl i.1,i.2⟩
   ·obtain⟨n,j,rfl⟩:=List.mem_map.1 d
    rw[mem_range] at i;obtain⟨e,he⟩:=h.full n j;rw[q3S he] at i;exact⟨.inr ⟨n,e,he,i.1⟩,i.2⟩
  ·rintro⟨h1|⟨n,e,he,h1⟩,h2⟩
   ·exact⟨_,List.mem_append.2 (.inl (List.mem_singleton.2 rfl)),mem_range.2 ⟨h1,h2⟩⟩
   ·exact⟨_,List.mem_append.2 (.inr (List.mem_map.2 ⟨n,(h.tb n e he).1,rfl⟩)),mem_range.2 ⟨by rw[q3S he];exact h1,h2⟩⟩
end
theorem z8A{c d:UInt8}(hc:q2B c=true)(i:q2B d=true){n m:Int}(j:0<=n/\n<=999999)(hm:0<=m/\m<=999999)(h:q0E c n=q0E d m):c=d/\n=m:=by
 have h1:=q2G hc j;rw[h,q2G i hm] at h1;injection h1 with h1 h2;injection h2 with h2 _;exact⟨h1.symm,by omega⟩
theorem y0j :q2B 116=true:=by decide
theorem y2N :q2B 98=true:=by decide
theorem y2B :q2B 99=true:=by decide
theorem q3b(d:k<=999999):q0E 99 (k:Int)≠mapN/\q0E 99 (k:Int)≠z4F:=by
 rw[q0Y (by omega)];exact⟨fun e=>absurd (List.cons.inj e).1 (by decide),fun e=>absurd (List.cons.inj e).1 (by decide)⟩
theorem z2v{c:UInt8}(hc:c=116\/c=98){n:Int}(d:0<=n/\n<=999999):q0E c n≠mapN/\q0E c n≠z4F:=by
 rw[q0Y d];rcases hc with rfl|rfl
 ·exact⟨fun e=>absurd (List.cons.inj e).1 (by decide),fun e=>absurd (List.cons.inj e).1 (by decide)⟩
 ·exact⟨fun e=>absurd (List.cons.inj e).1 (by decide),fun e=>absurd (List.cons.inj e).1 (by decide)⟩
section
variable {st :IxSt}{σ σ':DM}{c s:Int}{φ:Fls}{u cnt:Nat}{B:List En}
theorem PInv.noNew(h:PInv st σ c s φ u cnt B):φ z4F=none:=by
 cases he:φ z4F with
 |none=>rfl
 | some y=>
  exfalso
  rcases h.only z4F (by rw[he];simp) with e|⟨m,hm,e|e⟩|⟨k,d,e⟩
  ·exact z4G e
  ·have i:=h.range hm
   exact(z2v (.inl rfl) (show 0<=m/\m<=999999 by omega)).2 e.symm
  ·have i:=h.range hm
   exact(z2v (.inr rfl) (show 0<=m/\m<=999999 by omega)).2 e.symm
  ·exact(q3b d).2 e.symm
end
section
variable {st :IxSt}{σ σ':DM}{c s:Int}{φ:Fls}{u cnt:Nat}{B:List En}
theorem PInv.unionLe(h:PInv st σ c s φ u cnt B)(ns:List Int):okM (q2j (ns.map (TL st)))/\(q2j (ns.map (TL st))).length<=B.length/\ ∀x∈q2j (ns.map (TL st)),x∈B:=by
 have hm: ∀x∈q2j (ns.map (TL st)),x∈B:=fun x i=>by
  obtain⟨L,j,d⟩:=mem_union.1 i;obtain⟨n,o,rfl⟩:=List.mem_map.1 j;unfold TL at d
  cases he:st.t n with
  |none=>rw[he] at d;simp at d
  |some e=>rw[he] at d;exact(h.mem x).2 (.inr ⟨n,e,he,d⟩)
 have m:=q4S (q4h (ns.map (TL st))) h.okB.sort hm;exact⟨⟨q4h _,fun x i=>h.okB.ok x (hm x i),by have:=h.okB.len;omega⟩,m,hm⟩
def z2J(B:List En)(x u r:Int):Prop:=(∀y∈B,y.1=x->y.2.1<=u->y.2.1<=r)/\((r= -1)\/ ∃y∈B,y.1=x/\y.2.1<=u/\y.2.1=r)
theorem q6Z{L:List En}(D:q0z L)(x u:Int):z2J L x u (z4d L x u):=by
 unfold z4d q2u
 cases hl:(L.filter (inE x u)).getLast? with
 | none=>
  have:=List.getLast?_eq_none_iff.1 hl;refine⟨fun y q h1 h2=>?_,.inl rfl⟩;have:y∈L.filter (inE x u):=List.mem_filter.2 ⟨q,by unfold inE;simp[h1,h2]⟩;rw[List.getLast?_eq_none_iff.1 hl] at this
  cases this
 | some e=>
  have o:=List.mem_of_getLast? hl;obtain⟨G,j⟩:=List.mem_filter.1 o;unfold inE at j;simp only[Ξ,Φ] at j;refine⟨fun y q h1 h2=>?_,.inr ⟨e,G,j.1,j.2,rfl⟩⟩;have i:y∈L.filter (inE x u):=List.mem_filter.2 ⟨q,by unfold inE;simp[h1,h2]⟩;have d:q0z (L.filter (inE x u)):=D.filter _;obtain⟨l,m⟩:=List.getLast?_eq_some_iff.1 hl;rw[m] at i d;rcases List.mem_append.1 i with h3|h3
  ·have h4:=(List.pairwise_append.1 d).2.2 y h3 e (by simp)
   rw[lessE_iff] at h4;show y.2.1<=e.2.1;omega
  ·rw[List.mem_singleton.1 h3];exact Int.le_refl _
end
structure To where
 s:List UInt8
 v:Int
 e:Ev
def to0 :To:=⟨[],0,ev0⟩
def q6c(s:List UInt8):Nat->List Ev->List To
 |_,[]=>[]
 |i,e::r=>⟨s,(i:Int),e⟩::q6c s (i+1) r
def y1t(b:Bt):List To:=q6c b.st b.fi b.ev
def tos(bs:List Bt):List To:=(bs.map y1t).flatten
def q1U(bs:List Bt)(s:List UInt8):List Ev:=((bs.filter fun b=>decide (b.st=s)).map Bt.ev).flatten
def z6p(bs:List Bt)(s:List UInt8):List To:=q6c s 0 (q1U bs s)
def okBs(bs:List Bt):Prop:= ∀l b r,bs=l++b::r->z4H b/\b.fi=(q1U l b.st).length
theorem q9X{P:List α->Prop}(h0:P [])(h1: ∀l a,P l->P (l++[a]))(l:List α):P l:=by
 have h : ∀n,∀l:List α,l.length=n->P l:=fun n=>by
  induction n with
  |zero=>intro l hl;rw[List.length_eq_zero_iff.1 hl];exact h0
  | succ n ih=>
   intro l hl;rcases List.eq_nil_or_concat l with e|⟨m,a,e⟩
   ·rw[e] at hl;simp at hl
   ·rw[List.concat_eq_append] at e
    subst e;exact h1 m a (ih m (by simpa using hl))
 exact h _ l rfl
theorem q4y(s:List UInt8): ∀(L:List Ev) (i:Nat),(q6c s i L).length=L.length
 |[],_=>rfl
 |e::r,i=>by rw[q6c,χ,q4y s r,χ]
theorem q4x(s:List UInt8): ∀(a b:List Ev) (i:Nat),q6c s i (a++b)=q6c s i a++q6c s (i+a.length) b
 |[],b,i=>rfl
 | e::r,b,i=>by
  rw[List.cons_append,q6c,q4x s r b,q6c,List.cons_append,χ]
  congr 3;omega
theorem numT_mem{s:List UInt8}{t:To}: ∀{L:List Ev} {i:Nat},t∈q6c s i L↔ ∃k,k<L.length/\t=⟨s,((i+k:Nat):Int),L.getD k ev0⟩
 |[],i=>by simp[q6c]
 | e ::r,i=>by
  rw[q6c,List.mem_cons,numT_mem]
  constructor
  ·rintro(h|⟨k,h1,h2⟩)
   ·exact⟨0,by simp,by rw[h];rfl⟩
   ·exact⟨k+1,by simpa using h1,by rw[h2,List.getD_cons_succ];congr 2;omega⟩
  ·rintro⟨k,h1,h2⟩
   cases k with
   |zero=>exact .inl h2
   |succ k=>exact .inr ⟨k,by simpa using h1,by rw[h2,List.getD_cons_succ];congr 2;omega⟩
theorem z5u(s:List UInt8): ∀(L:List Ev) (i:Nat),(q6c s i L).Pairwise fun x y=>x.v<y.v
 |[],_=>List.Pairwise.nil
 | e ::r,i=>List.pairwise_cons.2 ⟨fun t d=>by
   obtain⟨k,_,rfl⟩:=numT_mem.1 d
   simp only;omega,z5u s r _⟩
theorem q2z(a b:List Bt):tos (a++b)=tos a++tos b:=by unfold tos;rw[List.map_append,List.flatten_append]
theorem q7h(b:Bt):tos [b]=y1t b:=by unfold tos;simp
theorem q3o(b:Bt):(y1t b).length=b.ev.length:=q4y _ _ _
theorem q8F(bs:List Bt)(b:Bt)(s:List UInt8):q1U (bs++[b]) s=if b.st=s then q1U bs s++b.ev else q1U bs s:=by
 unfold q1U;rw[List.filter_append,List.map_append,List.flatten_append]
 split
 ·rename_i h;rw[List.filter_cons_of_pos (by simpa using h)];simp
 ·rename_i h;rw[List.filter_cons_of_neg (by simpa using h)];simp
theorem okBs.nil :okBs []:=fun l b r h=>by simp at h
theorem okBs_snoc{b:Bt}:okBs (bs++[b])↔okBs bs/\z4H b/\b.fi=(q1U bs b.st).length:=by
 constructor
 ·intro h
  exact⟨fun l c r e=>h l c (r++[b]) (by rw[e];simp),h bs b [] rfl⟩
 ·rintro⟨h1,h2⟩ l c r e
  rcases List.eq_nil_or_concat r with i|⟨o,d,i⟩
  ·subst i
   obtain⟨j,m⟩:=List.append_inj' e rfl;rw[<-j];injection m with m;subst m;exact h2
  ·rw[List.concat_eq_append] at i
   subst i;have e':bs++[b]=(l++c::o)++[d]:=by rw[e];simp
   obtain⟨j,_⟩:=List.append_inj' e' rfl;exact h1 l c o j
theorem z1x(h:okBs bs)(s:List UInt8):(tos bs).filter (fun t=>decide (t.s=s))=z6p bs s:=by
 revert h
 induction bs using q9X with
 |h0=>intro _;rfl
 | h1 l b ih=>
  intro h;obtain⟨h1,h2,h3⟩:=okBs_snoc.1 h;unfold z6p;rw[q2z,List.filter_append,ih h1,q7h,q8F];by_cases d:b.st=s
  ·rw [ξ d,q4x,Nat.zero_add,<-d,<-h3,List.filter_eq_self.2]
   ·rfl
   ·intro t i
    obtain⟨k,_,rfl⟩:=numT_mem.1 i;simp
  ·rw [κ d,List.filter_eq_nil_iff.2,List.append_nil]
   ·rfl
   ·intro t i
    obtain⟨k,_,rfl⟩:=numT_mem.1 i
    simpa using d
theorem z9a{t:To}:t∈tos bs↔ ∃b∈bs,∃k,k<b.ev.length/\t=⟨b.st,((b.fi+k:Nat):Int),b.ev.getD k ev0⟩:=by
 unfold tos;rw[List.mem_flatten]
 constructor
 ·rintro⟨l,j,m⟩
  obtain⟨b,d,rfl⟩:=List.mem_map.1 j;exact⟨b,d,numT_mem.1 m⟩
 ·rintro⟨b,d,i⟩
  exact⟨_,List.mem_map.2 ⟨b,d,rfl⟩,numT_mem.2 i⟩
theorem okBs.each(h:okBs bs){b:Bt}(d:b∈bs):z4H b:=by
 obtain⟨l,r,rfl⟩:=List.append_of_mem d;exact(h l b r rfl).1
theorem q6C(a b:List Bt)(s:List UInt8):q1U (a++b) s=q1U a s++q1U b s:=by
 unfold q1U;rw[List.filter_append,List.map_append,List.flatten_append]
theorem okBs.apart{l m r:List Bt}{b c:Bt}(h:okBs (l++b::m++c::r))(d:b.st=c.st):b.fi+b.ev.length<=c.fi:=by
 have h1:=h l b (m++c::r) (by simp);have h2:=h (l++b::m) c r (by simp);rw[h2.2,h1.2,q6C,θ,show b::m=[b]++m from rfl,q6C,θ,<-d];have:(q1U [b] b.st).length=b.ev.length:=by unfold q1U;simp
 omega
theorem y1H{l m:List To}(o:l.Pairwise fun x y=>x.v<y.v)(hm:m.Pairwise fun x y=>x.v<y.v)(h: ∀t,t∈l↔t∈m):l=m:=by
 induction l generalizing m with
 | nil=>
  cases m with
  |nil=>rfl
  |cons y m=>exact absurd ((h y).2 (.head _)) (by simp)
 | cons x l ih=>
  cases m with
  |nil=>exact absurd ((h x).1 (.head _)) (by simp)
  | cons y m=>
   obtain⟨h1,h2⟩:=List.pairwise_cons.1 o;obtain⟨h3,h4⟩:=List.pairwise_cons.1 hm;have j:x=y:=by
    rcases List.mem_cons.1 ((h x).1 (.head _)) with e|q
    ·exact e
    rcases List.mem_cons.1 ((h y).2 (.head _)) with e|D
    ·exact e.symm
    have a:=h1 y D;have b:=h3 x q;omega
   subst j;rw[ih h2 h4 fun t=>?_]
   constructor
   ·intro i
    rcases List.mem_cons.1 ((h t).1 (.tail _ i)) with e|d
    ·have:=h1 t i;rw[e] at this;omega
    ·exact d
   ·intro i
    rcases List.mem_cons.1 ((h t).2 (.tail _ i)) with e|d
    ·have:=h3 t i;rw[e] at this;omega
    ·exact d
abbrev Pbs :=List (Nat×Bt)
def q9T(P:Pbs):List (Nat×List UInt8):=P.map fun x=>(x.1,btB x.2)
def q4H(sd:Int)(P:Pbs):List En:=(P.map fun x=>q0b sd x.1 x.2 x.2.ev.length).flatten
def q1t(P:Pbs):List Bt:=P.map Prod.snd
def q2M(P:Pbs)(s:List UInt8)(x:En):Option To:=
 match P.find? (fun y=>decide ((y.1:Int)=x.2.2)) with
 |none=>none
 |some y=>if y.2.st=s/\(y.2.fi:Int)<=x.2.1/\x.2.1<(y.2.fi:Int)+(y.2.ev.length:Int) then some ⟨s,x.2.1,y.2.ev.getD (x.2.1-(y.2.fi:Int)).toNat ev0⟩ else none
structure StI(sd:Int)(B:List En)(P:Pbs):Prop where
 ok:okBs (q1t P)
 pos:P.Pairwise fun a b=>a.1<b.1
 ents: ∀x,x∈B↔x∈q4H sd P
theorem z0f(sd:Int): ∀{P:Pbs},(∀y∈P,z4H y.2)->z0u sd (q9T P)=some (q4H sd P)
 |[],_=>rfl
 | y::P,h=>by
  have d:=z0f sd (P:=P) fun z i=>h z (.tail _ i)
  have h1:=z1Q y.2 (h y (.head _));unfold q9T at d⊢;rw[List.map_cons,z0u,h1,Option.bind_some,d]
  rfl
theorem mem_entsP{sd:Int}{P:Pbs}{x:En}:x∈q4H sd P↔ ∃y∈P,∃k,k<y.2.ev.length/\x=q2c sd y.1 y.2 k:=by
 unfold q4H;rw[List.mem_flatten]
 constructor
 ·rintro⟨l,m,j⟩
  obtain⟨y,i,rfl⟩:=List.mem_map.1 m;unfold q0b at j;obtain⟨k,d,rfl⟩:=List.mem_map.1 j;exact⟨y,i,k,List.mem_range.1 d,rfl⟩
 ·rintro⟨y,i,k,d,rfl⟩
  exact⟨_,List.mem_map.2 ⟨y,i,rfl⟩,by unfold q0b;exact List.mem_map.2 ⟨k,List.mem_range.2 d,rfl⟩⟩
theorem z2j : ∀{P:Pbs},P.Pairwise (fun a b=>a.1<b.1)-> ∀{y:Nat×Bt},y∈P->P.find? (fun z=>decide ((z.1:Int)=(y.1:Int)))=some y
 |[],_,y,h=>by cases h
 | z ::P,hp,y,h=>by
  obtain⟨h1,h2⟩:=List.pairwise_cons.1 hp;rcases List.mem_cons.1 h with rfl|h
  ·rw[List.find?_cons_of_pos (by simp)]
  ·rw[List.find?_cons_of_neg (by have:=h1 y h;simp;omega)]
   exact z2j h2 h
section
variable {sd :Int}{B:List En}{P:Pbs}
theorem q5W(h:P.Pairwise fun a b=>a.1<b.1){y:Nat×Bt}(i:y∈P)(j:k<y.2.ev.length)(s:List UInt8):q2M P s (q2c sd y.1 y.2 k)=if y.2.st=s then some ⟨s,((y.2.fi+k:Nat):Int),y.2.ev.getD k ev0⟩ else none:=by
 unfold q2M q2c;simp only;rw[z2j h i];simp only;by_cases d:y.2.st=s
 ·rw[ξ d,ξ ⟨d,by omega,by omega⟩,show((y.2.fi:Int)+(k:Int)-(y.2.fi:Int)).toNat=k by omega]
  congr 1
 ·rw[κ d,κ fun h=>d h.1]
theorem StI.found(h:StI sd B P){s:List UInt8}{x:En}(D:x∈B){t:To}:q2M P s x=some t↔ ∃y∈P,∃k,k<y.2.ev.length/\x=q2c sd y.1 y.2 k/\y.2.st=s/\t=⟨s,((y.2.fi+k:Nat):Int),y.2.ev.getD k ev0⟩:=by
 obtain⟨y,o,k,i,rfl⟩:=mem_entsP.1 ((h.ents x).1 D);rw[q5W h.pos o i]
 constructor
 ·intro d
  split at d
  ·rename_i m
   injection d with d;exact⟨y,o,k,i,rfl,m,d.symm⟩
  ·cases d
 ·rintro⟨z,G,j,q,he,m,rfl⟩
  have h1:=q5W (sd:=sd) h.pos o i s;have h2:=q5W (sd:=sd) h.pos G q s;rw[<-he,h1,ξ m] at h2;exact h2
theorem StI.mem_str(h:StI sd B P){s:List UInt8}{t:To}:t∈z6p (q1t P) s↔ ∃y∈P,∃k,k<y.2.ev.length/\y.2.st=s/\t=⟨s,((y.2.fi+k:Nat):Int),y.2.ev.getD k ev0⟩:=by
 rw[<-z1x h.ok,List.mem_filter,z9a]
 constructor
 ·rintro⟨⟨b,m,k,i,rfl⟩,d⟩
  obtain⟨y,j,rfl⟩:=List.mem_map.1 m;simp only[Φ] at d;exact⟨y,j,k,i,d,by rw[d]⟩
 ·rintro⟨y,j,k,i,d,rfl⟩
  exact⟨⟨y.2,List.mem_map.2 ⟨y,j,rfl⟩,k,i,by rw[d]⟩,by simp⟩
theorem StI.between(h:StI sd B P)(hB:q0z B)(s:List UInt8)(a b:Int):(q0r B (q2U sd s) a b).filterMap (q2M P s)=(z6p (q1t P) s).filter fun t=>decide (a<=t.v/\t.v<=b):=by
 refine y1H ?_ ((z5u _ _ _).filter _) fun t=>?_
 ·rw [List.pairwise_filterMap]
  refine List.Pairwise.imp_of_mem ?_ (q4Z hB (q2U sd s) a b);intro x y N O d t Z u hu;obtain⟨G,a0,I,J⟩:=mem_range.1 N;obtain⟨b0,c0,d0,e0⟩:=mem_range.1 O;obtain⟨p,hp,i,hi,rfl,Q,rfl⟩:=(h.found G).1 Z;obtain⟨q,hq,j,hj,rfl,R,rfl⟩:=(h.found b0).1 hu;rw[lessE_iff] at d;unfold q2c at d;simp only at d⊢;rw[Q,R] at d;rcases d with d|⟨_,d|⟨he,X⟩⟩
  ·omega
  ·omega
  ·exfalso
   obtain⟨l,r,hl⟩:=List.append_of_mem hp;have o:=h.ok;have D:=h.pos;rw[hl] at o D hq;rcases List.mem_append.1 hq with hq|hq
   ·have:=(List.pairwise_append.1 D).2.2 q hq p (.head _)
    omega
   ·rcases List.mem_cons.1 hq with hq|hq
    ·rw[hq] at X;omega
    ·obtain⟨m,r2,hm⟩:=List.append_of_mem hq
     rw[hm] at o;unfold q1t at o;rw[List.map_append,List.map_cons,List.map_append,List.map_cons] at o;have:=okBs.apart (l:=l.map Prod.snd) (b:=p.2) (m:=m.map Prod.snd) (c:=q.2) (r:=r2.map Prod.snd) (by rw[List.append_assoc,List.cons_append];exact o) (by rw[Q,R]);omega
 ·rw [List.mem_filterMap,List.mem_filter,h.mem_str,Φ]
  constructor
  ·rintro⟨x,N,Z⟩
   obtain⟨G,a0,I,J⟩:=mem_range.1 N;obtain⟨y,O,k,S,rfl,U,rfl⟩:=(h.found G).1 Z;unfold q2c at I J;simp only at I J⊢;exact⟨⟨y,O,k,S,U,rfl⟩,by omega,by omega⟩
  ·rintro⟨⟨y,O,k,S,U,rfl⟩,h1,h2⟩
   simp only at h1 h2;have N:q2c sd y.1 y.2 k∈B:=(h.ents _).2 (mem_entsP.2 ⟨y,O,k,S,rfl⟩);refine⟨q2c sd y.1 y.2 k,mem_range.2 ⟨N,?_,?_,?_⟩,(h.found N).2 ⟨y,O,k,S,rfl,U,rfl⟩⟩
   ·unfold q2c;simp only;rw[U]
   ·unfold q2c;simp only;omega
   ·unfold q2c;simp only;omega
theorem StI.has(h:StI sd B P){s:List UInt8}{v:Nat}(m:v<(q1U (q1t P) s).length): ∃x∈B,x.1=q2U sd s/\x.2.1=(v:Int):=by
 have j:(⟨s,((0+v:Nat):Int),(q1U (q1t P) s).getD v ev0⟩:To)∈z6p (q1t P) s:=numT_mem.2 ⟨v,m,rfl⟩;obtain⟨y,o,k,d,i,he⟩:=h.mem_str.1 j;injection he with _ he _;refine⟨q2c sd y.1 y.2 k,(h.ents _).2 (mem_entsP.2 ⟨y,o,k,d,rfl⟩),?_,?_⟩
 ·unfold q2c;simp only;rw[i]
 ·unfold q2c;simp only;omega
theorem StI.last(h:StI sd B P)(q:okM B){s:List UInt8}{u r:Int}(R:((q1U (q1t P) s).length:Int)-1<=u)(j:z2J B (q2U sd s) u r):
  ((q1U (q1t P) s).length:Int)-1<=r/\ -1<=r/\(r<0->q1U (q1t P) s=[])/\(0<=r->(z6p (q1t P) s).filter (fun t=>decide (r<=t.v/\t.v<=r))=[]->((q1U (q1t P) s).length:Int)-1<=r-1)/\
   ((z6p (q1t P) s).filter (fun t=>decide (r<=t.v/\t.v<=r))≠[]->((q1U (q1t P) s).length:Int)-1=r):=by
 have o: -1<=r:=by
  rcases j.2 with e|⟨y,N,_,_,e⟩
  ·omega
  ·have:=okEn_iff.1 (q.ok y N);omega
 have h1:((q1U (q1t P) s).length:Int)-1<=r:=by
  rcases Nat.eq_zero_or_pos (q1U (q1t P) s).length with e|e
  ·omega
  ·obtain⟨x,J,m,O⟩:=h.has (s:=s) (v:=(q1U (q1t P) s).length-1) (by omega)
   have:=j.1 x J m (by omega);omega
 refine⟨h1,o,fun I=>?_,fun I he=>?_,fun d=>?_⟩
 ·exact List.length_eq_zero_iff.1 (by omega)
 ·rcases Int.lt_or_le (((q1U (q1t P) s).length:Int)-1) r with G|D
  ·omega
  ·exfalso
   have i:(⟨s,((0+r.toNat:Nat):Int),(q1U (q1t P) s).getD r.toNat ev0⟩:To)∈z6p (q1t P) s:=numT_mem.2 ⟨r.toNat,by omega,rfl⟩;have:=(List.mem_filter (p:=fun t:To=>decide (r<=t.v/\t.v<=r))).2 ⟨i,by simp;omega⟩;rw[he] at this
   cases this
 ·obtain⟨t,i⟩:=List.exists_mem_of_ne_nil _ d
  obtain⟨h2,h3⟩:=List.mem_filter.1 i;obtain⟨k,Q,rfl⟩:=numT_mem.1 h2;simp only[Φ] at h3;omega
end
theorem z3s(sd:Int)(P:Pbs)(p:Nat)(b:Bt):q4H sd (P++[(p,b)])=q4H sd P++q0b sd p b b.ev.length:=by
 unfold q4H;rw[List.map_append,List.flatten_append];simp
theorem q4C(P:Pbs)(p:Nat)(b:Bt):q1t (P++[(p,b)])=q1t P++[b]:=by unfold q1t;rw[List.map_append];rfl
theorem mem_addEs{x:En}: ∀{es L:List En},x∈q1T es L↔x∈es\/x∈L
 |[],L=>by unfold q1T;simp
 | e ::es,L=>by
  have h:=mem_addEs (x:=x) (es:=es) (L:=q3X e L);unfold q1T at*;rw[List.foldl_cons,h,mem_addE,List.mem_cons]
  constructor
  ·rintro(h|h|h)
   ·exact .inl (.inr h)
   ·exact .inl (.inl h)
   ·exact .inr h
  ·rintro((h|h)|h)
   ·exact .inr (.inl h)
   ·exact .inl h
   ·exact .inr (.inr h)
theorem StI.snoc{sd:Int}{B:List En}{P:Pbs}(h:StI sd B P){p:Nat}{b:Bt}(i:z4H b)(j:b.fi=(q1U (q1t P) b.st).length)(m: ∀y∈P,y.1<p):StI sd (q1T (q0b sd p b b.ev.length) B) (P++[(p,b)]):=by
 refine⟨by rw[q4C];exact okBs_snoc.2 ⟨h.ok,i,j⟩,?_,fun x=>?_⟩
 ·rw[List.pairwise_append]
  exact⟨h.pos,List.pairwise_singleton _ _,fun a d c hc=>by obtain rfl:=List.mem_singleton.1 hc;exact m a d⟩
 ·rw[mem_addEs,z3s,List.mem_append,h.ents]
  exact Or.comm
theorem q6B(sd:Int)(P:Pbs):(q4H sd P).length=(tos (q1t P)).length:=by
 unfold q4H tos q1t;rw[List.length_flatten,List.length_flatten,List.map_map,List.map_map,List.map_map]
 congr 1
 refine List.map_congr_left fun x _=>?_
 simp only[Function.comp];rw[q3h,q3o]
theorem StI.len{sd:Int}{B:List En}{P:Pbs}(h:StI sd B P)(i:q0z B):B.length<=(tos (q1t P)).length:=by
 rw[<-q6B sd];have j:B.Nodup:=i.imp fun {a b} d e=>by rw[e,q0a] at d;cases d
 exact nodup_leB j fun x m=>(h.ents x).1 m
where nodup_leB {α:Type} [DecidableEq α]: ∀{l m:List α},l.Nodup->(∀x∈l,x∈m)->l.length<=m.length
 |[],_,_,_=>υ _
 | x::l,m,h,hm=>by
  obtain⟨h1,h2⟩:=List.nodup_cons.1 h;have hx:=hm x (.head _);have h3:=nodup_leB (m:=m.erase x) h2 fun y hy=>(List.mem_erase_of_ne (fun e:y=x=>h1 (by rw[<-e];exact hy))).2 (hm y (.tail _ hy))
  rw[List.length_erase_of_mem hx] at h3;have:=List.length_pos_of_mem hx;rw[χ];omega
def q8i(φ:Fls)(C:Cks):Prop:= ∀k:Nat,k<=999999->φ (q0E 99 (k:Int))=(C[k]?).map (q0T k)
def z0w(φ:Fls)(m:Man):Prop:=(φ mapN=some m.S/\0<m.nx)\/(φ mapN=none/\m.nx=0/\m.ck=0/\m.L=[])
def y0z(nm:List UInt8):Prop:= ∀k:Nat,k<=999999->nm≠q0E 99 (k:Int)
theorem z5x : ∀{a b:List (List UInt8×List UInt8)},q3L Prod.fst a->q3L Prod.fst b->(∀z,z∈a↔z∈b)->a=b
 |[],[],_,_,_=>rfl
 |[],y::b,_,_,h=>absurd ((h y).2 (.head _)) (by simp)
 |x::a,[],_,_,h=>absurd ((h x).1 (.head _)) (by simp)
 | x ::a,y::b,ha,hb,h=>by
  obtain⟨h1,h2⟩:=List.pairwise_cons.1 ha;obtain⟨h3,h4⟩:=List.pairwise_cons.1 hb;have j:x=y:=by
   rcases List.mem_cons.1 ((h x).1 (.head _)) with e|m
   ·exact e
   rcases List.mem_cons.1 ((h y).2 (.head _)) with e|o
   ·exact e.symm
   have:=WideShapes.bytes_trans _ _ _ (h1 y o) (h3 x m);rw[WideAt.bytes_irrefl] at this;cases this
  subst j;rw[z5x h2 h4 fun z=>?_]
  constructor
  ·intro i
   rcases List.mem_cons.1 ((h z).1 (.tail _ i)) with e|d
   ·have:=h1 z i;rw[e,WideAt.bytes_irrefl] at this;cases this
   ·exact d
  ·intro i
   rcases List.mem_cons.1 ((h z).2 (.tail _ i)) with e|d
   ·have:=h3 z i;rw[e,WideAt.bytes_irrefl] at this;cases this
   ·exact d
theorem z2u{l:List (List UInt8×List UInt8)}(h:q3L Prod.fst l)(z:List UInt8×List UInt8):z∈l↔(q0I Prod.fst z.1 l).map Prod.snd=some z.2:=by
 constructor
 ·intro d;rw[q5V h d rfl];rfl
 ·intro d
  cases hf:q0I Prod.fst z.1 l with
  |none=>rw[hf] at d;cases d
  | some y=>
   rw[hf] at d;injection d with d;obtain⟨h1,h2⟩:=q0O hf;have:y=z:=Prod.ext h2 d
   rwa [this] at h1
theorem z8G{a b:List (List UInt8×List UInt8)}(d:q3L Prod.fst a)(i:q3L Prod.fst b)(h: ∀nm,(q0I Prod.fst nm a).map Prod.snd=(q0I Prod.fst nm b).map Prod.snd):a=b:=
 z5x d i fun z=>by rw[z2u d,z2u i,h]
theorem q9P{r:α->α->Prop}{p:α->Bool}(j: ∀x y,r x y->p y=true->p x=true): ∀{l:List α},l.Pairwise r->l=l.filter p++l.filter (fun y=>!p y)
 |[],_=>rfl
 | x :: l,h=>by
  obtain⟨h1,h2⟩:=List.pairwise_cons.1 h
  cases hx:p x with
  | true=>
   rw[List.filter_cons_of_pos hx,List.filter_cons_of_neg (by simp[hx]),List.cons_append,<-q9P j h2]
  | false=>
   have i: ∀y∈l,p y=false:=fun y d=>by
    cases hy2:p y with
    |false=>rfl
    |true=>rw[j x y (h1 y d) hy2] at hx;cases hx
   rw [List.filter_cons_of_neg (by simp[hx]),List.filter_cons_of_pos (by simp[hx]),List.filter_eq_nil_iff.2 fun y d=>by simp[i y d],List.nil_append,
    List.filter_eq_self.2 fun y d=>by simp[i y d]]
theorem q6b{α:Type}[DecidableEq α]: ∀{l m:List α},l.Nodup->(∀x∈l,x∈m)->l.length<=m.length
 |[],_,_,_=>υ _
 | x::l,m,h,hm=>by
  obtain⟨h1,h2⟩:=List.nodup_cons.1 h;have d:=hm x (.head _);have h3:=q6b (m:=m.erase x) h2 fun y i=>(List.mem_erase_of_ne (fun e:y=x=>h1 (by rw[<-e];exact i))).2 (hm y (.tail _ i))
  rw[List.length_erase_of_mem d] at h3;have:=List.length_pos_of_mem d;rw[χ];omega
theorem q5H(i:k<=999999):bytesBefore [99] (q0E 99 (k:Int))=true/\bytesBefore (q0E 99 (k:Int)) [100]=true/\bytesBefore (q0E 99 (k:Int)) [99]=false:=by
 rw[q0Y (by omega)];have d:=q0f 6 ((k:Int)).toNat
 cases hd:q4n 6 ((k:Int)).toNat with
 |nil=>rw[hd] at d;cases d
 |cons a r=>exact⟨by simp[bytesBefore],by simp[bytesBefore],by simp[bytesBefore]⟩
theorem q9m{n:Int}(d:0<=n/\n<=999999):bytesBefore (q0E 98 n) [99]=true/\bytesBefore (q0E 116 n) [100]=false/\bytesBefore (q0E 116 n) [99]=false:=by
 rw[q0Y d,q0Y d];exact⟨by simp[bytesBefore],by simp[bytesBefore],by simp[bytesBefore]⟩
theorem before_map :bytesBefore mapN [100]=false/\bytesBefore mapN [99]=false:=by decide
section
variable {st :IxSt}{σ σ':DM}{c s:Int}{φ:Fls}{u cnt:Nat}{B:List En}{C C':Cks}{E:Oth}
theorem z2T : ∀(C:Cks) (i:Nat),i+C.length<=999999->q3L Prod.fst (q3t i C)
 |[],_,_=>List.Pairwise.nil
 | ps::r,i,h=>by
  rw[χ] at h;refine List.pairwise_cons.2 ⟨fun y d=>?_,z2T r (i+1) (by omega)⟩;obtain⟨j,h1,h2,h3⟩:=q3P d;rw[h3];exact q5z (by omega) (by omega) (by omega)
theorem z2S{C:Cks}(d:C.length<=200)(i:k<=999999):(q0I Prod.fst (q0E 99 (k:Int)) (q3t 0 C)).map Prod.snd=(C[k]?).map (q0T k):=by
 rcases Nat.lt_or_ge k C.length with h|h
 ·rw[q9s d (γ h),γ h];rfl
 ·rw[q9t d h i,List.getElem?_eq_none h];rfl
theorem q7b(h:PInv st σ c s φ u cnt B)(hc:q8i φ C)(U:okC C):
  ∃E,Lgd E σ (c-(q2Q E:Int)) s C/\(∀nm,y0z nm->(q0I Prod.fst nm (E.X++E.Z)).map Prod.snd=φ nm)/\q2Q E+q0p C<=u/\E.X.length+C.length+E.Z.length<=cnt:=by
 obtain⟨l,f0,i,I,l0,k0⟩:=h.fl;have N: ∀y∈l,φ y.1≠none:=fun y d e=>by
  have:=I y.1;rw[q5V i d rfl,e] at this;cases this
 have Q:=q9P (r:=fun x y:List UInt8×List UInt8=>bytesBefore x.1 y.1=true) (p:=fun y:List UInt8×List UInt8=>bytesBefore y.1 [99]) (fun x y h1 h2=>WideShapes.bytes_trans _ _ _ h1 h2) i;have hr:=i.filter (p:=fun y:List UInt8×List UInt8=>!bytesBefore y.1 [99]);have p2:=q9P (r:=fun x y:List UInt8×List UInt8=>bytesBefore x.1 y.1=true) (p:=fun y:List UInt8×List UInt8=>bytesBefore y.1 [100]) (fun x y h1 h2=>WideShapes.bytes_trans _ _ _ h1 h2) hr;obtain⟨X,hX⟩: ∃X,l.filter (fun y=>bytesBefore y.1 [99])=X:=⟨_,rfl⟩
 obtain⟨R,hR⟩: ∃R,l.filter (fun y=>!bytesBefore y.1 [99])=R:=⟨_,rfl⟩
 obtain⟨M,hM⟩: ∃M,R.filter (fun y=>bytesBefore y.1 [100])=M:=⟨_,rfl⟩
 obtain⟨Z,hZ⟩: ∃Z,R.filter (fun y=>!bytesBefore y.1 [100])=Z:=⟨_,rfl⟩
 rw[hX,hR] at Q;rw[hR,hM,hZ] at p2;rw[p2] at Q;have mX: ∀y,y∈X↔y∈l/\bytesBefore y.1 [99]=true:=fun y=>by rw[<-hX,List.mem_filter]
 have mR: ∀y,y∈R↔y∈l/\bytesBefore y.1 [99]=false:=fun y=>by rw[<-hR,List.mem_filter];simp
 have mM: ∀y,y∈M↔y∈l/\bytesBefore y.1 [99]=false/\bytesBefore y.1 [100]=true:=fun y=>by rw[<-hM,List.mem_filter,mR];simp[and_assoc]
 have mZ: ∀y,y∈Z↔y∈l/\bytesBefore y.1 [99]=false/\bytesBefore y.1 [100]=false:=fun y=>by rw[<-hZ,List.mem_filter,mR];simp[and_assoc]
 have o: ∀n∈st.m.L.flatten,0<=n/\n<=999999:=fun n D=>by have:=h.range D;omega
 have S: ∀y,y∈X\/y∈Z->y.1=mapN\/ ∃n∈st.m.L.flatten,y.1=q0E 116 n\/y.1=q0E 98 n:=fun y d=>by
  have hl:y∈l:=d.elim (fun h=>((mX y).1 h).1) fun h=>((mZ y).1 h).1
  rcases h.only y.1 (N y hl) with e|e|⟨k,G,e⟩
  ·exact .inl e
  ·exact .inr e
  ·exfalso
   obtain⟨_,b2,b3⟩:=q5H G;rcases d with d|d
   ·have:=((mX y).1 d).2;rw[e,b3] at this;cases this
   ·have:=((mZ y).1 d).2.2;rw[e,b2] at this;cases this
 have b0: ∀y∈M,∃k:Nat,k<=999999/\y.1=q0E 99 (k:Int):=fun y d=>by
  obtain⟨hl,q1,q2⟩:=(mM y).1 d;rcases h.only y.1 (N y hl) with e|⟨n,D,e|e⟩|e
  ·rw[e,before_map.1] at q2;cases q2
  ·rw[e,(q9m (o n D)).2.1] at q2;cases q2
  ·rw[e,(q9m (o n D)).1] at q1;cases q1
  ·exact e
 have O:=i;rw[Q] at O;obtain⟨oX,g0,_⟩:=List.pairwise_append.1 O;obtain⟨oM,oZ,_⟩:=List.pairwise_append.1 g0;have a0:M=q3t 0 C:=z8G oM (z2T C 0 (by have:=U.few;omega)) fun nm=>by
  by_cases J: ∃k:Nat,k<=999999/\nm=q0E 99 (k:Int)
  ·obtain⟨k,G,rfl⟩:=J
   rw[z2S U.few G,<-hc k G,<-I];obtain⟨_,b2,b3⟩:=q5H G;rw[Q,q0Z fun y d e=>?_,q1V fun y d e=>?_]
   ·have:=((mZ y).1 d).2.2;rw[show y.1=q0E 99 (k:Int) from e,b2] at this;cases this
   ·have:=((mX y).1 d).2;rw[show y.1=q0E 99 (k:Int) from e,b3] at this;cases this
  ·rw [q0X fun y d e=>J (by obtain⟨k,G,e2⟩:=b0 y d;exact⟨k,G,by rw[<-e2];exact e.symm⟩),q0X fun y d e=>J (by
    obtain⟨j,h1,h2,h3⟩:=q3P d
    exact⟨j,by have:=U.few;omega,by rw[<-h3];exact e.symm⟩)]
 rw[a0] at Q;have d0:=h.noNew;have j0:q2Y l=q2Q ⟨X,Z⟩+q0p C:=by
  rw[Q,q1M,q1M,q5J];unfold q2Q;simp only;omega
 have i0:l.length=X.length+C.length+Z.length:=by rw[Q];simp[q4r];omega
 refine⟨⟨X,Z⟩,⟨?_,U,⟨fun y d k G=>?_,fun y d k G=>?_,fun y d e=>?_,fun y d hp=>?_,fun y d=>?_,?_⟩⟩,fun nm J=>?_,by omega,by simp only;omega⟩
 ·rw[show c-(q2Q ⟨X,Z⟩:Int)+(q2Q ⟨X,Z⟩:Int)=c by omega]
  show Pl σ c s (X++(q3t 0 C++Z));rw[<-Q];exact f0
 ·exact WideShapes.bytes_trans _ _ _ ((mX y).1 d).2 (q5H G).1
 ·by_cases q:y.1=[100]
  ·rw[q];exact(q5H G).2.1
  ·rcases WideAt.bytes_total y.1 [100] q with q|q
   ·rw[((mZ y).1 d).2.2] at q;cases q
   ·exact WideShapes.bytes_trans _ _ _ (q5H G).2.1 q
 ·have hl:y∈l:=d.elim (fun h=>((mX y).1 h).1) fun h=>((mZ y).1 h).1
  exact N y hl (by rw[e];exact d0)
 ·rcases S y d with e|⟨n,D,e|e⟩
  ·rw[e] at hp;exact absurd hp (by decide)
  ·rw[e,q2G y0j (o n D)];exact(by decide:(116:UInt8)≠99)
  ·rw[e,q2G y2N (o n D)];exact(by decide:(98:UInt8)≠99)
 ·rcases S y d with e|⟨n,D,e|e⟩
  ·rw[e];decide
  ·rw[e,q0Y (o n D),χ,q0f];decide
  ·rw[e,q0Y (o n D),χ,q0f];decide
 ·have c0:((X++Z).map Prod.fst).Nodup:=by
   have ho:q3L Prod.fst (X++Z):=by
    rw[Q] at i;exact i.sublist (List.Sublist.append (List.Sublist.refl X) (List.sublist_append_right _ _))
   exact List.pairwise_map.2 (z0T ho)
  have hb:=Man.bounds h.man;have:=q6b (m:=mapN::(st.m.L.flatten.map (q0E 116)++st.m.L.flatten.map (q0E 98))) c0 fun x hx=>by
   obtain⟨y,d,rfl⟩:=List.mem_map.1 hx;rcases S y (List.mem_append.1 d) with e|⟨n,D,e|e⟩
   ·rw[e];exact .head _
   ·rw[e];exact .tail _ (List.mem_append.2 (.inl (List.mem_map.2 ⟨n,D,rfl⟩)))
   ·rw[e];exact .tail _ (List.mem_append.2 (.inr (List.mem_map.2 ⟨n,D,rfl⟩)))
  simp only[List.length_map,θ,χ] at this;simp only;omega
 ·rw [<-I,Q]
  show(q0I Prod.fst nm (X++Z)).map Prod.snd=_;have e0: ∀y∈q3t 0 C,Prod.fst y≠nm:=fun y d e=>by
   obtain⟨j,h1,h2,h3⟩:=q3P d;exact J j (by have:=U.few;omega) (by rw[<-h3];exact e.symm)
  unfold q0I;rw[List.find?_append,List.find?_append,List.find?_append];have h0:List.find? (fun y=>Prod.fst y==nm) (q3t 0 C)=none:=q0X e0;rw[h0];simp
theorem PInv.relog(h:PInv st σ c s φ u cnt B)(hE: ∀nm,y0z nm->(q0I Prod.fst nm (E.X++E.Z)).map Prod.snd=φ nm)(J:Lgd E σ' (c-(q2Q E:Int)) s C')(ho:okD σ')(hu:q2Q E+q0p C'<=u')(N:E.X.length+C'.length+E.Z.length<=cnt'):
  ∃D,PInv st σ' c s D u' cnt' B/\q8i D C'/\ ∀nm,y0z nm->D nm=φ nm:=by
 have q:=J.pl;rw[show c-(q2Q E:Int)+(q2Q E:Int)=c by omega] at q;have d: ∀nm,y0z nm->(q0I Prod.fst nm (q3K E C')).map Prod.snd=φ nm:=fun nm i=>by
  rw[<-hE nm i];have R: ∀y∈q3t 0 C',Prod.fst y≠nm:=fun y hy e=>by
   obtain⟨j,h1,h2,h3⟩:=q3P hy;exact i j (by have:=J.ok.few;omega) (by rw[<-h3];exact e.symm)
  unfold q0I q3K;rw[List.find?_append,List.find?_append,List.find?_append];have U:List.find? (fun y=>Prod.fst y==nm) (q3t 0 C')=none:=q0X R;rw[U];simp
 have Q: ∀k:Nat,k<=999999->(q0I Prod.fst (q0E 99 (k:Int)) (q3K E C')).map Prod.snd=(C'[k]?).map (q0T k):=fun k G=>by
  rw[<-z2S J.ok.few G];unfold q3K;rw[q0Z (J.oth.neX G),q1V (J.oth.neZ G)]
 have O: ∀I:UInt8,(I=116\/I=98)-> ∀n:Int,0<=n/\n<=999999->y0z (q0E I n):=fun I hc n N k G e=>by
  have hl:q2B I=true:=by rcases hc with rfl|rfl<;>decide
  have:=(z8A hl y2B N (by omega) e).1;rcases hc with rfl|rfl<;>exact absurd this (by decide)
 have o: ∀n∈st.m.L.flatten,0<=n/\n<=999999:=fun n N=>by have:=h.range N;omega
 refine⟨fun nm=>(q0I Prod.fst nm (q3K E C')).map Prod.snd,⟨⟨q3K E C',q,q.ord ho,fun _=>rfl,by rw[q6r];exact hu,by rw[q6q];exact N⟩,h.man,h.full,fun n e he=>?_,fun nm i=>?_,h.okw,h.okB,h.mem⟩,Q,d⟩
 ·obtain⟨S,t1,⟨y,t2⟩,t3,t4⟩:=h.tb n e he
  exact⟨S,(d _ (O 116 (.inl rfl) n (o n S))).trans t1,⟨y,(d _ (O 98 (.inr rfl) n (o n S))).trans t2⟩,t3,t4⟩
 ·by_cases hc: ∃k:Nat,k<=999999/\nm=q0E 99 (k:Int)
  ·exact .inr (.inr hc)
  ·exact h.only nm (by rw[<-d nm fun k G e=>hc ⟨k,G,e⟩];exact i)
end
end
section
open Go.RowKit Go.Maps
def DkX(wb W:World)(g:Nat)(σ:DM)(K:Nat->Prop):Prop:= ∃F,DkF wb W g F σ K
def q3G :DM->List Int->(Int->Option (List En))->(Int->Option (List En))×Int×DM
 |σ,[],acc=>(acc,0,σ)
 | σ,n::ns,acc=>match q5b σ n with
  |(none,e,τ)=>(acc,e,τ)
  |(some L,_,τ)=>q3G τ ns (fun x=>if x=n then some L else acc x)
def q9g(wb w:World)(g:Nat)(m:Man)(rate:Nat)(K:Nat->Prop)(σ:DM)(e:Ending)(w':World):Prop:=
 (q0e m.nx m.ck m.L=false/\e= .returned (.tuple #[.pointer none,.int .i64 2])/\DkX wb w' g σ K/\Stay K w w')\/
 (q0e m.nx m.ck m.L=true/\σ.down=true/\e= .returned (.tuple #[.pointer none,.int .i64 61])/\DkX wb w' g σ K/\Stay K w w')\/
 (q0e m.nx m.ck m.L=true/\σ.down=false/\(q3G σ m.L.flatten (fun _=>none)).2.1≠0/\e= .returned (.tuple #[.pointer none,.int .i64 (q3G σ m.L.flatten (fun _=>none)).2.1])/\DkX wb w' g (q3G σ m.L.flatten (fun _=>none)).2.2 K/\Stay K w w')\/
 (q0e m.nx m.ck m.L=true/\σ.down=false/\(q3G σ m.L.flatten (fun _=>none)).2.1=0/\ ∃gx t,e= .returned (.tuple #[.pointer (some ⟨gx,0,none⟩),.int .i64 0])/\
  IxK wb w' g gx ⟨m,rate,[],t,m.L.flatten.length⟩ (q3G σ m.L.flatten (fun _=>none)).2.2 K/\Stay K w w'/\ ∀n,(t n).map TE.L=(q3G σ m.L.flatten (fun _=>none)).1 n)
section
variable {wb w0 w W W1 w1 w2:World}{g gx gm gt B:Nat}{st st1:IxSt}{F Y Y1 K K' V T:Nat->Prop}{σ σ1:DM}{va v v1 v2 vm:Value}{vs:List Value}{ns:List Int}{acc:List (List En)}{M L:List En}
theorem IxI.putO{D:DataW Unit}{N:Nat}(h:IxI w gx g gm gt st v vs vm D N Y){n:Int}{t:Nat}{may:Int->Bool}
  (O:w2.ownsMap Tryz.prog 3 q6e gt (N+1) (D.put (.int .i64 n) (.lit (.int .i64 t))))(j:OffS (fun i=>i=gt) w w2)
  (I:Tb w t g n L may T)(Q: ∀i,T i->¬InX gx gm gt i):
  IxI w2 gx g gm gt ⟨st.m,st.rate,st.w,(fun x=>if x=n then some ⟨t,L,may⟩ else st.t x),st.c+1⟩ v vs vm (D.put (.int .i64 n) (.lit (.int .i64 t))) (N+1) (fun i=>Y i\/T i):=by
 have J: ∀i,i<w.heap.size->i≠gt->w2.heap[i]? =w.heap[i]? :=fun i d y=>j.block i d y
 have o: ∀i,(Y i\/T i)->i<w.heap.size/\¬InX gx gm gt i:=fun i d=>by
  rcases d with d|d
  ·exact⟨h.lt i d,h.apart i d⟩
  ·exact⟨I.lt i d,Q i d⟩
 have q: ∀i,(Y i\/T i)->w2.heap[i]? =w.heap[i]? :=fun i d=>J i (o i d).1 fun e=>(o i d).2 (.inr (.inr e))
 refine⟨h.blk.same (J _ h.blk.lt h.ne.2.1),?_,q4Y h.lev fun i d=>q i (.inl (h.inY i (d.elim .inl fun e=> .inr (.inl e)))),O,Nat.succ_le_succ h.cnt,fun x=>?_,fun x e y=>?_,fun i d=> .inl (h.inY i d),fun i d=>Ψ (o i d).1 j.size,fun i d=>(o i d).2,h.ne⟩
 ·refine h.mem.same fun i d=>?_
  rcases d with rfl|d
  ·exact J _ h.mem.blk.lt h.ne.2.2
  ·exact q i (.inl (h.inY i (.inr (.inr d))))
 ·exact z7v (e:=⟨t,L,may⟩) h.look h.map.isMap x
 ·simp only at y
  by_cases G:x=n
  ·rw[ξ G] at y
   injection y with y;subst y;subst G;exact(I.same j.size fun i d=>q i (.inr d)).mono (fun i d=> .inr d) fun i d=>Ψ (o i d).1 j.size
  ·rw[κ G] at y
   exact((h.tab x e y).same j.size fun i d=>q i (.inl d)).mono (fun i d=> .inl d) fun i d=>Ψ (o i d).1 j.size
theorem z5f(h : DkF wb w g F σ K){m:Man}(hG:Grid w ao m.L.length cap m.L)(G1:m.L.flatten.length<=1000000000)(D1: ∀x∈m.L.flatten,(Lit.int .i64 x).wf=true)(z1:0<=m.sd)(A1:m.sd<18446744073709551616)(rate:Nat):
  Calls Tryz.prog 113 #[.pointer (some ⟨g,0,none⟩),.agg #[.int .i64 m.nx,.int .i64 m.ck,.int .u64 m.sd,.slice ao m.L.length cap],.float .f64 rate] w (q9g wb w g m rate K σ):=by
 have HD:=η h;have t0:=q0B w (.cells #[.int .i64 m.nx,.int .i64 m.ck,.int .u64 m.sd,.slice ao m.L.length cap] 182);have a1:=Blk.new w 182 #[.int .i64 m.nx,.int .i64 m.ck,.int .u64 m.sd,.slice ao m.L.length cap];have Z:=η (q7Z (h.d.ext t0) [] (by decide));have hc: ∃z c,q1h σ []=(z,c)/\(c==1)=false/\((c==61)=σ.down)/\(σ.down=true->c=61):=by
  unfold q1h
  cases σ.down with
  |true=>exact⟨_,_,rfl,rfl,rfl,fun _=>rfl⟩
  | false=>
   simp only[Bool.false_eq_true,if_false]
   split
   ·exact⟨_,_,rfl,rfl,rfl,fun h=>by cases h⟩
   ·exact⟨_,_,rfl,rfl,rfl,fun h=>by cases h⟩
 obtain⟨z,c,hz,t1,G0,H0⟩:=hc;rw[hz] at Z;have HV:=η (q9I m.nx m.ck m.sd ao m.L.length cap m.L _ (hG.ext t0) (by omega) D1);have HG:=η hG;have i0:=η t0;have N:=η a1;obtain⟨w1,C1⟩: ∃w1,w.alloc (.cells #[.int .i64 m.nx,.int .i64 m.ck,.int .u64 m.sd,.slice ao m.L.length cap] 182)=w1:=⟨_,rfl⟩
 rw[C1] at Z HV i0 N;obtain⟨p,hp⟩: ∃p,w.heap.size=p:=⟨_,rfl⟩
 have HP:=η hp;rw[hp] at N;have b0:w1.cell? ⟨p,0,none⟩=some (.int .i64 m.nx):=N.o.cell 0;have b1:w1.cell? ⟨p,1,none⟩=some (.int .i64 m.ck):=N.o.cell 1;have b2:w1.cell? ⟨p,2,none⟩=some (.int .u64 m.sd):=N.o.cell 2;have b3:w1.cell? ⟨p,3,none⟩=some (.slice ao m.L.length cap):=N.o.cell 3;have L0:=@run_makeMap Tryz.prog;clear h t0 a1 hz hG
 cases hv:q0e m.nx m.ck m.L with
 | false=>
  rw[hv] at HV;have a0:=η hv;clear hv;go_enter Tryz.func113,Tryz.ntmps113;go_wp2_with fail;refine Z.o.mono ?_;rintro e w2 ⟨rfl,rfl⟩;go_wp2_with fail;refine HV.o.mono ?_;rintro e w2 ⟨rfl,D⟩;have G:=η (i0.o.trans D);clear D;go_wp2_with fail;go_ret2;exact .inl ⟨a0.o,rfl,⟨F,HD.o.grow G.o⟩,fun i j=>G.o.block i (HD.o.k i j).1⟩
 | true =>
  rw[hv] at HV;have a0:=η hv;clear hv
  cases hdn:σ.down with
  | true=>
   rw[hdn] at G0;obtain rfl:=H0 hdn;have p0:=η hdn;clear hdn H0;go_enter Tryz.func113,Tryz.ntmps113;go_wp2_with fail;refine Z.o.mono ?_;rintro e w2 ⟨rfl,rfl⟩;go_wp2_with fail;refine HV.o.mono ?_;rintro e w2 ⟨rfl,D⟩;have G:=η (i0.o.trans D);clear D;go_wp2_with fail;go_ret2;exact .inr (.inl ⟨a0.o,p0.o,rfl,⟨F,HD.o.grow G.o⟩,fun i j=>G.o.block i (HD.o.k i j).1⟩)
  | false =>
   rw[hdn] at G0;have p0:=η hdn;have m0:m.ok:=⟨a0.o,z1,A1⟩
   have s0:=Man.bounds m0;clear hdn H0;go_enter Tryz.func113,Tryz.ntmps113;go_wp2_with fail;refine Z.o.mono ?_;rintro e w2 ⟨rfl,rfl⟩;go_wp2_with fail;refine HV.o.mono ?_;rintro e w2 ⟨rfl,D⟩;have G:=η (i0.o.trans D);have b0:=q0A D b0;have b1:=q0A D b1;have b2:=q0A D b2;have b3:=q0A D b3;have O0:=η (N.o.ext D);clear D;go_wp2_with fail;refine(z2U m.nx m.ck m.sd ao m.L.length cap m.L w2 (HG.o.ext G.o) (fun i=>by have:=s0.2.2.1 i;omega) (by omega)).mono ?_;rintro e w3 ⟨v3,v0,rfl,o0,Y0⟩;have C0:=η o0;have q0:=η Y0;obtain⟨a3,k3,rfl⟩:=o0.own.slice;clear o0 Y0;go_wp2_with fail;refine(y0q w3).mono ?_;rintro e X ⟨gm,rfl,O,x1,F0⟩;have B0:=η O;have r0:=η F0;have b3:=q0A F0 (q0A q0.o b3);clear O F0;obtain⟨S,j0⟩: ∃S,(X.alloc (.map #[] 0)).alloc (.cells #[.pointer (some ⟨g,0,none⟩),.int .i64 m.nx,.int .i64 m.ck,.int .u64 m.sd,.slice a3 m.L.length k3,.float .f64 rate,.pointer (some ⟨gm,0,none⟩),.map (some X.heap.size)] 195)=S:=⟨_,rfl⟩
   have c0:Hd (Ext X S):=η (j0▸q5T _ _ _)
   have N0:Hd (Blk S (X.heap.size+1) 195 #[.pointer (some ⟨g,0,none⟩),.int .i64 m.nx,.int .i64 m.ck,.int .u64 m.sd,.slice a3 m.L.length k3,.float .f64 rate,.pointer (some ⟨gm,0,none⟩),.map (some X.heap.size)]):=η (by
    have h:=Blk.new (X.alloc (.map #[] 0)) 195 #[.pointer (some ⟨g,0,none⟩),.int .i64 m.nx,.int .i64 m.ck,.int .u64 m.sd,.slice a3 m.L.length k3,.float .f64 rate,.pointer (some ⟨gm,0,none⟩),.map (some X.heap.size)];rw[ρ,j0] at h
    exact h)
   have R0:Hd (S.ownsMap Tryz.prog 3 q6e X.heap.size 0 (.map [])):=η (j0▸(World.ownsMap_made (H:=Unit) X Tryz.prog 3 q6e).alloc _);have o1:Hd (S.heap.size=X.heap.size+2):=η (by rw[<-j0,ρ,ρ]);have p1:=q0A c0.o b3;have d0:=η (((G.o.trans q0.o).trans r0.o).trans c0.o);have u1:gm<X.heap.size:=B0.o.blk.lt
   have Q0:Hd (IxK wb S g (X.heap.size+1) ⟨m,rate,[],(fun _=>none),0⟩ σ K):=η (by
    have hD:=HD.o;have H1:=G.o.size;have I1:=q0.o.size;have J1:=r0.o.size;have L1:=hD.ext.size;have y1:OGr S w2.heap.size 73 3 (.slice a3 m.L.length k3) v0 m.L:=(C0.o.ext r0.o).ext c0.o;have I: ∀i,((Value.slice a3 m.L.length k3).ownBlock=some i\/ ∃q,(v0.getD q (.slice none 0 0)).ownBlock=some i)->w2.heap.size<=i/\i<w3.heap.size:=fun i j=>z0R C0.o i j
    refine⟨F,gm,X.heap.size,fun i=>((Value.slice a3 m.L.length k3).ownBlock=some i\/ ∃q,(v0.getD q (.slice none 0 0)).ownBlock=some i),⟨hD.d.ext d0.o,⟨⟨m0,okM.nil,υ _⟩,.slice a3 m.L.length k3,v0,.slice none 0 0,.map [],0,⟨N0.o,B0.o.ext c0.o,q9N y1 (υ _),R0.o,ι _,fun n=>rfl,fun n e he=>(by cases he),fun i j=>?_,fun i j=>Ψ (I i j).2 (by have:=c0.o.size;omega),fun i j hx=>?_,⟨by omega,by omega,by omega⟩⟩⟩,fun i j=>?_⟩,hD.bF,fun i j=>?_,fun i j=>by have:=I i j;omega,hD.ext.trans d0.o,fun i j=>?_⟩
    ·rcases j with j|j|j
     ·exact .inl j
     ·exact .inr j
     ·cases j
    ·have h1:=I i j
     rcases hx with rfl|rfl|rfl<;>omega
    ·have h1:=hD.d.Flt i j
     exact⟨fun hx=>by rcases hx with rfl|rfl|rfl<;>omega,fun hy=>by have:=I i hy;omega⟩
    ·rcases j with rfl|rfl|rfl<;>omega
    ·have h1:=hD.k i j
     have h2:=d0.o.size
     exact⟨by omega,h1.2,fun hx=>by rcases hx with rfl|rfl|rfl<;>omega,fun hy=>by have:=I i hy;omega⟩)
   have M0:=η (z3Z ao m.L.length cap m.L S (HG.o.ext d0.o) (by omega));have s1: ∀i,K i->i<w.heap.size:=fun i j=>(HD.o.k i j).1
   have h0:Hd (Stay K w S):=η fun i j=>d0.o.block i (s1 i j)
   clear L0;have L0:=@run_makeMap Tryz.prog;go_wp2_with fail;refine M0.o.mono ?_;rintro e w5 ⟨va,rfl,U,Z0⟩;obtain⟨aa,ka,rfl⟩:=U.slice;obtain⟨ns,f0⟩: ∃ns,m.L.flatten=ns:=⟨_,rfl⟩
   have n1:=η f0;rw[f0] at U;have A0:=η (LsW.start Q0.o (W:=w5) Z0 U);rw[f0];obtain⟨R,hR⟩: ∃R,q3G σ ns (fun _=>none)=R:=⟨_,rfl⟩
   have HR:=η hR
   have x0:Hd (∀e w',((R.2.1≠0/\e= .returned (.tuple #[.pointer none,.int .i64 R.2.1])/\DkX wb w' g R.2.2 K/\Stay K S w')\/(R.2.1=0/\ ∃gx t,e= .returned (.tuple #[.pointer (some ⟨gx,0,none⟩),.int .i64 0])/\IxK wb w' g gx ⟨m,rate,[],t,ns.length⟩ R.2.2 K/\Stay K S w'/\ ∀n,(t n).map TE.L=R.1 n))->q9g wb w g m rate K σ e w'):=η (by
    intro e w' h;unfold q9g;rw[f0,hR];rcases h with⟨q1,q2,q3,q4⟩|⟨q1,gx,t,q2,q3,q4,q5⟩
    ·exact .inr (.inr (.inl ⟨a0.o,p0.o,q1,q2,q3,h0.o.trans q4⟩))
    ·exact .inr (.inr (.inr ⟨a0.o,p0.o,q1,gx,t,q2,q3,h0.o.trans q4,q5⟩)))
   obtain⟨n,hn⟩: ∃n,ns.length=n:=⟨_,rfl⟩
   have g0:=η hn;have F1:n<=40:=by rw[<-hn,<-f0];exact s0.2.1
   have l1:=η s0;obtain⟨gx,I0⟩: ∃gx,X.heap.size+1=gx:=⟨_,rfl⟩
   rw[hn] at A0;rw[I0] at A0;rw[hn];simp only[I0];clear U Z0 f0 hn M0 i0 G q0 r0 c0 N0 R0 o1 p1 b0 b1 b2 b3 d0 Q0 B0 C0 L0 hR s0 HV Z HG N O0 HP h0 t1 G0 j0 u1 x1 I0;go_wp2_with fail
   go_loopw [44] (fun i W=> ∃(k:Nat) (t:Int->Option TE) (acc:Int->Option (List En)) (τ:DM),k<=n/\i= .int .i64 (k:Int)/\LsW wb S W g gx ⟨m,rate,[],t,k⟩ τ K (.slice aa n ka) (.slice none 0 0) [] ns [] S.heap.size/\(∀x,(t x).map TE.L=acc x)/\q3G τ (ns.drop k) acc=R) (fun i _=>n-(intOf i).toNat)
   case atStart=>exact⟨0,fun _=>none,fun _=>none,σ,υ _,rfl,A0.o,fun x=>rfl,HR.o⟩
   case round =>
    obtain⟨k,tt,acc,τ,hk,rfl,f1,j1,y⟩:=hrel;have HL:=η f1;have S0:=η y;have T0:=η j1;clear f1 y j1;by_cases I:k<n
    ·have hd:decide ((k:Int)<(n:Int))=true:=ζ (by omega)
     have q1:IntKind.i64.wrap ((k:Int)+1)=(k:Int)+1:=by rw[ν];omega
     have q5:(k:Int)<(n:Int):=by omega
     obtain⟨_,_,ea,J0⟩:=q2v HL.o.all;rw[g0.o] at ea
     cases ea;rw[g0.o] at J0;obtain⟨ba,oa,rfl,n0⟩:=J0.at I;have K0:k<ns.length:=by rw[g0.o];exact I
     have k0:ns.drop k=ns.getD k 0::ns.drop (k+1):=by
      rw[List.drop_eq_getElem_cons K0,δ,γ K0];rfl
     have O:ns.getD k 0∈m.L.flatten:=by rw[n1.o];exact q3j ns k K0
     have y:=S0.o;rw[k0] at y;have k1:=(l1.o.2.2.2.1 _ O).1;generalize ns.getD k 0=nk at*;rw[q3G] at y;obtain⟨F2,r1,V0,Y2,h2⟩:=HL.o.i;have D0:=η (z9j h2.i.d nk);have P0:=η h2;obtain⟨r,hr⟩: ∃r,q5b τ nk=r:=⟨_,rfl⟩
     rw[hr] at y D0;obtain⟨o,c,E1⟩:=r;clear J0 k0 O h2
     cases o with
     | none=>
      simp only at y;have hc:=z8E hr;have g2:(c !=0)=true:=by simpa using hc
      have E0:=η y;have HC:=η hc;clear hr y hc;go_wp2_with fail;refine D0.o.mono ?_;rintro e3 w3 ⟨rfl,e0⟩;obtain⟨h3,Q⟩:=P0.o.disk e0
      have HE:Hd (q9g wb w g m rate K σ (.returned (.tuple #[.pointer none,.int .i64 c])) w3):=η (x0.o _ _ (.inl (by
       rw[<-E0.o]
       exact⟨HC.o,rfl,⟨_,h3.i.d,h3.bF,h3.ext,fun i j=>⟨(h3.k i (.inl j)).1,(h3.k i (.inl j)).2.1⟩⟩,HL.o.stay.trans fun i j=>Q i (.inl j)⟩)))
      clear e0 h3 Q;go_wp2_with fail;go_ret2;exact HE.o
     | some L=>
      simp only at y;obtain rfl:=z4J hr;have E0:=η y;clear hr y;go_wp2_with fail;refine D0.o.mono ?_;rintro e3 w7 ⟨t,may,T,w6,rfl,e0,u0,i1,hT⟩;obtain⟨h3,Q⟩:=P0.o.disk e0;have h7:=h3.grow u0;have y0:Stay (fun i=>K i\/z8e (.slice (some ⟨ba,oa,none⟩) n ka) (.slice none 0 0) [] i) wr w7:=Q.trans (h3.kExt u0);obtain⟨g1,v7,O1,N1,D7,M1,l0⟩:=h7.i.x;have c7:=l0.c7;have c1:=l0.cnt;simp only at c1;obtain⟨w8,B1,W0,d1⟩:=l0.map.update Tryz.keyInt Tryz.underlying193 (by unfold maxLen;omega) (keyOf_int_mk Tryz.underlying3 k1) (z6F t);have J:OffS (fun i=>i=V0) w7 w8:=OffS.grown d1 fun i j=>by injection j with j;exact j.symm
      have X0: ∀i,T i->¬InX gx r1 V0 i:=fun i j hx=>by have:=hT i j;have:=h3.i.x.xlt i hx;omega
      have e1:=l0.putO W0 J i1 X0
      obtain⟨h8,z0⟩:=h7.turnV (K:=fun i=>K i\/z8e (.slice (some ⟨ba,oa,none⟩) n ka) (.slice none 0 0) [] i) (st1:=⟨m,rate,[],(fun x=>if x=nk then some ⟨t,L,may⟩ else tt x),k+1⟩) (Y1:=fun i=>Y2 i\/T i) ⟨⟨m0,okM.nil,by show k+1<=1000000;omega⟩,_,_,_,_,_,e1⟩ (J.mono fun i _ j=> .inr (.inr j)) (fun i j=>by
       rcases j with j|j
       ·exact⟨h7.bY i j,fun hf=>(h7.i.ap i hf).2 j⟩
       ·have h9:=hT i j
        exact⟨by have:=h3.ext.size;omega,fun hf=>by have:=h3.i.d.Flt i hf;omega⟩) (fun i j=>⟨j,fun hy=>by
       rcases hy with hy|hy
       ·exact(h7.k i j).2.2.2 hy
       ·have:=hT i hy;have:=(h3.k i j).1;omega⟩)
      have m1:=η (HL.o.step ⟨_,_,_,_,h8⟩ (y0.trans z0) (by have:=e0.off.size;have:=u0.size;have:=J.size;omega));have U0:Hd (∀x,(if x=nk then some (⟨t,L,may⟩:TE) else tt x).map TE.L=if x=nk then some L else acc x):=η fun x=>by
       by_cases hx:x=nk
       ·rw[ξ hx,ξ hx];rfl
       ·rw[κ hx,κ hx];exact T0.o x
      have K1:=η B1;clear e0 h3 Q h7 y0 g1 l0 W0 d1 J X0 e1 h8 z0 i1 hT u0 c1;go_wp2_with fail
      go_roundw
      case rel=>exact⟨k+1,_,_,E1,I,by go_num,m1.o,U0.o,E0.o⟩
      case measure=>simp[intOf];omega
    ·obtain rfl:k=n:=by omega
     have hd:decide ((k:Int)<(k:Int))=false:=ε (by omega);have y:=S0.o;rw[List.drop_of_length_le (by rw[g0.o];exact ι _),q3G] at y
     have HE:Hd (q9g wb w g m rate K σ (.returned (.tuple #[.pointer (some ⟨gx,0,none⟩),.int .i64 0])) wr):=η (x0.o _ _ (.inr (by
      rw[<-y]
      exact⟨rfl,gx,tt,rfl,by rw[g0.o];exact HL.o.i.beside fun i j=> .inl j,HL.o.stay,T0.o⟩)))
     clear y;go_wp2_with fail;go_ret2;exact HE.o
end
end
section
open Go.RowKit
def toc(t:To):List Value:=[.string ⟨t.s.toArray⟩,.int .i64 t.v,.string ⟨t.e.ty.toArray⟩,.string ⟨t.e.da.toArray⟩,.float .f64 t.e.we]
def toV(t:To):Value:= .agg #[.string ⟨t.s.toArray⟩,.int .i64 t.v,.string ⟨t.e.ty.toArray⟩,.string ⟨t.e.da.toArray⟩,.float .f64 t.e.we]
def q4g(L:List To):List Value:=(L.map toc).flatten
theorem q4f(t:To):(toc t).length=5:=rfl
theorem q7g(t:To)(L:List To):q4g (t::L)=toc t++q4g L:=rfl
theorem q7f(L M:List To):q4g (L++M)=q4g L++q4g M:=by unfold q4g;rw[List.map_append,List.flatten_append]
theorem q4T(L:List To)(t:To):q4g (L++[t])=q4g L++toc t:=by rw[q7f];unfold q4g;simp
theorem z2A(L:List To):(q4g L).length=L.length*5:=by
 induction L with
 |nil=>rfl
 |cons k L ih=>rw[q7g,θ,ih,χ,q4f];omega
theorem q5B : ∀(L:List To) (i j:Nat),i<L.length->j<5->(q4g L)[i*5+j]? =(toc (L.getD i to0))[j]?
 |[],i,j,h,_=>by simp at h
 | k::L,0,j,_,hj=>by
  rw[q7g,List.getElem?_append_left (by rw[q4f];omega)];simp
 | k::L,i+1,j,h,hj=>by
  rw[q7g,List.getElem?_append_right (by rw[q4f];omega),show(i+1)*5+j-(toc k).length=i*5+j by rw[q4f];omega,q5B L i j (by simpa using h) hj];simp
structure Tos(w:World)(ao:Option Addr)(n cap:Nat)(L:List To):Prop where
 len:L.length=n
 fits:n<=cap
 bound:cap<=9223372036854775807
 nil:ao=none->cap=0
 rd:Rd w ao (q4g L)
theorem Tos.ext{w w':World}{n:Nat}{L:List To}(h:Tos w ao n cap L)(k:Ext w w'):Tos w' ao n cap L:=⟨h.len,h.fits,h.bound,h.nil,h.rd.ext k⟩
theorem Tos.empty(w:World):Tos w none 0 0 []:=⟨rfl,ι _,by omega,fun _=>rfl,Rd.nil _ _⟩
theorem Tos.at{w:World}{n:Nat}{L:List To}(h:Tos w ao n cap L){i:Nat}(N:i<n):
  ∃b off,ao=some ⟨b,off,none⟩/\w.cell? ⟨b,off+i*5,none⟩=some (.string ⟨(L.getD i to0).s.toArray⟩)/\w.cell? ⟨b,off+i*5+1,none⟩=some (.int .i64 (L.getD i to0).v)/\w.cell? ⟨b,off+i*5+2,none⟩=some (.string ⟨(L.getD i to0).e.ty.toArray⟩)/\w.cell? ⟨b,off+i*5+3,none⟩=some (.string ⟨(L.getD i to0).e.da.toArray⟩)/\w.cell? ⟨b,off+i*5+4,none⟩=some (.float .f64 (L.getD i to0).e.we):=by
 have O:=h.len;have y:=q5B L i 0 (by omega) (by decide);have D:=q5B L i 1 (by omega) (by decide);have G:=q5B L i 2 (by omega) (by decide);have I:=q5B L i 3 (by omega) (by decide);have J:=q5B L i 4 (by omega) (by decide);obtain⟨b,off,rfl,q⟩:=h.rd _ _ y;obtain⟨_,_,d,h1⟩:=h.rd _ _ D
 cases d;obtain⟨_,_,j,h2⟩:=h.rd _ _ G
 cases j;obtain⟨_,_,m,h3⟩:=h.rd _ _ I
 cases m;obtain⟨_,_,o,h4⟩:=h.rd _ _ J
 cases o;exact⟨b,off,rfl,q,h1,h2,h3,h4⟩
theorem Tos.of_own{w:World}{B:Nat}{e:TypeId}{v:Value}{L:List To}(h:Own w B e 5 v L.length (q4g L)): ∃ao cap,v= .slice ao L.length cap/\Tos w ao L.length cap L:=by
 obtain⟨ao,cap,rfl,h1,h2,h3,h4⟩:=h.rd;exact⟨ao,cap,rfl,rfl,h1,h2,h3,h4⟩
theorem Tryz.infoTo :(Tryz.prog.info? 68).map (fun i=>(i.zero,i.size,i.bytes))=some (some (.agg #[.string ⟨#[]⟩,.int .i64 0,.string ⟨#[]⟩,.string ⟨#[]⟩,.float .f64 0]),5,64):=by kernel_rfl
theorem z9S(b:Nat): ∃x:Int,∀w:World,Calls Tryz.prog 183 #[.float .f64 b] w fun e w'=>e= .returned (.int .u64 x)/\w=w':=by
 by_cases h:((b:Int)<9223372036854775808)
 ·have i:decide ((9223372036854775808:Int)<=(b:Int))=false:=ε (by omega)
  refine⟨(b:Int)+9223372036854775808,fun w=>?_⟩;have d:=q5U;go_enter Tryz.func183,Tryz.ntmps183;go_wp2_with fail;go_ret;exact⟨rfl,rfl⟩
 ·have i:decide ((9223372036854775808:Int)<=(b:Int))=true:=ζ (by omega)
  refine⟨IntKind.u64.wrap (18446744073709551615-(b:Int)),fun w=>?_⟩;have d:=q5U;go_enter Tryz.func183,Tryz.ntmps183;go_wp2_with fail;go_ret;exact⟨rfl,rfl⟩
theorem z8T(b:Nat)(w:World):Calls Tryz.prog 131 #[.float .f64 b,.float .f64 b] w fun e w'=>e= .returned (.bool true)/\w=w':=by
 obtain⟨x,i⟩:=z9S b;have d:=η i;clear i;go_enter Tryz.func131,Tryz.ntmps131;go_wp2_with fail;refine(d.o _).mono ?_;rintro e w1 ⟨rfl,rfl⟩;go_wp2_with fail;refine(d.o _).mono ?_;rintro e w1 ⟨rfl,rfl⟩;go_wp2_with fail;go_ret;exact⟨by simp,rfl⟩
theorem z8U(e:Ev)(w:World):Calls Tryz.prog 84 #[evV e,evV e] w fun r w'=>r= .returned (.bool true)/\Ext w w':=by
 obtain⟨ty,da,we⟩:=e;have m:=q0B w (.cells #[.string ⟨ty.toArray⟩,.string ⟨da.toArray⟩,.float .f64 we] 66);have j:=q0B (w.alloc (.cells #[.string ⟨ty.toArray⟩,.string ⟨da.toArray⟩,.float .f64 we] 66)) (.cells #[.string ⟨ty.toArray⟩,.string ⟨da.toArray⟩,.float .f64 we] 66);have q:=η (m.trans j);have i:=(Blk.new w 66 #[.string ⟨ty.toArray⟩,.string ⟨da.toArray⟩,.float .f64 we]).ext j;have d:=Blk.new (w.alloc (.cells #[.string ⟨ty.toArray⟩,.string ⟨da.toArray⟩,.float .f64 we] 66)) 66 #[.string ⟨ty.toArray⟩,.string ⟨da.toArray⟩,.float .f64 we];rw[ρ] at d;have I:=i.cell 0;have J:=i.cell 1;have N:=i.cell 2;have y:=d.cell 0;have D:=d.cell 1;have G:=d.cell 2;clear m j i d;unfold evV;go_enter Tryz.func84,Tryz.ntmps84;go_wp2_with fail;refine(z8T we _).mono ?_;rintro e w1 ⟨rfl,rfl⟩;go_wp2_with fail;go_ret;exact⟨rfl,q.o⟩
theorem z8b(t:To)(w:World):Calls Tryz.prog 52 #[toV t,toV t] w fun r w'=>r= .returned (.bool true)/\Ext w w':=by
 obtain⟨s,v,⟨ty,da,we⟩⟩:=t;have m:=q0B w (.cells #[.string ⟨s.toArray⟩,.int .i64 v,.string ⟨ty.toArray⟩,.string ⟨da.toArray⟩,.float .f64 we] 68);have j:=q0B (w.alloc (.cells #[.string ⟨s.toArray⟩,.int .i64 v,.string ⟨ty.toArray⟩,.string ⟨da.toArray⟩,.float .f64 we] 68)) (.cells #[.string ⟨s.toArray⟩,.int .i64 v,.string ⟨ty.toArray⟩,.string ⟨da.toArray⟩,.float .f64 we] 68);have G:=η (m.trans j);have i:=(Blk.new w 68 #[.string ⟨s.toArray⟩,.int .i64 v,.string ⟨ty.toArray⟩,.string ⟨da.toArray⟩,.float .f64 we]).ext j;have d:=Blk.new (w.alloc (.cells #[.string ⟨s.toArray⟩,.int .i64 v,.string ⟨ty.toArray⟩,.string ⟨da.toArray⟩,.float .f64 we] 68)) 68 #[.string ⟨s.toArray⟩,.int .i64 v,.string ⟨ty.toArray⟩,.string ⟨da.toArray⟩,.float .f64 we];rw[ρ] at d;have R:=i.cell 0;have S:=i.cell 1;have U:=i.cell 2;have X:=i.cell 3;have Z:=i.cell 4;have I:=d.cell 0;have J:=d.cell 1;have N:=d.cell 2;have O:=d.cell 3;have Q:=d.cell 4;have D:=η (fun W=>z8U ⟨ty,da,we⟩ W);clear m j i d;unfold toV;go_enter Tryz.func52,Tryz.ntmps52;go_wp2_with fail;refine(D.o _).mono ?_;rintro e w1 ⟨rfl,y⟩;have q:=η (G.o.trans y);clear y;go_wp2_with fail;go_ret;exact⟨rfl,q.o⟩
theorem y0D{N:Option Addr}{n d:Nat}{T:List To}(w:World)(y:Tos w ao n cap T)(D:Tos w N n d T):
  Calls Tryz.prog 14 #[.slice ao n cap,.slice N n d] w fun r w'=>r= .returned (.bool true)/\Ext w w':=by
 have O:=η y;have Q:=η D;have b1:=y.fits;have b2:=y.bound;have b3:=D.fits;have b4:=D.bound;clear y D;go_enter Tryz.func14,Tryz.ntmps14;go_wp2_with fail
 go_loopw [5] (fun i W=> ∃k:Nat,k<=n/\i= .int .i64 (k:Int)/\Ext w W) (fun i _=>n-(intOf i).toNat)
 case atStart=>exact⟨0,υ _,rfl,Ext.refl _⟩
 case round=>
  obtain⟨k,hk,rfl,m⟩:=hrel;have J:=η m;by_cases j:k<n
  ·have U:decide ((k:Int)<(n:Int))=true:=ζ (by omega)
   have X:(k:Int)<(n:Int):=by omega
   have q8:IntKind.i64.wrap ((k:Int)+1)=(k:Int)+1:=by rw[ν];omega
   obtain⟨ab,R,rfl,Z,a1,a2,a3,a4⟩:=(O.o.ext (m.trans (Ext.refl _).drew)).at j;obtain⟨bb,S,rfl,c0,c1,c2,c3,c4⟩:=(Q.o.ext (m.trans (Ext.refl _).drew)).at j;generalize T.getD k to0=t at*;have I:=η (z8b t);unfold toV at I;clear m;go_wp2_with fail
   go_region_law (go_simp;first|(go_at_call 52;refine(I.o _).mono ?_;rintro e wa ⟨rfl,q⟩;have G:=η ((J.o.trans (Ext.refl _).drew).trans q);clear q))
   all_goals
    go_wp2_with fail
    go_roundw
    case rel=>exact⟨k+1,by omega,by go_num,G.o⟩
    case measure=>simp[intOf];omega
  ·obtain rfl:k=n:=by omega
   have U:decide ((k:Int)<(k:Int))=false:=ε (by omega);clear m;go_wp2_with fail;go_ret;exact⟨rfl,J.o⟩
def markB :List UInt8:=[97,110,110,97,108,105,115,116,10]
def q5D(L:List To)(s:List UInt8):Nat:=(L.filter fun t=>decide (t.s=s)).length
def toB(t:To):List UInt8:=q1P t.s++evB t.e
def cOk(acc:List To)(t:To):Bool:=q1J t.s&&decide (q0R t.e.ty t.e.da=0)&&decide (t.v=(q5D acc t.s:Int))
def q5C(acc:List To):List To->Bool
 |[]=>true
 |t::r=>cOk acc t&&q5C (acc++[t]) r
def q5m(n:Nat):List UInt8:=markB++be 4 n
def q2k(L:List To):List UInt8:=q5m L.length++(L.map toB).flatten
def q1n(L:List To):List UInt8×Int:=if 1000<L.length then([],3) else if q5C [] L=true then(q0W (q2k L),0) else([],2)
def crd :Nat->List UInt8->List To->Option (List To×List UInt8)
 |0,s,acc=>some (acc,s)
 |n+1,s,acc=>if q3d s=true/\q1J (rdT s)=true/\acc.length≠1000 then(rdE (rdR s)).bind fun x=>crd n x.2 (acc++[⟨rdT s,q5D acc (rdT s),x.1⟩]) else none
def q3C(t:List UInt8):Option (List To×List UInt8):=if t.take 9=markB/\13<=t.length then crd (q0o ((t.drop 9).take 4)) (t.drop 13) [] else none
def q1u(s:List UInt8):List To×Int:=match q3C (q0q s) with
 |some (L,[])=>(L,0)
 |_=>([],10)
theorem z4v(L:List To)(t:To)(s:List UInt8):q5D (L++[t]) s=q5D L s+(if t.s=s then 1 else 0):=by
 unfold q5D;rw[List.filter_append,θ];by_cases h:t.s=s
 ·rw[ξ h];simp[h]
 ·rw[κ h];simp[h]
theorem q9q{acc:List To}{t:To}(h:cOk acc t=true):q1J t.s=true/\q0R t.e.ty t.e.da=0/\t.v=(q5D acc t.s:Int):=by
 unfold cOk at h;rw[Ξ,Ξ] at h;exact⟨h.1.1,of_decide_eq_true h.1.2,of_decide_eq_true h.2⟩
theorem y0T{acc:List To}{t:To}(h1:q1J t.s=true)(h2:q0R t.e.ty t.e.da=0)(h3:t.v=(q5D acc t.s:Int)):cOk acc t=true:=by
 unfold cOk;rw[h1,ζ h2,ζ h3];rfl
theorem q7c{s:List UInt8}(h:q1J s=true):1<=s.length/\s.length<=32:=by
 unfold q1J at h;rw[Ξ] at h;exact⟨of_decide_eq_true h.1,of_decide_eq_true h.2⟩
theorem z9C{n:Nat}{acc:List To}{t:To}(r:List UInt8)(h:cOk acc t=true)(m:t.e.we<18446744073709551616)(o:acc.length<1000):crd (n+1) (toB t++r) acc=crd n r (acc++[t]):=by
 obtain⟨h1,h2,h3⟩:=q9q h;obtain⟨d,i,j⟩:=q9S t.s (evB t.e++r) (by have:=(q7c h1).2;omega);have e:toB t++r=q1P t.s++(evB t.e++r):=by unfold toB;rw[List.append_assoc]
 rw[e,crd,i,j,ξ ⟨d,h1,by omega⟩,y1I t.e r ⟨h2,m⟩,Option.bind_some,<-h3]
theorem z5C : ∀(L acc:List To) (r:List UInt8),q5C acc L=true->(∀t∈L,t.e.we<18446744073709551616)->acc.length+L.length<=1000->crd L.length ((L.map toB).flatten++r) acc=some (acc++L,r)
 |[],acc,r,_,_,_=>by simp[crd]
 | t::L,acc,r,h,hw,hl=>by
  rw[q5C,Ξ] at h;rw[χ] at hl;rw[List.map_cons,List.flatten_cons,List.append_assoc,χ,z9C _ h.1 (hw t (.head _)) (by omega),z5C L (acc++[t]) r h.2 (fun x d=>hw x (.tail _ d)) (by rw[θ,List.length_singleton];omega),List.append_assoc]
  rfl
theorem q4D(n:Nat):(q5m n).length=13:=by unfold q5m;rw[θ,q0F];rfl
theorem z1H{L:List To}(r:List UInt8)(h:q5C [] L=true)(o: ∀t∈L,t.e.we<18446744073709551616)(m:L.length<=1000):q3C (q2k L++r)=some (L,r):=by
 have hc:=q4D L.length;have e:q2k L++r=q5m L.length++((L.map toB).flatten++r):=by unfold q2k;rw[List.append_assoc]
 have d:(q2k L++r).take 9=markB:=by rw[e];unfold q5m;rw[List.append_assoc,List.take_left' (show markB.length=9 from rfl)]
 have i:((q2k L++r).drop 9).take 4=be 4 L.length:=by rw[e];unfold q5m;rw[List.append_assoc,List.drop_left' (show markB.length=9 from rfl),List.take_left' (q0F 4 _)]
 have j:(q2k L++r).drop 13=(L.map toB).flatten++r:=by rw[e,List.drop_left' hc]
 unfold q3C;rw[ξ ⟨d,by rw[e,θ,hc];omega⟩,i,j,q4U,Nat.mod_eq_of_lt (by omega),z5C L [] r h o (by simpa using m),List.nil_append]
theorem z4K(l:List UInt8):q1O (q0W l)=true/\q0q (q0W l)=l:=by
 have j:=q0h l;have i:(q0W l).take ((q0W l).length-4)=l:=by
  rw[j,Nat.add_sub_cancel];unfold q0W;exact List.take_left
 have d:q1O (q0W l)=true:=by
  unfold q1O;rw[i,ζ (show 4<=(q0W l).length by omega),ζ rfl];rfl
 exact⟨d,by unfold q0q;rw[ξ d,i]⟩
theorem z2Q{L:List To}(h:q5C [] L=true)(i: ∀t∈L,t.e.we<18446744073709551616)(d:L.length<=1000):q1u (q0W (q2k L))=(L,0):=by
 have:=z1H [] h i d;rw[List.append_nil] at this;unfold q1u;rw[(z4K _).2,this]
theorem q5n(s:List UInt8):q1u s=([],10)\/ ∃L,q3C (q0q s)=some (L,[])/\q1u s=(L,0):=by
 unfold q1u
 split
 ·rename_i L h;exact .inr ⟨L,h,rfl⟩
 ·exact .inl rfl
theorem z1o{s:List UInt8}(h:q3d s=true):s=q1P (rdT s)++rdR s:=by
 have d:=h;unfold q3d at d;rw[Ξ] at d;have h1:=of_decide_eq_true d.1;have h2:=of_decide_eq_true d.2;unfold rdT rdR;rw[ξ h,ξ h];have q:=q1Q (s.take 2);rw[Θ,Nat.min_eq_left h1] at q;have j:((s.take (2+q0o (s.take 2))).drop 2).length=q0o (s.take 2):=by rw[List.length_drop,Θ];omega
 rw[q1X (by rw[j];omega),j];have i:=q4p (s.take 2);rw[Θ,Nat.min_eq_left h1] at i;rw[i];have o:s.take (2+q0o (s.take 2))=s.take 2++(s.take (2+q0o (s.take 2))).drop 2:=by
  have m:s.take 2=(s.take (2+q0o (s.take 2))).take 2:=by rw[List.take_take,Nat.min_eq_left (by omega)]
  conv=>rhs;lhs;rw[m]
  rw[List.take_append_drop]
 rw[<-o,List.take_append_drop]
theorem z1l{s:List UInt8}{e:Ev}(h:rdE s=some (e,r)):z4c e/\s=evB e++r:=by
 unfold rdE at h
 split at h
 ·rename_i i
  obtain⟨h1,h2,h3,h4⟩:=i
  cases h;have j:q0o ((rdR (rdR s)).take 8)<256^8:=by
   have:=q1Q ((rdR (rdR s)).take 8)
   rwa [Θ,Nat.min_eq_left h3] at this
  have d:=q4p ((rdR (rdR s)).take 8);rw[Θ,Nat.min_eq_left h3] at d;refine⟨⟨h4,j⟩,?_⟩;unfold evB;simp only;rw[d,List.append_assoc,List.append_assoc,List.take_append_drop,<-z1o h2,<-z1o h1]
 ·cases h
theorem z5B : ∀(n:Nat) (s r:List UInt8) (acc L:List To),crd n s acc=some (L,r)-> ∃M,L=acc++M/\M.length=n/\s=(M.map toB).flatten++r/\q5C acc M=true/\(∀t∈M,t.e.we<18446744073709551616)/\(acc.length<=1000->L.length<=1000)
 | 0,s,r,acc,L,h=>by
  rw[crd] at h;cases h;exact⟨[],by simp,rfl,by simp,rfl,(fun t d=>by cases d),fun h=>h⟩
 | n + 1, s,r,acc,L,h=>by
  rw[crd] at h
  split at h
  ·rename_i j
   obtain⟨h1,h2,h3⟩:=j
   cases hq:rdE (rdR s) with
   |none=>rw[hq] at h;cases h
   | some x=>
    rw[hq,Option.bind_some] at h;obtain⟨i,m⟩:=z1l (e:=x.1) (r:=x.2) hq;obtain⟨M,o,q,y,D,G,I⟩:=z5B n x.2 r _ L h;refine⟨⟨rdT s,q5D acc (rdT s),x.1⟩::M,by rw[o,List.append_assoc];rfl,by rw[χ,q],?_,?_,fun t d=>?_,fun J=>I (by rw[θ,List.length_singleton];omega)⟩
    ·rw[List.map_cons,List.flatten_cons,List.append_assoc,<-y]
     show s=(q1P (rdT s)++evB x.1)++x.2;rw[List.append_assoc,<-m,<-z1o h1]
    ·rw[q5C,y0T h2 i.1 rfl,D];rfl
    ·rcases List.mem_cons.1 d with e|d
     ·rw[e];exact i.2
     ·exact G t d
  ·cases h
theorem z3l{t:List UInt8}{L:List To}(h:q3C t=some (L,r)):t=q2k L++r/\q5C [] L=true/\(∀x∈L,x.e.we<18446744073709551616)/\L.length<=1000:=by
 unfold q3C at h
 split at h
 ·rename_i j
  obtain⟨h1,h2⟩:=j;obtain⟨M,i,m,o,q,y,D⟩:=z5B _ _ _ _ _ h;rw[List.nil_append] at i;subst i;have d:=q4p ((t.drop 9).take 4);rw[Θ,List.length_drop,Nat.min_eq_left (by omega),<-m] at d;refine⟨?_,q,y,D (υ _)⟩;unfold q2k q5m;rw[d,List.append_assoc,<-o,<-h1,List.append_assoc];rw[show t.drop 13=(t.drop 9).drop 4 by rw[List.drop_drop],List.take_append_drop,List.take_append_drop]
 ·cases h
theorem z7C{s:List UInt8}{L:List To}(h:q1u s=(L,0)):s=q0W (q2k L)/\q5C [] L=true/\(∀x∈L,x.e.we<18446744073709551616)/\L.length<=1000:=by
 rcases q5n s with h1|⟨M,h1,h2⟩
 ·rw[h1] at h;cases h
 ·rw [h2] at h;cases h
  obtain⟨d,j⟩:=z3l h1;rw[List.append_nil] at d;refine⟨?_,j⟩;have i:q1O s=true:=by
   cases hb:q1O s with
   |true=>rfl
   | false=>
    unfold q0q at d;rw[hb] at d;have:=congrArg List.length d;unfold q2k at this;rw[θ,q4D] at this;simp at this;omega
  unfold q0q at d;rw[ξ i] at d;unfold q1O at i;rw[Ξ] at i;rw[<-d];exact(of_decide_eq_true i.2).symm
end
section
open Go.RowKit Go.Maps
theorem y1Y(w:World):(zeroValue 3).run Tryz.prog w= .ok (.int .i64 0) w:=by kernel_rfl
def CntM(W:World)(gm n:Nat)(L:List To):Prop:=
 ∃D:DataW Unit,W.ownsMap Tryz.prog 9 (plainElem Tryz.prog 3) gm n D/\ ∀s,D.atKey (.string s) (.lit (.int .i64 0))= .lit (.int .i64 (q5D L s:Int))
section
variable {W W1:World}{gm n:Nat}{L:List To}
theorem CntM.made(W:World):CntM (W.alloc (.map #[] 0)) W.heap.size 0 []:=⟨_,World.ownsMap_made _ _ _ _,fun s=>by simp[DataW.atKey,q5D]⟩
theorem CntM.lt(h:CntM W gm n L):gm<W.heap.size:=by
 obtain⟨D,h1,_⟩:=h;exact h1.lt
theorem CntM.same(h:CntM W gm n L)(k:W1.heap[gm]? =W.heap[gm]?):CntM W1 gm n L:=by
 obtain⟨D,h1,h2⟩:=h;exact⟨D,q1k h1 k,h2⟩
theorem CntM.ext(h:CntM W gm n L)(k:Ext W W1):CntM W1 gm n L:=h.same (k.block gm h.lt)
theorem CntM.look(h:CntM W gm n L){s:List UInt8}(j:s.length<=9223372036854775807):(Instr.lookup 83 (.map (some gm)) (.string ⟨s.toArray⟩) false).run Tryz.prog W= .ok (.int .i64 (q5D L s:Int)) W:=by
 obtain⟨D,h1,h2⟩:=h;obtain⟨c,i,d,_⟩:=h1.lookup_int z6n Tryz.underlying83 Tryz.underlying3 (y1Y _) (z1U s j);rw[h2 s] at d;injection d with d;injection d with _ d;rw[d];exact i
theorem CntM.put{D:DataW Unit}(i: ∀s,D.atKey (.string s) (.lit (.int .i64 0))= .lit (.int .i64 (q5D L s:Int)))(hm:IsMap D){s:List UInt8}(h:W1.ownsMap Tryz.prog 9 (plainElem Tryz.prog 3) gm n (D.put (.string s) (.lit (.int .i64 ((q5D L s:Int)+1))))){t:To}(j:t.s=s):CntM W1 gm n (L++[t]):=by
 refine⟨_,h,fun z=>?_⟩;rw[z4v,j];by_cases d:z=s
 ·subst d
  rw[atKey_put_same hm (k:= .string z) (show WideAt.IsKeyLit (.string z) from trivial),ξ rfl];simp
 ·rw[atKey_put_other (by intro h;injection h with h;exact d h),i z,κ (fun h=>d h.symm)]
  simp
end
end
section
open Go.RowKit
theorem q4q : ∀(A acc B:List To),q5C acc (A++B)=(q5C acc A&&q5C (acc++A) B)
 |[],acc,B=>by rw[List.nil_append,List.append_nil];rfl
 | t::A,acc,B=>by
  rw[List.cons_append,q5C,q5C,q4q A (acc++[t]) B,Bool.and_assoc,List.append_assoc];rfl
theorem q5v{L:List To}(h:k<L.length):L.take (k+1)=L.take k++[L.getD k to0]:=by
 rw[List.take_succ_eq_append_getElem h,δ,γ h];rfl
theorem q6p{L:List To}(h:k<L.length):q5C [] (L.take (k+1))=(q5C [] (L.take k)&&cOk (L.take k) (L.getD k to0)):=by
 rw[q5v h,q4q,List.nil_append];simp[q5C]
theorem q9o{L:List To}(h:k<L.length)(d:cOk (L.take k) (L.getD k to0)=false):q5C [] L=false:=by
 have e:=q4q (L.take (k+1)) [] (L.drop (k+1));rw[List.take_append_drop,q6p h,d,Bool.and_false,Bool.false_and] at e;exact e
theorem z3U{L:List To}(h:k<L.length):((L.take (k+1)).map toB).flatten=((L.take k).map toB).flatten++toB (L.getD k to0):=by
 rw[q5v h,List.map_append,List.flatten_append];simp
theorem q7e{t:To}(h1:q1J t.s=true)(h2:q0R t.e.ty t.e.da=0):(toB t).length<=400:=by
 obtain⟨_,h3,h4⟩:=q2E h2;have d:=q7c h1;unfold toB evB;rw[q1X (by omega),q1X (by omega),q1X (by omega)];simp[q0F];omega
theorem z7B{s:List UInt8}(h: ∀L,q3C (q0q s)≠some (L,[])):q1u s=([],10):=by
 rcases q5n s with h1|⟨L,h1,_⟩
 ·exact h1
 ·exact absurd h1 (h L)
theorem z4o{s:List UInt8}{L:List To}(h:q3C (q0q s)=some (L,[])):q1u s=(L,0):=by
 unfold q1u;rw[h]
end
section
open Go.RowKit Go.Maps
abbrev BldB(b:Nat)(T:List UInt8)(W:World):Prop:=Lib.IsBuilder 86 5 b b (Lib.byteCells T) W
theorem BldB.ext{W:World}{b:Nat}{T:List UInt8}(h:BldB b T W)(k:Ext W W'):BldB b T W':=by
 have d: ∀p,Lib.BuilderAt 86 5 b b p (Lib.byteCells T) W->Lib.BuilderAt 86 5 b b p (Lib.byteCells T) W':=fun p h=>by
  have i:=h.lt;obtain⟨h1,v,h2,h3,h4⟩:=h;exact⟨h1,v,(k.block b i).trans h2,q0H h3 k,h4⟩
 exact h.imp (d _) (d _)
theorem BldB.lt{W:World}{b:Nat}{T:List UInt8}(h:BldB b T W):b<W.heap.size:=h.elim (fun h=>h.lt) fun h=>h.lt
theorem BldB.kept{W:World}{b:Nat}{T:List UInt8}(h:BldB b T W)(o:W.heap.size<=W'.heap.size)(k: ∀i,b<=i->i<W.heap.size->W'.heap[i]? =W.heap[i]?):BldB b T W':=by
 have d: ∀p,Lib.BuilderAt 86 5 b b p (Lib.byteCells T) W->Lib.BuilderAt 86 5 b b p (Lib.byteCells T) W':=fun p h=>by
  have j:=h.lt;obtain⟨h1,v,h2,h3,h4⟩:=h;exact⟨h1,v,(k b (ι _) j).trans h2,q1F h3 fun i m=>k i (q0U h3 i m).1 (q0U h3 i m).2,h4⟩
 exact h.imp (d _) (d _)
theorem q8m(a b:List UInt8):Lib.byteCells (a++b)=Lib.byteCells a++Lib.byteCells b:=by unfold Lib.byteCells;exact List.map_append
theorem z6m{W:World}{b:Nat}{T:List UInt8}(S:List UInt8)(h:BldB b T W)(d:T.length+S.length<=10000000):
  Calls Tryz.prog 28 #[.pointer (some ⟨b,0,none⟩),.string ⟨S.toArray⟩] W fun e w'=>e= .returned (.tuple #[.int .i64 (S.length:Int),.nilIface])/\BldB b (T++S) w'/\Below b W w':=by
 refine(Tryz.Builder_WriteString b b (Lib.byteCells T) ⟨S.toArray⟩ W h (by rw[Lib.byteCells_length];simp[ByteArray.size];omega) (Nat.le_of_lt h.lt)).mono ?_;rintro e w' ⟨rfl,h1,h2⟩;refine⟨by simp[ByteArray.size],.inr ?_,h2⟩;rw[q8m];exact h1
theorem z8X{W:World}{b:Nat}{T:List UInt8}(h:BldB b T W)(d:T≠[]):
  Calls Tryz.prog 35 #[.pointer (some ⟨b,0,none⟩)] W fun e w'=>e= .returned (.string ⟨T.toArray⟩)/\Below b W w':=Tryz.Builder_String b b T W h d
theorem z1G{n:Nat}{L:List To}(w:World)(j:Tos w ao n cap L)(s0: ∀t∈L,t.s.length<=4611686018427387903/\t.e.ty.length<=4611686018427387903/\t.e.da.length<=4611686018427387903)(hw: ∀t∈L,t.e.we<18446744073709551616):
  Calls Tryz.prog 10 #[.slice ao n cap] w fun e w'=>e= .returned (.tuple #[.string ⟨(q1n L).1.toArray⟩,.int .i64 (q1n L).2])/\Ext w w':=by
 have N:=j.len;have b1:=j.fits;have b2:=j.bound;have A1:=η (Ext.refl w);by_cases V0:1000<n
 ·have HN:Hd (q1n L=([],3)):=η (by unfold q1n;rw[ξ (by omega)])
  have hd:decide ((1000:Int)<(n:Int))=true:=ζ (by omega);clear j s0 hw N V0;go_enter Tryz.func10,Tryz.ntmps10;go_wp2_with fail;go_ret2;exact⟨by rw[HN.o];rfl,A1.o⟩
 have hd:decide ((1000:Int)<(n:Int))=false:=ε (by omega);have HE:Hd (q1n L=if q5C [] L=true then(q0W (q2k L),0) else([],2)):=η (by unfold q1n;rw[κ (by omega)]);have HP:=η (fun W=>z1k (n:Int) 4 4 W rfl (by omega) (by omega) (by omega) (by omega));rw[Int.toNat_natCast] at HP;have qn:IntKind.u64.wrap (n:Int)=(n:Int):=by rw[IntKind.wrap_u64];omega
 have H1:((⟨#[97,110,110,97,108,105,115,116,10]⟩:ByteArray)++⟨(be 4 n).toArray⟩)=⟨(q5m n).toArray⟩:=q1w markB (be 4 n);have N1:(be 4 n).length=4:=q0F 4 n;have W0:=q4D n;have g1:Hd (q2k L=q5m n++((L.take n).map toB).flatten):=η (by unfold q2k;rw[<-N,List.take_length]);have q1:¬(9223372036854775807<(9:Nat)+(be 4 n).length):=by omega
 have HT:=η j;have H0:=η N;have s1:=η s0;have y1:=η hw;have I0:=η (CntM.made w);have n0:(w.alloc (.map #[] 0)).heap.size=w.heap.size+1:=ρ _ _;have Q0:BldB (w.heap.size+1) [] ((w.alloc (.map #[] 0)).alloc (.cells #[.pointer none,.slice none 0 0] 86)):=by
  have:=Lib.fresh_isBuilder 86 5 (w.alloc (.map #[] 0));rw[n0] at this;exact this
 have y0:=η Q0;have R:=η (q5T w (.map #[] 0) (.cells #[.pointer none,.slice none 0 0] 86));have J0:=η (I0.o.ext (q0B (w.alloc (.map #[] 0)) (.cells #[.pointer none,.slice none 0 0] 86)));have P1:=@run_makeMap Tryz.prog;generalize be 4 n=D at*;generalize E1:q5m n=H at*;clear j s0 hw N Q0 n0 E1;go_enter Tryz.func10,Tryz.ntmps10;go_wp2_with fail;refine(HP.o _).mono ?_;rintro e w1 ⟨rfl,j⟩;have HW:=η (z6m H (y0.o.ext j) (by simp;omega));have O0:=η (R.o.trans j);have K0:=η (J0.o.ext j);clear j HP y0 I0 J0;go_wp2_with fail;refine HW.o.mono ?_;rintro e w2 ⟨rfl,hb,j⟩;have o0:=η (K0.o.same (j.block _ (by omega)));have O:Hd (BldB (w.heap.size+1) H w2):=η hb;have G:Hd (Ext w w2):=η (Below.trans O0.o (j.mono (by omega)));clear j hb HW K0 O0;go_wp2_with fail
 go_loopw [20] (fun i W=> ∃(k:Nat) (T:List UInt8),k<=n/\i= .int .i64 (k:Int)/\q5C [] (L.take k)=true/\CntM W w.heap.size k (L.take k)/\BldB (w.heap.size+1) T W/\T=H++((L.take k).map toB).flatten/\T.length<=13+400*k/\Ext w W) (fun i _=>n-(intOf i).toNat)
 case atStart=>exact⟨0,H,υ _,rfl,rfl,o0.o,O.o,by simp,by omega,G.o⟩
 case round=>
  obtain⟨k,T,hk,rfl,a0,hm,m,hT,K1,j⟩:=hrel;have HM:=η hm;have HB:=η m;have u1:=η hT;have HX:=η j;have u0:=η a0;by_cases X0:k<n
  ·have F1:decide ((k:Int)<(n:Int))=true:=ζ (by omega)
   have M1:(k:Int)<(n:Int):=by omega
   obtain⟨bb,off,rfl,c0,c1,c2,c3,c4⟩:=(HT.o.ext j).at X0;have I:k<L.length:=by rw[H0.o];exact X0
   have b0:L.getD k to0∈L:=by rw[δ,γ I];exact List.getElem_mem I
   have o1:=η (q6p I);have p0:=η (fun h=>q9o I h);have p1:=η (z3U I);have x1:=η (q5v I);obtain⟨l1,l2,l3⟩:=s1.o _ b0;have Z0:=y1.o _ b0;have Q1:=q1j;generalize L.getD k to0=t at*;obtain⟨ts,U,⟨ty,da,we⟩⟩:=t;simp only at c0 c1 c2 c3 c4 l1 l2 l3 Z0;have q0:=η (fun W=>q9Z ts W (by omega));have j1:=η (fun W=>q6W ty da .f64 we W l2 l3);have G0:=η (z1U ts (by omega));have a1:=q0B wr (.cells #[.string ⟨ts.toArray⟩,.int .i64 U,.string ⟨ty.toArray⟩,.string ⟨da.toArray⟩,.float .f64 we] 68);have f1:=η (Blk.new wr 68 #[.string ⟨ts.toArray⟩,.int .i64 U,.string ⟨ty.toArray⟩,.string ⟨da.toArray⟩,.float .f64 we]);have R:=η a1;have q2:IntKind.i64.wrap ((k:Int)+1)=(k:Int)+1:=by rw[ν];omega
   have Q:Hd (cOk (L.take k) ⟨ts,U,⟨ty,da,we⟩⟩=(q1J ts&&decide (q0R ty da=0)&&decide (U=(q5D (L.take k) ts:Int)))):=η rfl;obtain⟨z1,t0⟩: ∃z,q1J ts=z:=⟨_,rfl⟩
   rw[t0] at q0 Q;have D1:=η t0;clear j hm m hT a0 I b0 a1 t0
   cases z1 with
   | false=>
    have X:Hd (q1n L=([],2)):=η (by rw[HE.o,p0.o (by rw[Q.o];rfl)];rfl);go_wp2_with fail;refine(q0.o _).mono ?_;rintro e w3 ⟨rfl,j⟩;have G:=η ((HX.o.trans R.o).trans j);clear j;go_wp2_with fail
    (try rw[Exit.noGoto_ret])
    go_ret2;exact⟨by rw[X.o];rfl,G.o⟩
   | true=>
    go_wp2_with fail;refine(q0.o _).mono ?_;rintro e w3 ⟨rfl,j⟩;have G:=η ((HX.o.trans R.o).trans j);have O:=η (f1.o.ext j);have B0:=η ((HB.o.ext R.o).ext j);have o0:=η ((HM.o.ext R.o).ext j);have k2:=O.o.cell 2;have k3:=O.o.cell 3;have k4:=O.o.cell 4;clear j;go_wp2_with fail;refine(j1.o _).mono ?_;rintro e w4 ⟨rfl,j⟩;have S:=η (G.o.trans j);have e0:=η (O.o.ext j);have C0:=η (B0.o.ext j);have L0:=η (o0.o.ext j);have k0:=e0.o.cell 0;have k1:=e0.o.cell 1;have J:=L0.o.look (show ts.length<=9223372036854775807 by omega);clear j k2 k3 k4;obtain⟨ec,l0⟩: ∃z,q0R ty da=z:=⟨_,rfl⟩
    obtain⟨cn,i0⟩: ∃z,q5D (L.take k) ts=z:=⟨_,rfl⟩
    rw[l0,i0] at Q;rw[l0];rw[i0] at J;have m0:=η l0;have f0:=η i0;clear l0 i0;by_cases h0:ec=0
    case neg=>
     have j0:(ec !=0)=true:=by simpa using h0
     have X:Hd (q1n L=([],2)):=η (by rw[HE.o,p0.o (by rw[Q.o,ε h0];rfl)];rfl);go_wp2_with fail
     (try rw[Exit.noGoto_ret])
     go_ret2;exact⟨by rw[X.o];rfl,S.o⟩
    subst h0;by_cases hv:U=(cn:Int)
    case neg=>
     have j0:(U !=(cn:Int))=true:=by simpa using hv
     have X:Hd (q1n L=([],2)):=η (by rw[HE.o,p0.o (by rw[Q.o,ε hv];rfl)];rfl);go_wp2_with fail
     (try rw[Exit.noGoto_ret])
     go_ret2;exact⟨by rw[X.o];rfl,S.o⟩
    have j0:(U !=(cn:Int))=false:=by simpa using hv
    have v0:Hd (q5C [] (L.take (k+1))=true):=η (by rw[o1.o,u0.o,Q.o,ζ hv];rfl);have I1:cn<=k:=by
     rw[<-f0.o];unfold q5D;exact Ω (List.length_filter_le _ _) (by rw[Θ];omega)
    have q3:IntKind.i64.wrap ((cn:Int)+1)=(cn:Int)+1:=by rw[ν];omega
    have Y0:z4c ⟨ty,da,we⟩:=⟨m0.o,Z0⟩
    have t1:=η (fun W=>z3S ts W l1);have z0:=η (fun W=>z2a ⟨ty,da,we⟩ W Y0);have A0:Hd (∀W,Calls Tryz.prog 33 #[.agg #[.string ⟨ty.toArray⟩,.string ⟨da.toArray⟩,.float .f64 we]] W fun r w'=>r= .returned (.string ⟨(evB ⟨ty,da,we⟩).toArray⟩)/\Ext W w'):=z0;have J1:=q7e (t:=⟨ts,U,⟨ty,da,we⟩⟩) D1.o m0.o;have hce:((⟨(q1P ts).toArray⟩:ByteArray)++⟨(evB ⟨ty,da,we⟩).toArray⟩)=⟨(toB ⟨ts,U,⟨ty,da,we⟩⟩).toArray⟩:=q1w _ _;have L1:(toB ⟨ts,U,⟨ty,da,we⟩⟩).length=(q1P ts).length+(evB ⟨ty,da,we⟩).length:=by unfold toB;rw[θ]
    generalize q1P ts=A at*;generalize evB ⟨ty,da,we⟩=E at*;generalize toB ⟨ts,U,⟨ty,da,we⟩⟩=Z at*;have q4:¬(9223372036854775807<A.length+E.length):=by omega
    obtain⟨D0,S0,T0⟩:=L0.o;have F0:=η S0;have i1:=η T0;rw[<-f0.o] at q3 J;clear Y0 z0 j0;have j0:(U !=(q5D (L.take k) ts:Int))=false:=by rw[f0.o];simpa using hv
    have G1:(Lit.int .i64 ((q5D (L.take k) ts:Int)+1)).wf=true:=by
     have:=f0.o;unfold Lit.wf;rw[Ξ,Φ,Φ];have e1:IntKind.i64.min= -9223372036854775808:=by decide
     have e2:IntKind.i64.max=9223372036854775807:=by decide
     omega
    clear S0 T0 hv
    go_wp2_with (at_mapUpdate;refine wpList_mapUpdate_own _ rfl _ _ _ 83 rfl 9 3 z6n Tryz.underlying83 _ w.heap.size k D0 rfl F0.o (by unfold maxLen;omega) _ _ (.string ts) rfl rfl G0.o _ [] (plainElem_int Tryz.underlying3 G1) ?_;intro w5 d0 y)
    have m1:Hd (CntM w5 w.heap.size (k+1) (L.take (k+1))):=η (by rw[x1.o];exact CntM.put i1.o (World.ownsMap.isMap F0.o) d0 rfl);have B1:Hd (Ext w w5):=η (S.o.grown y S.o.size (fun q hq=>by cases hq;exact ι _));have O1:=HB.o.lt;have E0:Hd (BldB (w.heap.size+1) T w5):=η (C0.o.kept y.size fun i h1 h2=>y.block i h2 (fun e=>by have:=Option.some.inj e;omega));have R0:=e0.o.same (y.block wr.heap.size e0.o.lt (fun e=>by have:=Option.some.inj e;omega));have r0:Hd (∀W,Ext w5 W->(W.cell? ⟨wr.heap.size,0,none⟩=some (.string ⟨ts.toArray⟩)/\W.cell? ⟨wr.heap.size,2,none⟩=some (.string ⟨ty.toArray⟩)/\W.cell? ⟨wr.heap.size,3,none⟩=some (.string ⟨da.toArray⟩)/\W.cell? ⟨wr.heap.size,4,none⟩=some (.float .f64 we))):=η fun W h=>by
     have hb:=R0.ext h;exact⟨hb.cell 0,hb.cell 2,hb.cell 3,hb.cell 4⟩
    clear d0 y R0 J k0 k1;refine q1K (fun W:World=>(W.cell? ⟨wr.heap.size,0,none⟩=some (.string ⟨ts.toArray⟩)/\W.cell? ⟨wr.heap.size,2,none⟩=some (.string ⟨ty.toArray⟩)/\W.cell? ⟨wr.heap.size,3,none⟩=some (.string ⟨da.toArray⟩)/\W.cell? ⟨wr.heap.size,4,none⟩=some (.float .f64 we))) 7 (by kernel_rfl) (r0.o _ (Ext.refl _).drew) (fun d=>?_);refine q0P 0 d (fun d=>?_);refine q3W 1 d (fun d=>?_);refine q0P 3 d (fun d=>?_);refine q3W 4 d (fun d=>?_);simp only[Act.put,π,ψ,ω];refine q0S (i:=2) (by kernel_rfl) rfl (fun K hK=>?_)
    go_simp
    go_at_call 32
    refine(t1.o _).mono ?_;rintro e w6 ⟨rfl,j⟩;have P0:Hd (Ext w5 w6):=η ((Ext.refl w5).drew.trans j);clear j d;refine hK.out _ _ (r0.o _ P0.o) (fun d=>?_);clear hK K
    try simp only[Act.put,π,ψ,ω]
    refine q0S (i:=5) (by kernel_rfl) rfl (fun K hK=>?_)
    go_simp
    go_at_call 33
    refine(A0.o _).mono ?_;rintro e w7 ⟨rfl,j⟩;have g0:Hd (Ext w5 w7):=η (P0.o.trans j);clear j d;refine hK.out _ _ (r0.o _ g0.o) (fun d=>?_);clear hK K
    try simp only[Act.put,π,ψ,ω]
    refine q0P 6 d (fun d=>?_)
    try simp only[Act.put,π,ψ,ω]
    refine q1Y (by kernel_rfl) ?_
    try simp only[List.drop_succ_cons,List.drop_zero]
    clear d;have N0:=η (z6m Z (E0.o.ext g0.o) (by omega));go_wp2_with fail;refine N0.o.mono ?_;rintro e w8 ⟨rfl,hb,m⟩;have d1:Hd (BldB (w.heap.size+1) (T++Z) w8):=η hb;have n1:=η ((m1.o.ext g0.o).same (m.block _ (by omega)));have C1:Hd (Ext w w8):=η (Below.trans (B1.o.trans g0.o) (m.mono (by omega)));clear hb m N0;go_wp2_with fail
    go_roundw
    case rel=>exact⟨k+1,T++Z,by omega,by go_num,v0.o,n1.o,d1.o,by rw[p1.o,u1.o,List.append_assoc],by rw[θ];omega,C1.o⟩
    case measure=>simp[intOf];omega
  ·obtain rfl:k=n:=by omega
   have F1:decide ((k:Int)<(k:Int))=false:=ε (by omega);have x0:Hd (q5C [] L=true):=η (by have:=u0.o;rwa [<-H0.o,List.take_length] at this);have HR:Hd (q1n L=(q0W T,0)):=η (by rw[HE.o,ξ x0.o,g1.o,hT]);have U0:T≠[]:=fun e=>by rw[hT] at e;have:=congrArg List.length e;rw[θ,W0] at this;simp at this
   have M0:=η (z8X m U0);have r1:=η (fun W=>z0g T W (by omega));clear j hm m hT a0 U0;go_wp2_with fail;refine M0.o.mono ?_;rintro e w3 ⟨rfl,m⟩;have G:Hd (Ext w w3):=η (Below.trans HX.o (m.mono (by omega)));clear m M0;go_wp2_with fail;refine(r1.o _).mono ?_;rintro e w4 ⟨rfl,j⟩;have S:=η (G.o.trans j);clear j;go_wp2_with fail;go_ret2;exact⟨by rw[HR.o];rfl,S.o⟩
end
section
open Go.RowKit
structure Fi where
 cd:Int
 st:List UInt8
 at':Int
def rrd :Nat->List UInt8->List To->Option (List To)
 |0,_,acc=>some acc
 |n+1,s,acc=>if q3d s=true/\acc.length≠1000 then(rdE (rdR s)).bind fun x=>rrd n x.2 (acc++[⟨rdT s,q5D acc (rdT s),x.1⟩]) else none
def q4Q(t:List UInt8):Option (List To):=if 13<=t.length then rrd (q0o ((t.drop 9).take 4)) (t.drop 13) [] else none
def z6Q(s:List UInt8):List To×Int:=match q4Q (q0q s) with
 |some L=>if q1n L=(s,0) then(L,0) else([],10)
 |none=>([],10)
theorem q8Z : ∀(n:Nat) (s:List UInt8) (acc L:List To) (r:List UInt8),crd n s acc=some (L,r)->rrd n s acc=some L
 | 0,s,acc,L,r,h=>by
  rw[crd] at h;injection h with h;injection h with h1 _;rw[rrd,h1]
 | n + 1,s,acc,L,r,h=>by
  rw[crd] at h
  split at h
  ·rename_i hc
   rw[rrd,ξ ⟨hc.1,hc.2.2⟩]
   cases hx:rdE (rdR s) with
   |none=>rw[hx] at h;simp at h
   | some x=>
    rw[hx,Option.bind_some] at h;rw[Option.bind_some];exact q8Z n x.2 _ L r h
  ·cases h
theorem z8k : ∀(n:Nat) (s:List UInt8) (acc L:List To),rrd n s acc=some L->(∀t∈acc,t.e.we<18446744073709551616)-> ∀t∈L,t.e.we<18446744073709551616
 | 0,s,acc,L,h,ha=>by
  rw[rrd] at h;injection h with h;rw[<-h];exact ha
 | n + 1,s,acc,L,h,ha=>by
  rw[rrd] at h
  split at h
  ·cases hx:rdE (rdR s) with
   |none=>rw[hx] at h;simp at h
   | some x=>
    rw[hx,Option.bind_some] at h;obtain⟨e,r⟩:=x;refine z8k n _ _ L h fun t d=>?_
    rcases List.mem_append.1 d with d|d
    ·exact ha t d
    ·rw[List.mem_singleton.1 d];exact(z1l hx).1.2
  ·cases h
theorem z7J{L:List To}{s:List UInt8}(h:q1n L=(s,0)):L.length<=1000/\q5C [] L=true/\s=q0W (q2k L):=by
 unfold q1n at h
 split at h
 ·injection h with _ h;cases h
 ·rename_i h1
  split at h
  ·rename_i h2
   injection h with h _;exact⟨by omega,h2,h.symm⟩
  ·injection h with _ h;cases h
theorem z6S(s:List UInt8):z6Q s=q1u s:=by
 rcases q5n s with h|⟨L,i,j⟩
 ·rw [h]
  unfold z6Q
  cases d:q4Q (q0q s) with
  |none=>rfl
  | some L=>
   show(if q1n L=(s,0) then(L,0) else([],10))=_;by_cases hc:q1n L=(s,0)
   ·exfalso
    obtain⟨h1,h2,h3⟩:=z7J hc;have o: ∀t∈L,t.e.we<18446744073709551616:=by
     unfold q4Q at d
     split at d
     ·exact z8k _ _ _ L d fun t m=>by cases m
     ·cases d
    have:=z2Q h2 o h1;rw[<-h3,h] at this;injection this with _ h4;cases h4
   ·rw[κ hc]
 ·obtain⟨h1,h2,h3,h4⟩:=z7C j
  have d:q4Q (q0q s)=some L:=by
   unfold q3C at i
   split at i
   ·rename_i hc
    unfold q4Q;rw[ξ hc.2];exact q8Z _ _ _ L _ i
   ·cases i
  rw[j];unfold z6Q;rw[d];show(if q1n L=(s,0) then(L,0) else([],10))=_;rw[ξ];unfold q1n;rw[κ (by omega),ξ h2,<-h1]
end
end Go.Proofs.YteabhdclmodefaaGreatDoor
